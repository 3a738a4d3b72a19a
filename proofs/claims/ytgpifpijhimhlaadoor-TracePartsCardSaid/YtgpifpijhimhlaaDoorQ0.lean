/- The region of TraceParts that draws its order, evaluated: case 0 of the four of rows nil or not. No condition but the assumed answers. -/
import Derived.Test.YtgpifpijhimhlaaDoorP2
noncomputable section
namespace Go.Proofs.YtgpifpijhimhlaaDoor
open Go.Proofs.YtgpifpijhimhlaaDoor.Ev Go.RowKit

set_option maxRecDepth 100000 in
theorem q4_0 (gl : Gl) (c x y : Nat → Int) (offa offb la lb ca cb : Nat) : evalR (glP gl c) x y offa offb la lb reg4 (slots4 (.slice (some ⟨900, offa, none⟩) la ca) (.slice (some ⟨901, offb, none⟩) lb cb)) =
 cond (decide ((⟨900, offa, none⟩ : Addr).off = offa) && decide (la = la) && (⟨900, offa, none⟩ : Addr).spot.isNone) (
  cond (decide ((⟨901, offb, none⟩ : Addr).off = offb) && decide (lb = lb) && (⟨901, offb, none⟩ : Addr).spot.isNone) (
   cond (c 0 == IntKind.i64.wrap (x 0 + y 0) &&   (c 1 == IntKind.i64.wrap (x 1 + y 1) &&     (c 2 == IntKind.i64.wrap (x 2 + y 2) &&       (c 3 == IntKind.i64.wrap (x 3 + y 3) &&         (c 4 == IntKind.i64.wrap (x 4 + y 4) &&           (c 5 == IntKind.i64.wrap (x 5 + y 5) &&             (c 6 == IntKind.i64.wrap (x 6 + y 6) &&               (c 7 == IntKind.i64.wrap (x 7 + y 7) &&                 (c 8 == IntKind.i64.wrap (x 8 + y 8) &&                   (c 9 == IntKind.i64.wrap (x 9 + y 9) &&                     (c 10 == IntKind.i64.wrap (x 10 + y 10) &&                       (c 11 == IntKind.i64.wrap (x 11 + y 11) &&                           (c 12 == IntKind.i64.wrap (x 12 + y 12) &&                             (c 13 == IntKind.i64.wrap (x 13 + y 13) &&                               (c 14 == IntKind.i64.wrap (x 14 + y 14) &&                                 (c 15 == IntKind.i64.wrap (x 15 + y 15) &&                                   (c 16 == IntKind.i64.wrap (x 16 + y 16) && true))))) &&                         true)))))))))))) (
    cond (IntKind.i64.wrap (c 0 + 0) == c 0 &&   (IntKind.i64.wrap (c 1 + 0) == c 1 &&     (IntKind.i64.wrap (c 2 + 0) == c 2 &&       (IntKind.i64.wrap (c 3 + 0) == c 3 &&         (IntKind.i64.wrap (c 4 + 0) == c 4 &&           (IntKind.i64.wrap (c 5 + 0) == c 5 &&             (IntKind.i64.wrap (c 6 + 0) == c 6 &&               (IntKind.i64.wrap (c 7 + 0) == c 7 &&                 (IntKind.i64.wrap (c 8 + 0) == c 8 &&                   (IntKind.i64.wrap (c 9 + 0) == c 9 &&                     (IntKind.i64.wrap (c 10 + 0) == c 10 &&                       (IntKind.i64.wrap (c 11 + 0) == c 11 &&                           (IntKind.i64.wrap (c 12 + 0) == c 12 &&                             (IntKind.i64.wrap (c 13 + 0) == c 13 &&                               (IntKind.i64.wrap (c 14 + 0) == c 14 &&                                 (IntKind.i64.wrap (c 15 + 0) == c 15 &&                                   (IntKind.i64.wrap (c 16 + 0) == c 16 && true))))) &&                         true)))))))))))) (
     qs [c 0, c 1, c 2, c 3, c 4, c 5, c 6, c 7, c 8, c 9, c 10, c 11, c 12, c 13, c 14, c 15, c 16, c 0, c 1, c 2, c 3, c 4, c 5, c 6, c 7, c 8, c 9, c 10, c 11, c 12, c 13, c 14, c 15, c 16, c 0, c 1, c 2, c 3, c 4, c 5, c 6, c 7, c 8, c 9, c 10, c 11, c 12, c 13, c 14, c 15, c 16, c 0, c 1, c 2, c 3, c 4, c 5, c 6, c 7, c 8, c 9, c 10, c 11, c 12, c 13, c 14, c 15, c 16, c 0, c 1, c 2, c 3, c 4, c 5, c 6, c 7, c 8, c 9, c 10, c 11, c 12, c 13, c 14, c 15, c 16, c 0, c 1, c 2, c 3, c 4, c 5, c 6, c 7, c 8, c 9, c 10, c 11, c 12, c 13, c 14, c 15, c 16, c 0, c 1, c 2, c 3, c 4, c 5, c 6, c 7, c 8, c 9, c 10, c 11, c 12, c 13, c 14, c 15, c 16] (
      some (.bool (true)))) (
     qs [c 0, c 1, c 2, c 3, c 4, c 5, c 6, c 7, c 8, c 9, c 10, c 11, c 12, c 13, c 14, c 15, c 16, c 0, c 1, c 2, c 3, c 4, c 5, c 6, c 7, c 8, c 9, c 10, c 11, c 12, c 13, c 14, c 15, c 16, c 0, c 1, c 2, c 3, c 4, c 5, c 6, c 7, c 8, c 9, c 10, c 11, c 12, c 13, c 14, c 15, c 16, c 0, c 1, c 2, c 3, c 4, c 5, c 6, c 7, c 8, c 9, c 10, c 11, c 12, c 13, c 14, c 15, c 16, c 0, c 1, c 2, c 3, c 4, c 5, c 6, c 7, c 8, c 9, c 10, c 11, c 12, c 13, c 14, c 15, c 16, c 0, c 1, c 2, c 3, c 4, c 5, c 6, c 7, c 8, c 9, c 10, c 11, c 12, c 13, c 14, c 15, c 16, c 0, c 1, c 2, c 3, c 4, c 5, c 6, c 7, c 8, c 9, c 10, c 11, c 12, c 13, c 14, c 15, c 16] (
      some (.bool (false))))) (
    qs [c 0, c 1, c 2, c 3, c 4, c 5, c 6, c 7, c 8, c 9, c 10, c 11, c 12, c 13, c 14, c 15, c 16, c 0, c 1, c 2, c 3, c 4, c 5, c 6, c 7, c 8, c 9, c 10, c 11, c 12, c 13, c 14, c 15, c 16, c 0, c 1, c 2, c 3, c 4, c 5, c 6, c 7, c 8, c 9, c 10, c 11, c 12, c 13, c 14, c 15, c 16, c 0, c 1, c 2, c 3, c 4, c 5, c 6, c 7, c 8, c 9, c 10, c 11, c 12, c 13, c 14, c 15, c 16] (
     some (.bool (false))))) (
   none)) (
  none) := by kernel_rfl
theorem p4_0 (gl : Gl) (c x y : Nat → Int) (offa offb la lb ca cb : Nat) (hs : ∀ j, IntKind.i64.wrap (x j + y j) = c j) (h0 : ∀ j, IntKind.i64.wrap (c j + 0) = c j) : evalR (glP gl c) x y offa offb la lb reg4 (slots4 (.slice (some ⟨900, offa, none⟩) la ca) (.slice (some ⟨901, offb, none⟩) lb cb)) = some (.bool true) := by
  rw [q4_0 gl c x y offa offb la lb ca cb]
  have w1 : ∀ j, IntKind.i64.wrap (x j + y j) = c j := fun j => hs j
  simp only [qs_eq, w1, h0, beq_self_eq_true, Bool.and_self, decide_true, cond_true, Option.isNone_none]


end Go.Proofs.YtgpifpijhimhlaaDoor
