/- The region of TraceParts that draws its order, evaluated: case 3 of the four of rows nil or not. No condition but the assumed answers. -/
import Derived.Test.YtgpifpijhimhlaaDoorP2
noncomputable section
namespace Go.Proofs.YtgpifpijhimhlaaDoor
open Go.Proofs.YtgpifpijhimhlaaDoor.Ev Go.RowKit

set_option maxRecDepth 100000 in
theorem q4_3 (gl : Gl) (c x y : Nat → Int) (offa offb la lb ca cb : Nat) : evalR (glP gl c) x y offa offb la lb reg4 (slots4 (.slice none 0 0) (.slice none 0 0)) =
 cond (c 0 == 0 &&   (c 1 == 0 &&     (c 2 == 0 &&       (c 3 == 0 &&         (c 4 == 0 &&           (c 5 == 0 &&             (c 6 == 0 &&               (c 7 == 0 &&                 (c 8 == 0 &&                   (c 9 == 0 &&                     (c 10 == 0 &&                       (c 11 == 0 && (c 12 == 0 && (c 13 == 0 && (c 14 == 0 && (c 15 == 0 && (c 16 == 0 && true))))) &&                         true)))))))))))) (
  cond (IntKind.i64.wrap (c 0 + 0) == c 0 &&   (IntKind.i64.wrap (c 1 + 0) == c 1 &&     (IntKind.i64.wrap (c 2 + 0) == c 2 &&       (IntKind.i64.wrap (c 3 + 0) == c 3 &&         (IntKind.i64.wrap (c 4 + 0) == c 4 &&           (IntKind.i64.wrap (c 5 + 0) == c 5 &&             (IntKind.i64.wrap (c 6 + 0) == c 6 &&               (IntKind.i64.wrap (c 7 + 0) == c 7 &&                 (IntKind.i64.wrap (c 8 + 0) == c 8 &&                   (IntKind.i64.wrap (c 9 + 0) == c 9 &&                     (IntKind.i64.wrap (c 10 + 0) == c 10 &&                       (IntKind.i64.wrap (c 11 + 0) == c 11 &&                           (IntKind.i64.wrap (c 12 + 0) == c 12 &&                             (IntKind.i64.wrap (c 13 + 0) == c 13 &&                               (IntKind.i64.wrap (c 14 + 0) == c 14 &&                                 (IntKind.i64.wrap (c 15 + 0) == c 15 &&                                   (IntKind.i64.wrap (c 16 + 0) == c 16 && true))))) &&                         true)))))))))))) (
   qs [c 0, c 1, c 2, c 3, c 4, c 5, c 6, c 7, c 8, c 9, c 10, c 11, c 12, c 13, c 14, c 15, c 16, c 0, c 1, c 2, c 3, c 4, c 5, c 6, c 7, c 8, c 9, c 10, c 11, c 12, c 13, c 14, c 15, c 16, c 0, c 1, c 2, c 3, c 4, c 5, c 6, c 7, c 8, c 9, c 10, c 11, c 12, c 13, c 14, c 15, c 16, c 0, c 1, c 2, c 3, c 4, c 5, c 6, c 7, c 8, c 9, c 10, c 11, c 12, c 13, c 14, c 15, c 16, c 0, c 1, c 2, c 3, c 4, c 5, c 6, c 7, c 8, c 9, c 10, c 11, c 12, c 13, c 14, c 15, c 16, c 0, c 1, c 2, c 3, c 4, c 5, c 6, c 7, c 8, c 9, c 10, c 11, c 12, c 13, c 14, c 15, c 16, c 0, c 1, c 2, c 3, c 4, c 5, c 6, c 7, c 8, c 9, c 10, c 11, c 12, c 13, c 14, c 15, c 16] (
    some (.bool (true)))) (
   qs [c 0, c 1, c 2, c 3, c 4, c 5, c 6, c 7, c 8, c 9, c 10, c 11, c 12, c 13, c 14, c 15, c 16, c 0, c 1, c 2, c 3, c 4, c 5, c 6, c 7, c 8, c 9, c 10, c 11, c 12, c 13, c 14, c 15, c 16, c 0, c 1, c 2, c 3, c 4, c 5, c 6, c 7, c 8, c 9, c 10, c 11, c 12, c 13, c 14, c 15, c 16, c 0, c 1, c 2, c 3, c 4, c 5, c 6, c 7, c 8, c 9, c 10, c 11, c 12, c 13, c 14, c 15, c 16, c 0, c 1, c 2, c 3, c 4, c 5, c 6, c 7, c 8, c 9, c 10, c 11, c 12, c 13, c 14, c 15, c 16, c 0, c 1, c 2, c 3, c 4, c 5, c 6, c 7, c 8, c 9, c 10, c 11, c 12, c 13, c 14, c 15, c 16, c 0, c 1, c 2, c 3, c 4, c 5, c 6, c 7, c 8, c 9, c 10, c 11, c 12, c 13, c 14, c 15, c 16] (
    some (.bool (false))))) (
  qs [c 0, c 1, c 2, c 3, c 4, c 5, c 6, c 7, c 8, c 9, c 10, c 11, c 12, c 13, c 14, c 15, c 16, c 0, c 1, c 2, c 3, c 4, c 5, c 6, c 7, c 8, c 9, c 10, c 11, c 12, c 13, c 14, c 15, c 16, c 0, c 1, c 2, c 3, c 4, c 5, c 6, c 7, c 8, c 9, c 10, c 11, c 12, c 13, c 14, c 15, c 16, c 0, c 1, c 2, c 3, c 4, c 5, c 6, c 7, c 8, c 9, c 10, c 11, c 12, c 13, c 14, c 15, c 16] (
   some (.bool (false)))) := by kernel_rfl
theorem p4_3 (gl : Gl) (c x y : Nat → Int) (offa offb la lb ca cb : Nat) (hx : ∀ j, x j = 0) (hy : ∀ j, y j = 0) (hs : ∀ j, IntKind.i64.wrap (x j + y j) = c j) (h0 : ∀ j, IntKind.i64.wrap (c j + 0) = c j) : evalR (glP gl c) x y offa offb la lb reg4 (slots4 (.slice none 0 0) (.slice none 0 0)) = some (.bool true) := by
  rw [q4_3 gl c x y offa offb la lb ca cb]
  have w1 : ∀ j, c j = 0 := fun j => by have := hs j; rw [hx j, hy j] at this; exact this.symm
  have h1 : IntKind.i64.wrap (0 + 0) = 0 := by have := h0 0; rw [w1 0] at this; exact this
  simp only [qs_eq, w1, h1, beq_self_eq_true, Bool.and_self, cond_true]


end Go.Proofs.YtgpifpijhimhlaaDoor
