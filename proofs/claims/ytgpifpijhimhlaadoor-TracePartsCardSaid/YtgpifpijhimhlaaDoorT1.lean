/- Both Mays of an event, and the document's Of and Aborts over a row of events, answer what they should, wherever the events lie. Rows of at most a thousand. -/
import Derived.Test.YtgpifpijhimhlaaDoorEv5
import Derived.Test.YtgpifpijhimhlaaDoorProg
import Derived.WalkKit
import Derived.ProofKit
import Derived.Lib.Hide
import Derived.WalkSpells
import Derived.WalkLawsBesides
noncomputable section
namespace Go.Proofs.YtgpifpijhimhlaaDoor
open Go.Proofs.YtgpifpijhimhlaaDoor.Ev Go.RowKit
def gl0 : Gl := fun _ _ => none
def evV (k r n c : Int) : Value := .agg #[.int .u8 k, .int .i64 r, .int .i64 n, .int .u32 c]
def qs {R : Type} : List Int → Option R → Option R
  | [], k => k
  | a :: l, k => cond (decide (a = a)) (qs l k) none
theorem qs_eq {R : Type} : ∀ (l : List Int) (k : Option R), qs l k = k
  | [], _ => rfl
  | _ :: l, k => by simp [qs, qs_eq l k]
theorem condC {R : Type} {b : Bool} {x y : R} {r : R} (h1 : b = true → x = r) (h2 : b = false → y = r) : cond b x y = r := by
  cases b
  · exact h2 rfl
  · exact h1 rfl
/-- May an event be? -/
def okE (k r n c : Int) : Bool := decide ((1 ≤ k ∧ k ≤ 12 ∧ -1 ≤ r ∧ r ≤ 15 ∧ (r = -1 → k = 12)) ∧ ((k = 4 ∧ 2 ≤ n) ∨ (k ≠ 4 ∧ n = 0)) ∧ (c = 0 ∨ k = 5 ∨ k = 7 ∨ k = 11))


set_option maxRecDepth 100000 in
theorem m31 (k r n c : Int) : callK Tryd.prog gl0 (fun _ => none) noAsm 100 40 40 (.fn 31) [evV k r n c] LS.start flatR =
 cond (decide (k < 1)) (
  some (.int IntKind.i64 2)) (
  cond (decide (k > 12)) (
   some (.int IntKind.i64 2)) (
   cond (decide (r < -1)) (
    some (.int IntKind.i64 2)) (
    cond (decide (r ≥ 16)) (
     some (.int IntKind.i64 2)) (
     cond (r == -1) (
      cond (k != 12) (
       some (.int IntKind.i64 2)) (
       cond (k == 4) (
        cond (decide (n > 1)) (
         cond (decide (n < 0)) (
          some (.int IntKind.i64 2)) (
          cond (n == 1) (
           some (.int IntKind.i64 2)) (
           cond (k == 5) (
            some (.int IntKind.i64 0)) (
            cond (k == 7) (
             some (.int IntKind.i64 0)) (
             cond (k == 11) (
              some (.int IntKind.i64 0)) (
              cond (c != 0) (
               some (.int IntKind.i64 2)) (
               some (.int IntKind.i64 0)))))))) (
         some (.int IntKind.i64 2))) (
        cond (decide (n > 1)) (
         some (.int IntKind.i64 2)) (
         cond (decide (n < 0)) (
          some (.int IntKind.i64 2)) (
          cond (n == 1) (
           some (.int IntKind.i64 2)) (
           cond (k == 5) (
            some (.int IntKind.i64 0)) (
            cond (k == 7) (
             some (.int IntKind.i64 0)) (
             cond (k == 11) (
              some (.int IntKind.i64 0)) (
              cond (c != 0) (
               some (.int IntKind.i64 2)) (
               some (.int IntKind.i64 0))))))))))) (
      cond (k == 4) (
       cond (decide (n > 1)) (
        cond (decide (n < 0)) (
         some (.int IntKind.i64 2)) (
         cond (n == 1) (
          some (.int IntKind.i64 2)) (
          cond (k == 5) (
           some (.int IntKind.i64 0)) (
           cond (k == 7) (
            some (.int IntKind.i64 0)) (
            cond (k == 11) (
             some (.int IntKind.i64 0)) (
             cond (c != 0) (
              some (.int IntKind.i64 2)) (
              some (.int IntKind.i64 0)))))))) (
        some (.int IntKind.i64 2))) (
       cond (decide (n > 1)) (
        some (.int IntKind.i64 2)) (
        cond (decide (n < 0)) (
         some (.int IntKind.i64 2)) (
         cond (n == 1) (
          some (.int IntKind.i64 2)) (
          cond (k == 5) (
           some (.int IntKind.i64 0)) (
           cond (k == 7) (
            some (.int IntKind.i64 0)) (
            cond (k == 11) (
             some (.int IntKind.i64 0)) (
             cond (c != 0) (
              some (.int IntKind.i64 2)) (
              some (.int IntKind.i64 0)))))))))))))) := by kernel_rfl
theorem s31 (k r n c : Int) : callK Tryd.prog gl0 (fun _ => none) noAsm 100 40 40 (.fn 31) [evV k r n c] LS.start flatR = some (.int .i64 (cond (okE k r n c) 0 2)) := by
  rw [m31]
  generalize hv : okE k r n c = v
  unfold okE at hv
  repeat' refine condC (fun h => ?_) (fun h => ?_)
  all_goals simp only [decide_eq_true_eq, decide_eq_false_iff_not, beq_iff_eq, bne_iff_ne, beq_eq_false_iff_ne, bne_eq_false_iff_eq, ne_eq] at *
  all_goals first
    | (exfalso; omega)
    | (cases v with
       | true => first | rfl | (exfalso; simp only [decide_eq_true_eq] at hv; omega)
       | false => first | rfl | (exfalso; simp only [decide_eq_false_iff_not] at hv; omega))

set_option maxRecDepth 100000 in
theorem m51 (k r n c : Int) : callK Tryd.prog gl0 (fun _ => none) noAsm 100 40 40 (.fn 51) [evV k r n c] LS.start flatR =
 cond (decide (k < 1)) (
  some (.bool (false))) (
  cond (decide (k > 12)) (
   some (.bool (false))) (
   cond (decide (r < -1)) (
    some (.bool (false))) (
    cond (decide (r > 15)) (
     some (.bool (false))) (
     cond (r == -1) (
      cond (k != 12) (
       some (.bool (false))) (
       cond (k == 4) (
        cond (decide (n < 2)) (
         some (.bool (false))) (
         cond (k != 4) (
          cond (n != 0) (
           some (.bool (false))) (
           cond (c == 0) (
            some (.bool (true))) (
            cond (k == 5) (
             some (.bool (true))) (
             cond (k == 7) (
              some (.bool (true))) (
              cond (k == 11) (
               some (.bool (true))) (
               some (.bool (false)))))))) (
          cond (c == 0) (
           some (.bool (true))) (
           cond (k == 5) (
            some (.bool (true))) (
            cond (k == 7) (
             some (.bool (true))) (
             cond (k == 11) (
              some (.bool (true))) (
              some (.bool (false))))))))) (
        cond (k != 4) (
         cond (n != 0) (
          some (.bool (false))) (
          cond (c == 0) (
           some (.bool (true))) (
           cond (k == 5) (
            some (.bool (true))) (
            cond (k == 7) (
             some (.bool (true))) (
             cond (k == 11) (
              some (.bool (true))) (
              some (.bool (false)))))))) (
         cond (c == 0) (
          some (.bool (true))) (
          cond (k == 5) (
           some (.bool (true))) (
           cond (k == 7) (
            some (.bool (true))) (
            cond (k == 11) (
             some (.bool (true))) (
             some (.bool (false)))))))))) (
      cond (k == 4) (
       cond (decide (n < 2)) (
        some (.bool (false))) (
        cond (k != 4) (
         cond (n != 0) (
          some (.bool (false))) (
          cond (c == 0) (
           some (.bool (true))) (
           cond (k == 5) (
            some (.bool (true))) (
            cond (k == 7) (
             some (.bool (true))) (
             cond (k == 11) (
              some (.bool (true))) (
              some (.bool (false)))))))) (
         cond (c == 0) (
          some (.bool (true))) (
          cond (k == 5) (
           some (.bool (true))) (
           cond (k == 7) (
            some (.bool (true))) (
            cond (k == 11) (
             some (.bool (true))) (
             some (.bool (false))))))))) (
       cond (k != 4) (
        cond (n != 0) (
         some (.bool (false))) (
         cond (c == 0) (
          some (.bool (true))) (
          cond (k == 5) (
           some (.bool (true))) (
           cond (k == 7) (
            some (.bool (true))) (
            cond (k == 11) (
             some (.bool (true))) (
             some (.bool (false)))))))) (
        cond (c == 0) (
         some (.bool (true))) (
         cond (k == 5) (
          some (.bool (true))) (
          cond (k == 7) (
           some (.bool (true))) (
           cond (k == 11) (
            some (.bool (true))) (
            some (.bool (false))))))))))))) := by kernel_rfl
theorem s51 (k r n c : Int) : callK Tryd.prog gl0 (fun _ => none) noAsm 100 40 40 (.fn 51) [evV k r n c] LS.start flatR = some (.bool (okE k r n c)) := by
  rw [m51]
  generalize hv : okE k r n c = v
  unfold okE at hv
  repeat' refine condC (fun h => ?_) (fun h => ?_)
  all_goals simp only [decide_eq_true_eq, decide_eq_false_iff_not, beq_iff_eq, bne_iff_ne, beq_eq_false_iff_ne, bne_eq_false_iff_eq, ne_eq] at *
  all_goals first
    | (exfalso; omega)
    | (cases v with
       | true => first | rfl | (exfalso; simp only [decide_eq_true_eq] at hv; omega)
       | false => first | rfl | (exfalso; simp only [decide_eq_false_iff_not] at hv; omega))


end Go.Proofs.YtgpifpijhimhlaaDoor

namespace Go.Proofs.YtgpifpijhimhlaaDoor
open Go.ChangeShapes Go.WideShapes Go.ChangeAt Go.RowKit Go.Proofs.YtgpifpijhimhlaaDoor.Ev

theorem goodT : Go.Proofs.YtgpifpijhimhlaaDoor.Ev.Good Tryd.prog (fun _ => none) := ⟨by kernel_rfl, fun f fn hf => by
  have h2 : (Tryd.prog.funcs.toList.all fun fn => !(fn.name == "runtime.NumGoroutine")) = true := by kernel_rfl
  have := List.all_eq_true.1 h2 fn (by rw [← Array.getElem?_toList] at hf; exact List.mem_of_getElem? hf)
  simpa using this, fun f k hk => by cases hk⟩
/-- An event's numbers. -/
structure EvT where
  k : Int
  r : Int
  n : Int
  c : Int
def EvT.ok (e : EvT) : Bool := okE e.k e.r e.n e.c
theorem may31 (k r n c : Int) {w : World} (hw : Ready Tryd.prog gl0 w) : Calls Tryd.prog 31 #[evV k r n c] w (fun e w' => e = .returned (.int .i64 (cond (okE k r n c) 0 2)) ∧ Below w.heap.size w w') :=
  flatK goodT noAsm_ok (args := [evV k r n c]) rfl (s31 k r n c) hw
theorem may51 (k r n c : Int) {w : World} (hw : Ready Tryd.prog gl0 w) : Calls Tryd.prog 51 #[evV k r n c] w (fun e w' => e = .returned (.bool (okE k r n c)) ∧ Below w.heap.size w w') :=
  flatK goodT noAsm_ok (args := [evV k r n c]) rfl (s51 k r n c) hw

/-- The events lie there. -/
def EvsAt (w : World) (blk off : Nat) (zs : List EvT) : Prop := ∀ (i : Nat) e, zs[i]? = some e →
  w.cell? ⟨blk, off + i * 4, none⟩ = some (.int .u8 e.k) ∧ w.cell? ⟨blk, off + i * 4 + 1, none⟩ = some (.int .i64 e.r) ∧ w.cell? ⟨blk, off + i * 4 + 2, none⟩ = some (.int .i64 e.n) ∧ w.cell? ⟨blk, off + i * 4 + 3, none⟩ = some (.int .u32 e.c)
def ofN (kind : Int) (zs : List EvT) : Nat := zs.countP fun e => e.ok && e.k == kind
theorem countP_step {p : EvT → Bool} {zs : List EvT} {k : Nat} {e : EvT} (h : zs[k]? = some e) : (zs.take (k + 1)).countP p = (zs.take k).countP p + (if p e then 1 else 0) := by
  rw [List.take_add_one, h]
  simp [List.countP_append, List.countP_cons]
theorem ofN_le (kind : Int) (zs : List EvT) : ofN kind zs ≤ zs.length := List.countP_le_length

set_option maxRecDepth 100000 in
set_option maxHeartbeats 0 in
theorem of_walk (zs : List EvT) (blk off cap : Nat) (kind : Int) (w : World) (hc : EvsAt w blk off zs) (hbk : blk < w.heap.size) (hl : zs.length ≤ 1000) (hw : Ready Tryd.prog gl0 w) :
    Calls Tryd.prog 32 #[.slice (some ⟨blk, off, none⟩) zs.length cap, .int .u8 kind] w fun e w' => e = .returned (.int .i64 (ofN kind zs : Int)) ∧ Below w.heap.size w w' := by
  obtain ⟨len, hlen⟩ : ∃ len, zs.length = len := ⟨_, rfl⟩
  rw [hlen] at hl ⊢
  obtain ⟨B, hB⟩ : ∃ B, B = w.heap.size := ⟨_, rfl⟩
  rw [← hB] at hbk ⊢
  go_enter Tryd.func32, Tryd.ntmps32
  go_wp2
  go_loopw [5, 6] (fun s i wr => ∃ k : Nat, k ≤ len ∧ i = .int .i64 k ∧ s = .int .i64 (ofN kind (zs.take k) : Int) ∧ Below B w wr) (fun _ i _ => len - (intOf i).toNat)
  case atStart => exact ⟨0, Nat.zero_le _, rfl, by simp [ofN], by rw [hB]; exact Below.refl _ _⟩
  case round =>
    obtain ⟨k, hk, rfl, rfl, hb⟩ := hrel
    have hcell : k < len → ∃ e, zs[k]? = some e := fun h => ⟨zs[k]'(by omega), List.getElem?_eq_getElem (by omega)⟩
    have hwr : Ready Tryd.prog gl0 wr := hw.below (by rw [← hB]; exact hb)
    by_cases hlt : k < len
    · obtain ⟨e, he⟩ := hcell hlt
      obtain ⟨c0, c1, c2, c3⟩ := hc k e he
      have hcw : ∀ o, wr.cell? ⟨blk, o, none⟩ = w.cell? ⟨blk, o, none⟩ := fun o => World.cell?_of_block (hb.block blk hbk)
      have d0 : wr.cell? ⟨blk, off + k * 4, none⟩ = some (.int .u8 e.k) := (hcw _).trans c0
      have d1 : wr.cell? ⟨blk, off + k * 4 + 1, none⟩ = some (.int .i64 e.r) := (hcw _).trans c1
      have d2 : wr.cell? ⟨blk, off + k * 4 + 2, none⟩ = some (.int .i64 e.n) := (hcw _).trans c2
      have d3 : wr.cell? ⟨blk, off + k * 4 + 3, none⟩ = some (.int .u32 e.c) := (hcw _).trans c3
      have hm := may51 e.k e.r e.n e.c hwr
      clear hcw c0 c1 c2 c3 hcell
      have hlt2 : (k : Int) < (len : Int) := by omega
      have h0k : (0 : Int) ≤ (k : Int) := by omega
      go_wp2_with fail
      have hbw : blk < wr.heap.size := Nat.lt_of_lt_of_le hbk (by rw [hB]; exact hb.size)
      refine hm.mono ?_
      rintro e' w2 ⟨rfl, hb2⟩
      have d0' : w2.cell? ⟨blk, off + k * 4, none⟩ = some (.int .u8 e.k) := (World.cell?_of_block (hb2.block blk hbw)).trans d0
      have hb3 : Below B w w2 := hb.trans (hb2.mono (by rw [hB]; exact hb.size))
      clear d0 d1 d2 d3 hm hwr hb2
      have hs := countP_step (p := fun e => e.ok && e.k == kind) he
      have hbd : ofN kind (zs.take k) ≤ 1000 := Nat.le_trans (ofN_le _ _) (by simp; omega)
      cases ho : okE e.k e.r e.n e.c with
      | false =>
        go_wp2
        go_roundw
        case rel => exact ⟨k + 1, by omega, by go_num, by unfold ofN; rw [hs]; simp [EvT.ok, ho], hb3⟩
        case measure => simp [intOf]; omega
      | true =>
        go_wp2
        · have hq : (e.k == kind) = true := by assumption
          go_roundw
          case rel => exact ⟨k + 1, by omega, by go_num, by unfold ofN at hbd ⊢; rw [hs]; simp [EvT.ok, ho, hq] <;> go_num, hb3⟩
          case measure => simp [intOf]; omega
        · have hq : (e.k == kind) = false := by assumption
          go_roundw
          case rel => exact ⟨k + 1, by omega, by go_num, by unfold ofN at hbd ⊢; rw [hs]; simp [EvT.ok, ho, hq] <;> go_num, hb3⟩
          case measure => simp [intOf]; omega
    · have : k = len := by omega
      subst this
      go_wp2
      have ht : zs.take k = zs := List.take_of_length_le (by omega)
      rw [ht]
      go_ret
      exact ⟨rfl, hb⟩
end Go.Proofs.YtgpifpijhimhlaaDoor

namespace Go.Proofs.YtgpifpijhimhlaaDoor
open Go.ChangeShapes Go.WideShapes Go.ChangeAt Go.RowKit Go.Proofs.YtgpifpijhimhlaaDoor.Ev

def EvT.wf (e : EvT) : Prop := 0 ≤ e.c ∧ e.c ≤ 4294967295 ∧ 0 ≤ e.k ∧ e.k ≤ 255
/-- Which count an abort's cause is. -/
def abC (c : Int) : Int := if c % 256 > 5 then 0 else c % 256
def abN (j : Int) (zs : List EvT) : Nat := zs.countP fun e => e.ok && e.k == 7 && abC e.c == j
theorem abN_le (j : Int) (zs : List EvT) : abN j zs ≤ zs.length := List.countP_le_length

set_option maxRecDepth 100000 in
set_option maxHeartbeats 0 in
theorem ab_walk (zs : List EvT) (blk off cap : Nat) (j : Int) (w : World) (hc : EvsAt w blk off zs) (hz : ∀ e ∈ zs, e.wf) (hbk : blk < w.heap.size) (hl : zs.length ≤ 1000) (hw : Ready Tryd.prog gl0 w) :
    Calls Tryd.prog 33 #[.slice (some ⟨blk, off, none⟩) zs.length cap, .int .i64 j] w fun e w' => e = .returned (.int .i64 (abN j zs : Int)) ∧ Below w.heap.size w w' := by
  obtain ⟨len, hlen⟩ : ∃ len, zs.length = len := ⟨_, rfl⟩
  rw [hlen] at hl ⊢
  obtain ⟨B, hB⟩ : ∃ B, B = w.heap.size := ⟨_, rfl⟩
  rw [← hB] at hbk ⊢
  go_enter Tryd.func33, Tryd.ntmps33
  go_wp2
  go_loopw [5, 6] (fun s i wr => ∃ k : Nat, k ≤ len ∧ i = .int .i64 k ∧ s = .int .i64 (abN j (zs.take k) : Int) ∧ Below B w wr) (fun _ i _ => len - (intOf i).toNat)
  case atStart => exact ⟨0, Nat.zero_le _, rfl, by simp [abN], by rw [hB]; exact Below.refl _ _⟩
  case round =>
    obtain ⟨k, hk, rfl, rfl, hb⟩ := hrel
    have hwr : Ready Tryd.prog gl0 wr := hw.below (by rw [← hB]; exact hb)
    by_cases hlt : k < len
    · obtain ⟨e, he⟩ : ∃ e, zs[k]? = some e := ⟨zs[k]'(by omega), List.getElem?_eq_getElem (by omega)⟩
      obtain ⟨c0, c1, c2, c3⟩ := hc k e he
      obtain ⟨hwc0, hwc1, _, _⟩ := hz e (List.mem_of_getElem? he)
      have hcw : ∀ o, wr.cell? ⟨blk, o, none⟩ = w.cell? ⟨blk, o, none⟩ := fun o => World.cell?_of_block (hb.block blk hbk)
      have d0 : wr.cell? ⟨blk, off + k * 4, none⟩ = some (.int .u8 e.k) := (hcw _).trans c0
      have d1 : wr.cell? ⟨blk, off + k * 4 + 1, none⟩ = some (.int .i64 e.r) := (hcw _).trans c1
      have d2 : wr.cell? ⟨blk, off + k * 4 + 2, none⟩ = some (.int .i64 e.n) := (hcw _).trans c2
      have d3 : wr.cell? ⟨blk, off + k * 4 + 3, none⟩ = some (.int .u32 e.c) := (hcw _).trans c3
      have hm := may51 e.k e.r e.n e.c hwr
      have hs := countP_step (p := fun e => e.ok && e.k == 7 && abC e.c == j) he
      have hbd : abN j (zs.take k) ≤ 1000 := Nat.le_trans (abN_le _ _) (by simp; omega)
      have hbw : blk < wr.heap.size := Nat.lt_of_lt_of_le hbk (by rw [hB]; exact hb.size)
      clear hcw c0 c1 c2 c3
      have hlt2 : (k : Int) < (len : Int) := by omega
      have h0k : (0 : Int) ≤ (k : Int) := by omega
      go_wp2_with fail
      · have habc : abC e.c = 0 := by unfold abC; rw [if_pos (by assumption)]
        refine hm.mono ?_
        rintro e' w2 ⟨rfl, hb2⟩
        have d0' : w2.cell? ⟨blk, off + k * 4, none⟩ = some (.int .u8 e.k) := (World.cell?_of_block (hb2.block blk hbw)).trans d0
        have hb3 : Below B w w2 := hb.trans (hb2.mono (by rw [hB]; exact hb.size))
        clear d0 d1 d2 d3 hm hwr hb2
        cases ho : okE e.k e.r e.n e.c with
        | false =>
          go_wp2
          go_roundw
          case rel => exact ⟨k + 1, by omega, by go_num, by unfold abN; rw [hs]; simp [EvT.ok, ho], hb3⟩
          case measure => simp [intOf]; omega
        | true =>
          go_wp2
          · have hq1 : e.k = 7 := by assumption
            have hq2 : (0 == j) = true := by assumption
            go_roundw
            case rel => exact ⟨k + 1, by omega, by go_num, by (have hp : (e.ok && e.k == 7 && abC e.c == j) = true := by (rw [show e.ok = true from ho, habc, hq2]; simp [hq1])); unfold abN at hbd ⊢; rw [hs, if_pos hp]; go_num, hb3⟩
            case measure => simp [intOf]; omega
          · have hq2 : (0 == j) = false := by assumption
            go_roundw
            case rel => exact ⟨k + 1, by omega, by go_num, by unfold abN; rw [hs]; simp [EvT.ok, ho, habc, hq2], hb3⟩
            case measure => simp [intOf]; omega
          · have hq1 : ¬ e.k = 7 := by assumption
            go_roundw
            case rel => exact ⟨k + 1, by omega, by go_num, by unfold abN; rw [hs]; simp [EvT.ok, ho, hq1], hb3⟩
            case measure => simp [intOf]; omega
      · have habc : abC e.c = e.c % 256 := by unfold abC; rw [if_neg (Int.not_lt.2 (by assumption))]
        refine hm.mono ?_
        rintro e' w2 ⟨rfl, hb2⟩
        have d0' : w2.cell? ⟨blk, off + k * 4, none⟩ = some (.int .u8 e.k) := (World.cell?_of_block (hb2.block blk hbw)).trans d0
        have hb3 : Below B w w2 := hb.trans (hb2.mono (by rw [hB]; exact hb.size))
        clear d0 d1 d2 d3 hm hwr hb2
        cases ho : okE e.k e.r e.n e.c with
        | false =>
          go_wp2
          go_roundw
          case rel => exact ⟨k + 1, by omega, by go_num, by unfold abN; rw [hs]; simp [EvT.ok, ho], hb3⟩
          case measure => simp [intOf]; omega
        | true =>
          go_wp2
          · have hq1 : e.k = 7 := by assumption
            have hq2 : (e.c % 256 == j) = true := by assumption
            go_roundw
            case rel => exact ⟨k + 1, by omega, by go_num, by (have hp : (e.ok && e.k == 7 && abC e.c == j) = true := by (rw [show e.ok = true from ho, habc, hq2]; simp [hq1])); unfold abN at hbd ⊢; rw [hs, if_pos hp]; go_num, hb3⟩
            case measure => simp [intOf]; omega
          · have hq2 : (e.c % 256 == j) = false := by assumption
            go_roundw
            case rel => exact ⟨k + 1, by omega, by go_num, by unfold abN; rw [hs]; simp [EvT.ok, ho, habc, hq2], hb3⟩
            case measure => simp [intOf]; omega
          · have hq1 : ¬ e.k = 7 := by assumption
            go_roundw
            case rel => exact ⟨k + 1, by omega, by go_num, by unfold abN; rw [hs]; simp [EvT.ok, ho, hq1], hb3⟩
            case measure => simp [intOf]; omega
    · have : k = len := by omega
      subst this
      go_wp2
      have ht : zs.take k = zs := List.take_of_length_le (by omega)
      rw [ht]
      go_ret
      exact ⟨rfl, hb⟩
end Go.Proofs.YtgpifpijhimhlaaDoor
