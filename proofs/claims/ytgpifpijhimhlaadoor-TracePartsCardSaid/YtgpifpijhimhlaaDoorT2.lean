/- trace.Count over a row of events answers the seventeen counts, wherever the events lie. Rows of at most a thousand. -/
import Derived.Test.YtgpifpijhimhlaaDoorT1
import Derived.Laws.BitsAllLaws
noncomputable section
namespace Go.Proofs.YtgpifpijhimhlaaDoor
open Go.ChangeShapes Go.WideShapes Go.ChangeAt Go.RowKit Go.Proofs.YtgpifpijhimhlaaDoor.Ev

/-- Which of the seventeen counts an event is in; 17: in none. -/
def cellE (e : EvT) : Nat := cond e.ok (if e.k = 7 then 11 + (abC e.c).toNat else ([17, 0, 2, 1, 3, 4, 5, 17, 6, 7, 8, 9, 10] : List Nat).getD e.k.toNat 17) 17
def cnt (j : Nat) (zs : List EvT) : Nat := zs.countP fun e => cellE e == j
theorem cnt_le (j : Nat) (zs : List EvT) : cnt j zs ≤ zs.length := List.countP_le_length
def cntA (zs : List EvT) : Array Value := #[.int .i64 (cnt 0 zs : Int), .int .i64 (cnt 1 zs : Int), .int .i64 (cnt 2 zs : Int), .int .i64 (cnt 3 zs : Int), .int .i64 (cnt 4 zs : Int), .int .i64 (cnt 5 zs : Int), .int .i64 (cnt 6 zs : Int), .int .i64 (cnt 7 zs : Int), .int .i64 (cnt 8 zs : Int), .int .i64 (cnt 9 zs : Int), .int .i64 (cnt 10 zs : Int), .int .i64 (cnt 11 zs : Int), .int .i64 (cnt 12 zs : Int), .int .i64 (cnt 13 zs : Int), .int .i64 (cnt 14 zs : Int), .int .i64 (cnt 15 zs : Int), .int .i64 (cnt 16 zs : Int)]
/-- What holds of the world at a round's head. -/
def CR (w wr : World) (B : Nat) (zs : List EvT) : Prop := Below B w wr ∧ B + 3 ≤ wr.heap.size ∧ (∀ j, j < 17 → wr.cell? ⟨B, j, none⟩ = some (.int .i64 0) ∧ wr.frozen? ⟨B, j, none⟩ = false) ∧
  (∀ j, j < 17 → wr.cell? ⟨B + 1, j, none⟩ = some (.int .i64 (cnt j zs : Int)) ∧ wr.frozen? ⟨B + 1, j, none⟩ = false) ∧
  (∀ j, j < 13 → wr.cell? ⟨B + 1 + 1, j, none⟩ = some (([.pointer none, .pointer (some ⟨B + 1, 0, none⟩), .pointer (some ⟨B + 1, 2, none⟩), .pointer (some ⟨B + 1, 1, none⟩), .pointer (some ⟨B + 1, 3, none⟩), .pointer (some ⟨B + 1, 4, none⟩), .pointer (some ⟨B + 1, 5, none⟩), .pointer none, .pointer (some ⟨B + 1, 6, none⟩), .pointer (some ⟨B + 1, 7, none⟩), .pointer (some ⟨B + 1, 8, none⟩), .pointer (some ⟨B + 1, 9, none⟩), .pointer (some ⟨B + 1, 10, none⟩)] : List Value).getD j undef))
theorem CR.mono {w wr w2 : World} {B : Nat} {zs : List EvT} (h : CR w wr B zs) (hB : B ≤ wr.heap.size) (hb : Below wr.heap.size wr w2) : CR w w2 B zs := by
  obtain ⟨h0, hs, h1, h2, h3⟩ := h
  have c : ∀ (b : Nat) (o : Nat), b < wr.heap.size → w2.cell? ⟨b, o, none⟩ = wr.cell? ⟨b, o, none⟩ := fun b o hl => World.cell?_of_block (hb.block b hl)
  have f : ∀ (b : Nat) (o : Nat), b < wr.heap.size → w2.frozen? ⟨b, o, none⟩ = wr.frozen? ⟨b, o, none⟩ := fun b o hl => by unfold World.frozen?; rw [hb.block b hl]
  refine ⟨h0.trans (hb.mono hB), Nat.le_trans hs hb.size, fun j hj => ?_, fun j hj => ?_, fun j hj => ?_⟩
  · rw [c _ _ (by omega), f _ _ (by omega)]; exact h1 j hj
  · rw [c _ _ (by omega), f _ _ (by omega)]; exact h2 j hj
  · rw [c _ _ (by omega)]; exact h3 j hj
theorem CR.skip {w wr : World} {B k : Nat} {zs : List EvT} {e : EvT} (h : CR w wr B (zs.take k)) (he : zs[k]? = some e) (hc : cellE e = 17) : CR w wr B (zs.take (k + 1)) := by
  obtain ⟨h0, hs, h1, h2, h3⟩ := h
  refine ⟨h0, hs, h1, fun j hj => ?_, h3⟩
  have := h2 j hj
  unfold cnt at this ⊢
  rw [countP_step he, if_neg (by rw [hc]; simp; omega)]
  exact this
theorem CR.step {w wr : World} {B k i : Nat} {zs : List EvT} {e : EvT} (h : CR w wr B (zs.take k)) (he : zs[k]? = some e) (hc : cellE e = i) (hi : i < 17) :
    CR w (wr.setCell ⟨B + 1, i, none⟩ (.int .i64 ((cnt i (zs.take k) : Int) + 1))) B (zs.take (k + 1)) := by
  obtain ⟨h0, hs, h1, h2, h3⟩ := h
  have hne : ∀ (b o : Nat), b ≠ B + 1 → (⟨B + 1, i, none⟩ : Addr) ≠ ⟨b, o, none⟩ := fun b o hb e => hb (by cases e; rfl)
  refine ⟨h0.setCell (by simp) _, by simpa [World.setCell] using hs, fun j hj => ?_, fun j hj => ?_, fun j hj => ?_⟩
  · rw [World.frozen?_setCell, World.cell?_setCell_other _ _ _ _ (hne _ _ (by omega))]; exact h1 j hj
  · rw [World.frozen?_setCell]
    refine ⟨?_, (h2 j hj).2⟩
    by_cases hji : j = i
    · subst hji
      rw [World.cell?_setCell_same _ _ _ (h2 j hj).1]
      unfold cnt
      rw [countP_step he, if_pos (by simp [hc])]
      rfl
    · rw [World.cell?_setCell_other _ _ _ _ (fun e => hji (by cases e; rfl)), (h2 j hj).1]
      unfold cnt
      rw [countP_step he, if_neg (by rw [hc]; simp; omega)]
      rfl
  · rw [World.cell?_setCell_other _ _ _ _ (hne _ _ (by omega))]; exact h3 j hj
theorem and255 (c : Int) (h0 : 0 ≤ c) (h1 : c ≤ 4294967295) : bits BinOp.and IntKind.u32 c 255 = c % 256 := by
  obtain ⟨n, rfl⟩ : ∃ n : Nat, c = (n : Int) := ⟨c.toNat, by omega⟩
  have := u32_and_nat n 255 (by omega) (by omega)
  have e : (255 : Int) = ((255 : Nat) : Int) := rfl
  rw [e, this]
  have e2 := Nat.and_two_pow_sub_one_eq_mod n 8
  have e3 : (2 ^ 8 - 1 : Nat) = 255 := rfl
  rw [e3] at e2
  rw [e2]
  omega
def zero17 : Array Value := #[.int .i64 0, .int .i64 0, .int .i64 0, .int .i64 0, .int .i64 0, .int .i64 0, .int .i64 0, .int .i64 0, .int .i64 0, .int .i64 0, .int .i64 0, .int .i64 0, .int .i64 0, .int .i64 0, .int .i64 0, .int .i64 0, .int .i64 0]
def ptrs13 (B : Nat) : Array Value := #[.pointer none, .pointer (some ⟨B + 1, 0, none⟩), .pointer (some ⟨B + 1, 2, none⟩), .pointer (some ⟨B + 1, 1, none⟩), .pointer (some ⟨B + 1, 3, none⟩), .pointer (some ⟨B + 1, 4, none⟩), .pointer (some ⟨B + 1, 5, none⟩), .pointer none, .pointer (some ⟨B + 1, 6, none⟩), .pointer (some ⟨B + 1, 7, none⟩), .pointer (some ⟨B + 1, 8, none⟩), .pointer (some ⟨B + 1, 9, none⟩), .pointer (some ⟨B + 1, 10, none⟩)]
theorem zero17_at : ∀ j, j < 17 → zero17[j]? = some (.int .i64 0) := by
  intro j hj
  have : j = 0 ∨ j = 1 ∨ j = 2 ∨ j = 3 ∨ j = 4 ∨ j = 5 ∨ j = 6 ∨ j = 7 ∨ j = 8 ∨ j = 9 ∨ j = 10 ∨ j = 11 ∨ j = 12 ∨ j = 13 ∨ j = 14 ∨ j = 15 ∨ j = 16 := by omega
  rcases this with rfl | rfl | rfl | rfl | rfl | rfl | rfl | rfl | rfl | rfl | rfl | rfl | rfl | rfl | rfl | rfl | rfl <;> rfl
theorem ptrs13_at (B : Nat) : ∀ j, j < 13 → (ptrs13 B)[j]? = some ((ptrs13 B).toList.getD j undef) := by
  intro j hj
  have : j = 0 ∨ j = 1 ∨ j = 2 ∨ j = 3 ∨ j = 4 ∨ j = 5 ∨ j = 6 ∨ j = 7 ∨ j = 8 ∨ j = 9 ∨ j = 10 ∨ j = 11 ∨ j = 12 := by omega
  rcases this with rfl | rfl | rfl | rfl | rfl | rfl | rfl | rfl | rfl | rfl | rfl | rfl | rfl <;> rfl
/-- At the start. -/
theorem CR.start {w : World} {B : Nat} {zs : List EvT} (hB : w.heap.size = B) : CR w (((w.alloc (.cells zero17 32)).alloc (.cells zero17 32)).alloc (.cells (ptrs13 B) 55)) B (zs.take 0) := by
  subst hB
  have z : ∀ j, ((cnt j (zs.take 0) : Nat) : Int) = 0 := fun j => by simp [cnt]
  refine ⟨(((Below.refl _ w).alloc (Nat.le_refl _) _).alloc (by simp) _).alloc (by simp; omega) _, by simp, fun j hj => ?_, fun j hj => ?_, fun j hj => ?_⟩
  · have e1 : ((((w.alloc (.cells zero17 32)).alloc (.cells zero17 32)).alloc (.cells (ptrs13 w.heap.size) 55))).heap[w.heap.size]? = some (.cells zero17 32 (0, 0)) := by
      rw [Below.heap_alloc _ _ _ (by simp; omega), Below.heap_alloc _ _ _ (by simp)]
      exact Array.getElem?_push_size
    unfold World.cell? World.frozen?
    simp only [e1]
    exact ⟨by simpa using zero17_at j hj, by simp⟩
  · have e1 : ((((w.alloc (.cells zero17 32)).alloc (.cells zero17 32)).alloc (.cells (ptrs13 w.heap.size) 55))).heap[w.heap.size + 1]? = some (.cells zero17 32 (0, 0)) := by
      rw [Below.heap_alloc _ _ _ (by simp)]
      have := Array.getElem?_push_size (xs := (w.alloc (.cells zero17 32)).heap) (x := Obj.cells zero17 32 (0, 0))
      rw [show (w.alloc (.cells zero17 32)).heap.size = w.heap.size + 1 from by simp] at this
      exact this
    unfold World.cell? World.frozen?
    simp only [e1, z]
    exact ⟨by simpa using zero17_at j hj, by simp⟩
  · have e1 : ((((w.alloc (.cells zero17 32)).alloc (.cells zero17 32)).alloc (.cells (ptrs13 w.heap.size) 55))).heap[w.heap.size + 1 + 1]? = some (.cells (ptrs13 w.heap.size) 55 (0, 0)) := by
      have := Array.getElem?_push_size (xs := ((w.alloc (.cells zero17 32)).alloc (.cells zero17 32)).heap) (x := Obj.cells (ptrs13 w.heap.size) 55 (0, 0))
      rw [show ((w.alloc (.cells zero17 32)).alloc (.cells zero17 32)).heap.size = w.heap.size + 1 + 1 from by simp] at this
      exact this
    unfold World.cell?
    simp only [e1]
    have := ptrs13_at w.heap.size j hj
    simpa [ptrs13] using this
def setN (w : World) (b : Nat) (c : Nat → Value) : Nat → World
  | 0 => w
  | n + 1 => (setN w b c n).setCell ⟨b, n, none⟩ (c n)
theorem setN_below {w a : World} {B : Nat} {c : Nat → Value} (h : Below B a w) : ∀ n, Below B a (setN w B c n)
  | 0 => h
  | n + 1 => (setN_below h n).setCell (Nat.le_refl _) _
theorem setN_old {w : World} {b : Nat} {c : Nat → Value} : ∀ {n j : Nat}, n ≤ j → (setN w b c n).cell? ⟨b, j, none⟩ = w.cell? ⟨b, j, none⟩
  | 0, _, _ => rfl
  | n + 1, j, h => by
    show ((setN w b c n).setCell ⟨b, n, none⟩ (c n)).cell? _ = _
    rw [World.cell?_setCell_other _ _ _ _ (fun e => by cases e; omega)]
    exact setN_old (by omega)
theorem setN_at {w : World} {b m : Nat} {c : Nat → Value} {u : Value} (h : ∀ j, j < m → w.cell? ⟨b, j, none⟩ = some u) : ∀ {n j : Nat}, j < n → n ≤ m → (setN w b c n).cell? ⟨b, j, none⟩ = some (c j)
  | 0, _, h, _ => by omega
  | n + 1, j, hj, hn => by
    show ((setN w b c n).setCell ⟨b, n, none⟩ (c n)).cell? _ = _
    by_cases e : j = n
    · subst e
      exact World.cell?_setCell_same _ _ _ ((setN_old (Nat.le_refl _)).trans (h j (by omega)))
    · rw [World.cell?_setCell_other _ _ _ _ (fun e' => e (by cases e'; rfl))]
      exact setN_at h (by omega) (by omega)
set_option maxRecDepth 100000 in
theorem ret13 (wf : World) (B : Nat) (zs : List EvT) (T : Array Value) (hT : T[2]? = some (.pointer (some ⟨B, 0, none⟩))) (r0 : wf.cell? ⟨B, 0, none⟩ = some (.int .i64 (cnt 0 zs : Int))) (r1 : wf.cell? ⟨B, 1, none⟩ = some (.int .i64 (cnt 1 zs : Int))) (r2 : wf.cell? ⟨B, 2, none⟩ = some (.int .i64 (cnt 2 zs : Int))) (r3 : wf.cell? ⟨B, 3, none⟩ = some (.int .i64 (cnt 3 zs : Int))) (r4 : wf.cell? ⟨B, 4, none⟩ = some (.int .i64 (cnt 4 zs : Int))) (r5 : wf.cell? ⟨B, 5, none⟩ = some (.int .i64 (cnt 5 zs : Int))) (r6 : wf.cell? ⟨B, 6, none⟩ = some (.int .i64 (cnt 6 zs : Int))) (r7 : wf.cell? ⟨B, 7, none⟩ = some (.int .i64 (cnt 7 zs : Int))) (r8 : wf.cell? ⟨B, 8, none⟩ = some (.int .i64 (cnt 8 zs : Int))) (r9 : wf.cell? ⟨B, 9, none⟩ = some (.int .i64 (cnt 9 zs : Int))) (r10 : wf.cell? ⟨B, 10, none⟩ = some (.int .i64 (cnt 10 zs : Int))) (r11 : wf.cell? ⟨B, 11, none⟩ = some (.int .i64 (cnt 11 zs : Int))) (r12 : wf.cell? ⟨B, 12, none⟩ = some (.int .i64 (cnt 12 zs : Int))) (r13 : wf.cell? ⟨B, 13, none⟩ = some (.int .i64 (cnt 13 zs : Int))) (r14 : wf.cell? ⟨B, 14, none⟩ = some (.int .i64 (cnt 14 zs : Int))) (r15 : wf.cell? ⟨B, 15, none⟩ = some (.int .i64 (cnt 15 zs : Int))) (r16 : wf.cell? ⟨B, 16, none⟩ = some (.int .i64 (cnt 16 zs : Int))) : (results Tryd.f13 T).run Tryd.prog wf = .ok (.agg (cntA zs)) wf := by
  simp [results, Tryd.results13, go_sem, hT, cntA, r0, r1, r2, r3, r4, r5, r6, r7, r8, r9, r10, r11, r12, r13, r14, r15, r16]
end Go.Proofs.YtgpifpijhimhlaaDoor

namespace Go.Proofs.YtgpifpijhimhlaaDoor
open Go.ChangeShapes Go.WideShapes Go.ChangeAt Go.RowKit Go.Proofs.YtgpifpijhimhlaaDoor.Ev
set_option maxRecDepth 100000 in
set_option maxHeartbeats 0 in
theorem count_walk (zs : List EvT) (blk off cap : Nat) (w : World) (hc : EvsAt w blk off zs) (hz : ∀ e ∈ zs, e.wf) (hbk : blk < w.heap.size) (hl : zs.length ≤ 1000) (hw : Ready Tryd.prog gl0 w) :
    Calls Tryd.prog 13 #[.slice (some ⟨blk, off, none⟩) zs.length cap] w fun e w' => e = .returned (.agg (cntA zs)) ∧ Below w.heap.size w w' := by
  obtain ⟨len, hlen⟩ : ∃ len, zs.length = len := ⟨_, rfl⟩
  rw [hlen] at hl ⊢
  obtain ⟨B, hB⟩ : ∃ B, w.heap.size = B := ⟨_, rfl⟩
  rw [hB] at hbk
  rw [hB]
  go_enter Tryd.func13, Tryd.ntmps13
  go_wp2
  go_loopw [22] (fun i wr => ∃ k : Nat, k ≤ len ∧ i = .int .i64 k ∧ CR w wr B (zs.take k)) (fun i _ => len - (intOf i).toNat)
  case atStart =>
    refine ⟨0, Nat.zero_le _, rfl, ?_⟩
    exact CR.start hB
  case round =>
    obtain ⟨k, hk, rfl, hcr⟩ := hrel
    have hb := hcr.1
    have hsz := hcr.2.1
    have hwr : Ready Tryd.prog gl0 wr := hw.below (by rw [hB]; exact hb)
    by_cases hlt : k < len
    · obtain ⟨e, he⟩ : ∃ e, zs[k]? = some e := ⟨zs[k]'(by omega), List.getElem?_eq_getElem (by omega)⟩
      obtain ⟨c0, c1, c2, c3⟩ := hc k e he
      obtain ⟨hwc0, hwc1, hwk0, hwk1⟩ := hz e (List.mem_of_getElem? he)
      have hcw : ∀ o, wr.cell? ⟨blk, o, none⟩ = w.cell? ⟨blk, o, none⟩ := fun o => World.cell?_of_block (hb.block blk hbk)
      have d0 : wr.cell? ⟨blk, off + k * 4, none⟩ = some (.int .u8 e.k) := (hcw _).trans c0
      have d1 : wr.cell? ⟨blk, off + k * 4 + 1, none⟩ = some (.int .i64 e.r) := (hcw _).trans c1
      have d2 : wr.cell? ⟨blk, off + k * 4 + 2, none⟩ = some (.int .i64 e.n) := (hcw _).trans c2
      have d3 : wr.cell? ⟨blk, off + k * 4 + 3, none⟩ = some (.int .u32 e.c) := (hcw _).trans c3
      obtain ⟨ek, er, en, ec⟩ := e
      simp only at d0 d1 d2 d3 hwc0 hwc1 hwk0 hwk1
      obtain ⟨E, hE⟩ : ∃ E, E = wr.heap.size := ⟨_, rfl⟩
      have hwa : Ready Tryd.prog gl0 (wr.alloc (.cells #[.int .u8 ek, .int .i64 er, .int .i64 en, .int .u32 ec] 39)) := hwr.below ((Below.refl _ wr).alloc (Nat.le_refl _) _)
      have hm := may31 ek er en ec hwa
      clear hcw c0 c1 c2 c3
      have hlt2 : (k : Int) < (len : Int) := by omega
      have h0k : (0 : Int) ≤ (k : Int) := by omega
      go_wp2_with fail
      refine hm.mono ?_
      rintro e' w2 ⟨rfl, hb2⟩
      have hbw : Below wr.heap.size wr w2 := ((Below.refl _ wr).alloc (Nat.le_refl _) _).trans (hb2.mono (by simp))
      have f0 : w2.cell? ⟨E, 0, none⟩ = some (.int .u8 ek) := by
        rw [hE]; exact (World.cell?_of_block (hb2.block _ (by simp))).trans (by simp)
      have f3 : w2.cell? ⟨E, 3, none⟩ = some (.int .u32 ec) := by
        rw [hE]; exact (World.cell?_of_block (hb2.block _ (by simp))).trans (by simp)
      have hcr2 : CR w w2 B (zs.take k) := hcr.mono (by omega) hbw
      have hEB : B + 3 ≤ E := by omega
      have hbd : ∀ i, (cnt i (zs.take k) : Int) ≤ 1000 := fun i => by have := cnt_le i (zs.take k); simp at this; omega
      have hbd0 : ∀ i, (0 : Int) ≤ (cnt i (zs.take k) : Int) := fun i => by omega
      rw [← hE]
      clear d0 d1 d2 d3 hm hwa hwr hb2 hbw hE hcr hb hsz
      cases ho : okE ek er en ec with
      | false =>
        go_wp2
        go_roundw
        case rel => exact ⟨k + 1, by omega, by go_num, hcr2.skip he (by simp [cellE, EvT.ok, ho])⟩
        case measure => simp [intOf]; omega
      | true =>
        have hr : 1 ≤ ek ∧ ek ≤ 12 := by
          unfold okE at ho
          simp only [decide_eq_true_eq] at ho
          omega
        have hcases : ek = 1 ∨ ek = 2 ∨ ek = 3 ∨ ek = 4 ∨ ek = 5 ∨ ek = 6 ∨ ek = 7 ∨ ek = 8 ∨ ek = 9 ∨ ek = 10 ∨ ek = 11 ∨ ek = 12 := by omega
        obtain ⟨_, _, _, q2, q3⟩ := id hcr2
        rcases hcases with rfl | rfl | rfl | rfl | rfl | rfl | rfl | rfl | rfl | rfl | rfl | rfl
        · have a1 : w2.cell? ⟨B + 1 + 1, 1, none⟩ = some (.pointer (some ⟨B + 1, 0, none⟩)) := q3 1 (by omega)
          obtain ⟨a2, a3⟩ := q2 0 (by omega)
          have a4 := hbd 0
          have a5 := hbd0 0
          clear q2 q3 hbd hbd0
          go_wp2
          go_roundw
          case rel => exact ⟨k + 1, by omega, by go_num, hcr2.step he (by simp [cellE, EvT.ok, ho]) (by omega)⟩
          case measure => simp [intOf]; omega
        · have a1 : w2.cell? ⟨B + 1 + 1, 2, none⟩ = some (.pointer (some ⟨B + 1, 2, none⟩)) := q3 2 (by omega)
          obtain ⟨a2, a3⟩ := q2 2 (by omega)
          have a4 := hbd 2
          have a5 := hbd0 2
          clear q2 q3 hbd hbd0
          go_wp2
          go_roundw
          case rel => exact ⟨k + 1, by omega, by go_num, hcr2.step he (by simp [cellE, EvT.ok, ho]) (by omega)⟩
          case measure => simp [intOf]; omega
        · have a1 : w2.cell? ⟨B + 1 + 1, 3, none⟩ = some (.pointer (some ⟨B + 1, 1, none⟩)) := q3 3 (by omega)
          obtain ⟨a2, a3⟩ := q2 1 (by omega)
          have a4 := hbd 1
          have a5 := hbd0 1
          clear q2 q3 hbd hbd0
          go_wp2
          go_roundw
          case rel => exact ⟨k + 1, by omega, by go_num, hcr2.step he (by simp [cellE, EvT.ok, ho]) (by omega)⟩
          case measure => simp [intOf]; omega
        · have a1 : w2.cell? ⟨B + 1 + 1, 4, none⟩ = some (.pointer (some ⟨B + 1, 3, none⟩)) := q3 4 (by omega)
          obtain ⟨a2, a3⟩ := q2 3 (by omega)
          have a4 := hbd 3
          have a5 := hbd0 3
          clear q2 q3 hbd hbd0
          go_wp2
          go_roundw
          case rel => exact ⟨k + 1, by omega, by go_num, hcr2.step he (by simp [cellE, EvT.ok, ho]) (by omega)⟩
          case measure => simp [intOf]; omega
        · have a1 : w2.cell? ⟨B + 1 + 1, 5, none⟩ = some (.pointer (some ⟨B + 1, 4, none⟩)) := q3 5 (by omega)
          obtain ⟨a2, a3⟩ := q2 4 (by omega)
          have a4 := hbd 4
          have a5 := hbd0 4
          clear q2 q3 hbd hbd0
          go_wp2
          go_roundw
          case rel => exact ⟨k + 1, by omega, by go_num, hcr2.step he (by simp [cellE, EvT.ok, ho]) (by omega)⟩
          case measure => simp [intOf]; omega
        · have a1 : w2.cell? ⟨B + 1 + 1, 6, none⟩ = some (.pointer (some ⟨B + 1, 5, none⟩)) := q3 6 (by omega)
          obtain ⟨a2, a3⟩ := q2 5 (by omega)
          have a4 := hbd 5
          have a5 := hbd0 5
          clear q2 q3 hbd hbd0
          go_wp2
          go_roundw
          case rel => exact ⟨k + 1, by omega, by go_num, hcr2.step he (by simp [cellE, EvT.ok, ho]) (by omega)⟩
          case measure => simp [intOf]; omega
        · have hand := and255 ec hwc0 hwc1
          obtain ⟨m, hm⟩ : ∃ m, ec % 256 = m := ⟨_, rfl⟩
          rw [hm] at hand
          have hcm : m = 0 ∨ m = 1 ∨ m = 2 ∨ m = 3 ∨ m = 4 ∨ m = 5 ∨ 6 ≤ m := by omega
          rcases hcm with rfl | rfl | rfl | rfl | rfl | rfl | h6
          · obtain ⟨a2, a3⟩ := q2 11 (by omega)
            have a4 := hbd 11
            have a5 := hbd0 11
            have hab : abC ec = 0 := by unfold abC; rw [hm]; rfl
            clear q2 q3 hbd hbd0 hm
            go_wp2
            go_roundw
            case rel => exact ⟨k + 1, by omega, by go_num, hcr2.step he (by simp [cellE, EvT.ok, ho, hab]) (by omega)⟩
            case measure => simp [intOf]; omega
          · obtain ⟨a2, a3⟩ := q2 12 (by omega)
            have a4 := hbd 12
            have a5 := hbd0 12
            have hab : abC ec = 1 := by unfold abC; rw [hm]; rfl
            clear q2 q3 hbd hbd0 hm
            go_wp2
            go_roundw
            case rel => exact ⟨k + 1, by omega, by go_num, hcr2.step he (by simp [cellE, EvT.ok, ho, hab]) (by omega)⟩
            case measure => simp [intOf]; omega
          · obtain ⟨a2, a3⟩ := q2 13 (by omega)
            have a4 := hbd 13
            have a5 := hbd0 13
            have hab : abC ec = 2 := by unfold abC; rw [hm]; rfl
            clear q2 q3 hbd hbd0 hm
            go_wp2
            go_roundw
            case rel => exact ⟨k + 1, by omega, by go_num, hcr2.step he (by simp [cellE, EvT.ok, ho, hab]) (by omega)⟩
            case measure => simp [intOf]; omega
          · obtain ⟨a2, a3⟩ := q2 14 (by omega)
            have a4 := hbd 14
            have a5 := hbd0 14
            have hab : abC ec = 3 := by unfold abC; rw [hm]; rfl
            clear q2 q3 hbd hbd0 hm
            go_wp2
            go_roundw
            case rel => exact ⟨k + 1, by omega, by go_num, hcr2.step he (by simp [cellE, EvT.ok, ho, hab]) (by omega)⟩
            case measure => simp [intOf]; omega
          · obtain ⟨a2, a3⟩ := q2 15 (by omega)
            have a4 := hbd 15
            have a5 := hbd0 15
            have hab : abC ec = 4 := by unfold abC; rw [hm]; rfl
            clear q2 q3 hbd hbd0 hm
            go_wp2
            go_roundw
            case rel => exact ⟨k + 1, by omega, by go_num, hcr2.step he (by simp [cellE, EvT.ok, ho, hab]) (by omega)⟩
            case measure => simp [intOf]; omega
          · obtain ⟨a2, a3⟩ := q2 16 (by omega)
            have a4 := hbd 16
            have a5 := hbd0 16
            have hab : abC ec = 5 := by unfold abC; rw [hm]; rfl
            clear q2 q3 hbd hbd0 hm
            go_wp2
            go_roundw
            case rel => exact ⟨k + 1, by omega, by go_num, hcr2.step he (by simp [cellE, EvT.ok, ho, hab]) (by omega)⟩
            case measure => simp [intOf]; omega
          · obtain ⟨a2, a3⟩ := q2 11 (by omega)
            have a4 := hbd 11
            have a5 := hbd0 11
            have hab : abC ec = 0 := by unfold abC; rw [hm, if_pos (by omega)]
            clear q2 q3 hbd hbd0 hm
            go_wp2
            go_roundw
            case rel => exact ⟨k + 1, by omega, by go_num, hcr2.step he (by simp [cellE, EvT.ok, ho, hab]) (by omega)⟩
            case measure => simp [intOf]; omega
        · have a1 : w2.cell? ⟨B + 1 + 1, 8, none⟩ = some (.pointer (some ⟨B + 1, 6, none⟩)) := q3 8 (by omega)
          obtain ⟨a2, a3⟩ := q2 6 (by omega)
          have a4 := hbd 6
          have a5 := hbd0 6
          clear q2 q3 hbd hbd0
          go_wp2
          go_roundw
          case rel => exact ⟨k + 1, by omega, by go_num, hcr2.step he (by simp [cellE, EvT.ok, ho]) (by omega)⟩
          case measure => simp [intOf]; omega
        · have a1 : w2.cell? ⟨B + 1 + 1, 9, none⟩ = some (.pointer (some ⟨B + 1, 7, none⟩)) := q3 9 (by omega)
          obtain ⟨a2, a3⟩ := q2 7 (by omega)
          have a4 := hbd 7
          have a5 := hbd0 7
          clear q2 q3 hbd hbd0
          go_wp2
          go_roundw
          case rel => exact ⟨k + 1, by omega, by go_num, hcr2.step he (by simp [cellE, EvT.ok, ho]) (by omega)⟩
          case measure => simp [intOf]; omega
        · have a1 : w2.cell? ⟨B + 1 + 1, 10, none⟩ = some (.pointer (some ⟨B + 1, 8, none⟩)) := q3 10 (by omega)
          obtain ⟨a2, a3⟩ := q2 8 (by omega)
          have a4 := hbd 8
          have a5 := hbd0 8
          clear q2 q3 hbd hbd0
          go_wp2
          go_roundw
          case rel => exact ⟨k + 1, by omega, by go_num, hcr2.step he (by simp [cellE, EvT.ok, ho]) (by omega)⟩
          case measure => simp [intOf]; omega
        · have a1 : w2.cell? ⟨B + 1 + 1, 11, none⟩ = some (.pointer (some ⟨B + 1, 9, none⟩)) := q3 11 (by omega)
          obtain ⟨a2, a3⟩ := q2 9 (by omega)
          have a4 := hbd 9
          have a5 := hbd0 9
          clear q2 q3 hbd hbd0
          go_wp2
          go_roundw
          case rel => exact ⟨k + 1, by omega, by go_num, hcr2.step he (by simp [cellE, EvT.ok, ho]) (by omega)⟩
          case measure => simp [intOf]; omega
        · have a1 : w2.cell? ⟨B + 1 + 1, 12, none⟩ = some (.pointer (some ⟨B + 1, 10, none⟩)) := q3 12 (by omega)
          obtain ⟨a2, a3⟩ := q2 10 (by omega)
          have a4 := hbd 10
          have a5 := hbd0 10
          clear q2 q3 hbd hbd0
          go_wp2
          go_roundw
          case rel => exact ⟨k + 1, by omega, by go_num, hcr2.step he (by simp [cellE, EvT.ok, ho]) (by omega)⟩
          case measure => simp [intOf]; omega
    · have hkl : k = len := by omega
      subst hkl
      have ht : zs.take k = zs := List.take_of_length_le (by omega)
      rw [ht] at hcr
      obtain ⟨_, _, p1, p2, _⟩ := id hcr
      obtain ⟨r0, z0⟩ := p1 0 (by omega)
      have s0 := (p2 0 (by omega)).1
      obtain ⟨r1, z1⟩ := p1 1 (by omega)
      have s1 := (p2 1 (by omega)).1
      obtain ⟨r2, z2⟩ := p1 2 (by omega)
      have s2 := (p2 2 (by omega)).1
      obtain ⟨r3, z3⟩ := p1 3 (by omega)
      have s3 := (p2 3 (by omega)).1
      obtain ⟨r4, z4⟩ := p1 4 (by omega)
      have s4 := (p2 4 (by omega)).1
      obtain ⟨r5, z5⟩ := p1 5 (by omega)
      have s5 := (p2 5 (by omega)).1
      obtain ⟨r6, z6⟩ := p1 6 (by omega)
      have s6 := (p2 6 (by omega)).1
      obtain ⟨r7, z7⟩ := p1 7 (by omega)
      have s7 := (p2 7 (by omega)).1
      obtain ⟨r8, z8⟩ := p1 8 (by omega)
      have s8 := (p2 8 (by omega)).1
      obtain ⟨r9, z9⟩ := p1 9 (by omega)
      have s9 := (p2 9 (by omega)).1
      obtain ⟨r10, z10⟩ := p1 10 (by omega)
      have s10 := (p2 10 (by omega)).1
      obtain ⟨r11, z11⟩ := p1 11 (by omega)
      have s11 := (p2 11 (by omega)).1
      obtain ⟨r12, z12⟩ := p1 12 (by omega)
      have s12 := (p2 12 (by omega)).1
      obtain ⟨r13, z13⟩ := p1 13 (by omega)
      have s13 := (p2 13 (by omega)).1
      obtain ⟨r14, z14⟩ := p1 14 (by omega)
      have s14 := (p2 14 (by omega)).1
      obtain ⟨r15, z15⟩ := p1 15 (by omega)
      have s15 := (p2 15 (by omega)).1
      obtain ⟨r16, z16⟩ := p1 16 (by omega)
      have s16 := (p2 16 (by omega)).1
      clear p1 p2
      go_wp2
      change bodyPost Tryd.prog Tryd.f13 _ Exit.ret _ (setN wr B (fun j => Value.int .i64 (cnt j zs : Int)) 17)
      have hat : ∀ j, j < 17 → (setN wr B (fun j => Value.int .i64 (cnt j zs : Int)) 17).cell? ⟨B, j, none⟩ = some (.int .i64 (cnt j zs : Int)) := fun j hj => setN_at (m := 17) (fun j hj => (hcr.2.2.1 j hj).1) hj (Nat.le_refl _)
      have hbf : Below B w (setN wr B (fun j => Value.int .i64 (cnt j zs : Int)) 17) := setN_below hcr.1 17
      generalize setN wr B (fun j => Value.int .i64 (cnt j zs : Int)) 17 = wf at hat hbf ⊢
      exact bodyPost_ret (v := .agg (cntA zs)) (ret13 wf B zs _ rfl (hat 0 (by omega)) (hat 1 (by omega)) (hat 2 (by omega)) (hat 3 (by omega)) (hat 4 (by omega)) (hat 5 (by omega)) (hat 6 (by omega)) (hat 7 (by omega)) (hat 8 (by omega)) (hat 9 (by omega)) (hat 10 (by omega)) (hat 11 (by omega)) (hat 12 (by omega)) (hat 13 (by omega)) (hat 14 (by omega)) (hat 15 (by omega)) (hat 16 (by omega))) rfl ⟨rfl, hbf⟩
end Go.Proofs.YtgpifpijhimhlaaDoor
