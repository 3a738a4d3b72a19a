/- TraceCounts answers true and turns nothing, of whatever row of events, whatever the tape and the order of evaluation, where the listed variables start as the program's text lays them. -/
import Derived.Test.YtgpifpijhimhlaaDoorT3
import Derived.Test.YtgpifpijhimhlaaDoorCards
import Derived.Test.YtgpifpijhimhlaaDoorTie
import Derived.WalkKit
import Derived.ProofKit
import Derived.OpenShut
import Derived.Deep.DeepHandedRow
import Derived.Deep.DeepWitnessRowRef
import Derived.Lay
noncomputable section
namespace Go.Proofs.YtgpifpijhimhlaaDoor
open Go.ChangeShapes Go.WideShapes Go.ChangeAt Go.RowKit Go.Proofs.YtgpifpijhimhlaaDoor.Ev

theorem addr_add (blk off n : Nat) : (⟨blk, off, none⟩ : Addr).add n = ⟨blk, off + n, none⟩ := by
  unfold Addr.add
  split
  · rename_i h; subst h; rfl
  · rfl
theorem list_of {Q : Nat → EvT → Prop} : ∀ n : Nat, (∀ i, i < n → ∃ e, Q i e) → ∃ zs : List EvT, zs.length = n ∧ ∀ i e, zs[i]? = some e → Q i e
  | 0, _ => ⟨[], rfl, fun i e h => by simp at h⟩
  | n + 1, h => by
    obtain ⟨zs, h1, h2⟩ := list_of n fun i hi => h i (by omega)
    obtain ⟨e, he⟩ := h n (by omega)
    refine ⟨zs ++ [e], by simp [h1], fun i e' h3 => ?_⟩
    rcases Nat.lt_or_ge i n with hi | hi
    · rw [List.getElem?_append_left (by omega)] at h3
      exact h2 i e' h3
    · rw [List.getElem?_append_right (by omega), h1] at h3
      rcases Nat.eq_or_lt_of_le hi with rfl | hi
      · simp at h3; subst h3; exact he
      · rw [List.getElem?_eq_none (by simp; omega)] at h3; cases h3

theorem fieldI {P : Program} {H : Type} {enc : TypeId × Value → H} {w : World} {base : Nat} {sp : Nat → Bool} {held : Bool} {n : Nat} {t : TypeId} {k : IntKind} {cs : List Value} {xs : List (DataW H × List MemPlace)} {i : Nat}
    (ht : P.underlying t = some (.int k)) (hi : i < xs.length) (h : DataW.trod enc P w base sp held n t cs = xs[i]?) : ∃ m, cs = [.int k m] ∧ (Lit.int k m).wf = true := by
  rw [List.getElem?_eq_getElem hi] at h
  obtain ⟨m, h1, _, h2⟩ := DataW.trod_int ht h
  exact ⟨m, h1, h2⟩

set_option maxRecDepth 100000 in
theorem open_event {H : Type} {enc : TypeId × Value → H} {w : World} {base : Nat} {sp : Nat → Bool} {held : Bool} {n : Nat} {cs : List Value} {y : DataW H × List MemPlace} (h : DataW.trod enc Tryd.prog w base sp held n 39 cs = some y) (hl : cs.length = 4) :
    ∃ e : EvT, e.wf ∧ cs = [.int .u8 e.k, .int .i64 e.r, .int .i64 e.n, .int .u32 e.c] := by
  obtain ⟨xs, m, _, _, _, hlen, hf⟩ := DataW.trod_struct Tryd.underlying39 h
  have e5 : Tryd.prog.cellsOf 5 = 1 := by kernel_rfl
  have e3 : Tryd.prog.cellsOf 3 = 1 := by kernel_rfl
  have e37 : Tryd.prog.cellsOf 37 = 1 := by kernel_rfl
  have hlen : xs.length = 4 := hlen
  obtain ⟨v0, v1, v2, v3, rfl⟩ : ∃ v0 v1 v2 v3, cs = [v0, v1, v2, v3] := by
    match cs, hl with
    | [v0, v1, v2, v3], _ => exact ⟨v0, v1, v2, v3, rfl⟩
  have f0 : DataW.trod enc Tryd.prog w base sp held m 5 (([v0, v1, v2, v3].drop 0).take (Tryd.prog.cellsOf 5)) = xs[0]? := hf 0 _ rfl
  have f1 : DataW.trod enc Tryd.prog w base sp held m 3 (([v0, v1, v2, v3].drop 1).take (Tryd.prog.cellsOf 3)) = xs[1]? := hf 1 _ rfl
  have f2 : DataW.trod enc Tryd.prog w base sp held m 3 (([v0, v1, v2, v3].drop 2).take (Tryd.prog.cellsOf 3)) = xs[2]? := hf 2 _ rfl
  have f3 : DataW.trod enc Tryd.prog w base sp held m 37 (([v0, v1, v2, v3].drop 3).take (Tryd.prog.cellsOf 37)) = xs[3]? := hf 3 _ rfl
  rw [e5] at f0
  rw [e3] at f1 f2
  rw [e37] at f3
  obtain ⟨k, g0, w0⟩ := fieldI Tryd.underlying5 (by omega) f0
  obtain ⟨r, g1, _⟩ := fieldI Tryd.underlying3 (by omega) f1
  obtain ⟨c, g2, _⟩ := fieldI Tryd.underlying3 (by omega) f2
  obtain ⟨x, g3, w3⟩ := fieldI Tryd.underlying37 (by omega) f3
  cases g0; cases g1; cases g2; cases g3
  refine ⟨⟨k, r, c, x⟩, ?_, rfl⟩
  simp only [Lit.wf, Bool.and_eq_true, decide_eq_true_eq] at w0 w3
  have e1 : IntKind.min .u8 = 0 := by kernel_rfl
  have e2 : IntKind.max .u8 = 255 := by kernel_rfl
  have e6 : IntKind.min .u32 = 0 := by kernel_rfl
  have e7 : IntKind.max .u32 = 4294967295 := by kernel_rfl
  rw [e1, e2] at w0
  rw [e6, e7] at w3
  exact ⟨w3.1, w3.2, w0.1, w0.2⟩

set_option maxRecDepth 100000 in
/-- A parameter that is a row of events. -/
theorem open_events {H : Type} {enc : TypeId × Value → H} {w : World} {sp : Nat → Bool} {held : Bool} {rc : Reach} {base : Nat} {v : Value} {d : DataW H} {p : List MemPlace}
    (hv : Value.okWide Tryd.prog w rc base 29 v) (h : DataW.Trod enc Tryd.prog w 0 sp held 29 v d p) :
    v = .slice none 0 0 ∨ ∃ (blk off cap : Nat) (zs : List EvT), v = .slice (some ⟨blk, off, none⟩) zs.length cap ∧ EvsAt w blk off zs ∧ (∀ e ∈ zs, e.wf) ∧ blk < w.heap.size := by
  obtain ⟨a, len, cap, rfl⟩ := okWide_slice Tryd.underlying29 hv
  obtain ⟨n, h⟩ := h
  rcases DataW.trod_slice Tryd.underlying29 h with ⟨hn, _⟩ | ⟨a', len', cap', elems, rest, m, _, hcs, _, _, _, _, hel, hi, _⟩
  · left
    simpa [Value.cells] using hn
  · right
    have e : Value.slice a len cap = .slice (some a') len' cap' := by simpa [Value.cells] using hcs
    cases e
    have hok : Cell.ok Tryd.prog w rc base 29 (.slice (some a') len cap) := by
      simpa only [Value.okWide, Cell.okWide, Tryd.underlying29] using hv
    have hhas : w.has Tryd.prog rc base a' 39 cap := by
      simp only [Cell.ok, Tryd.underlying29] at hok
      exact hok.2.2
    obtain ⟨_, hs, row, cells, hsh, _⟩ := hhas
    obtain ⟨blk, off, spot⟩ := a'
    simp only at hs
    subst hs
    have hb : blk < w.heap.size := by
      rcases Nat.lt_or_ge blk w.heap.size with h1 | h1
      · exact h1
      · simp [World.shape?, Array.getElem?_eq_none h1] at hsh
    have h4 : Tryd.prog.cellsOf 39 = 4 := by kernel_rfl
    have key : ∀ i, i < len → ∃ e : EvT, e.wf ∧ w.cell? ⟨blk, off + i * 4, none⟩ = some (.int .u8 e.k) ∧ w.cell? ⟨blk, off + i * 4 + 1, none⟩ = some (.int .i64 e.r) ∧ w.cell? ⟨blk, off + i * 4 + 2, none⟩ = some (.int .i64 e.n) ∧ w.cell? ⟨blk, off + i * 4 + 3, none⟩ = some (.int .u32 e.c) := by
      intro i hlt
      have h1 := hi i hlt
      rw [List.getElem?_eq_getElem (by omega)] at h1
      obtain ⟨cs, h2, h3⟩ := Option.bind_eq_some_iff.1 h1
      rw [h4] at h2
      obtain ⟨_, hl, hat⟩ := World.cells?_some h2
      obtain ⟨e, he, rfl⟩ := open_event h3 hl
      have a0 := hat 0 (by omega)
      have a1 := hat 1 (by omega)
      have a2 := hat 2 (by omega)
      have a3 := hat 3 (by omega)
      refine ⟨e, he, ?_, ?_, ?_, ?_⟩
      · rw [addr_add, addr_add] at a0; exact a0
      · rw [addr_add, addr_add] at a1; exact a1
      · rw [addr_add, addr_add] at a2; exact a2
      · rw [addr_add, addr_add] at a3; exact a3
    obtain ⟨zs, hz1, hz2⟩ := list_of len key
    refine ⟨blk, off, cap, zs, by rw [hz1], fun i e he => (hz2 i e he).2, fun e he => ?_, hb⟩
    obtain ⟨i, hi⟩ := List.getElem?_of_mem he
    exact (hz2 i e hi).1
end Go.Proofs.YtgpifpijhimhlaaDoor

namespace Go.Proofs.YtgpifpijhimhlaaDoor.traceCounts
open Go.ChangeShapes Go.WideShapes Go.ChangeAt Go.RowKit Go.Proofs.YtgpifpijhimhlaaDoor.Ev Go.Proofs.YtgpifpijhimhlaaDoor

def db32 : List Int := [0,1,28,2,29,14,24,3,30,22,20,15,25,17,4,8,31,27,13,23,21,19,16,7,26,12,18,6,11,5,10,9]
def db64 : List Int := [0,1,56,2,57,49,28,3,61,58,42,50,38,29,17,4,62,47,59,36,45,43,51,22,53,39,33,30,24,18,12,5,63,55,48,27,60,41,37,16,46,35,44,21,52,32,23,11,54,26,40,15,34,20,31,10,25,14,19,9,13,8,7,6]
def pow10 : List Int := [1,10,100,1000,10000,100000,1000000,10000000,100000000,1000000000,10000000000,100000000000,1000000000000,10000000000000,100000000000000,1000000000000000,10000000000000000,100000000000000000,1000000000000000000,10000000000000000000]
def tabs : List (Nat × List Value) := [(3, db32.map (.int .u8)), (4, db64.map (.int .u8)), (1, pow10.map (.int .u64))]
def exts : List (Nat × Xk) := [(66, .same), (94, .makeNoZero 64), (97, .flat Extern.BytealgCount.count), (107, .flat Extern.BytealgIndex.index), (117, .flat Extern.BytealgIndexByte.indexByte)]

theorem own : ownKnob Tryd.prog.godebug = none := by kernel_rfl
theorem x66 : XkOK Tryd.prog 66 .same := ⟨Tryd.f66, Tryd.func66, by kernel_rfl, by kernel_rfl, (show Extern.find Tryd.f66 = some Extern.AbiNoEscape.same by kernel_rfl)⟩
theorem x94 : XkOK Tryd.prog 94 (.makeNoZero 64) := ⟨Tryd.f94, Tryd.func94, by kernel_rfl, by kernel_rfl, (show Extern.find Tryd.f94 = some (Extern.BytealgMakeNoZero.makeNoZero Tryd.f94.params Tryd.f94.resultTypes) by kernel_rfl), (show Tryd.f94.resultTypes[0]? = some 64 by kernel_rfl)⟩
theorem x97 : XkOK Tryd.prog 97 (.flat Extern.BytealgCount.count) := ⟨Tryd.f97, Tryd.func97, by kernel_rfl, by kernel_rfl, (show Extern.find Tryd.f97 = some Extern.BytealgCount.count by kernel_rfl)⟩
theorem x107 : XkOK Tryd.prog 107 (.flat Extern.BytealgIndex.index) := ⟨Tryd.f107, Tryd.func107, by kernel_rfl, by kernel_rfl, (show Extern.find Tryd.f107 = some Extern.BytealgIndex.index by kernel_rfl)⟩
theorem x117 : XkOK Tryd.prog 117 (.flat Extern.BytealgIndexByte.indexByte) := ⟨Tryd.f117, Tryd.func117, by kernel_rfl, by kernel_rfl, (show Extern.find Tryd.f117 = some Extern.BytealgIndexByte.indexByte by kernel_rfl)⟩
theorem goodX : Go.Proofs.YtgpifpijhimhlaaDoor.Ev.Good Tryd.prog (extOf exts) := good_of (by kernel_rfl) (by kernel_rfl) (by
  intro x hx
  simp only [exts, List.mem_cons, List.not_mem_nil, or_false] at hx
  rcases hx with rfl | rfl | rfl | rfl | rfl
  · exact x66
  · exact x94
  · exact x97
  · exact x107
  · exact x117)

set_option maxRecDepth 100000 in
theorem works0 : isT (callF Tryd.prog (glOf tabs) (extOf exts) [] 5000 100 40 (.fn 12) [] LS.start) = true := by kernel_rfl
set_option maxRecDepth 100000 in
theorem nil4 : isT (callF Tryd.prog (glOf tabs) (extOf exts) [12] 5000 100 40 (.fn 4) [.slice none 0 0] LS.start) = true := by kernel_rfl
set_option maxRecDepth 100000 in
theorem r4 (gl : Gl) (c : Nat → Int) (off len cap : Nat) : callK Tryd.prog gl (fun _ => none) (asmT c off len) 100 40 40 (.fn 4) [.slice (some ⟨900, off, none⟩) len cap] LS.start flatR =
 cond (decide ((len : Int) > 1000)) (
  some (.bool (true))) (
  cond (decide ((⟨900, off, none⟩ : Addr).off = off) && decide (len = len) && (⟨900, off, none⟩ : Addr).spot.isNone &&   decide (len ≤ 1000)) (
   cond (decide ((⟨900, off, none⟩ : Addr).off = off) && decide (len = len) && (⟨900, off, none⟩ : Addr).spot.isNone &&   decide (len ≤ 1000)) (
    cond (c 0 == c 0 &&   (c 1 == c 1 &&     (c 2 == c 2 &&       (c 3 == c 3 &&         (c 4 == c 4 &&           (c 5 == c 5 &&             (c 6 == c 6 &&               (c 7 == c 7 &&                 (c 8 == c 8 &&                   (c 9 == c 9 &&                     (c 10 == c 10 &&                       (c 11 == c 11 &&                           (c 12 == c 12 &&                             (c 13 == c 13 && (c 14 == c 14 && (c 15 == c 15 && (c 16 == c 16 && true))))) &&                         true)))))))))))) (
     some (.bool (true))) (
     some (.bool (false)))) (
    none)) (
   none)) := by kernel_rfl

theorem s4 (gl : Gl) (c : Nat → Int) (off len cap : Nat) : callK Tryd.prog gl (fun _ => none) (asmT c off len) 100 40 40 (.fn 4) [.slice (some ⟨900, off, none⟩) len cap] LS.start flatR = some (.bool true) := by
  rw [r4]
  by_cases h : len ≤ 1000
  · have h2 : ¬ (len : Int) > 1000 := by omega
    simp [h, h2]
  · have h2 : (len : Int) > 1000 := by omega
    simp [h2]

theorem g3 : Tryd.prog.globalNamed "math/bits.deBruijn32tab" = some 3 := by kernel_rfl
theorem g4 : Tryd.prog.globalNamed "math/bits.deBruijn64tab" = some 4 := by kernel_rfl
theorem g1 : Tryd.prog.globalNamed "internal/strconv.uint64pow10" = some 1 := by kernel_rfl
theorem t3 : (Tryd.prog.globals[3]?).map (·.type) = some 165 := by kernel_rfl
theorem t4 : (Tryd.prog.globals[4]?).map (·.type) = some 166 := by kernel_rfl
theorem t1 : (Tryd.prog.globals[1]?).map (·.type) = some 148 := by kernel_rfl
theorem noHandle : (Rows.traceCountsRow.laid.filter fun x => x.2.handleName?.isSome) = [] := by kernel_rfl
theorem laidOf {W : World} (h : laidMetH Tryd.prog Rows.traceCountsRow.laid W) : laidMet Tryd.prog Rows.traceCountsRow.laid W := by
  unfold laidMetH at h
  rw [noHandle] at h
  exact h

theorem rel0 (W : World) (hL : laidMetH Tryd.prog Rows.traceCountsRow.laid W) (hs : W.ShapedOpen Tryd.prog) : Rel Tryd.prog (glOf tabs) (phi0 Tryd.prog.globals.size []) LS.start W := by
  have hL2 := laidOf hL
  have hn : Tryd.prog.globals.size ≤ 900 := of_decide_eq_true (by kernel_rfl)
  have k3 : TabOK Tryd.prog (phi0 Tryd.prog.globals.size []) W (3, db32.map (.int .u8)) :=
    tab_ok (name := "math/bits.deBruijn32tab") (zs := db32) hL2 (.head _) g3 t3 Tryd.underlying165 Tryd.underlying5 (by kernel_rfl) (by kernel_rfl)
  have k4 : TabOK Tryd.prog (phi0 Tryd.prog.globals.size []) W (4, db64.map (.int .u8)) :=
    tab_ok (name := "math/bits.deBruijn64tab") (zs := db64) hL2 (.tail _ (.head _)) g4 t4 Tryd.underlying166 Tryd.underlying5 (by kernel_rfl) (by kernel_rfl)
  have k1 : TabOK Tryd.prog (phi0 Tryd.prog.globals.size []) W (1, pow10.map (.int .u64)) :=
    tab_ok (name := "internal/strconv.uint64pow10") (zs := pow10) hL2 (.tail _ (.tail _ (.head _))) g1 t1 Tryd.underlying148 Tryd.underlying91 (by kernel_rfl) (by kernel_rfl)
  refine rel_start (bs := []) hn (by simp) (fun b hb => ?_) (shaped_size hs (by kernel_rfl)) (glOf_ok ?_)
  · cases hb
  intro x hx
  simp only [tabs, List.mem_cons, List.not_mem_nil, or_false] at hx
  rcases hx with rfl | rfl | rfl
  · exact k3
  · exact k4
  · exact k1


theorem low4 : ∀ g k v, glOf tabs g k = some v → g < 1000 ∧ lowV 8 v = true := lowTabs (l := tabs) (by kernel_rfl)
theorem flatTabs : ∀ {l : List (Nat × List Value)}, (l.all fun x => Nat.ble (x.1 + 1) 900 && x.2.all (af 8)) = true → ∀ g k v, glOf l g k = some v → g < 900 ∧ af 8 v = true
  | [], _, g, k, v, h => by cases h
  | (g', vs) :: r, hl, g, k, v, h => by
    simp only [List.all_cons, Bool.and_eq_true] at hl
    simp only [glOf] at h
    rw [Bool.cond_eq_ite] at h
    split at h
    · rename_i e
      rw [Nat.eq_of_beq_eq_true e]
      exact ⟨Nat.le_of_ble_eq_true hl.1.1, List.all_eq_true.1 hl.1.2 v (List.mem_of_getElem? h)⟩
    · exact flatTabs hl.2 g k v h
theorem memo12 {gl : Gl} (hgl : ∀ g k v, gl g k = some v → g < 1000 ∧ lowV 8 v = true) (h : isT (callF Tryd.prog gl (extOf exts) [] 5000 100 40 (.fn 12) [] LS.start) = true) : MemoOK Tryd.prog gl 12 :=
  memoM_ok goodX hgl tglob (fun f hf => by cases hf) h
theorem memo12E (zs : List EvT) (off : Nat) : MemoOK Tryd.prog (glE (glOf tabs) zs off) 12 := fun φ σ w hr => by
  refine memo12 low4 works0 φ.low LS.start w ?_
  refine (hr.low (glE_low low4) tglob).gl_mono fun g k v h => ?_
  have hne : g ≠ 900 := fun e => by
    have := (flatTabs (l := tabs) (by kernel_rfl) g k v h).1
    omega
  unfold glE
  rw [show Nat.beq g 900 = false from Bool.eq_false_iff.2 fun e => hne (Nat.eq_of_beq_eq_true e)]
  exact h
theorem walk_nil (W : World) (hL : laidMetH Tryd.prog Rows.traceCountsRow.laid W) (hs : W.ShapedOpen Tryd.prog) : Calls Tryd.prog 4 #[.slice none 0 0] W (fun e W' => e = .returned (.bool true) ∧ Below W.heap.size W W') :=
  callM_true (args := [.slice none 0 0]) goodX (fun f hf => by
    simp only [List.mem_cons, List.not_mem_nil, or_false] at hf
    subst hf
    exact memo12 low4 works0) (rel0 W hL hs) rfl (isT_M nil4)
theorem walk (zs : List EvT) (hz : ∀ e ∈ zs, e.wf) (blk off cap : Nat) (W : World) (hc : EvsAt W blk off zs) (hb : blk < W.heap.size) (hL : laidMetH Tryd.prog Rows.traceCountsRow.laid W) (hs : W.ShapedOpen Tryd.prog) :
    Calls Tryd.prog 4 #[.slice (some ⟨blk, off, none⟩) zs.length cap] W (fun e W' => e = .returned (.bool true) ∧ Below W.heap.size W W') := by
  obtain ⟨φ, hr, h9⟩ := rel_slice (flatTabs (l := tabs) (by kernel_rfl)) ⟨_, rel0 W hL hs⟩ hc hb
  exact flatKR goodT (asmT_ok hz low4 (memo12E zs off)) hr (slice_LR h9) (s4 _ _ off zs.length cap)

theorem reads (os : Os) {H : Type} (enc : TypeId × Value → H) : ∃ places, DataW.whole enc Tryd.prog ((World.laidAll Tryd.prog os Rows.traceCountsRow.laid).forCall (fun _ _ => 0) ⟨#[], #[.slice none 0 0], []⟩).memory Tryd.f4.params.toList Rows.traceCountsSpec.vars false (#[.slice none 0 0] : Array Value).toList 8 = some ([.nil], [], places) :=
  ⟨[], by kernel_rfl⟩

set_option maxRecDepth 100000 in
theorem lifted (os : Os) (started : os.Started) (H : Type) (enc : TypeId × Value → H) (F : Stop.Interp) :
    ReturnsInHanded {} Tryd.checked os 4 .any ((OpenSpec.ofChange Rows.traceCountsSpec).preRow enc Tryd.prog Tryd.f4 Rows.traceCountsRow.domain false Rows.traceCountsRow.laid) (((OpenSpec.ofChange Rows.traceCountsSpec).at F).post enc Tryd.prog Tryd.f4 false true false false) := by
  obtain ⟨places, hx⟩ := reads os enc
  refine returnsInHanded_of_row (C := Tryd.checked) (s := OpenSpec.ofChange Rows.traceCountsSpec) own started (by kernel_rfl) Tryd.func4
    (witness_row_atRef (enc := enc) (C := Tryd.checked) false (World.laidAll Tryd.prog os Rows.traceCountsRow.laid) #[.slice none 0 0] (World.laidAll_os _ _ _) (by kernel_rfl) (by kernel_rfl) (by kernel_rfl)
      (OpenSpec.preRow_of_cond 8 hx (by kernel_rfl) (fun k hk => by cases hk) (by kernel_rfl) (laidMet_laidAll #[.slice none 0 0] (by kernel_rfl) (by kernel_rfl)))) ?_
  intro W base args ds gs before hval hW _ _ _ hL hsh _
  have hp : Tryd.f4.params = #[29] := by kernel_rfl
  obtain ⟨v, d, pl, rfl, rfl, ht⟩ : ∃ v d pl, args = #[v] ∧ ds = [d] ∧ DataW.Trod enc Tryd.prog W 0 (fun _ => true) true 29 v d pl := by
    obtain ⟨p, q, hA, _⟩ := id hW
    rw [hp] at hA
    obtain ⟨v, vs, d, ds', p1, q1, e1, rfl, e3, h1, h2⟩ := trodAll_cons hA
    obtain ⟨rfl, rfl, _⟩ := trodAll_nil h2
    exact ⟨v, d, p1, Array.ext' e1, rfl, h1⟩
  have hok : Value.okWide Tryd.prog W .any base 29 v := hval 0 29 v (by rw [hp]; rfl) rfl
  rcases open_events hok ht with rfl | ⟨blk, off, cap, zs, rfl, hc, hz, hb⟩
  · refine (walk_nil W hL hsh).mono fun e W' ⟨he, hB⟩ => ?_
    subst he
    exact ⟨_, rfl, post_trueN (t := 4) (m := 4) (by kernel_rfl) (by kernel_rfl) rfl Tryd.underlying4 rfl hW hB⟩
  · refine (walk zs hz blk off cap W hc hb hL hsh).mono fun e W' ⟨he, hB⟩ => ?_
    subst he
    exact ⟨_, rfl, post_trueN (t := 4) (m := 4) (by kernel_rfl) (by kernel_rfl) rfl Tryd.underlying4 rfl hW hB⟩

theorem andT {a b : Bool} (h : a = true) (k : b = true) : (a && b) = true := by rw [h, k]; rfl
set_option maxRecDepth 100000 in
set_option maxHeartbeats 0 in
theorem closed : joinedFacts Tryd.pinned.checked.prog 4 Tryd.f4 (OpenSpec.ofChange Rows.traceCountsSpec).bare Rows.traceCountsRow = true := by
  unfold joinedFacts
  repeat' (with_reducible refine andT ?_ ?_)
  all_goals as_aux_lemma => kernel_rfl

theorem said : Rows.TraceCountsSaid :=
  OpenClaim.holds_of_cond 4 Tryd.f4 rfl rfl rfl rfl rfl rfl rfl ⟨rfl, rfl, rfl, rfl, rfl⟩ rfl rfl rfl rfl rfl (by kernel_rfl) Tryd.func4 closed
    (of_decide_eq_true (by kernel_rfl)) (by unfold Func.isWrapper; first | (rw [if_pos (by decide +kernel)]; kernel_rfl) | (rw [if_neg (by decide +kernel)]; exact ⟨rfl, rfl⟩))
    (fun os started H enc _ F => by rw [OpenClaim.pre_eq_preRow]; exact lifted os started H enc F)

theorem plain (f : FuncId) (fn : Func) (hf : Tryd.pinned.checked.prog.funcNamed "undertow/undertowlaw26.TraceCounts" = some f) (hfn : Tryd.pinned.checked.prog.funcs[f]? = some fn) :
    true = Tryd.pinned.checked.prog.looks [] ∧ ∀ (j : Nat) t, fn.params[j]? = some t → Tryd.pinned.checked.prog.wantsStandIn t = false := by
  obtain rfl : f = 4 := Option.some.inj ((show Tryd.prog.funcNamed "undertow/undertowlaw26.TraceCounts" = some 4 by kernel_rfl).symm.trans hf) |>.symm
  obtain rfl : fn = Tryd.f4 := (Option.some.inj (Tryd.func4.symm.trans hfn)).symm
  refine ⟨by kernel_rfl, fun j t ht => ?_⟩
  rw [show Tryd.f4.params = #[29] from by kernel_rfl] at ht
  cases j with
  | zero => cases ht; kernel_rfl
  | succ j => simp at ht

theorem card : Rows.TraceCountsCardSaid :=
  Claim7.holds_tied_plain_at .later [] _ _ _ _ said (fun _ h => by cases h) (by kernel_rfl) (fun _ h => by cases h) traceCounts_row_tie rfl ⟨rfl, rfl⟩ (by kernel_rfl) rfl plain (by kernel_rfl)
end Go.Proofs.YtgpifpijhimhlaaDoor.traceCounts
namespace Go.Proofs.YtgpifpijhimhlaaDoor
theorem traceCounts_card_holds : Rows.TraceCountsCardSaid := traceCounts.card
end Go.Proofs.YtgpifpijhimhlaaDoor
