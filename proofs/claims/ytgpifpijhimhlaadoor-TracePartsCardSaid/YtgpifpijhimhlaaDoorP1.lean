/- slices.Concat of two rows of events, trace.Add of two counts, and two counts compared, answer what they should, wherever the events lie. Rows of at most five hundred. -/
import Derived.Test.YtgpifpijhimhlaaDoorT3
import Derived.Laws.AppendOwn
import Derived.Test.YtgpifpijhimhlaaDoorShelf
import Derived.OwnWalk
import Derived.Deep.RegionWith
import Derived.Deep.Cut
import Derived.Deep.RegionHeld3
noncomputable section
namespace Go.Proofs.YtgpifpijhimhlaaDoor
open Go.ChangeShapes Go.WideShapes Go.ChangeAt Go.RowKit Go.Proofs.YtgpifpijhimhlaaDoor.Ev

/-- A row of events, nil or not. -/
def SArg (w : World) (aa : Option Addr) (c : Nat) (zs : List EvT) : Prop := (aa = none ∧ c = 0 ∧ zs = []) ∨ ∃ blk off, aa = some ⟨blk, off, none⟩ ∧ EvsAt w blk off zs ∧ blk < w.heap.size
theorem EvsAt.mono {w w' : World} {blk off : Nat} {zs : List EvT} (h : EvsAt w blk off zs) (hk : blk < w.heap.size) (hb : Below w.heap.size w w') : EvsAt w' blk off zs := fun i e he => by
  have c : ∀ o, w'.cell? ⟨blk, o, none⟩ = w.cell? ⟨blk, o, none⟩ := fun o => World.cell?_of_block (hb.block blk hk)
  rw [c, c, c, c]; exact h i e he
theorem SArg.mono {w w' : World} {aa : Option Addr} {c : Nat} {zs : List EvT} (h : SArg w aa c zs) (hb : Below w.heap.size w w') : SArg w' aa c zs := by
  rcases h with h | ⟨blk, off, h1, h2, h3⟩
  · exact .inl h
  · exact .inr ⟨blk, off, h1, h2.mono h3 hb, Nat.lt_of_lt_of_le h3 hb.size⟩
set_option maxRecDepth 100000 in
theorem nil13 : isFlat (aggC fun _ => 0) (callF Tryd.prog gl0 (fun _ => none) [] 5000 100 40 (.fn 13) [.slice none 0 0] LS.start) = true := by kernel_rfl
theorem count_any {w : World} {aa : Option Addr} {c : Nat} {zs : List EvT} (h : SArg w aa c zs) (hz : ∀ e ∈ zs, e.wf) (hl : zs.length ≤ 1000) (hw : Ready Tryd.prog gl0 w) :
    Calls Tryd.prog 13 #[.slice aa zs.length c] w (fun e w' => e = .returned (.agg (cntA zs)) ∧ Below w.heap.size w w') := by
  rcases h with ⟨rfl, rfl, rfl⟩ | ⟨blk, off, rfl, h2, h3⟩
  · exact flat_ok goodT (fun f hf => by cases hf) (args := [.slice none 0 0]) rfl nil13 hw
  · exact count_walk zs blk off c w h2 hz h3 hl hw
/-! Add. -/
theorem cnt_append (j : Nat) (a b : List EvT) : cnt j (a ++ b) = cnt j a + cnt j b := by unfold cnt; exact List.countP_append
end Go.Proofs.YtgpifpijhimhlaaDoor

namespace Go.Proofs.YtgpifpijhimhlaaDoor
open Go.ChangeShapes Go.WideShapes Go.ChangeAt Go.RowKit Go.Proofs.YtgpifpijhimhlaaDoor.Ev

theorem info39 : ∃ i0, Tryd.prog.info? 39 = some i0 ∧ i0.zero = some (.agg #[.int .u8 0, .int .i64 0, .int .i64 0, .int .u32 0]) ∧ i0.size = 4 ∧ i0.bytes = 32 := by
  have h : (Tryd.prog.info? 39).map (fun i => (i.zero, i.size, i.bytes)) = some (some (.agg #[.int .u8 0, .int .i64 0, .int .i64 0, .int .u32 0]), 4, 32) := by kernel_rfl
  obtain ⟨i0, h1, h2⟩ := Option.map_eq_some_iff.1 h
  simp only [Prod.mk.injEq] at h2
  exact ⟨i0, h1, h2.1, h2.2.1, h2.2.2⟩
theorem below_drew (w : World) (o : Obj) : Below w.heap.size w (w.drew.alloc o) :=
  (show Below w.heap.size w w.drew from ⟨rfl, rfl, rfl, Nat.le_refl _, fun _ _ => rfl⟩).alloc (Nat.le_refl _) o
/-- slices.Grow of the nil row. -/
theorem grow_new (n : Nat) (h : 1 ≤ n) (hn : n ≤ 1000) (w : World) : Calls Tryd.prog 34 #[.slice none 0 0, .int .i64 (n : Int)] w (fun e w' => ∃ C, n ≤ C ∧ e = .returned (.slice (some ⟨w.heap.size, 0, none⟩) 0 C) ∧
    w'.ownsRow w.heap.size 39 4 (.slice (some ⟨w.heap.size, 0, none⟩) 0 C) 0 [] ∧ Below w.heap.size w w' ∧ w.heap.size < w'.heap.size) := by
  obtain ⟨i0, h1, h2, h3, h4⟩ := info39
  refine Calls.mono (Any8.slices_Grow_grow Tryd.growE i0 _ h1 h2 (by omega) none 0 0 n [] w (Nat.le_refl _) (by omega) (by rw [h4]; omega) (by omega) (by simp) (fun _ => rfl) (fun a ha => by cases ha)) ?_
  rintro e w' ⟨rfl, rfl⟩
  have e39 : Tryd.growE_ren.t 25 = 39 := rfl
  have hge := grownCap_ge w (0 + n) 0 39
  have hle := grownCap_le_maxLen w (0 + n) 0 39 (by unfold maxLen; omega)
  rw [e39]
  refine ⟨_, by omega, rfl, ?_, below_drew w _, by simp⟩
  refine World.ownsRow_made w.drew _ _ (Nat.le_refl _) hle ?_
  simp only [Array.size_append, size_zeroCells, List.size_toArray, List.length_nil]
  have hz : (Value.cells (.agg #[.int .u8 0, .int .i64 0, .int .i64 0, .int .u32 0])).size = 4 := rfl
  rw [hz]
  omega
end Go.Proofs.YtgpifpijhimhlaaDoor

namespace Go.Proofs.YtgpifpijhimhlaaDoor
open Go.ChangeShapes Go.WideShapes Go.ChangeAt Go.RowKit Go.Proofs.YtgpifpijhimhlaaDoor.Ev

set_option maxRecDepth 100000 in
set_option maxHeartbeats 0 in
theorem concat_walk (w : World) (S : Nat) (aa ab : Option Addr) (la lb ca cb : Nat) (h0 : w.cell? ⟨S, 0, none⟩ = some (.slice aa la ca)) (h1 : w.cell? ⟨S, 1, none⟩ = some (.slice ab lb cb)) (hS : S < w.heap.size) (hla : la ≤ 500) (hlb : lb ≤ 500) (hpos : 1 ≤ la + lb)
    (na nb : List Value) (hna : na.length = la * 4) (hnb : nb.length = lb * 4) (n0 : aa = none → la = 0 ∧ ca = 0) (n1 : ab = none → lb = 0 ∧ cb = 0)
    (k0 : ∀ w', Below w.heap.size w w' → ∀ ad, aa = some ad → ∀ j u, na[j]? = some u → w'.cell? (ad.add j) = some u) (k1 : ∀ w', Below w.heap.size w w' → ∀ ad, ab = some ad → ∀ j u, nb[j]? = some u → w'.cell? (ad.add j) = some u)
    (o0 : ∀ u ∈ na, u.oneCell' = true) (o1 : ∀ u ∈ nb, u.oneCell' = true) :
    Calls Tryd.prog 15 #[.slice (some ⟨S, 0, none⟩) 2 2] w fun e w' => ∃ R C, e = .returned (.slice (some ⟨R, 0, none⟩) (la + lb) C) ∧ w'.ownsRow w.heap.size 39 4 (.slice (some ⟨R, 0, none⟩) (la + lb) C) (la + lb) (na ++ nb) ∧ Below w.heap.size w w' := by
  obtain ⟨i0, hi0, _, hi2, _⟩ := info39
  obtain ⟨B, hB⟩ : ∃ B, w.heap.size = B := ⟨_, rfl⟩
  rw [hB] at hS k0 k1
  rw [hB]
  have hg := grow_new (la + lb) hpos (by omega)
  have hcast : ((la + lb : Nat) : Int) = (la : Int) + (lb : Int) := by omega
  rw [hcast] at hg
  go_enter Tryd.func15, Tryd.ntmps15
  go_wp2
  go_loopw [3, 11] (fun s i wr => wr = w ∧ ((i = .int .i64 0 ∧ s = .int .i64 0) ∨ (i = .int .i64 1 ∧ s = .int .i64 (la : Int)) ∨ (i = .int .i64 2 ∧ s = .int .i64 ((la : Int) + lb)))) (fun _ i _ => 2 - (intOf i).toNat)
  case atStart => exact ⟨rfl, .inl ⟨rfl, rfl⟩⟩
  case round =>
    obtain ⟨hww, hrel⟩ := hrel
    have hww2 := hww.symm
    clear hww
    subst hww2
    rcases hrel with ⟨rfl, rfl⟩ | ⟨rfl, rfl⟩ | ⟨rfl, rfl⟩
    · clear hg k0 k1 o0 o1
      go_wp2
      go_roundw
      case rel => simp
      case measure => simp [intOf]
    · clear hg k0 k1 o0 o1
      go_wp2
      go_roundw
      case rel => simp
      case measure => simp [intOf]
    · go_wp2_with fail
      refine (hg w).mono ?_
      rintro e w1 ⟨C, hC, rfl, hown, hb1, hsz⟩
      rw [hB] at hown hb1 hsz
      clear hg
      go_wp2
      go_loopw [6, 27] (fun v i wr => Below B w wr ∧ ((i = .int .i64 0 ∧ v = .slice (some ⟨B, 0, none⟩) 0 C ∧ wr.ownsRow B 39 4 (.slice (some ⟨B, 0, none⟩) 0 C) 0 []) ∨ (i = .int .i64 1 ∧ v = .slice (some ⟨B, 0, none⟩) la C ∧ wr.ownsRow B 39 4 (.slice (some ⟨B, 0, none⟩) la C) la na) ∨
        (i = .int .i64 2 ∧ v = .slice (some ⟨B, 0, none⟩) (la + lb) C ∧ wr.ownsRow B 39 4 (.slice (some ⟨B, 0, none⟩) (la + lb) C) (la + lb) (na ++ nb)))) (fun _ i _ => 2 - (intOf i).toNat)
      case atStart => exact ⟨hb1, .inl ⟨rfl, rfl, hown⟩⟩
      case round =>
        obtain ⟨hb2, hrel⟩ := hrel
        have c0 : wr.cell? ⟨S, 0, none⟩ = some (.slice aa la ca) := (World.cell?_of_block (hb2.block S hS)).trans h0
        have c1 : wr.cell? ⟨S, 1, none⟩ = some (.slice ab lb cb) := (World.cell?_of_block (hb2.block S hS)).trans h1
        have kk0 := k0 wr hb2
        have kk1 := k1 wr hb2
        have hszr : B ≤ wr.heap.size := by have := hb2.size; omega
        clear k0 k1 hown hb1 h0 h1
        rcases hrel with ⟨rfl, rfl, hown⟩ | ⟨rfl, rfl, hown⟩ | ⟨rfl, rfl, hown⟩
        · go_wp2_with (first
            | (at_builtin; refine wpList_append_fits_any _ rfl _ _ 29 rfl B 39 i0 4 Tryd.underlying29 hi0 hi2 B 0 C [] rfl hown aa la ca na rfl hna n0 kk0 o0 (by omega) ?_)
            | go_in)
          intro w2 hown2 hgrow
          have hb3 : Below B w w2 := hb2.grown hgrow hszr (fun k hk => by cases hk; exact Nat.le_refl _)
          clear hgrow hown c0 c1 kk0 kk1 hb2
          go_wp2
          go_roundw
          case rel => exact ⟨hb3, .inr (.inl ⟨rfl, rfl, hown2⟩)⟩
          case measure => simp [intOf]
        · go_wp2_with (first
            | (at_builtin; refine wpList_append_fits_any _ rfl _ _ 29 rfl B 39 i0 4 Tryd.underlying29 hi0 hi2 B la C na rfl hown ab lb cb nb rfl hnb n1 kk1 o1 (by omega) ?_)
            | go_in)
          intro w2 hown2 hgrow
          have hb3 : Below B w w2 := hb2.grown hgrow hszr (fun k hk => by cases hk; exact Nat.le_refl _)
          clear hgrow hown c0 c1 kk0 kk1 hb2
          go_wp2
          go_roundw
          case rel => exact ⟨hb3, .inr (.inr ⟨rfl, rfl, hown2⟩)⟩
          case measure => simp [intOf]
        · go_wp2
          go_ret
          exact ⟨B, C, rfl, hown, hb2⟩
end Go.Proofs.YtgpifpijhimhlaaDoor

namespace Go.Proofs.YtgpifpijhimhlaaDoor
open Go.ChangeShapes Go.WideShapes Go.ChangeAt Go.RowKit Go.Proofs.YtgpifpijhimhlaaDoor.Ev

theorem grow_none (w : World) : Calls Tryd.prog 34 #[.slice none 0 0, .int .i64 0] w (fun e w' => e = .returned (.slice none 0 0) ∧ w' = w) :=
  Any8.slices_Grow_room Tryd.growE none 0 0 0 w (Nat.le_refl _) (by omega) (by omega) (by omega)

theorem append_none (w : World) {ops : Array Oper} {rest : List Oper} {o : Oper} {a : Act} {Q : Exit → Act → World → Prop} (hg : o.guard = none) (s x : Operand)
    (hop : o.op = Op.call { callee := Callee.builtin Builtin.append, args := #[s, x], argTypes := #[29, 29] }) (hs : a.eval s = .slice none 0 0) (ao : Option Addr) (c : Nat) (hx : a.eval x = .slice ao 0 c)
    (hK : wpList Tryd.prog ops Q rest (a.put o.dst (.slice none 0 0)) w) : wpList Tryd.prog ops Q (o :: rest) a w := by
  obtain ⟨i0, hi0, hi1, hi2, hi3⟩ := info39
  refine wpList_plain hg fun K hK' => ?_
  have hrun : (Builtin.append_ #[29, 29] o.type #[.slice none 0 0, .slice ao 0 c]).run Tryd.prog w = .ok (.slice none 0 0) w := by
    cases ao <;> simp [Builtin.append_, run_underlying Tryd.underlying29, Go.sizeOf, typeInfo, hi0, hi2, Builtin.lenOf, Builtin.firstCells, loadCells, loadCellsFrom]
  unfold Oper.wp
  simp [execOp, hop, resolve, invoke, builtin, hs, hx, hrun, Result.andThen]
  exact hK' _ _ hK

set_option maxRecDepth 100000 in
set_option maxHeartbeats 0 in
theorem concat_zero (w : World) (S : Nat) (aa ab : Option Addr) (ca cb : Nat) (h0 : w.cell? ⟨S, 0, none⟩ = some (.slice aa 0 ca)) (h1 : w.cell? ⟨S, 1, none⟩ = some (.slice ab 0 cb)) :
    Calls Tryd.prog 15 #[.slice (some ⟨S, 0, none⟩) 2 2] w fun e w' => e = .returned (.slice none 0 0) ∧ w' = w := by
  have hg := grow_none w
  go_enter Tryd.func15, Tryd.ntmps15
  go_wp2
  go_loopw [3, 11] (fun s i wr => wr = w ∧ s = .int .i64 0 ∧ (i = .int .i64 0 ∨ i = .int .i64 1 ∨ i = .int .i64 2)) (fun _ i _ => 2 - (intOf i).toNat)
  case atStart => exact ⟨rfl, rfl, .inl rfl⟩
  case round =>
    obtain ⟨hww, rfl, hrel⟩ := hrel
    have hww2 := hww.symm
    clear hww
    subst hww2
    rcases hrel with rfl | rfl | rfl
    · clear hg
      go_wp2
      go_roundw
      case rel => simp
      case measure => simp [intOf]
    · clear hg
      go_wp2
      go_roundw
      case rel => simp
      case measure => simp [intOf]
    · go_wp2_with fail
      refine hg.mono ?_
      rintro e w1 ⟨rfl, rfl⟩
      clear hg
      go_wp2
      go_loopw [6, 27] (fun v i wr => wr = w1 ∧ v = .slice none 0 0 ∧ (i = .int .i64 0 ∨ i = .int .i64 1 ∨ i = .int .i64 2)) (fun _ i _ => 2 - (intOf i).toNat)
      case atStart => exact ⟨rfl, rfl, .inl rfl⟩
      case round =>
        obtain ⟨hww, rfl, hrel⟩ := hrel
        have hww2 := hww.symm
        clear hww
        subst hww2
        rcases hrel with rfl | rfl | rfl
        · go_wp2_with (first | (at_builtin; refine append_none w1 rfl _ _ rfl rfl aa ca rfl ?_) | go_in)
          go_wp2
          go_roundw
          case rel => simp
          case measure => simp [intOf]
        · go_wp2_with (first | (at_builtin; refine append_none w1 rfl _ _ rfl rfl ab cb rfl ?_) | go_in)
          go_wp2
          go_roundw
          case rel => simp
          case measure => simp [intOf]
        · go_wp2
          go_ret
          exact ⟨rfl, rfl⟩
end Go.Proofs.YtgpifpijhimhlaaDoor

namespace Go.Proofs.YtgpifpijhimhlaaDoor
open Go.ChangeShapes Go.WideShapes Go.ChangeAt Go.RowKit Go.Proofs.YtgpifpijhimhlaaDoor.Ev

def evL (zs : List EvT) : List Value := zs.flatMap fun e => [.int .u8 e.k, .int .i64 e.r, .int .i64 e.n, .int .u32 e.c]
theorem evL_length : ∀ zs : List EvT, (evL zs).length = zs.length * 4
  | [] => rfl
  | e :: zs => by
    have := evL_length zs
    unfold evL at this ⊢
    rw [List.flatMap_cons, List.length_append, this, List.length_cons]
    simp only [List.length_cons, List.length_nil]
    omega
theorem evL_get : ∀ (zs : List EvT) (j : Nat), (evL zs)[j]? = evCells zs j
  | [], j => by simp [evL, evCells]
  | e :: zs, j => by
    have ih := evL_get zs
    show ([.int .u8 e.k, .int .i64 e.r, .int .i64 e.n, .int .u32 e.c] ++ evL zs)[j]? = _
    rcases Nat.lt_or_ge j 4 with h | h
    · rw [List.getElem?_append_left (by simpa using h)]
      rcases (by omega : j = 0 ∨ j = 1 ∨ j = 2 ∨ j = 3) with rfl | rfl | rfl | rfl <;> rfl
    · rw [List.getElem?_append_right (by simpa using h)]
      show (evL zs)[j - 4]? = _
      rw [ih]
      unfold evCells
      rw [show j / 4 = (j - 4) / 4 + 1 from by omega, show j % 4 = (j - 4) % 4 from by omega]
      rfl
theorem evL_oneCell (zs : List EvT) : ∀ u ∈ evL zs, u.oneCell' = true := by
  intro u hu
  unfold evL at hu
  obtain ⟨e, _, h⟩ := List.mem_flatMap.1 hu
  simp only [List.mem_cons, List.not_mem_nil, or_false] at h
  rcases h with rfl | rfl | rfl | rfl <;> rfl
theorem EvsAt.cells {w : World} {blk off : Nat} {zs : List EvT} (h : EvsAt w blk off zs) : ∀ j u, (evL zs)[j]? = some u → w.cell? ((⟨blk, off, none⟩ : Addr).add j) = some u := by
  intro j u hj
  rw [evL_get] at hj
  obtain ⟨e, h1, h2⟩ := Option.bind_eq_some_iff.1 hj
  obtain ⟨c0, c1, c2, c3⟩ := h _ e h1
  rw [addr_add]
  have hm : j % 4 < 4 := Nat.mod_lt _ (by decide)
  have hk : off + j = off + j / 4 * 4 + j % 4 := by omega
  rcases (by omega : j % 4 = 0 ∨ j % 4 = 1 ∨ j % 4 = 2 ∨ j % 4 = 3) with q | q | q | q <;> rw [q] at h2 hk <;> cases h2 <;> rw [hk]
  · exact c0
  · exact c1
  · exact c2
  · exact c3
theorem EvsAt.of_cells {w : World} {blk off : Nat} {zs : List EvT} (h : ∀ j u, (evL zs)[j]? = some u → w.cell? ((⟨blk, off, none⟩ : Addr).add j) = some u) : EvsAt w blk off zs := by
  intro i e he
  have key : ∀ o v, o < 4 → evCell e o = some v → w.cell? ⟨blk, off + (i * 4 + o), none⟩ = some v := by
    intro o v ho hv
    have := h (i * 4 + o) v (by
      rw [evL_get]
      unfold evCells
      rw [show (i * 4 + o) / 4 = i from by omega, show (i * 4 + o) % 4 = o from by omega, he]
      exact hv)
    rw [addr_add] at this
    exact this
  exact ⟨key 0 _ (by omega) rfl, key 1 _ (by omega) rfl, key 2 _ (by omega) rfl, key 3 _ (by omega) rfl⟩

/-- slices.Concat of two rows of events. -/
theorem concat_any (w : World) (S : Nat) (aa ab : Option Addr) (ca cb : Nat) (za zb : List EvT) (h0 : w.cell? ⟨S, 0, none⟩ = some (.slice aa za.length ca)) (h1 : w.cell? ⟨S, 1, none⟩ = some (.slice ab zb.length cb)) (hS : S < w.heap.size)
    (sa : SArg w aa ca za) (sb : SArg w ab cb zb) (ha : za.length ≤ 500) (hb : zb.length ≤ 500) :
    Calls Tryd.prog 15 #[.slice (some ⟨S, 0, none⟩) 2 2] w fun e w' => ∃ ao C, e = .returned (.slice ao (za ++ zb).length C) ∧ SArg w' ao C (za ++ zb) ∧ Below w.heap.size w w' := by
  rcases Nat.eq_zero_or_pos (za.length + zb.length) with hz | hz
  · have e1 : za = [] := List.length_eq_zero_iff.1 (by omega)
    have e2 : zb = [] := List.length_eq_zero_iff.1 (by omega)
    subst e1; subst e2
    refine (concat_zero w S aa ab ca cb h0 h1).mono ?_
    rintro e w' ⟨rfl, rfl⟩
    exact ⟨none, 0, rfl, .inl ⟨rfl, rfl, rfl⟩, Below.refl _ _⟩
  · have nn : ∀ {x : Option Addr} {c : Nat} {zs : List EvT}, SArg w x c zs → x = none → zs.length = 0 ∧ c = 0 := by
      intro x c zs h hx
      rcases h with ⟨_, h2, h3⟩ | ⟨blk, off, h2, _⟩
      · exact ⟨by rw [h3]; rfl, h2⟩
      · rw [hx] at h2; cases h2
    have kk : ∀ {x : Option Addr} {c : Nat} {zs : List EvT}, SArg w x c zs → ∀ w', Below w.heap.size w w' → ∀ ad, x = some ad → ∀ j u, (evL zs)[j]? = some u → w'.cell? (ad.add j) = some u := by
      intro x c zs h w' hbw ad hx
      rcases h.mono hbw with ⟨h1, _⟩ | ⟨blk, off, h1, h2, _⟩
      · rw [hx] at h1; cases h1
      · rw [hx] at h1; cases h1
        exact h2.cells
    refine (concat_walk w S aa ab za.length zb.length ca cb h0 h1 hS ha hb hz (evL za) (evL zb) (evL_length za) (evL_length zb) (nn sa) (nn sb) (kk sa) (kk sb) (evL_oneCell za) (evL_oneCell zb)).mono ?_
    rintro e w' ⟨R, C, rfl, hown, hbw⟩
    refine ⟨some ⟨R, 0, none⟩, C, by rw [List.length_append], .inr ⟨R, 0, rfl, EvsAt.of_cells ?_, (hown.lt R rfl).2⟩, hbw⟩
    have e3 : evL (za ++ zb) = evL za ++ evL zb := by unfold evL; exact List.flatMap_append
    rw [e3]
    exact hown.cells rfl
end Go.Proofs.YtgpifpijhimhlaaDoor

namespace Go.Proofs.YtgpifpijhimhlaaDoor
open Go.ChangeShapes Go.WideShapes Go.ChangeAt Go.RowKit Go.Proofs.YtgpifpijhimhlaaDoor.Ev
set_option maxRecDepth 100000 in
theorem r16 (gl : Gl) (a b : Nat → Int) : callK Tryd.prog gl (fun _ => none) noAsm 100 40 40 (.fn 16) [aggC a, aggC b] LS.start flatR =
 some (.agg #[(.int IntKind.i64 (IntKind.i64.wrap (a 0 + b 0))), (.int IntKind.i64 (IntKind.i64.wrap (a 1 + b 1))), (.int IntKind.i64 (IntKind.i64.wrap (a 2 + b 2))), (.int IntKind.i64 (IntKind.i64.wrap (a 3 + b 3))), (.int IntKind.i64 (IntKind.i64.wrap (a 4 + b 4))), (.int IntKind.i64 (IntKind.i64.wrap (a 5 + b 5))), (.int IntKind.i64 (IntKind.i64.wrap (a 6 + b 6))), (.int IntKind.i64 (IntKind.i64.wrap (a 7 + b 7))), (.int IntKind.i64 (IntKind.i64.wrap (a 8 + b 8))), (.int IntKind.i64 (IntKind.i64.wrap (a 9 + b 9))), (.int IntKind.i64 (IntKind.i64.wrap (a 10 + b 10))), (.int IntKind.i64 (IntKind.i64.wrap (a 11 + b 11))), (.int IntKind.i64 (IntKind.i64.wrap (a 12 + b 12))), (.int IntKind.i64 (IntKind.i64.wrap (a 13 + b 13))), (.int IntKind.i64 (IntKind.i64.wrap (a 14 + b 14))), (.int IntKind.i64 (IntKind.i64.wrap (a 15 + b 15))), (.int IntKind.i64 (IntKind.i64.wrap (a 16 + b 16)))]) := by kernel_rfl

theorem wrap_small (n : Int) (h : -4611686018427387904 ≤ n ∧ n ≤ 4611686018427387904) : IntKind.i64.wrap n = n := by
  simp only [IntKind.wrap, IntKind.bits, IntKind.signed]
  simp
  omega
/-- trace.Add, where no sum is too great. -/
theorem add_c (a b : Nat → Int) (h : ∀ j, -4611686018427387904 ≤ a j + b j ∧ a j + b j ≤ 4611686018427387904) {w : World} (hw : Ready Tryd.prog gl0 w) :
    Calls Tryd.prog 16 #[aggC a, aggC b] w (fun e w' => e = .returned (aggC fun j => a j + b j) ∧ Below w.heap.size w w') := by
  refine flatK goodT noAsm_ok (L := 100) (G := 40) (n := 40) (args := [aggC a, aggC b]) rfl ?_ hw
  rw [r16]
  simp only [wrap_small _ (h _)]
  rfl
theorem add_cnt (x y : List EvT) (hx : x.length ≤ 1000) (hy : y.length ≤ 1000) {w : World} (hw : Ready Tryd.prog gl0 w) :
    Calls Tryd.prog 16 #[.agg (cntA x), .agg (cntA y)] w (fun e w' => e = .returned (.agg (cntA (x ++ y))) ∧ Below w.heap.size w w') := by
  have h : ∀ j, -4611686018427387904 ≤ (cnt j x : Int) + (cnt j y : Int) ∧ (cnt j x : Int) + (cnt j y : Int) ≤ 4611686018427387904 := fun j => by
    have := cnt_le j x
    have := cnt_le j y
    omega
  have e : Value.agg (cntA (x ++ y)) = aggC fun j => (cnt j x : Int) + (cnt j y : Int) := by
    rw [aggC_cnt]
    unfold aggC
    simp only [cnt_append, Int.natCast_add]
  rw [e]
  exact add_c (fun j => (cnt j x : Int)) (fun j => (cnt j y : Int)) h hw
end Go.Proofs.YtgpifpijhimhlaaDoor

namespace Go.Proofs.YtgpifpijhimhlaaDoor
open Go.ChangeShapes Go.WideShapes Go.ChangeAt Go.RowKit Go.Proofs.YtgpifpijhimhlaaDoor.Ev

set_option maxRecDepth 100000 in
theorem req (c : Nat → Int) : (eqV Tryd.prog Op.maxDepth 32 (aggC c) (aggC c)).map Value.bool =
 some (.bool (c 0 == c 0 &&
   (c 1 == c 1 &&
     (c 2 == c 2 &&
       (c 3 == c 3 &&
         (c 4 == c 4 &&
           (c 5 == c 5 &&
             (c 6 == c 6 &&
               (c 7 == c 7 &&
                 (c 8 == c 8 &&
                   (c 9 == c 9 &&
                     (c 10 == c 10 &&
                       (c 11 == c 11 &&
                           (c 12 == c 12 &&
                             (c 13 == c 13 && (c 14 == c 14 && (c 15 == c 15 && (c 16 == c 16 && true))))) &&
                         true))))))))))))) := by kernel_rfl

theorem eq_agg (c : Nat → Int) (w : World) : (binOp BinOp.eql 32 (aggC c) (aggC c)).run Tryd.prog w = .ok (.bool true) w := by
  have h : eqV Tryd.prog Op.maxDepth 32 (aggC c) (aggC c) = some true := by
    have h1 := req c
    cases hq : eqV Tryd.prog Op.maxDepth 32 (aggC c) (aggC c) with
    | none => rw [hq] at h1; cases h1
    | some b =>
      rw [hq] at h1
      simp at h1
      rw [h1]
  have h2 := runP_sound _ (eqV_run _ h) w
  unfold aggC at h2 ⊢
  simp only [binOp, Op.equal]
  rw [Sem.run_bind, h2]
  rfl


end Go.Proofs.YtgpifpijhimhlaaDoor
