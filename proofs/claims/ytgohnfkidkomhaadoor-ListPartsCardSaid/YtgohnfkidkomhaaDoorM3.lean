/- slices.Concat of two rows of words; ListParts answers true, of any two rows of words of at most 140737488355328 each, where the listed variables stand as the program's text lays them. -/
import Derived.Test.YtgohnfkidkomhaaDoorM2
import Derived.Test.YtgohnfkidkomhaaDoorShelf
import Derived.Laws.AppendOwn
import Derived.OwnWalk
import Derived.WalkKit
import Derived.ProofKit
import Derived.Test.YtgohnfkidkomhaaDoorEv6
noncomputable section
noncomputable section
namespace Go.Proofs.YtgohnfkidkomhaaDoor
open Go.ChangeShapes Go.WideShapes Go.ChangeAt Go.RowKit Go.Proofs.YtgohnfkidkomhaaDoor.Ev

/-! slices.Concat of two rows of words. -/

theorem infoW : ∃ i0, Tryd.prog.info? 29 = some i0 ∧ i0.zero = some (.int .u32 0) ∧ i0.size = 1 ∧ i0.bytes = 4 := by
  have h : (Tryd.prog.info? 29).map (fun i => (i.zero, i.size, i.bytes)) = some (some (.int .u32 0), 1, 4) := by kernel_rfl
  obtain ⟨i0, h1, h2⟩ := Option.map_eq_some_iff.1 h
  simp only [Prod.mk.injEq] at h2
  exact ⟨i0, h1, h2.1, h2.2.1, h2.2.2⟩
theorem below_drew (w : World) (o : Obj) : Below w.heap.size w (w.drew.alloc o) :=
  (show Below w.heap.size w w.drew from ⟨rfl, rfl, rfl, Nat.le_refl _, fun _ _ => rfl⟩).alloc (Nat.le_refl _) o
/-- slices.Grow of the nil row. -/
theorem grow_new (n : Nat) (h : 1 ≤ n) (hn : n ≤ 1000) (w : World) : Calls Tryd.prog 49 #[.slice none 0 0, .int .i64 (n : Int)] w (fun e w' => ∃ C, n ≤ C ∧ e = .returned (.slice (some ⟨w.heap.size, 0, none⟩) 0 C) ∧
    w'.ownsRow w.heap.size 29 1 (.slice (some ⟨w.heap.size, 0, none⟩) 0 C) 0 [] ∧ Below w.heap.size w w' ∧ w.heap.size < w'.heap.size) := by
  obtain ⟨i0, h1, h2, h3, h4⟩ := infoW
  refine Calls.mono (Any8.slices_Grow_grow Tryd.growE i0 _ h1 h2 (by omega) none 0 0 n [] w (Nat.le_refl _) (by omega) (by rw [h4]; omega) (by omega) (by simp) (fun _ => rfl) (fun a ha => by cases ha)) ?_
  rintro e w' ⟨rfl, rfl⟩
  have e29 : Tryd.growE_ren.t 25 = 29 := rfl
  have hge := grownCap_ge w (0 + n) 0 29
  have hle := grownCap_le_maxLen w (0 + n) 0 29 (by unfold maxLen; omega)
  rw [e29]
  refine ⟨_, by omega, rfl, ?_, below_drew w _, by simp⟩
  refine World.ownsRow_made w.drew _ _ (Nat.le_refl _) hle ?_
  simp only [Array.size_append, size_zeroCells, List.size_toArray, List.length_nil]
  have hz : (Value.cells (.int .u32 0)).size = 1 := rfl
  rw [hz]
  omega

set_option maxRecDepth 100000 in
set_option maxHeartbeats 0 in
theorem concat_walk (w : World) (S : Nat) (aa ab : Option Addr) (la lb ca cb : Nat) (h0 : w.cell? ⟨S, 0, none⟩ = some (.slice aa la ca)) (h1 : w.cell? ⟨S, 1, none⟩ = some (.slice ab lb cb)) (hS : S < w.heap.size) (hla : la ≤ 1000) (hlb : lb ≤ 1000) (hsum : la + lb ≤ 1000) (hpos : 1 ≤ la + lb)
    (na nb : List Value) (hna : na.length = la * 1) (hnb : nb.length = lb * 1) (n0 : aa = none → la = 0 ∧ ca = 0) (n1 : ab = none → lb = 0 ∧ cb = 0)
    (k0 : ∀ w', Below w.heap.size w w' → ∀ ad, aa = some ad → ∀ j u, na[j]? = some u → w'.cell? (ad.add j) = some u) (k1 : ∀ w', Below w.heap.size w w' → ∀ ad, ab = some ad → ∀ j u, nb[j]? = some u → w'.cell? (ad.add j) = some u)
    (o0 : ∀ u ∈ na, u.oneCell' = true) (o1 : ∀ u ∈ nb, u.oneCell' = true) :
    Calls Tryd.prog 23 #[.slice (some ⟨S, 0, none⟩) 2 2] w fun e w' => ∃ R C, e = .returned (.slice (some ⟨R, 0, none⟩) (la + lb) C) ∧ w'.ownsRow w.heap.size 29 1 (.slice (some ⟨R, 0, none⟩) (la + lb) C) (la + lb) (na ++ nb) ∧ Below w.heap.size w w' := by
  obtain ⟨i0, hi0, _, hi2, _⟩ := infoW
  obtain ⟨B, hB⟩ : ∃ B, w.heap.size = B := ⟨_, rfl⟩
  rw [hB] at hS k0 k1
  rw [hB]
  have hg := grow_new (la + lb) hpos (by omega)
  have hcast : ((la + lb : Nat) : Int) = (la : Int) + (lb : Int) := by omega
  rw [hcast] at hg
  go_enter Tryd.func23, Tryd.ntmps23
  go_wp2
  go_loopw [3, 11] (fun s i wr => wr = w ∧ ((i = .int .i64 0 ∧ s = .int .i64 0) ∨ (i = .int .i64 1 ∧ s = .int .i64 (la : Int)) ∨ (i = .int .i64 2 ∧ s = .int .i64 ((la : Int) + lb)))) (fun _ i _ => 2 - (intOf i).toNat)
  case atStart => exact ⟨rfl, .inl ⟨rfl, rfl⟩⟩
  case round =>
    obtain ⟨hww, hrel⟩ := hrel
    have hww2 := hww.symm
    clear hww
    subst hww2
    rcases hrel with ⟨rfl, rfl⟩ | ⟨rfl, rfl⟩ | ⟨rfl, rfl⟩
    · clear hg k0 k1 o0 o1
      go_wp2
      go_roundw
      case rel => simp
      case measure => simp [intOf]
    · clear hg k0 k1 o0 o1
      go_wp2
      go_roundw
      case rel => simp
      case measure => simp [intOf]
    · go_wp2_with fail
      refine (hg w).mono ?_
      rintro e w1 ⟨C, hC, rfl, hown, hb1, hsz⟩
      rw [hB] at hown hb1 hsz
      clear hg
      go_wp2
      go_loopw [6, 27] (fun v i wr => Below B w wr ∧ ((i = .int .i64 0 ∧ v = .slice (some ⟨B, 0, none⟩) 0 C ∧ wr.ownsRow B 29 1 (.slice (some ⟨B, 0, none⟩) 0 C) 0 []) ∨ (i = .int .i64 1 ∧ v = .slice (some ⟨B, 0, none⟩) la C ∧ wr.ownsRow B 29 1 (.slice (some ⟨B, 0, none⟩) la C) la na) ∨
        (i = .int .i64 2 ∧ v = .slice (some ⟨B, 0, none⟩) (la + lb) C ∧ wr.ownsRow B 29 1 (.slice (some ⟨B, 0, none⟩) (la + lb) C) (la + lb) (na ++ nb)))) (fun _ i _ => 2 - (intOf i).toNat)
      case atStart => exact ⟨hb1, .inl ⟨rfl, rfl, hown⟩⟩
      case round =>
        obtain ⟨hb2, hrel⟩ := hrel
        have c0 : wr.cell? ⟨S, 0, none⟩ = some (.slice aa la ca) := (World.cell?_of_block (hb2.block S hS)).trans h0
        have c1 : wr.cell? ⟨S, 1, none⟩ = some (.slice ab lb cb) := (World.cell?_of_block (hb2.block S hS)).trans h1
        have kk0 := k0 wr hb2
        have kk1 := k1 wr hb2
        have hszr : B ≤ wr.heap.size := by have := hb2.size; omega
        clear k0 k1 hown hb1 h0 h1
        rcases hrel with ⟨rfl, rfl, hown⟩ | ⟨rfl, rfl, hown⟩ | ⟨rfl, rfl, hown⟩
        · go_wp2_with (first
            | (at_builtin; refine wpList_append_fits_any _ rfl _ _ 34 rfl B 29 i0 1 Tryd.underlying34 hi0 hi2 B 0 C [] rfl hown aa la ca na rfl hna n0 kk0 o0 (by omega) ?_)
            | go_in)
          intro w2 hown2 hgrow
          have hb3 : Below B w w2 := hb2.grown hgrow hszr (fun k hk => by cases hk; exact Nat.le_refl _)
          clear hgrow hown c0 c1 kk0 kk1 hb2
          go_wp2
          go_roundw
          case rel => exact ⟨hb3, .inr (.inl ⟨rfl, rfl, hown2⟩)⟩
          case measure => simp [intOf]
        · go_wp2_with (first
            | (at_builtin; refine wpList_append_fits_any _ rfl _ _ 34 rfl B 29 i0 1 Tryd.underlying34 hi0 hi2 B la C na rfl hown ab lb cb nb rfl hnb n1 kk1 o1 (by omega) ?_)
            | go_in)
          intro w2 hown2 hgrow
          have hb3 : Below B w w2 := hb2.grown hgrow hszr (fun k hk => by cases hk; exact Nat.le_refl _)
          clear hgrow hown c0 c1 kk0 kk1 hb2
          go_wp2
          go_roundw
          case rel => exact ⟨hb3, .inr (.inr ⟨rfl, rfl, hown2⟩)⟩
          case measure => simp [intOf]
        · go_wp2
          go_ret
          exact ⟨B, C, rfl, hown, hb2⟩

theorem grow_none (w : World) : Calls Tryd.prog 49 #[.slice none 0 0, .int .i64 0] w (fun e w' => e = .returned (.slice none 0 0) ∧ w' = w) :=
  Any8.slices_Grow_room Tryd.growE none 0 0 0 w (Nat.le_refl _) (by omega) (by omega) (by omega)

theorem append_none (w : World) {ops : Array Oper} {rest : List Oper} {o : Oper} {a : Act} {Q : Exit → Act → World → Prop} (hg : o.guard = none) (s x : Operand)
    (hop : o.op = Op.call { callee := Callee.builtin Builtin.append, args := #[s, x], argTypes := #[34, 34] }) (hs : a.eval s = .slice none 0 0) (ao : Option Addr) (c : Nat) (hx : a.eval x = .slice ao 0 c)
    (hK : wpList Tryd.prog ops Q rest (a.put o.dst (.slice none 0 0)) w) : wpList Tryd.prog ops Q (o :: rest) a w := by
  obtain ⟨i0, hi0, hi1, hi2, hi3⟩ := infoW
  refine wpList_plain hg fun K hK' => ?_
  have hrun : (Builtin.append_ #[34, 34] o.type #[.slice none 0 0, .slice ao 0 c]).run Tryd.prog w = .ok (.slice none 0 0) w := by
    cases ao <;> simp [Builtin.append_, run_underlying Tryd.underlying34, Go.sizeOf, typeInfo, hi0, hi2, Builtin.lenOf, Builtin.firstCells, loadCells, loadCellsFrom]
  unfold Oper.wp
  simp [execOp, hop, resolve, invoke, builtin, hs, hx, hrun, Result.andThen]
  exact hK' _ _ hK

set_option maxRecDepth 100000 in
set_option maxHeartbeats 0 in
theorem concat_zero (w : World) (S : Nat) (aa ab : Option Addr) (ca cb : Nat) (h0 : w.cell? ⟨S, 0, none⟩ = some (.slice aa 0 ca)) (h1 : w.cell? ⟨S, 1, none⟩ = some (.slice ab 0 cb)) :
    Calls Tryd.prog 23 #[.slice (some ⟨S, 0, none⟩) 2 2] w fun e w' => e = .returned (.slice none 0 0) ∧ w' = w := by
  have hg := grow_none w
  go_enter Tryd.func23, Tryd.ntmps23
  go_wp2
  go_loopw [3, 11] (fun s i wr => wr = w ∧ s = .int .i64 0 ∧ (i = .int .i64 0 ∨ i = .int .i64 1 ∨ i = .int .i64 2)) (fun _ i _ => 2 - (intOf i).toNat)
  case atStart => exact ⟨rfl, rfl, .inl rfl⟩
  case round =>
    obtain ⟨hww, rfl, hrel⟩ := hrel
    have hww2 := hww.symm
    clear hww
    subst hww2
    rcases hrel with rfl | rfl | rfl
    · clear hg
      go_wp2
      go_roundw
      case rel => simp
      case measure => simp [intOf]
    · clear hg
      go_wp2
      go_roundw
      case rel => simp
      case measure => simp [intOf]
    · go_wp2_with fail
      refine hg.mono ?_
      rintro e w1 ⟨rfl, rfl⟩
      clear hg
      go_wp2
      go_loopw [6, 27] (fun v i wr => wr = w1 ∧ v = .slice none 0 0 ∧ (i = .int .i64 0 ∨ i = .int .i64 1 ∨ i = .int .i64 2)) (fun _ i _ => 2 - (intOf i).toNat)
      case atStart => exact ⟨rfl, rfl, .inl rfl⟩
      case round =>
        obtain ⟨hww, rfl, hrel⟩ := hrel
        have hww2 := hww.symm
        clear hww
        subst hww2
        rcases hrel with rfl | rfl | rfl
        · go_wp2_with (first | (at_builtin; refine append_none w1 rfl _ _ rfl rfl aa ca rfl ?_) | go_in)
          go_wp2
          go_roundw
          case rel => simp
          case measure => simp [intOf]
        · go_wp2_with (first | (at_builtin; refine append_none w1 rfl _ _ rfl rfl ab cb rfl ?_) | go_in)
          go_wp2
          go_roundw
          case rel => simp
          case measure => simp [intOf]
        · go_wp2
          go_ret
          exact ⟨rfl, rfl⟩
end Go.Proofs.YtgohnfkidkomhaaDoor

noncomputable section
namespace Go.Proofs.YtgohnfkidkomhaaDoor
open Go.Proofs.YtgohnfkidkomhaaDoor.Ev Go.RowKit
open Go.ChangeShapes Go.WideShapes Go.ChangeAt

/-! slices.Concat of two rows of words that came in. -/
/-- A row of words as it stands here: nil, or known cells of a block. -/
def WV (q o : Nat) (ws : List Int) (v : Value) : Prop := (v = .slice none 0 0 ∧ ws = []) ∨ ∃ c, v = .slice (some ⟨q, o, none⟩) ws.length c ∧ ws.length ≤ c
def GW (gl : Gl) (q o : Nat) (ws : List Int) : Prop := ∀ (i : Nat) v, (wC ws)[i]? = some v → gl q (o + i) = some v
def wRow (ws : List Int) : Option LObj := some (.row ⟨wC ws, 29, (0, 0), 1, false, false⟩)
theorem wC_len (ws : List Int) : (wC ws).length = ws.length := by unfold wC; rw [List.length_map]
theorem wC_app (a b : List Int) : wC (a ++ b) = wC a ++ wC b := by unfold wC; rw [List.map_append]
theorem wC_one (ws : List Int) : ∀ u ∈ wC ws, u.oneCell' = true := fun u hu => by
  obtain ⟨w, _, rfl⟩ := List.mem_map.1 hu
  rfl
/-- What such a row is in a world. -/
theorem wv_world {gl : Gl} {φ : Phi} {σ : LS} {w : World} (hr : Rel Tryd.prog gl φ σ w) {q o : Nat} {ws : List Int} {v v' : Value} (hg : GW gl q o ws) (h : WV q o ws v) (hv : VR φ v v') :
    ∃ aa c, v' = .slice aa ws.length c ∧ ws.length ≤ c ∧ (aa = none → ws.length = 0 ∧ c = 0) ∧ ∀ ad, aa = some ad → ad.spot = none ∧ ad.block < w.heap.size ∧ ∀ j u, (wC ws)[j]? = some u → w.cell? (ad.add j) = some u := by
  rcases h with ⟨rfl, rfl⟩ | ⟨c, rfl, hc⟩
  · cases hv
    exact ⟨none, 0, rfl, Nat.le_refl _, fun _ => ⟨rfl, rfl⟩, fun ad e => by cases e⟩
  · cases hv with
    | slice _ a' _ _ c' hs =>
      obtain ⟨s1, s2, r, s3, s4, s5, s6⟩ := hs
      have hcc : ws.length ≤ c' := by
        cases hrc : r.cap with
        | none => have := (s5 hrc).2; omega
        | some q => obtain ⟨S, z⟩ := q; have := (s6 S z hrc).1; omega
      refine ⟨some a', c', rfl, hcc, fun e => (by cases e), fun ad e => ?_⟩
      obtain rfl := Option.some.inj e
      refine ⟨s2, by rw [s4]; exact hr.bound _ _ s3, fun j u hu => ?_⟩
      obtain ⟨b, g1, v', g2, g3⟩ := hr.glob q (o + j) u (hg j u hu)
      rw [s3] at g1
      cases g1
      obtain ⟨hoff, _⟩ := s5 rfl
      obtain ⟨blk, off, spot⟩ := a'
      simp only at s2 s4 hoff
      subst s2; subst s4; subst hoff
      rw [addr_add]
      have hu2 : ∃ x, u = .int .u32 x := by
        obtain ⟨i, hi⟩ := List.getElem?_of_mem (List.mem_of_getElem? hu)
        unfold wC at hi
        rw [List.getElem?_map] at hi
        obtain ⟨x, _, rfl⟩ := Option.map_eq_some_iff.1 hi
        exact ⟨x, rfl⟩
      obtain ⟨x, rfl⟩ := hu2
      cases g3
      exact g2
theorem addB (a : Addr) (n : Nat) : (a.add n).block = a.block := by unfold Addr.add; split <;> rfl
def catG (qa oa qb ob : Nat) (wa wb : List Int) (vs : List Value) (rows : List (Option LObj)) : Prop := ∃ va vb fz, vs = [.slice (some ⟨1000, 0, none⟩) 2 2] ∧ rows = [some (.row ⟨[va, vb], 34, fz, 0, false, false⟩)] ∧ WV qa oa wa va ∧ WV qb ob wb vb ∧ wa.length + wb.length ≤ 1000
def catHd (qa oa qb ob : Nat) (wa wb : List Int) : Hd := fun vs rows => match vs, rows with
  | [.slice (some _) _ _], [_] => some (.br (cl (catG qa oa qb ob wa wb vs rows)) (.br (Nat.beq (wa.length + wb.length) 0) (.ret (.normal, [.slice none 0 0], rows)) (.ret (.normal, [.slice (some ⟨1001, 0, none⟩) (wa.length + wb.length) (wa.length + wb.length)], rows ++ [wRow (wa ++ wb)]))) .fail)
  | _, _ => none
theorem cat_sub {gl : Gl} {qa oa qb ob : Nat} {wa wb : List Int} (ha : GW gl qa oa wa) (hb : GW gl qb ob wb) : SubOK Tryd.prog gl 23 (catHd qa oa qb ob wa wb) := by
  intro vs rows t e v rows' h1 h2 φ w args' hr hl
  unfold catHd at h1
  split at h1
  case h_2 => cases h1
  cases h1
  obtain ⟨hg, h3⟩ := brT h2
  obtain ⟨va, vb, fz, e1, e2, hva, hvb, hlen⟩ := of_cl hg
  rw [e1] at hl
  rw [e2] at hr h3 ⊢
  clear h2 hg e1 e2
  -- the row of the two
  obtain ⟨hl0, hl1⟩ := hl
  obtain ⟨x0, e0⟩ : ∃ x0, args'.toList = [x0] := by
    match hq : args'.toList, hl0 with
    | [x0], _ => exact ⟨x0, rfl⟩
  have v0 := hl1 0 _ x0 rfl (by rw [e0]; rfl)
  have hrow : (rowsOf [some (.row ⟨[va, vb], 34, fz, 0, false, false⟩)]).heap.get 1000 = some (.row ⟨[va, vb], 34, fz, 0, false, false⟩) := (rowsOf_get (l := [some (.row ⟨[va, vb], 34, fz, 0, false, false⟩)]) (show 1000 + 1 ≤ most by decide)).2 ⟨by decide, rfl⟩
  obtain ⟨r, x, k1, k2, cl', fz', rfl, k4, k5⟩ := hr.live _ _ hrow
  have hcap : r.cap = none := by
    cases hc : r.cap with
    | none => rfl
    | some q =>
      obtain ⟨S, z⟩ := q
      rw [hc] at k5
      simp only at k5
      omega
  cases v0 with
  | slice _ a' _ _ c' hs =>
  obtain ⟨s1, s2, r', s3, s4, s5, _⟩ := hs
  rw [k1] at s3; cases s3
  obtain ⟨s6, rfl⟩ := s5 hcap
  obtain ⟨blk, off, spot⟩ := a'
  simp only at s2 s4 s6
  subst s2; subst s4; subst s6
  have eargs : args' = #[.slice (some ⟨r.blk, 0, none⟩) 2 2] := by rw [← Array.toArray_toList (xs := args'), e0]
  subst eargs
  obtain ⟨va', c0, y0⟩ := k4 0 va rfl
  obtain ⟨vb', c1, y1⟩ := k4 1 vb rfl
  obtain ⟨aa, ca, rfl, _, na, ka⟩ := wv_world hr ha hva y0
  obtain ⟨ab, cb, rfl, _, nb, kb⟩ := wv_world hr hb hvb y1
  have cell0 : w.cell? ⟨r.blk, 0, none⟩ = some (.slice aa wa.length ca) := by unfold World.cell?; simp only [k2]; simpa using c0
  have cell1 : w.cell? ⟨r.blk, 1, none⟩ = some (.slice ab wb.length cb) := by unfold World.cell?; simp only [k2]; simpa using c1
  have hS := hr.bound _ _ k1
  rcases Nat.eq_zero_or_pos (wa.length + wb.length) with hz | hz
  · have z1 : wa.length = 0 := by omega
    have z2 : wb.length = 0 := by omega
    rw [z1] at cell0
    rw [z2] at cell1
    rw [show Nat.beq (wa.length + wb.length) 0 = true from by rw [hz]; rfl] at h3
    cases h3
    refine (concat_zero w r.blk aa ab ca cb cell0 cell1).mono ?_
    rintro e w' ⟨rfl, rfl⟩
    exact ⟨_, φ, rfl, Tr.refl hr, .nilSlice 0 0⟩
  · rw [nbeq_f (by omega)] at h3
    cases h3
    have kk : ∀ {x : Option Addr} {ws : List Int}, (∀ ad, x = some ad → ad.spot = none ∧ ad.block < w.heap.size ∧ ∀ j u, (wC ws)[j]? = some u → w.cell? (ad.add j) = some u) → ∀ w', Below w.heap.size w w' → ∀ ad, x = some ad → ∀ j u, (wC ws)[j]? = some u → w'.cell? (ad.add j) = some u := by
      intro x ws h w' hbw ad hx j u hu
      obtain ⟨_, h1, h2⟩ := h ad hx
      rw [← h2 j u hu]
      exact World.cell?_of_block (hbw.block _ (by rw [addB]; exact h1))
    refine (concat_walk w r.blk aa ab wa.length wb.length ca cb cell0 cell1 hS (by omega) (by omega) hlen hz (wC wa) (wC wb) (by rw [wC_len, Nat.mul_one]) (by rw [wC_len, Nat.mul_one]) na nb (kk ka) (kk kb) (wC_one wa) (wC_one wb)).mono ?_
    rintro e w' ⟨R, C, rfl, ⟨_, hown⟩, hbw⟩
    rcases hown with ⟨h, _⟩ | ⟨g, cap, cur, h, o1, o2, o3, o4, o5, o6⟩
    · cases h
    · simp only [Value.slice.injEq, Option.some.injEq, Addr.mk.injEq, and_true, true_and] at h
      obtain ⟨rfl, rfl⟩ := h
      have hR : R < w'.heap.size := by
        rcases Nat.lt_or_ge R w'.heap.size with h | h
        · exact h
        · rw [Array.getElem?_eq_none h] at o2; cases o2
      have t := Tr.adoptRow (rows := [some (.row ⟨[va, vb], 34, fz, 0, false, false⟩)]) (show 1000 + 1 < most by decide) hr hbw o1 hR (b := .row ⟨wC (wa ++ wb), 29, (0, 0), 1, false, false⟩) o2 (some (C * 1, 1)) ⟨cur, (0, 0), rfl, fun k v hk => ?_, o5, rfl, by decide, .inl rfl⟩
      · refine ⟨_, _, rfl, t, .slice _ _ _ _ _ ⟨rfl, rfl, ⟨R, some (C * 1, 1)⟩, by simp [Phi.set], rfl, fun h => (by cases h), fun S z h => ?_⟩⟩
        simp only [Option.some.injEq, Prod.mk.injEq] at h
        obtain ⟨rfl, rfl⟩ := h
        exact ⟨o3, fun _ => rfl, by simp⟩
      · rw [wC_app] at hk
        have hk2 : cur[k]? = some v := by
          have hkl : k < (wC wa ++ wC wb).length := (List.getElem?_eq_some_iff.1 hk).1
          rw [← o6, List.getElem?_take] at hk
          split at hk
          · simpa using hk
          · cases hk
        have hpl : af 8 v = true := (wC_plain (wa ++ wb) v (by rw [wC_app]; exact List.mem_of_getElem? hk)).1
        exact ⟨v, hk2, VR.af_refl 8 hpl⟩
end Go.Proofs.YtgohnfkidkomhaaDoor

noncomputable section
namespace Go.Proofs.YtgohnfkidkomhaaDoor
open Go.Proofs.YtgohnfkidkomhaaDoor.Ev Go.RowKit

/-! list.List as it is answered flat. -/
def sR (ws : List Int) : ByteArray × Nat × Bool := lsGo ⟨#[]⟩ 0 ws
def sS (ws : List Int) : ByteArray := cond (decide ((ws.length : Int) > 1024)) ⟨#[]⟩ (cond (sR ws).2.2 (sR ws).1 ⟨#[]⟩)
def sI (ws : List Int) : Int := cond (decide ((ws.length : Int) > 1024)) 0 (cond (sR ws).2.2 0 ((sR ws).2.1 : Int))
def sE (ws : List Int) : Int := cond (decide ((ws.length : Int) > 1024)) 7 (cond (sR ws).2.2 0 6)
def lsValF (S : List Int → ByteArray) (I E : List Int → Int) (ws : List Int) : Value := .tuple #[.string (S ws), .int .i64 (I ws), .int .i64 (E ws)]
def lsVal (ws : List Int) : Value := lsValF sS sI sE ws
set_option maxRecDepth 100000 in
theorem r_listF (gl : Gl) (off n c : Nat) (ws : List Int) : callSK noSy Tryd.prog gl exB (HLsF off c ws) 100 40 40 (.fn 21) [.slice (some ⟨902, off, none⟩) n c] LS.start flatR =
 cond (decide ((↑n : Int) > 1024)) (
  some (.tuple #[(.string ((⟨#[]⟩ : ByteArray))), (.int IntKind.i64 0), (.int IntKind.i64 7)])) (
  cond (cl   (lsG off c ws     [Value.int IntKind.i64 0, Value.pointer (some (⟨1000, 0, none⟩ : Addr)),       Value.slice (some (⟨902, off, none⟩ : Addr)) n c, goInt (↑n : Int), Value.string (⟨#[]⟩ : ByteArray),       Value.int IntKind.i64 0, Value.int IntKind.i64 0]     [some         (LObj.row           { cells := [Value.pointer none, Value.slice none 0 0], elem := 79, fz := (0, 0), esz := 0, ro := false,             tail := false })])) (
   cond ((lsGo (⟨#[]⟩ : ByteArray) 0 ws).snd.snd) (
    cond ((lsGo (⟨#[]⟩ : ByteArray) 0 ws).snd.fst.beq 0) (
     cond (cl   ([Value.pointer (some (⟨1000, 0, none⟩ : Addr))] = [p0] ∧     [some           (LObj.row             { cells := [Value.pointer none, Value.slice none 0 0], elem := 79, fz := (0, 0), esz := 0, ro := false,               tail := false })] =       [b0Row])) (
      some (.tuple #[(.string (ByteArray.empty)), (.int IntKind.i64 0), (.int IntKind.i64 0)])) (
      none)) (
     cond (List.all (byC (lsGo (⟨#[]⟩ : ByteArray) 0 ws).fst) (af 8) && true) (
      cond (List.all (byC (lsGo (⟨#[]⟩ : ByteArray) 0 ws).fst) (af 8) && true) (
       cond (cl   (bsG1 [Value.pointer (some (⟨1000, 0, none⟩ : Addr))]     [some         (LObj.row           {             cells :=               [Value.pointer (some (⟨1000, 0, none⟩ : Addr)),                 Value.slice (some (⟨1001, 0, none⟩ : Addr)) (lsGo (⟨#[]⟩ : ByteArray) 0 ws).fst.size                   (lsGo (⟨#[]⟩ : ByteArray) 0 ws).fst.size],             elem := 79, fz := (0, 0), esz := 0, ro := false, tail := false }),       some         (LObj.row           { cells := byC (lsGo (⟨#[]⟩ : ByteArray) 0 ws).fst, elem := 5, fz := (0, 0), esz := 1, ro := false,             tail := false })]     (lsGo (⟨#[]⟩ : ByteArray) 0 ws).fst.size (byC (lsGo (⟨#[]⟩ : ByteArray) 0 ws).fst))) (
        cond (List.all (byC (lsGo (⟨#[]⟩ : ByteArray) 0 ws).fst) (af 8) && true) (
         some (.tuple #[(.string (ofCells (byC (lsGo (⟨#[]⟩ : ByteArray) 0 ws).fst))), (.int IntKind.i64 0), (.int IntKind.i64 0)])) (
         none)) (
        none)) (
       none)) (
      none))) (
    cond ((lsGo (⟨#[]⟩ : ByteArray) 0 ws).snd.fst.beq 0) (
     some (.tuple #[(.string ((⟨#[]⟩ : ByteArray))), (.int IntKind.i64 ((↑(lsGo (⟨#[]⟩ : ByteArray) 0 ws).snd.fst : Int))), (.int IntKind.i64 6)])) (
     cond (List.all (byC (lsGo (⟨#[]⟩ : ByteArray) 0 ws).fst) (af 8) && true) (
      some (.tuple #[(.string ((⟨#[]⟩ : ByteArray))), (.int IntKind.i64 ((↑(lsGo (⟨#[]⟩ : ByteArray) 0 ws).snd.fst : Int))), (.int IntKind.i64 6)])) (
      none)))) (
   none)) := by kernel_rfl
set_option maxRecDepth 100000 in
theorem r_listFN (gl : Gl) (off c : Nat) (ws : List Int) : callSK noSy Tryd.prog gl exB (HLsF off c ws) 100 40 40 (.fn 21) [.slice none 0 0] LS.start flatR =
 cond (cl   (([Value.int IntKind.i64 0, Value.pointer (some (⟨1000, 0, none⟩ : Addr)), Value.slice none 0 0, goInt 0,         Value.string (⟨#[]⟩ : ByteArray), Value.int IntKind.i64 0, Value.int IntKind.i64 0],       [some           (LObj.row             { cells := [Value.pointer none, Value.slice none 0 0], elem := 79, fz := (0, 0), esz := 0, ro := false,               tail := false })]) =     lsStN)) (
  cond (cl   ([Value.pointer (some (⟨1000, 0, none⟩ : Addr))] = [p0] ∧     [some           (LObj.row             { cells := [Value.pointer none, Value.slice none 0 0], elem := 79, fz := (0, 0), esz := 0, ro := false,               tail := false })] =       [b0Row])) (
   some (.tuple #[(.string (ByteArray.empty)), (.int IntKind.i64 0), (.int IntKind.i64 0)])) (
   none)) (
  none) := by kernel_rfl
theorem listF_eq (gl : Gl) (off c : Nat) {ws : List Int} (hc : ws.length ≤ c) (hl : ws.length ≤ 2000) (hw : InW ws) :
    callSK noSy Tryd.prog gl exB (HLsF off c ws) 100 40 40 (.fn 21) [.slice (some ⟨902, off, none⟩) ws.length c] LS.start flatR = some (lsVal ws) := by
  rw [r_listF]
  unfold lsVal lsValF sS sI sE sR
  by_cases hn : (ws.length : Int) > 1024
  · rw [decide_eq_true hn]; rfl
  rw [decide_eq_false hn]
  refine condE rfl (condI (cl_t ⟨rfl, hc, hl, hw⟩) ?_)
  obtain ⟨h4, h5, h6, h7⟩ := lsGo_bd ws ⟨#[]⟩ 0
  have hs0 : (⟨#[]⟩ : ByteArray).size = 0 := rfl
  rw [hs0] at h6 h7
  generalize lsGo ⟨#[]⟩ 0 ws = R at *
  obtain ⟨B, i, b⟩ := R
  simp only at h4 h5 h6 h7
  cases b with
  | true =>
    cases i with
    | zero =>
      have : B = ⟨#[]⟩ := (empty_iff B).2 (by omega)
      subst this
      exact condI rfl (condI rfl (condI (cl_t ⟨rfl, rfl⟩) rfl))
    | succ i =>
      refine condI rfl (condE rfl (condI (andI (byC_all _) rfl) (condI (andI (byC_all _) rfl) (condI (cl_t ⟨_, rfl, rfl, rfl, rfl, ?_, ?_⟩) (condI (andI (byC_all _) rfl) ?_)))))
      · show 1 ≤ B.size; omega
      · show B.size ≤ 1000000000; omega
      · rw [ofCells_by]
        rfl
  | false =>
    cases i with
    | zero => exact condE rfl (condI rfl rfl)
    | succ i => exact condE rfl (condE rfl (condI (andI (byC_all _) rfl) rfl))
/-- Where words are, in a world. -/
def WAt (w : World) (ws : List Int) (aa : Option Addr) (c : Nat) : Prop := ws.length ≤ c ∧ (aa = none → ws.length = 0 ∧ c = 0) ∧ ∀ ad, aa = some ad → ad.spot = none ∧ ad.block < w.heap.size ∧ ∀ j u, (wC ws)[j]? = some u → w.cell? (ad.add j) = some u
theorem list_calls {φ : Phi} {w : World} {ws : List Int} {aa : Option Addr} {c : Nat} (hr : Rel Tryd.prog glC φ LS.start w) (hφ : φ 902 = none) (hw : InW ws) (hl : ws.length ≤ 2000) (h : WAt w ws aa c) :
    Calls Tryd.prog 21 #[.slice aa ws.length c] w (fun e w' => e = .returned (lsVal ws) ∧ Below w.heap.size w w') := by
  obtain ⟨hc, hn, hk⟩ := h
  have hg := tglob
  cases aa with
  | none =>
    obtain ⟨h1, h2⟩ := hn rfl
    have : ws = [] := List.length_eq_zero_iff.1 h1
    subst this
    subst h2
    have hr2 : Rel Tryd.prog (glK glC 902 0 (wC [])) φ LS.start w := noCells hr
    exact flatSR noSy_ok goodB (glKC_low 0 []) tglob (HLsF_ok (off := 0) (c := 0) glKC_F (glKC_low 0 []) glKC_P) ((r_listFN _ 0 0 []).trans (condI (cl_t rfl) (condI (cl_t ⟨rfl, rfl⟩) rfl))) hr2 (LR.cons (.nilSlice 0 0) (LR.nil _))
  | some ad =>
    obtain ⟨h1, h2, h3⟩ := hk ad rfl
    obtain ⟨blk, off, spot⟩ := ad
    simp only at h1 h2
    subst h1
    have hcs : ∀ (i : Nat) x, (wC ws)[i]? = some x → w.cell? ⟨blk, off + i, none⟩ = some x := fun i x hx => by
      have := h3 i x hx
      rwa [addr_add] at this
    have hr2 := hr.addK tglob (b := 902) (off := off) (blk := blk) (by decide) (by decide) hφ (wC_plain ws) hcs h2
    exact flatSR noSy_ok goodB (glKC_low off ws) tglob (HLsF_ok glKC_F (glKC_low off ws) glKC_P) (listF_eq _ off c hc hl hw) hr2 (LR.cons (.slice _ _ _ _ _ ⟨rfl, rfl, ⟨blk, none⟩, by simp [Phi.set], rfl, fun _ => ⟨rfl, rfl⟩, fun S z h => by cases h⟩) (LR.nil _))
theorem glC_af {g k : Nat} {v : Value} (h : glC g k = some v) : af 8 v = true := by
  unfold glC at h
  simp only [glOf] at h
  rw [Bool.cond_eq_ite] at h
  split at h
  · rw [List.getElem?_map] at h
    obtain ⟨x, _, rfl⟩ := Option.map_eq_some_iff.1 h
    rfl
  · rw [Bool.cond_eq_ite] at h
    split at h
    · rw [List.getElem?_map] at h
      obtain ⟨x, _, rfl⟩ := Option.map_eq_some_iff.1 h
      rfl
    · cases h
/-- The tables alone, with a block's number free. -/
theorem rel_free {gl : Gl} {φ : Phi} {σ : LS} {w : World} (hm : ∀ g k v, glC g k = some v → gl g k = some v) (hgl : Low gl) (hr : Rel Tryd.prog gl φ σ w) : ∃ φ', φ' 902 = none ∧ Rel Tryd.prog glC φ' LS.start w := by
  have hg := tglob
  have h := (hr.low hgl tglob).gl_mono hm
  refine ⟨fun i => if i = 902 then none else φ.low i, if_pos rfl, ⟨fun i o e => (by rw [start_get] at e; cases e), fun i j o o' r r' e => (by rw [start_get] at e; cases e), fun i hi => ?_, fun i r e => ?_, fun i o r e => (by rw [start_get] at e; cases e), fun g k v e => ?_, fun g hg2 => ?_, h.size⟩⟩
  · show (if i = 902 then none else φ.low i) = none
    split
    · rfl
    · exact h.fresh i hi
  · have e : (if i = 902 then none else φ.low i) = some r := e
    split at e
    · cases e
    · exact h.bound i r e
  · obtain ⟨b, h1, v', h2, h3⟩ := h.glob g k v e
    have hne : g ≠ 902 := fun q => by
      subst q
      rw [glC_hi (by decide)] at e
      cases e
    have e1 := VR.of_af 8 (glC_af e) h3
    subst e1
    exact ⟨b, by rw [if_neg hne]; exact h1, v', h2, VR.af_refl 8 (glC_af e)⟩
  · show (if g = 902 then none else φ.low g) = _
    rw [if_neg (by omega)]
    exact h.stat g hg2
open Classical in
def afLs (qa oa qb ob : Nat) (wa wb : List Int) (V : List Int → Value) : AF := fun args σ => match args with
  | [.slice none _ _] => some (cl (args = [.slice none 0 0]), V [])
  | [.slice (some ⟨q, _, _⟩) _ _] => cond (Nat.beq q qa) (some (cl (∃ c, args = [.slice (some ⟨qa, oa, none⟩) wa.length c] ∧ wa.length ≤ c), V wa)) (cond (Nat.beq q qb) (some (cl (∃ c, args = [.slice (some ⟨qb, ob, none⟩) wb.length c] ∧ wb.length ≤ c), V wb))
      (match σ.heap.get q with
        | some (.row b) => some (cl (args = [.slice (some ⟨q, 0, none⟩) (wa ++ wb).length (wa ++ wb).length] ∧ b.cells = wC (wa ++ wb)), V (wa ++ wb))
        | _ => none))
  | _ => none
theorem one_arg {φ : Phi} {v : Value} {args' : Array Value} (hl : LR φ [v] args'.toList) : ∃ v', args' = #[v'] ∧ VR φ v v' := by
  obtain ⟨hl0, hl1⟩ := hl
  obtain ⟨x0, e0⟩ : ∃ x0, args'.toList = [x0] := by
    match hq : args'.toList, hl0 with
    | [x0], _ => exact ⟨x0, rfl⟩
  exact ⟨x0, by rw [← Array.toArray_toList (xs := args'), e0], hl1 0 _ x0 rfl (by rw [e0]; rfl)⟩
theorem fn_list {gl : Gl} {qa oa qb ob : Nat} {wa wb : List Int} (hm : ∀ g k v, glC g k = some v → gl g k = some v) (hgl : Low gl) (ha : GW gl qa oa wa) (hb : GW gl qb ob wb) (ia : InW wa) (ib : InW wb) (hlen : wa.length + wb.length ≤ 1000) :
    FnOK Tryd.prog gl 21 (afLs qa oa qb ob wa wb lsVal) := by
  intro args σ c v hk hc φ w args' hr hl
  subst hc
  obtain ⟨φ', hφ, hr'⟩ := rel_free hm hgl hr
  have fin : ∀ (ws : List Int) (v' : Value), args' = #[v'] → InW ws → ws.length ≤ 2000 → (∃ aa c, v' = .slice aa ws.length c ∧ WAt w ws aa c) → Calls Tryd.prog 21 args' w (fun e w' => ∃ v', e = .returned v' ∧ VR φ (lsVal ws) v' ∧ Below w.heap.size w w') := by
    rintro ws v' rfl hw hl2 ⟨aa, c, rfl, hat⟩
    refine (list_calls hr' hφ hw hl2 hat).mono ?_
    rintro e w' ⟨rfl, hB⟩
    exact ⟨_, rfl, VR.af_refl 8 rfl, hB⟩
  unfold afLs at hk
  split at hk
  · simp only [Option.some.injEq, Prod.mk.injEq] at hk
    obtain ⟨h1, rfl⟩ := hk
    have h1 := of_cl h1
    rw [h1] at hl
    obtain ⟨v', e1, hv⟩ := one_arg hl
    cases hv
    exact fin [] _ e1 (fun w hw => by cases hw) (Nat.zero_le _) ⟨none, 0, rfl, Nat.le_refl _, fun _ => ⟨rfl, rfl⟩, fun ad e => by cases e⟩
  · rename_i q _ _ _ _
    rw [Bool.cond_eq_ite] at hk
    split at hk
    · simp only [Option.some.injEq, Prod.mk.injEq] at hk
      obtain ⟨h1, rfl⟩ := hk
      obtain ⟨c, h1, hc⟩ := of_cl h1
      rw [h1] at hl
      obtain ⟨v', e1, hv⟩ := one_arg hl
      obtain ⟨aa, c', h3, h4, h5, h6⟩ := wv_world hr ha (.inr ⟨c, rfl, hc⟩) hv
      exact fin wa v' e1 ia (by omega) ⟨aa, c', h3, h4, h5, h6⟩
    · rw [Bool.cond_eq_ite] at hk
      split at hk
      · simp only [Option.some.injEq, Prod.mk.injEq] at hk
        obtain ⟨h1, rfl⟩ := hk
        obtain ⟨c, h1, hc⟩ := of_cl h1
        rw [h1] at hl
        obtain ⟨v', e1, hv⟩ := one_arg hl
        obtain ⟨aa, c', h3, h4, h5, h6⟩ := wv_world hr hb (.inr ⟨c, rfl, hc⟩) hv
        exact fin wb v' e1 ib (by omega) ⟨aa, c', h3, h4, h5, h6⟩
      · split at hk
        · rename_i b hbk
          simp only [Option.some.injEq, Prod.mk.injEq] at hk
          obtain ⟨h1, rfl⟩ := hk
          obtain ⟨h1, hcells⟩ := of_cl h1
          rw [h1] at hl
          obtain ⟨v', e1, hv⟩ := one_arg hl
          have hab : InW (wa ++ wb) := fun x hx => by
            rcases List.mem_append.1 hx with h | h
            · exact ia x h
            · exact ib x h
          have hll : (wa ++ wb).length = wa.length + wb.length := List.length_append
          refine fin (wa ++ wb) v' e1 hab (by omega) ?_
          cases hv with
          | slice _ a' _ _ c' hs =>
            obtain ⟨s1, s2, r, s3, s4, s5, s6⟩ := hs
            obtain ⟨r', x, k1, k2, k3⟩ := hr.live _ _ hbk
            rw [s3] at k1; cases k1
            obtain ⟨cl', fz', rfl, k4, k5⟩ := k3
            have hcc : (wa ++ wb).length ≤ c' ∧ (c' ≠ 0 → a'.off = 0) := by
              cases hrc : r.cap with
              | none => obtain ⟨h, h'⟩ := s5 hrc; exact ⟨by omega, fun _ => h⟩
              | some qq =>
                obtain ⟨S, z⟩ := qq
                obtain ⟨h, h', _⟩ := s6 S z hrc
                exact ⟨h, h'⟩
            refine ⟨some a', c', rfl, hcc.1, fun e => (by cases e), fun ad e => ?_⟩
            obtain rfl := Option.some.inj e
            refine ⟨s2, by rw [s4]; exact hr.bound _ _ s3, fun j u hu => ?_⟩
            have hj : j < (wa ++ wb).length := by
              have := (List.getElem?_eq_some_iff.1 hu).1
              rwa [wC_len] at this
            obtain ⟨blk, off, spot⟩ := a'
            have ho := hcc.2 (by omega)
            simp only at s2 s4 ho
            subst s2; subst s4; subst ho
            rw [addr_add, Nat.zero_add]
            obtain ⟨u', h4, h5⟩ := k4 j u (by rw [hcells]; exact hu)
            have hpl : af 8 u = true := (wC_plain (wa ++ wb) u (List.mem_of_getElem? hu)).1
            have e5 := VR.of_af 8 hpl h5
            subst e5
            unfold World.cell?
            simp only [k2]
            simpa using h4
        · cases hk
  · cases hk
end Go.Proofs.YtgohnfkidkomhaaDoor

noncomputable section
namespace Go.Proofs.YtgohnfkidkomhaaDoor
open Go.Proofs.YtgohnfkidkomhaaDoor.Ev Go.RowKit

/-! ListParts. -/
def HLP (oa ob : Nat) (wa wb : List Int) (S : List Int → ByteArray) (I E : List Int → Int) : Hs := hsOf [(20, afW), (21, afLs 903 oa 904 ob wa wb (lsValF S I E))] [(23, catHd 903 oa 904 ob wa wb)] []
noncomputable abbrev evP (gl : Gl) (H : Hs) (va vb : Value) : Option Value := callSK noSy Tryd.prog gl exB H 100 40 40 (.fn 5) [va, vb] LS.start flatR
set_option maxRecDepth 100000 in
theorem r_p11 (gl : Gl) (S : List Int → ByteArray) (I E : List Int → Int) (wa wb : List Int) (oa na ca ob nb cb : Nat) : evP gl (HLP oa ob wa wb S I E) (.slice (some ⟨903, oa, none⟩) na ca) (.slice (some ⟨904, ob, none⟩) nb cb) =
 cond (decide (IntKind.i64.wrap ((↑na : Int) + (↑nb : Int)) > 1000)) (
  some (.bool true)) (
  cond (cl   (∃ c,     [] ++ [Value.slice (some (⟨903, oa, none⟩ : Addr)) na ca] ++ [] =         [Value.slice (some (⟨903, oa, none⟩ : Addr)) wa.length c] ∧       wa.length ≤ c)) (
   cond (cl   (∃ c,     [] ++ [Value.slice (some (⟨904, ob, none⟩ : Addr)) nb cb] ++ [] =         [Value.slice (some (⟨904, ob, none⟩ : Addr)) wb.length c] ∧       wb.length ≤ c)) (
    cond (cl   (catG 903 oa 904 ob wa wb [Value.slice (some (⟨1000, 0, none⟩ : Addr)) 2 2]     [some         (LObj.row           {             cells :=               [Value.slice (some (⟨903, oa, none⟩ : Addr)) na ca,                 Value.slice (some (⟨904, ob, none⟩ : Addr)) nb cb],             elem := 34, fz := (0, 0), esz := 0, ro := false, tail := false })])) (
     cond ((wa.length + wb.length).beq 0) (
      cond (cl ([] ++ [Value.slice none 0 0] ++ [] = [Value.slice none 0 0])) (
       cond (E wa != 0) (
        cond (E [] == E wa) (
         cond (I [] == I wa) (
          cond ((S []).toList == (⟨#[]⟩ : ByteArray).toList) (
           some (.bool true)) (
           some (.bool false))) (
          some (.bool false))) (
         some (.bool false))) (
        cond (E wb != 0) (
         cond (E [] == E wb) (
          cond (I [] == IntKind.i64.wrap ((↑na : Int) + I wb)) (
           cond ((S []).toList == (⟨#[]⟩ : ByteArray).toList) (
            some (.bool true)) (
            some (.bool false))) (
           some (.bool false))) (
          some (.bool false))) (
         cond (E [] == 0) (
          cond (((S wa).size + (S wb).size).ble 9223372036854775807) (
           cond ((S []).toList == (S wa ++ S wb).toList) (
            some (.bool true)) (
            some (.bool false))) (
           none)) (
          some (.bool false))))) (
       none)) (
      cond (List.all (wC (wa ++ wb)) (af 8) && true) (
       cond (cl   ([] ++           [Value.slice               (some                 {                   block :=                     1001 +                       (1001 -                         (1000 +                           (walkI Tryd.prog 1000                               (LS.start.add                                 (rowOf 34                                   (splice                                     (splice (repl 2 [Value.slice none 0 0]) 0                                       [Value.slice (some (⟨903, oa, none⟩ : Addr)) na ca])                                     1 [Value.slice (some (⟨904, ob, none⟩ : Addr)) nb cb])))                               400 0 (foldV (idsV 1000 8) ([] ++ [sliceTo 2 2 1000] ++ []) [])).length)),                   off := 0 })               (wa.length + wb.length) (wa.length + wb.length)] ++         [] =       [Value.slice           (some             {               block :=                 1001 +                   (1001 -                     (1000 +                       (walkI Tryd.prog 1000                           (LS.start.add                             (rowOf 34                               (splice                                 (splice (repl 2 [Value.slice none 0 0]) 0                                   [Value.slice (some (⟨903, oa, none⟩ : Addr)) na ca])                                 1 [Value.slice (some (⟨904, ob, none⟩ : Addr)) nb cb])))                           400 0 (foldV (idsV 1000 8) ([] ++ [sliceTo 2 2 1000] ++ []) [])).length)),               off := 0 })           (wa ++ wb).length (wa ++ wb).length] ∧     wC (wa ++ wb) = wC (wa ++ wb))) (
        cond (E wa != 0) (
         cond (E (wa ++ wb) == E wa) (
          cond (I (wa ++ wb) == I wa) (
           cond ((S (wa ++ wb)).toList == (⟨#[]⟩ : ByteArray).toList) (
            some (.bool true)) (
            some (.bool false))) (
           some (.bool false))) (
          some (.bool false))) (
         cond (E wb != 0) (
          cond (E (wa ++ wb) == E wb) (
           cond (I (wa ++ wb) == IntKind.i64.wrap ((↑na : Int) + I wb)) (
            cond ((S (wa ++ wb)).toList == (⟨#[]⟩ : ByteArray).toList) (
             some (.bool true)) (
             some (.bool false))) (
            some (.bool false))) (
           some (.bool false))) (
          cond (E (wa ++ wb) == 0) (
           cond (((S wa).size + (S wb).size).ble 9223372036854775807) (
            cond ((S (wa ++ wb)).toList == (S wa ++ S wb).toList) (
             some (.bool true)) (
             some (.bool false))) (
            none)) (
           some (.bool false))))) (
        none)) (
       none))) (
     none)) (
    none)) (
   none)) := by kernel_rfl
set_option maxRecDepth 100000 in
theorem r_p01 (gl : Gl) (S : List Int → ByteArray) (I E : List Int → Int) (wa wb : List Int) (oa ob nb cb : Nat) : evP gl (HLP oa ob wa wb S I E) (.slice none 0 0) (.slice (some ⟨904, ob, none⟩) nb cb) =
 cond (decide (IntKind.i64.wrap (0 + (↑nb : Int)) > 1000)) (
  some (.bool true)) (
  cond (cl ([] ++ [Value.slice none 0 0] ++ [] = [Value.slice none 0 0])) (
   cond (cl   (∃ c,     [] ++ [Value.slice (some (⟨904, ob, none⟩ : Addr)) nb cb] ++ [] =         [Value.slice (some (⟨904, ob, none⟩ : Addr)) wb.length c] ∧       wb.length ≤ c)) (
    cond (cl   (catG 903 oa 904 ob wa wb [Value.slice (some (⟨1000, 0, none⟩ : Addr)) 2 2]     [some         (LObj.row           { cells := [Value.slice none 0 0, Value.slice (some (⟨904, ob, none⟩ : Addr)) nb cb], elem := 34,             fz := (0, 0), esz := 0, ro := false, tail := false })])) (
     cond ((wa.length + wb.length).beq 0) (
      cond (cl ([] ++ [Value.slice none 0 0] ++ [] = [Value.slice none 0 0])) (
       cond (E [] != 0) (
        cond (E [] == E []) (
         cond (I [] == I []) (
          cond ((S []).toList == (⟨#[]⟩ : ByteArray).toList) (
           some (.bool true)) (
           some (.bool false))) (
          some (.bool false))) (
         some (.bool false))) (
        cond (E wb != 0) (
         cond (E [] == E wb) (
          cond (I [] == IntKind.i64.wrap (0 + I wb)) (
           cond ((S []).toList == (⟨#[]⟩ : ByteArray).toList) (
            some (.bool true)) (
            some (.bool false))) (
           some (.bool false))) (
          some (.bool false))) (
         cond (E [] == 0) (
          cond (((S []).size + (S wb).size).ble 9223372036854775807) (
           cond ((S []).toList == (S [] ++ S wb).toList) (
            some (.bool true)) (
            some (.bool false))) (
           none)) (
          some (.bool false))))) (
       none)) (
      cond (List.all (wC (wa ++ wb)) (af 8) && true) (
       cond (cl   ([] ++           [Value.slice               (some                 {                   block :=                     1001 +                       (1001 -                         (1000 +                           (walkI Tryd.prog 1000                               (LS.start.add                                 (rowOf 34                                   (splice (splice (repl 2 [Value.slice none 0 0]) 0 [Value.slice none 0 0]) 1                                     [Value.slice (some (⟨904, ob, none⟩ : Addr)) nb cb])))                               400 0 (foldV (idsV 1000 8) ([] ++ [sliceTo 2 2 1000] ++ []) [])).length)),                   off := 0 })               (wa.length + wb.length) (wa.length + wb.length)] ++         [] =       [Value.slice           (some             {               block :=                 1001 +                   (1001 -                     (1000 +                       (walkI Tryd.prog 1000                           (LS.start.add                             (rowOf 34                               (splice (splice (repl 2 [Value.slice none 0 0]) 0 [Value.slice none 0 0]) 1                                 [Value.slice (some (⟨904, ob, none⟩ : Addr)) nb cb])))                           400 0 (foldV (idsV 1000 8) ([] ++ [sliceTo 2 2 1000] ++ []) [])).length)),               off := 0 })           (wa ++ wb).length (wa ++ wb).length] ∧     wC (wa ++ wb) = wC (wa ++ wb))) (
        cond (E [] != 0) (
         cond (E (wa ++ wb) == E []) (
          cond (I (wa ++ wb) == I []) (
           cond ((S (wa ++ wb)).toList == (⟨#[]⟩ : ByteArray).toList) (
            some (.bool true)) (
            some (.bool false))) (
           some (.bool false))) (
          some (.bool false))) (
         cond (E wb != 0) (
          cond (E (wa ++ wb) == E wb) (
           cond (I (wa ++ wb) == IntKind.i64.wrap (0 + I wb)) (
            cond ((S (wa ++ wb)).toList == (⟨#[]⟩ : ByteArray).toList) (
             some (.bool true)) (
             some (.bool false))) (
            some (.bool false))) (
           some (.bool false))) (
          cond (E (wa ++ wb) == 0) (
           cond (((S []).size + (S wb).size).ble 9223372036854775807) (
            cond ((S (wa ++ wb)).toList == (S [] ++ S wb).toList) (
             some (.bool true)) (
             some (.bool false))) (
            none)) (
           some (.bool false))))) (
        none)) (
       none))) (
     none)) (
    none)) (
   none)) := by kernel_rfl
set_option maxRecDepth 100000 in
theorem r_p10 (gl : Gl) (S : List Int → ByteArray) (I E : List Int → Int) (wa wb : List Int) (oa na ca ob : Nat) : evP gl (HLP oa ob wa wb S I E) (.slice (some ⟨903, oa, none⟩) na ca) (.slice none 0 0) =
 cond (decide (IntKind.i64.wrap ((↑na : Int) + 0) > 1000)) (
  some (.bool true)) (
  cond (cl   (∃ c,     [] ++ [Value.slice (some (⟨903, oa, none⟩ : Addr)) na ca] ++ [] =         [Value.slice (some (⟨903, oa, none⟩ : Addr)) wa.length c] ∧       wa.length ≤ c)) (
   cond (cl ([] ++ [Value.slice none 0 0] ++ [] = [Value.slice none 0 0])) (
    cond (cl   (catG 903 oa 904 ob wa wb [Value.slice (some (⟨1000, 0, none⟩ : Addr)) 2 2]     [some         (LObj.row           { cells := [Value.slice (some (⟨903, oa, none⟩ : Addr)) na ca, Value.slice none 0 0], elem := 34,             fz := (0, 0), esz := 0, ro := false, tail := false })])) (
     cond ((wa.length + wb.length).beq 0) (
      cond (cl ([] ++ [Value.slice none 0 0] ++ [] = [Value.slice none 0 0])) (
       cond (E wa != 0) (
        cond (E [] == E wa) (
         cond (I [] == I wa) (
          cond ((S []).toList == (⟨#[]⟩ : ByteArray).toList) (
           some (.bool true)) (
           some (.bool false))) (
          some (.bool false))) (
         some (.bool false))) (
        cond (E [] != 0) (
         cond (E [] == E []) (
          cond (I [] == IntKind.i64.wrap ((↑na : Int) + I [])) (
           cond ((S []).toList == (⟨#[]⟩ : ByteArray).toList) (
            some (.bool true)) (
            some (.bool false))) (
           some (.bool false))) (
          some (.bool false))) (
         cond (E [] == 0) (
          cond (((S wa).size + (S []).size).ble 9223372036854775807) (
           cond ((S []).toList == (S wa ++ S []).toList) (
            some (.bool true)) (
            some (.bool false))) (
           none)) (
          some (.bool false))))) (
       none)) (
      cond (List.all (wC (wa ++ wb)) (af 8) && true) (
       cond (cl   ([] ++           [Value.slice               (some                 {                   block :=                     1001 +                       (1001 -                         (1000 +                           (walkI Tryd.prog 1000                               (LS.start.add                                 (rowOf 34                                   (splice                                     (splice (repl 2 [Value.slice none 0 0]) 0                                       [Value.slice (some (⟨903, oa, none⟩ : Addr)) na ca])                                     1 [Value.slice none 0 0])))                               400 0 (foldV (idsV 1000 8) ([] ++ [sliceTo 2 2 1000] ++ []) [])).length)),                   off := 0 })               (wa.length + wb.length) (wa.length + wb.length)] ++         [] =       [Value.slice           (some             {               block :=                 1001 +                   (1001 -                     (1000 +                       (walkI Tryd.prog 1000                           (LS.start.add                             (rowOf 34                               (splice                                 (splice (repl 2 [Value.slice none 0 0]) 0                                   [Value.slice (some (⟨903, oa, none⟩ : Addr)) na ca])                                 1 [Value.slice none 0 0])))                           400 0 (foldV (idsV 1000 8) ([] ++ [sliceTo 2 2 1000] ++ []) [])).length)),               off := 0 })           (wa ++ wb).length (wa ++ wb).length] ∧     wC (wa ++ wb) = wC (wa ++ wb))) (
        cond (E wa != 0) (
         cond (E (wa ++ wb) == E wa) (
          cond (I (wa ++ wb) == I wa) (
           cond ((S (wa ++ wb)).toList == (⟨#[]⟩ : ByteArray).toList) (
            some (.bool true)) (
            some (.bool false))) (
           some (.bool false))) (
          some (.bool false))) (
         cond (E [] != 0) (
          cond (E (wa ++ wb) == E []) (
           cond (I (wa ++ wb) == IntKind.i64.wrap ((↑na : Int) + I [])) (
            cond ((S (wa ++ wb)).toList == (⟨#[]⟩ : ByteArray).toList) (
             some (.bool true)) (
             some (.bool false))) (
            some (.bool false))) (
           some (.bool false))) (
          cond (E (wa ++ wb) == 0) (
           cond (((S wa).size + (S []).size).ble 9223372036854775807) (
            cond ((S (wa ++ wb)).toList == (S wa ++ S []).toList) (
             some (.bool true)) (
             some (.bool false))) (
            none)) (
           some (.bool false))))) (
        none)) (
       none))) (
     none)) (
    none)) (
   none)) := by kernel_rfl
set_option maxRecDepth 100000 in
theorem r_p00 (gl : Gl) (S : List Int → ByteArray) (I E : List Int → Int) (wa wb : List Int) (oa ob : Nat) : evP gl (HLP oa ob wa wb S I E) (.slice none 0 0) (.slice none 0 0) =
 cond (cl ([] ++ [Value.slice none 0 0] ++ [] = [Value.slice none 0 0])) (
  cond (cl ([] ++ [Value.slice none 0 0] ++ [] = [Value.slice none 0 0])) (
   cond (cl   (catG 903 oa 904 ob wa wb [Value.slice (some (⟨1000, 0, none⟩ : Addr)) 2 2]     [some         (LObj.row           { cells := [Value.slice none 0 0, Value.slice none 0 0], elem := 34, fz := (0, 0), esz := 0, ro := false,             tail := false })])) (
    cond ((wa.length + wb.length).beq 0) (
     cond (cl ([] ++ [Value.slice none 0 0] ++ [] = [Value.slice none 0 0])) (
      cond (E [] != 0) (
       cond (E [] == E []) (
        cond (I [] == I []) (
         cond ((S []).toList == (⟨#[]⟩ : ByteArray).toList) (
          some (.bool true)) (
          some (.bool false))) (
         some (.bool false))) (
        some (.bool false))) (
       cond (E [] != 0) (
        cond (E [] == E []) (
         cond (I [] == IntKind.i64.wrap (0 + I [])) (
          cond ((S []).toList == (⟨#[]⟩ : ByteArray).toList) (
           some (.bool true)) (
           some (.bool false))) (
          some (.bool false))) (
         some (.bool false))) (
        cond (E [] == 0) (
         cond (((S []).size + (S []).size).ble 9223372036854775807) (
          cond ((S []).toList == (S [] ++ S []).toList) (
           some (.bool true)) (
           some (.bool false))) (
          none)) (
         some (.bool false))))) (
      none)) (
     cond (List.all (wC (wa ++ wb)) (af 8) && true) (
      cond (cl   ([] ++ [Value.slice (some (⟨1001, 0, none⟩ : Addr)) (wa.length + wb.length) (wa.length + wb.length)] ++ [] =       [Value.slice (some (⟨1001, 0, none⟩ : Addr)) (wa ++ wb).length (wa ++ wb).length] ∧     wC (wa ++ wb) = wC (wa ++ wb))) (
       cond (E [] != 0) (
        cond (E (wa ++ wb) == E []) (
         cond (I (wa ++ wb) == I []) (
          cond ((S (wa ++ wb)).toList == (⟨#[]⟩ : ByteArray).toList) (
           some (.bool true)) (
           some (.bool false))) (
          some (.bool false))) (
         some (.bool false))) (
        cond (E [] != 0) (
         cond (E (wa ++ wb) == E []) (
          cond (I (wa ++ wb) == IntKind.i64.wrap (0 + I [])) (
           cond ((S (wa ++ wb)).toList == (⟨#[]⟩ : ByteArray).toList) (
            some (.bool true)) (
            some (.bool false))) (
           some (.bool false))) (
          some (.bool false))) (
         cond (E (wa ++ wb) == 0) (
          cond (((S []).size + (S []).size).ble 9223372036854775807) (
           cond ((S (wa ++ wb)).toList == (S [] ++ S []).toList) (
            some (.bool true)) (
            some (.bool false))) (
           none)) (
          some (.bool false))))) (
       none)) (
      none))) (
    none)) (
   none)) (
  none) := by kernel_rfl
end Go.Proofs.YtgohnfkidkomhaaDoor

noncomputable section
namespace Go.Proofs.YtgohnfkidkomhaaDoor
open Go.Proofs.YtgohnfkidkomhaaDoor.Ev Go.RowKit

/-! ListParts: the plain law. -/
theorem go_shift : ∀ (ws : List Int) (B : ByteArray) (i : Nat), lsGo B i ws = (B ++ (lsGo ⟨#[]⟩ 0 ws).1, i + (lsGo ⟨#[]⟩ 0 ws).2.1, (lsGo ⟨#[]⟩ 0 ws).2.2)
  | [], B, i => by
    show (B, i, true) = (B ++ (⟨#[]⟩ : ByteArray), i + 0, true)
    have : B ++ (⟨#[]⟩ : ByteArray) = B := ByteArray.append_empty
    rw [this]
    rfl
  | w :: ws, B, i => by
    unfold lsGo
    cases okW w with
    | true =>
      simp only [cond_true]
      rw [go_shift ws (B ++ lnW w) (i + 1), go_shift ws ((⟨#[]⟩ : ByteArray) ++ lnW w) (0 + 1)]
      have : (⟨#[]⟩ : ByteArray) ++ lnW w = lnW w := ByteArray.empty_append
      rw [this, ByteArray.append_assoc]
      simp only [Prod.mk.injEq, true_and, and_true]
      omega
    | false =>
      show (B, i, false) = (B ++ (⟨#[]⟩ : ByteArray), i + 0, false)
      have : B ++ (⟨#[]⟩ : ByteArray) = B := ByteArray.append_empty
      rw [this]
      rfl
theorem go_app : ∀ (wa wb : List Int) (B : ByteArray) (i : Nat), lsGo B i (wa ++ wb) = cond (lsGo B i wa).2.2 (lsGo (lsGo B i wa).1 (lsGo B i wa).2.1 wb) (lsGo B i wa)
  | [], wb, B, i => rfl
  | w :: ws, wb, B, i => by
    rw [List.cons_append, show lsGo B i (w :: (ws ++ wb)) = cond (okW w) (lsGo (B ++ lnW w) (i + 1) (ws ++ wb)) (B, i, false) from rfl, show lsGo B i (w :: ws) = cond (okW w) (lsGo (B ++ lnW w) (i + 1) ws) (B, i, false) from rfl]
    cases okW w with
    | true => exact go_app ws wb (B ++ lnW w) (i + 1)
    | false => rfl
theorem go_end : ∀ (ws : List Int) (B : ByteArray) (i : Nat), (lsGo B i ws).2.2 = true → (lsGo B i ws).2.1 = i + ws.length
  | [], B, i, _ => rfl
  | w :: ws, B, i, h => by
    unfold lsGo at h ⊢
    cases hk : okW w with
    | true =>
      rw [hk, cond_true] at h
      rw [cond_true, go_end ws (B ++ lnW w) (i + 1) h, List.length_cons]
      omega
    | false => rw [hk] at h; cases h
theorem s_small {ws : List Int} (h : ws.length ≤ 1000) : sS ws = cond (sR ws).2.2 (sR ws).1 ⟨#[]⟩ ∧ sI ws = cond (sR ws).2.2 0 ((sR ws).2.1 : Int) ∧ sE ws = cond (sR ws).2.2 0 6 := by
  unfold sS sI sE
  rw [decide_eq_false (show ¬ (ws.length : Int) > 1024 by omega)]
  exact ⟨rfl, rfl, rfl⟩
theorem parts {wa wb : List Int} (h : wa.length + wb.length ≤ 1000) :
    (sE wa ≠ 0 → sE (wa ++ wb) = sE wa ∧ sI (wa ++ wb) = sI wa ∧ sS (wa ++ wb) = ⟨#[]⟩) ∧
    (sE wa = 0 → sE wb ≠ 0 → sE (wa ++ wb) = sE wb ∧ sI (wa ++ wb) = (wa.length : Int) + sI wb ∧ sS (wa ++ wb) = ⟨#[]⟩) ∧
    (sE wa = 0 → sE wb = 0 → sE (wa ++ wb) = 0 ∧ sS (wa ++ wb) = sS wa ++ sS wb) := by
  obtain ⟨a1, a2, a3⟩ := s_small (ws := wa) (by omega)
  obtain ⟨b1, b2, b3⟩ := s_small (ws := wb) (by omega)
  obtain ⟨c1, c2, c3⟩ := s_small (ws := wa ++ wb) (by rw [List.length_append]; omega)
  have hR : sR (wa ++ wb) = cond (sR wa).2.2 ((sR wa).1 ++ (sR wb).1, (sR wa).2.1 + (sR wb).2.1, (sR wb).2.2) (sR wa) := by
    unfold sR
    rw [go_app, go_shift wb (lsGo ⟨#[]⟩ 0 wa).1]
  have he : (sR wa).2.2 = true → (sR wa).2.1 = wa.length := fun q => by
    have := go_end wa ⟨#[]⟩ 0 q
    rw [Nat.zero_add] at this
    exact this
  rw [a1, a2, a3, b1, b2, b3, c1, c2, c3, hR]
  generalize sR wa = Ra at *
  generalize sR wb = Rb at *
  obtain ⟨Ba, ia, oa⟩ := Ra
  obtain ⟨Bb, ib, ob⟩ := Rb
  simp only at he ⊢
  cases oa with
  | false =>
    exact ⟨fun _ => ⟨rfl, rfl, rfl⟩, fun q => absurd q (by decide), fun q => absurd q (by decide)⟩
  | true =>
    have he := he rfl
    subst he
    cases ob with
    | false =>
      exact ⟨fun q => absurd rfl q, fun _ _ => ⟨rfl, (by show ((wa.length + ib : Nat) : Int) = (wa.length : Int) + (ib : Int); omega), rfl⟩, fun _ q => absurd q (by decide)⟩
    | true =>
      exact ⟨fun q => absurd rfl q, fun _ q => absurd rfl q, fun _ _ => ⟨rfl, rfl⟩⟩
theorem tree_t {Ea Eb Eab Ia Iab n : Int} {Sa Sb Sab : ByteArray} (h1 : Ea ≠ 0 → Eab = Ea ∧ Iab = Ia ∧ Sab = ⟨#[]⟩) (h2 : Ea = 0 → Eb ≠ 0 → Eab = Eb ∧ Iab = n ∧ Sab = ⟨#[]⟩)
    (h3 : Ea = 0 → Eb = 0 → Eab = 0 ∧ Sab = Sa ++ Sb) (hs : Sa.size + Sb.size ≤ 9223372036854775807) :
    cond (Ea != 0) (cond (Eab == Ea) (cond (Iab == Ia) (cond (Sab.toList == (⟨#[]⟩ : ByteArray).toList) (some (Value.bool true)) (some (.bool false))) (some (.bool false))) (some (.bool false)))
      (cond (Eb != 0) (cond (Eab == Eb) (cond (Iab == n) (cond (Sab.toList == (⟨#[]⟩ : ByteArray).toList) (some (Value.bool true)) (some (.bool false))) (some (.bool false))) (some (.bool false)))
        (cond (Eab == 0) (cond ((Sa.size + Sb.size).ble 9223372036854775807) (cond (Sab.toList == (Sa ++ Sb).toList) (some (Value.bool true)) (some (.bool false))) none) (some (.bool false)))) = some (.bool true) := by
  by_cases ha : Ea = 0
  · refine condE (by rw [ha]; rfl) ?_
    by_cases hb : Eb = 0
    · obtain ⟨q1, q2⟩ := h3 ha hb
      subst q1; subst q2
      exact condE (by rw [hb]; rfl) (condI rfl (condI (nble hs) (condI (beq_self_eq_true _) rfl)))
    · obtain ⟨q1, q2, q3⟩ := h2 ha hb
      subst q1; subst q2; subst q3
      exact condI (by rw [bneI, decide_eq_false hb]; rfl) (condI (beq_self_eq_true _) (condI (beq_self_eq_true _) (condI (beq_self_eq_true _) rfl)))
  · obtain ⟨q1, q2, q3⟩ := h1 ha
    subst q1; subst q2; subst q3
    exact condI (by rw [bneI, decide_eq_false ha]; rfl) (condI (beq_self_eq_true _) (condI (beq_self_eq_true _) (condI (beq_self_eq_true _) rfl)))
theorem s_size {ws : List Int} (h : ws.length ≤ 1000) : (sS ws).size ≤ 101000 := by
  obtain ⟨a1, _, _⟩ := s_small h
  rw [a1]
  obtain ⟨h1, h2, h3, h4⟩ := lsGo_bd ws ⟨#[]⟩ 0
  have hs0 : (⟨#[]⟩ : ByteArray).size = 0 := rfl
  rw [hs0] at h3 h4
  unfold sR
  cases (lsGo ⟨#[]⟩ 0 ws).2.2 with
  | true => rw [cond_true]; omega
  | false => rw [cond_false, hs0]; omega
theorem sI_b {ws : List Int} (h : ws.length ≤ 1000) : 0 ≤ sI ws ∧ sI ws ≤ 1000 := by
  obtain ⟨_, a1, _⟩ := s_small h
  rw [a1]
  obtain ⟨h1, h2, h3, h4⟩ := lsGo_bd ws ⟨#[]⟩ 0
  unfold sR
  cases (lsGo ⟨#[]⟩ 0 ws).2.2 with
  | true => rw [cond_true]; omega
  | false => rw [cond_false]; omega
end Go.Proofs.YtgohnfkidkomhaaDoor

noncomputable section
namespace Go.Proofs.YtgohnfkidkomhaaDoor
open Go.Proofs.YtgohnfkidkomhaaDoor.Ev Go.RowKit

/-! ListParts: true, of any two rows of words. -/
theorem tail_t {wa wb : List Int} {n : Int} (h : wa.length + wb.length ≤ 1000) (hn : n = (wa.length : Int) + sI wb) :
    cond (sE wa != 0) (cond (sE (wa ++ wb) == sE wa) (cond (sI (wa ++ wb) == sI wa) (cond ((sS (wa ++ wb)).toList == (⟨#[]⟩ : ByteArray).toList) (some (Value.bool true)) (some (.bool false))) (some (.bool false))) (some (.bool false)))
      (cond (sE wb != 0) (cond (sE (wa ++ wb) == sE wb) (cond (sI (wa ++ wb) == n) (cond ((sS (wa ++ wb)).toList == (⟨#[]⟩ : ByteArray).toList) (some (Value.bool true)) (some (.bool false))) (some (.bool false))) (some (.bool false)))
        (cond (sE (wa ++ wb) == 0) (cond (((sS wa).size + (sS wb).size).ble 9223372036854775807) (cond ((sS (wa ++ wb)).toList == (sS wa ++ sS wb).toList) (some (Value.bool true)) (some (.bool false))) none) (some (.bool false)))) = some (.bool true) := by
  obtain ⟨h1, h2, h3⟩ := parts h
  have z1 := s_size (ws := wa) (by omega)
  have z2 := s_size (ws := wb) (by omega)
  exact tree_t h1 (fun p q => by rw [hn]; exact h2 p q) h3 (by omega)
theorem lp_eq (gl : Gl) {oa ob : Nat} {wa wb : List Int} {va vb : Value} (ha : WV 903 oa wa va) (hb : WV 904 ob wb vb) (la : wa.length ≤ 9223372036854775807) (lb : wb.length ≤ 9223372036854775807) (hh : wa.length + wb.length ≤ 1000) :
    evP gl (HLP oa ob wa wb sS sI sE) va vb = some (.bool true) := by
  have hi := sI_b (ws := wb) (by omega)
  have hcat : catG 903 oa 904 ob wa wb [.slice (some ⟨1000, 0, none⟩) 2 2] [some (.row ⟨[va, vb], 34, (0, 0), 0, false, false⟩)] := ⟨va, vb, (0, 0), rfl, rfl, ha, hb, hh⟩
  have hz0 : ∀ {b : Bool} {x y r : Option Value}, (b = true → x = r) → (b = false → y = r) → cond b x y = r := fun h1 h2 => by
    rename_i b _ _ _
    cases b
    · exact h2 rfl
    · exact h1 rfl
  have nil2 : Nat.beq (wa.length + wb.length) 0 = true → wa = [] ∧ wb = [] := fun e => by
    have := Nat.eq_of_beq_eq_true e
    exact ⟨List.length_eq_zero_iff.1 (by omega), List.length_eq_zero_iff.1 (by omega)⟩
  rcases ha with ⟨rfl, rfl⟩ | ⟨ca, rfl, hca⟩ <;> rcases hb with ⟨rfl, rfl⟩ | ⟨cb, rfl, hcb⟩
  · rw [r_p00]
    refine condI (cl_t rfl) (condI (cl_t rfl) (condI (cl_t hcat) (condI rfl (condI (cl_t rfl) ?_))))
    exact tail_t (wa := []) (wb := []) (n := _) hh rfl
  · rw [r_p01, wrap_id _ (by omega)]
    refine condE (decide_eq_false (by simp only [List.length_nil] at hh; omega)) (condI (cl_t rfl) (condI (cl_t ⟨cb, rfl, hcb⟩) (condI (cl_t hcat) (hz0 (fun e => ?_) (fun e => ?_)))))
    · obtain ⟨_, rfl⟩ := nil2 e
      refine condI (cl_t rfl) ?_
      exact tail_t (wa := []) (wb := []) hh (by rw [wrap_id _ (by omega)]; rfl)
    · refine condI (andI (List.all_eq_true.2 fun v hv => (wC_plain _ v hv).1) rfl) (condI (cl_t ⟨by rw [List.length_append]; try rfl, rfl⟩) ?_)
      exact tail_t (wa := []) (wb := wb) hh (by rw [wrap_id _ (by omega)]; rfl)
  · rw [r_p10, wrap_id _ (by omega)]
    refine condE (decide_eq_false (by simp only [List.length_nil] at hh; omega)) (condI (cl_t ⟨ca, rfl, hca⟩) (condI (cl_t rfl) (condI (cl_t hcat) (hz0 (fun e => ?_) (fun e => ?_)))))
    · obtain ⟨rfl, _⟩ := nil2 e
      refine condI (cl_t rfl) ?_
      exact tail_t (wa := []) (wb := []) hh (by rw [wrap_id _ (by simp only [List.length_nil]; omega)])
    · refine condI (andI (List.all_eq_true.2 fun v hv => (wC_plain _ v hv).1) rfl) (condI (cl_t ⟨by rw [List.length_append]; try rfl, rfl⟩) ?_)
      exact tail_t (wa := wa) (wb := []) hh (by rw [wrap_id _ (by omega)])
  · rw [r_p11, wrap_id ((wa.length : Int) + (wb.length : Int)) (by omega)]
    refine condE (decide_eq_false (by omega)) (condI (cl_t ⟨ca, rfl, hca⟩) (condI (cl_t ⟨cb, rfl, hcb⟩) (condI (cl_t hcat) (hz0 (fun e => ?_) (fun e => ?_)))))
    · obtain ⟨rfl, rfl⟩ := nil2 e
      refine condI (cl_t rfl) ?_
      exact tail_t (wa := []) (wb := []) hh (by rw [wrap_id _ (by simp only [List.length_nil]; omega)])
    · refine condI (andI (List.all_eq_true.2 fun v hv => (wC_plain _ v hv).1) rfl) (condI (cl_t ⟨by rw [List.length_append]; try rfl, rfl⟩) ?_)
      exact tail_t (wa := wa) (wb := wb) hh (by rw [wrap_id _ (by omega)])
end Go.Proofs.YtgohnfkidkomhaaDoor

noncomputable section
namespace Go.Proofs.YtgohnfkidkomhaaDoor
open Go.Proofs.YtgohnfkidkomhaaDoor.Ev Go.RowKit
open Go.ChangeShapes Go.WideShapes Go.ChangeAt

/-! ListParts at two rows that came in. -/
theorem slice_len {P : Program} {H : Type} {enc : TypeId × Value → H} {w : World} {sp : Nat → Bool} {held : Bool} {t e : TypeId} {a : Addr} {len cap : Nat} {d : DataW H} {p : List MemPlace} (ht : P.underlying t = some (.slice e)) (h : DataW.Trod enc P w 0 sp held t (.slice (some a) len cap) d p) :
    ∃ E R, d = .slice E R ∧ E.length = len := by
  obtain ⟨fuel, h⟩ := h
  rcases DataW.trod_slice ht h with ⟨hn, _⟩ | ⟨a', len', cap', elems, rest, m, _, hcs, hx, _, _, _, hel, _⟩
  · simp [Value.cells] at hn
  · have e0 : Value.slice (some a) len cap = .slice (some a') len' cap' := by simpa [Value.cells] using hcs
    cases e0
    simp only [Prod.mk.injEq] at hx
    exact ⟨_, _, hx.1, by rw [List.length_map]; exact hel⟩
theorem bytesW : Tryd.prog.bytesOf 29 = 4 := by kernel_rfl
set_option maxRecDepth 100000 in
theorem wt_one {H : Type} {d : DataW H} (h : (DataW.weights Tryd.prog 34 d).all (· ≤ reachBytes) = true) : ∀ E R, d = .slice E R → E.length ≤ 140737488355328 := by
  rintro E R rfl
  unfold DataW.weights at h
  rw [Tryd.underlying34] at h
  simp only [List.all_cons, Bool.and_eq_true, decide_eq_true_eq] at h
  have h1 := h.1
  rw [bytesW] at h1
  have hr : reachBytes = 140737488351232 := rfl
  omega
set_option maxRecDepth 100000 in
theorem wts2 {H : Type} {d0 d1 : DataW H} {ts : List TypeId} {ds : List (DataW H)} (h : (DataW.weightsEach Tryd.prog (34 :: 34 :: ts) (d0 :: d1 :: ds)).all (· ≤ reachBytes) = true) :
    (∀ E R, d0 = .slice E R → E.length ≤ 140737488355328) ∧ (∀ E R, d1 = .slice E R → E.length ≤ 140737488355328) := by
  simp only [DataW.weightsEach, List.all_append, Bool.and_eq_true] at h
  exact ⟨wt_one h.1, wt_one h.2.1⟩
def OpenW (W : World) (v : Value) : Prop := v = .slice none 0 0 ∨ ∃ (blk off cap : Nat) (ws : List Int), v = .slice (some ⟨blk, off, none⟩) ws.length cap ∧ ws.length ≤ cap ∧ ws.length ≤ 140737488355328 ∧ (∀ (i : Nat) x, (wC ws)[i]? = some x → W.cell? ⟨blk, off + i, none⟩ = some x) ∧ InW ws ∧ blk < W.heap.size
set_option maxRecDepth 100000 in
theorem open_w {H : Type} {enc : TypeId × Value → H} {w : World} {sp : Nat → Bool} {held : Bool} {rc : Reach} {base : Nat} {v : Value} {d : DataW H} {p : List MemPlace}
    (hv : Value.okWide Tryd.prog w rc base 34 v) (h : DataW.Trod enc Tryd.prog w 0 sp held 34 v d p) (hl : ∀ E R, d = .slice E R → E.length ≤ 140737488355328) : OpenW w v := by
  rcases open_u32s hv h with e | ⟨blk, off, cap, ws, rfl, h1, h2, h3, h4, h5⟩
  · exact .inl e
  · obtain ⟨E, R, e1, e2⟩ := slice_len Tryd.underlying34 h
    have := hl E R e1
    exact .inr ⟨blk, off, cap, ws, rfl, h1, by omega, h3, h4, h5⟩
theorem add_arg {gl : Gl} {φ : Phi} {W : World} {q : Nat} {v : Value} (hr : Rel Tryd.prog gl φ LS.start W) (hq0 : 900 ≤ q) (hq : q < 1000) (hφ : φ q = none) (h : OpenW W v) :
    ∃ o ws φ' v0, Rel Tryd.prog (glK gl q o (wC ws)) φ' LS.start W ∧ φ.le φ' ∧ (∀ i, i ≠ q → φ' i = φ i) ∧ VR φ' v0 v ∧ WV q o ws v0 ∧ InW ws ∧ ws.length ≤ 140737488355328 := by
  rcases h with rfl | ⟨blk, off, cap, ws, rfl, h1, h2, h3, h4, h5⟩
  · exact ⟨0, [], φ, _, noCells hr, φ.le_refl, fun _ _ => rfl, .nilSlice 0 0, .inl ⟨rfl, rfl⟩, fun w hw => (by cases hw), Nat.zero_le _⟩
  · refine ⟨off, ws, _, .slice (some ⟨q, off, none⟩) ws.length cap, hr.addK tglob (b := q) (off := off) (blk := blk) hq0 hq hφ (wC_plain ws) h3 h5, Phi.le_set hφ _, fun i hi => by simp [Phi.set, hi], .slice _ _ _ _ _ ⟨rfl, rfl, ⟨blk, none⟩, by simp [Phi.set], rfl, fun _ => ⟨rfl, rfl⟩, fun S z h => by cases h⟩, .inr ⟨cap, rfl, h1⟩, h4, h2⟩
theorem lp_big (gl : Gl) {oa ob : Nat} {wa wb : List Int} {va vb : Value} (ha : WV 903 oa wa va) (hb : WV 904 ob wb vb) (la : wa.length ≤ 140737488355328) (lb : wb.length ≤ 140737488355328) (hh : 1000 < wa.length + wb.length) :
    evP gl (HLP oa ob [] [] sS sI sE) va vb = some (.bool true) := by
  rcases ha with ⟨rfl, rfl⟩ | ⟨ca, rfl, hca⟩ <;> rcases hb with ⟨rfl, rfl⟩ | ⟨cb, rfl, hcb⟩
  · simp at hh
  · rw [r_p01, wrap_id _ (by omega)]
    exact condI (decide_eq_true (by simp only [List.length_nil] at hh; omega)) rfl
  · rw [r_p10, wrap_id _ (by omega)]
    exact condI (decide_eq_true (by simp only [List.length_nil] at hh; omega)) rfl
  · rw [r_p11, wrap_id _ (by omega)]
    exact condI (decide_eq_true (by omega)) rfl
theorem HLP_ok {gl : Gl} {oa ob : Nat} {wa wb : List Int} (hm : ∀ g k v, glC g k = some v → gl g k = some v) (hgl : Low gl) (ha : GW gl 903 oa wa) (hb : GW gl 904 ob wb) (ia : InW wa) (ib : InW wb) (hlen : wa.length + wb.length ≤ 1000) :
    (HLP oa ob wa wb sS sI sE).OK Tryd.prog gl := hsOf_ok (fun p h => by
    simp only [List.mem_cons, List.not_mem_nil, or_false] at h
    rcases h with rfl | rfl
    · exact fn_works22 (fun i z h => hm _ _ _ (glC_F i z h)) hgl (fun i z h => hm _ _ _ (glC_P i z h))
    · exact fn_list hm hgl ha hb ia ib hlen) (fun p h => by
    simp only [List.mem_cons, List.not_mem_nil, or_false] at h
    subst h
    exact cat_sub ha hb) (fun _ h => by cases h)
theorem listParts_calls {bs : List Nat} (hbs : bs.length = 0) {W : World} (hr : Rel Tryd.prog glC (phi0 Tryd.prog.globals.size bs) LS.start W) {va vb : Value} (hva : OpenW W va) (hvb : OpenW W vb) :
    Calls Tryd.prog 5 #[va, vb] W (fun e W' => e = .returned (.bool true) ∧ Below W.heap.size W W') := by
  have hg := tglob
  obtain ⟨oa, wa, φ1, va0, hr1, le1, ot1, v1, wv1, ia, la⟩ := add_arg (q := 903) hr (by decide) (by decide) (phi0_none (by omega) (by omega)) hva
  obtain ⟨ob, wb, φ2, vb0, hr2, le2, ot2, v2, wv2, ib, lb⟩ := add_arg (q := 904) hr1 (by decide) (by decide) (by rw [ot1 904 (by decide)]; exact phi0_none (by omega) (by omega)) hvb
  have low1 : Low (glK glC 903 oa (wC wa)) := glK_low glC_low (by decide) (wC_plain wa)
  have low2 : Low (glK (glK glC 903 oa (wC wa)) 904 ob (wC wb)) := glK_low low1 (by decide) (wC_plain wb)
  have g4 : ∀ k, glK glC 903 oa (wC wa) 904 k = none := fun k => by
    unfold glK
    rw [nbeq_f (by decide), cond_false]
    exact glC_hi (by decide) k
  have hm : ∀ g k v, glC g k = some v → glK (glK glC 903 oa (wC wa)) 904 ob (wC wb) g k = some v := fun g k v h => glK_mono g4 _ _ _ (glK_mono (glC_hi (by decide)) _ _ _ h)
  have gA : GW (glK (glK glC 903 oa (wC wa)) 904 ob (wC wb)) 903 oa wa := fun i v h => glK_mono g4 _ _ _ (by
    unfold glK
    rw [show Nat.beq 903 903 = true from rfl, cond_true, nble (Nat.le_add_right _ _), cond_true, Nat.add_sub_cancel_left]
    exact h)
  have gB : GW (glK (glK glC 903 oa (wC wa)) 904 ob (wC wb)) 904 ob wb := fun i v h => by
    unfold glK
    rw [show Nat.beq 904 904 = true from rfl, cond_true, nble (Nat.le_add_right _ _), cond_true, Nat.add_sub_cancel_left]
    exact h
  have hargs : LR φ2 [va0, vb0] [va, vb] := LR.cons (v1.mono le2) (LR.cons v2 (LR.nil _))
  by_cases hh : wa.length + wb.length ≤ 1000
  · exact flatSR noSy_ok goodB low2 tglob (HLP_ok hm low2 gA gB ia ib hh) (lp_eq _ wv1 wv2 (by omega) (by omega) hh) hr2 hargs
  · exact flatSR noSy_ok goodB low2 tglob (HLP_ok (oa := oa) (ob := ob) (wa := []) (wb := []) hm low2 (fun i v h => by cases h) (fun i v h => by cases h) (fun w hw => by cases hw) (fun w hw => by cases hw) (by decide)) (lp_big _ wv1 wv2 la lb (by omega)) hr2 hargs
end Go.Proofs.YtgohnfkidkomhaaDoor
