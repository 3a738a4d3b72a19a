/- ListLists answers true and turns nothing, of any row of words, whatever the tape and the order of evaluation, where the listed variables start as the program's text lays them. -/
import Derived.Test.YtgohnfkidkomhaaDoorM2
import Derived.Test.YtgohnfkidkomhaaDoorCards
import Derived.Test.YtgohnfkidkomhaaDoorTie
import Derived.WalkKit
import Derived.ProofKit
import Derived.OpenShut
import Derived.ChangeMaps5
import Derived.Deep.DeepHandedRow
import Derived.Deep.DeepWitnessRowRef
import Derived.Lay
/- ListLists answers true and turns nothing, of any row of words, whatever the tape and the order of evaluation, where the listed variables start as the program's text lays them. -/
noncomputable section
namespace Go.Proofs.YtgohnfkidkomhaaDoor.listLists
open Go.ChangeShapes Go.WideShapes Go.ChangeAt Go.RowKit Go.Proofs.YtgohnfkidkomhaaDoor.Ev Go.Proofs.YtgohnfkidkomhaaDoor

theorem own : ownKnob Tryd.prog.godebug = none := by kernel_rfl
theorem g2 : Tryd.prog.globalNamed "internal/strconv.uint64pow10" = some 2 := by kernel_rfl
theorem g0 : Tryd.prog.globalNamed "undertow/code.forms" = some 0 := by kernel_rfl
theorem t2 : (Tryd.prog.globals[2]?).map (·.type) = some 174 := by kernel_rfl
theorem t0 : (Tryd.prog.globals[0]?).map (·.type) = some 124 := by kernel_rfl
theorem noHandle : (Rows.listListsRow.laid.filter fun x => x.2.handleName?.isSome) = [] := by kernel_rfl
theorem laidOf {W : World} (h : laidMetH Tryd.prog Rows.listListsRow.laid W) : laidMet Tryd.prog Rows.listListsRow.laid W := by
  unfold laidMetH at h
  rw [noHandle] at h
  exact h
theorem ready (W : World) (hL : laidMetH Tryd.prog Rows.listListsRow.laid W) (hs : W.ShapedOpen Tryd.prog) : ∃ bs : List Nat, bs.length = 0 ∧ Rel Tryd.prog (glC) (phi0 Tryd.prog.globals.size bs) LS.start W := by
  have hL2 := laidOf hL
  have hn : Tryd.prog.globals.size ≤ 900 := of_decide_eq_true (by kernel_rfl)
  have k2 : TabOK Tryd.prog (phi0 Tryd.prog.globals.size []) W (2, pow10L.map (.int .u64)) := tab_ok (name := "internal/strconv.uint64pow10") (zs := pow10L) hL2 (.tail _ (.tail _ (.head _))) g2 t2 Tryd.underlying174 Tryd.underlying99 (by kernel_rfl) (by kernel_rfl)
  have k0 : TabOK Tryd.prog (phi0 Tryd.prog.globals.size []) W (0, formsL.map (.int .i64)) := tab_ok (name := "undertow/code.forms") (zs := formsL) hL2 (.tail _ (.tail _ (.tail _ (.head _)))) g0 t0 Tryd.underlying124 Tryd.underlying3 (by kernel_rfl) (by kernel_rfl)
  refine ⟨_, rfl, rel_start (bs := []) hn (by simp) (fun b hb => ?_) (shaped_size hs (by kernel_rfl)) (glOf_ok ?_)⟩
  · cases hb
  intro x hx
  simp only [List.mem_cons, List.not_mem_nil, or_false] at hx
  rcases hx with rfl | rfl
  · exact k2
  · exact k0
theorem walk (v : Value) (W : World) (hL : laidMetH Tryd.prog Rows.listListsRow.laid W) (hsh : W.ShapedOpen Tryd.prog) (hv : v = .slice none 0 0 ∨ ∃ (blk off cap : Nat) (ws : List Int), v = .slice (some ⟨blk, off, none⟩) ws.length cap ∧ ws.length ≤ cap ∧ ws.length ≤ 9223372036854775807 ∧ (∀ (i : Nat) x, (wC ws)[i]? = some x → W.cell? ⟨blk, off + i, none⟩ = some x) ∧ InW ws ∧ blk < W.heap.size) :
    Calls Tryd.prog 4 #[v] W (fun e W' => e = .returned (.bool true) ∧ Below W.heap.size W W') := by
  obtain ⟨bs, hbs, hr⟩ := ready W hL hsh
  have hw : Ready Tryd.prog (glC) W := ⟨_, hr⟩
  exact (by
    rcases hv with rfl | ⟨blk, off, cap, ws, rfl, h1, h2, h3, h4, h5⟩
    · exact listLists_callsN hw
    · exact listLists_calls hbs hr h1 h3 h4 h5)

theorem reads (os : Os) {H : Type} (enc : TypeId × Value → H) : ∃ places, DataW.whole enc Tryd.prog ((World.laidAll Tryd.prog os Rows.listListsRow.laid).forCall (fun _ _ => 0) ⟨#[], #[.slice none 0 0], []⟩).memory Tryd.f4.params.toList Rows.listListsSpec.vars false (#[.slice none 0 0] : Array Value).toList 8 = some ([.nil], [], places) :=
  ⟨[], by kernel_rfl⟩

set_option maxRecDepth 100000 in
theorem lifted (os : Os) (started : os.Started) (H : Type) (enc : TypeId × Value → H) (F : Stop.Interp) :
    ReturnsInHanded {} Tryd.checked os 4 .any ((OpenSpec.ofChange Rows.listListsSpec).preRow enc Tryd.prog Tryd.f4 Rows.listListsRow.domain false Rows.listListsRow.laid) (((OpenSpec.ofChange Rows.listListsSpec).at F).post enc Tryd.prog Tryd.f4 false true false false) := by
  obtain ⟨places, hx⟩ := reads os enc
  refine returnsInHanded_of_row (C := Tryd.checked) (s := OpenSpec.ofChange Rows.listListsSpec) own started (by kernel_rfl) Tryd.func4
    (witness_row_atRef (enc := enc) (C := Tryd.checked) false (World.laidAll Tryd.prog os Rows.listListsRow.laid) #[.slice none 0 0] (World.laidAll_os _ _ _) (by kernel_rfl) (by kernel_rfl) (by kernel_rfl)
      (OpenSpec.preRow_of_cond 8 hx (by kernel_rfl) (fun k hk => by cases hk) (by kernel_rfl) (laidMet_laidAll #[.slice none 0 0] (by kernel_rfl) (by kernel_rfl)))) ?_
  intro W base args ds gs before hval hW _ _ hwt hL hsh _
  have hp : Tryd.f4.params = #[34] := by kernel_rfl
  rw [hp] at hwt
  obtain ⟨v0, d0, q0, rfl, rfl, ht0⟩ : ∃ v0 d0 q0, args = #[v0] ∧ ds = [d0] ∧ DataW.Trod enc Tryd.prog W 0 (fun _ => true) true 34 v0 d0 q0 := by
    obtain ⟨p, q, hA, _⟩ := id hW
    rw [hp] at hA
    obtain ⟨v0, vs0, d0, ds0, p0, r0, e0, rfl, _, h0, hA0⟩ := trodAll_cons hA
    obtain ⟨rfl, rfl, _⟩ := trodAll_nil hA0
    exact ⟨v0, d0, p0, Array.ext' e0, rfl, h0⟩
  have hok0 : Value.okWide Tryd.prog W .any base 34 v0 := hval 0 34 v0 (by rw [hp]; rfl) rfl
  have hop := open_u32s hok0 ht0
  refine (walk v0 W hL hsh hop).mono fun e W' ⟨he, hB⟩ => ?_
  subst he
  exact ⟨_, rfl, post_trueN (t := 4) (m := 4) (by kernel_rfl) (by kernel_rfl) rfl Tryd.underlying4 rfl hW hB⟩

theorem andT {a b : Bool} (h : a = true) (k : b = true) : (a && b) = true := by rw [h, k]; rfl
set_option maxRecDepth 100000 in
set_option maxHeartbeats 0 in
theorem closed : joinedFacts Tryd.pinned.checked.prog 4 Tryd.f4 (OpenSpec.ofChange Rows.listListsSpec).bare Rows.listListsRow = true := by
  unfold joinedFacts
  repeat' (with_reducible refine andT ?_ ?_)
  all_goals as_aux_lemma => kernel_rfl

theorem said : Rows.ListListsSaid :=
  OpenClaim.holds_of_cond 4 Tryd.f4 rfl rfl rfl rfl rfl rfl rfl ⟨rfl, rfl, rfl, rfl, rfl⟩ rfl rfl rfl rfl rfl (by kernel_rfl) Tryd.func4 closed
    (of_decide_eq_true (by kernel_rfl)) (by unfold Func.isWrapper; first | (rw [if_pos (by decide +kernel)]; kernel_rfl) | (rw [if_neg (by decide +kernel)]; exact ⟨rfl, rfl⟩))
    (fun os started H enc _ F => by rw [OpenClaim.pre_eq_preRow]; exact lifted os started H enc F)

theorem plain (f : FuncId) (fn : Func) (hf : Tryd.pinned.checked.prog.funcNamed "undertow/undertowlaw22.ListLists" = some f) (hfn : Tryd.pinned.checked.prog.funcs[f]? = some fn) :
    true = Tryd.pinned.checked.prog.looks [] ∧ ∀ (j : Nat) t, fn.params[j]? = some t → Tryd.pinned.checked.prog.wantsStandIn t = false := by
  obtain rfl : f = 4 := Option.some.inj ((show Tryd.prog.funcNamed "undertow/undertowlaw22.ListLists" = some 4 by kernel_rfl).symm.trans hf) |>.symm
  obtain rfl : fn = Tryd.f4 := (Option.some.inj (Tryd.func4.symm.trans hfn)).symm
  refine ⟨by kernel_rfl, fun j t ht => ?_⟩
  rw [show Tryd.f4.params = #[34] from by kernel_rfl] at ht
  cases j with
  | zero => cases ht; kernel_rfl
  | succ j =>
    simp at ht

theorem card : Rows.ListListsCardSaid :=
  Claim7.holds_tied_plain_at .later [] _ _ _ _ said (fun _ h => by cases h) (by kernel_rfl) (fun _ h => by cases h) listLists_row_tie rfl ⟨rfl, rfl⟩ (by kernel_rfl) rfl plain (by kernel_rfl)
end Go.Proofs.YtgohnfkidkomhaaDoor.listLists
namespace Go.Proofs.YtgohnfkidkomhaaDoor
theorem listLists_card_holds : Rows.ListListsCardSaid := listLists.card
end Go.Proofs.YtgohnfkidkomhaaDoor
