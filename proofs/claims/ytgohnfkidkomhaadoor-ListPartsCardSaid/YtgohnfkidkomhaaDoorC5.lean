/- ListParts answers true and turns nothing, of any two rows of words, whatever the tape and the order of evaluation, where the listed variables start as the program's text lays them. -/
import Derived.Test.YtgohnfkidkomhaaDoorM3
import Derived.Test.YtgohnfkidkomhaaDoorCards
import Derived.Test.YtgohnfkidkomhaaDoorTie
import Derived.WalkKit
import Derived.ProofKit
import Derived.OpenShut
import Derived.ChangeMaps5
import Derived.Deep.DeepHandedRow
import Derived.Deep.DeepWitnessRowRef
import Derived.Lay
/- ListParts answers true and turns nothing, of any two rows of words, whatever the tape and the order of evaluation, where the listed variables start as the program's text lays them. -/
noncomputable section
namespace Go.Proofs.YtgohnfkidkomhaaDoor.listParts
open Go.ChangeShapes Go.WideShapes Go.ChangeAt Go.RowKit Go.Proofs.YtgohnfkidkomhaaDoor.Ev Go.Proofs.YtgohnfkidkomhaaDoor

theorem own : ownKnob Tryd.prog.godebug = none := by kernel_rfl
theorem g2 : Tryd.prog.globalNamed "internal/strconv.uint64pow10" = some 2 := by kernel_rfl
theorem g0 : Tryd.prog.globalNamed "undertow/code.forms" = some 0 := by kernel_rfl
theorem t2 : (Tryd.prog.globals[2]?).map (·.type) = some 174 := by kernel_rfl
theorem t0 : (Tryd.prog.globals[0]?).map (·.type) = some 124 := by kernel_rfl
theorem noHandle : (Rows.listPartsRow.laid.filter fun x => x.2.handleName?.isSome) = [] := by kernel_rfl
theorem laidOf {W : World} (h : laidMetH Tryd.prog Rows.listPartsRow.laid W) : laidMet Tryd.prog Rows.listPartsRow.laid W := by
  unfold laidMetH at h
  rw [noHandle] at h
  exact h
theorem ready (W : World) (hL : laidMetH Tryd.prog Rows.listPartsRow.laid W) (hs : W.ShapedOpen Tryd.prog) : ∃ bs : List Nat, bs.length = 0 ∧ Rel Tryd.prog (glC) (phi0 Tryd.prog.globals.size bs) LS.start W := by
  have hL2 := laidOf hL
  have hn : Tryd.prog.globals.size ≤ 900 := of_decide_eq_true (by kernel_rfl)
  have k2 : TabOK Tryd.prog (phi0 Tryd.prog.globals.size []) W (2, pow10L.map (.int .u64)) := tab_ok (name := "internal/strconv.uint64pow10") (zs := pow10L) hL2 (.tail _ (.tail _ (.head _))) g2 t2 Tryd.underlying174 Tryd.underlying99 (by kernel_rfl) (by kernel_rfl)
  have k0 : TabOK Tryd.prog (phi0 Tryd.prog.globals.size []) W (0, formsL.map (.int .i64)) := tab_ok (name := "undertow/code.forms") (zs := formsL) hL2 (.tail _ (.tail _ (.tail _ (.head _)))) g0 t0 Tryd.underlying124 Tryd.underlying3 (by kernel_rfl) (by kernel_rfl)
  refine ⟨_, rfl, rel_start (bs := []) hn (by simp) (fun b hb => ?_) (shaped_size hs (by kernel_rfl)) (glOf_ok ?_)⟩
  · cases hb
  intro x hx
  simp only [List.mem_cons, List.not_mem_nil, or_false] at hx
  rcases hx with rfl | rfl
  · exact k2
  · exact k0
theorem walk (va : Value) (vb : Value) (W : World) (hL : laidMetH Tryd.prog Rows.listPartsRow.laid W) (hsh : W.ShapedOpen Tryd.prog) (hva : OpenW W va) (hvb : OpenW W vb) :
    Calls Tryd.prog 5 #[va, vb] W (fun e W' => e = .returned (.bool true) ∧ Below W.heap.size W W') := by
  obtain ⟨bs, hbs, hr⟩ := ready W hL hsh
  have hw : Ready Tryd.prog (glC) W := ⟨_, hr⟩
  exact listParts_calls hbs hr hva hvb

theorem reads (os : Os) {H : Type} (enc : TypeId × Value → H) : ∃ places, DataW.whole enc Tryd.prog ((World.laidAll Tryd.prog os Rows.listPartsRow.laid).forCall (fun _ _ => 0) ⟨#[], #[.slice none 0 0, .slice none 0 0], []⟩).memory Tryd.f5.params.toList Rows.listPartsSpec.vars false (#[.slice none 0 0, .slice none 0 0] : Array Value).toList 8 = some ([.nil, .nil], [], places) :=
  ⟨[], by kernel_rfl⟩

set_option maxRecDepth 100000 in
theorem lifted (os : Os) (started : os.Started) (H : Type) (enc : TypeId × Value → H) (F : Stop.Interp) :
    ReturnsInHanded {} Tryd.checked os 5 .any ((OpenSpec.ofChange Rows.listPartsSpec).preRow enc Tryd.prog Tryd.f5 Rows.listPartsRow.domain false Rows.listPartsRow.laid) (((OpenSpec.ofChange Rows.listPartsSpec).at F).post enc Tryd.prog Tryd.f5 false true false false) := by
  obtain ⟨places, hx⟩ := reads os enc
  refine returnsInHanded_of_row (C := Tryd.checked) (s := OpenSpec.ofChange Rows.listPartsSpec) own started (by kernel_rfl) Tryd.func5
    (witness_row_atRef (enc := enc) (C := Tryd.checked) false (World.laidAll Tryd.prog os Rows.listPartsRow.laid) #[.slice none 0 0, .slice none 0 0] (World.laidAll_os _ _ _) (by kernel_rfl) (by kernel_rfl) (by kernel_rfl)
      (OpenSpec.preRow_of_cond 8 hx (by kernel_rfl) (fun k hk => by cases hk) (by kernel_rfl) (laidMet_laidAll #[.slice none 0 0, .slice none 0 0] (by kernel_rfl) (by kernel_rfl)))) ?_
  intro W base args ds gs before hval hW _ _ hwt hL hsh _
  have hp : Tryd.f5.params = #[34, 34] := by kernel_rfl
  rw [hp] at hwt
  obtain ⟨v0, v1, d0, d1, q0, q1, rfl, rfl, ht0, ht1⟩ : ∃ v0 v1 d0 d1 q0 q1, args = #[v0, v1] ∧ ds = [d0, d1] ∧ DataW.Trod enc Tryd.prog W 0 (fun _ => true) true 34 v0 d0 q0 ∧ DataW.Trod enc Tryd.prog W 0 (fun _ => true) true 34 v1 d1 q1 := by
    obtain ⟨p, q, hA, _⟩ := id hW
    rw [hp] at hA
    obtain ⟨v0, vs0, d0, ds0, p0, r0, e0, rfl, _, h0, hA0⟩ := trodAll_cons hA
    obtain ⟨v1, vs1, d1, ds1, p1, r1, e1, rfl, _, h1, hA1⟩ := trodAll_cons hA0
    obtain ⟨rfl, rfl, _⟩ := trodAll_nil hA1
    subst e1
    exact ⟨v0, v1, d0, d1, p0, p1, Array.ext' e0, rfl, h0, h1⟩
  have hok0 : Value.okWide Tryd.prog W .any base 34 v0 := hval 0 34 v0 (by rw [hp]; rfl) rfl
  have hwt2 := wts2 hwt
  have hop0 := open_w hok0 ht0 hwt2.1
  have hok1 : Value.okWide Tryd.prog W .any base 34 v1 := hval 1 34 v1 (by rw [hp]; rfl) rfl
  have hop1 := open_w hok1 ht1 hwt2.2
  refine (walk v0 v1 W hL hsh hop0 hop1).mono fun e W' ⟨he, hB⟩ => ?_
  subst he
  exact ⟨_, rfl, post_trueN (t := 4) (m := 4) (by kernel_rfl) (by kernel_rfl) rfl Tryd.underlying4 rfl hW hB⟩

theorem andT {a b : Bool} (h : a = true) (k : b = true) : (a && b) = true := by rw [h, k]; rfl
set_option maxRecDepth 100000 in
set_option maxHeartbeats 0 in
theorem closed : joinedFacts Tryd.pinned.checked.prog 5 Tryd.f5 (OpenSpec.ofChange Rows.listPartsSpec).bare Rows.listPartsRow = true := by
  unfold joinedFacts
  repeat' (with_reducible refine andT ?_ ?_)
  all_goals as_aux_lemma => kernel_rfl

theorem said : Rows.ListPartsSaid :=
  OpenClaim.holds_of_cond 5 Tryd.f5 rfl rfl rfl rfl rfl rfl rfl ⟨rfl, rfl, rfl, rfl, rfl⟩ rfl rfl rfl rfl rfl (by kernel_rfl) Tryd.func5 closed
    (of_decide_eq_true (by kernel_rfl)) (by unfold Func.isWrapper; first | (rw [if_pos (by decide +kernel)]; kernel_rfl) | (rw [if_neg (by decide +kernel)]; exact ⟨rfl, rfl⟩))
    (fun os started H enc _ F => by rw [OpenClaim.pre_eq_preRow]; exact lifted os started H enc F)

theorem plain (f : FuncId) (fn : Func) (hf : Tryd.pinned.checked.prog.funcNamed "undertow/undertowlaw22.ListParts" = some f) (hfn : Tryd.pinned.checked.prog.funcs[f]? = some fn) :
    true = Tryd.pinned.checked.prog.looks [] ∧ ∀ (j : Nat) t, fn.params[j]? = some t → Tryd.pinned.checked.prog.wantsStandIn t = false := by
  obtain rfl : f = 5 := Option.some.inj ((show Tryd.prog.funcNamed "undertow/undertowlaw22.ListParts" = some 5 by kernel_rfl).symm.trans hf) |>.symm
  obtain rfl : fn = Tryd.f5 := (Option.some.inj (Tryd.func5.symm.trans hfn)).symm
  refine ⟨by kernel_rfl, fun j t ht => ?_⟩
  rw [show Tryd.f5.params = #[34, 34] from by kernel_rfl] at ht
  cases j with
  | zero => cases ht; kernel_rfl
  | succ j =>
    cases j with
    | zero => cases ht; kernel_rfl
    | succ j =>
      simp at ht

theorem card : Rows.ListPartsCardSaid :=
  Claim7.holds_tied_plain_at .later [] _ _ _ _ said (fun _ h => by cases h) (by kernel_rfl) (fun _ h => by cases h) listParts_row_tie rfl ⟨rfl, rfl⟩ (by kernel_rfl) rfl plain (by kernel_rfl)
end Go.Proofs.YtgohnfkidkomhaaDoor.listParts
namespace Go.Proofs.YtgohnfkidkomhaaDoor
theorem listParts_card_holds : Rows.ListPartsCardSaid := listParts.card
end Go.Proofs.YtgohnfkidkomhaaDoor
