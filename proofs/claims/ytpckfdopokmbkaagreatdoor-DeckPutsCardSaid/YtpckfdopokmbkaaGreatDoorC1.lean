/- DeckPuts answers true and turns nothing, of any deck, whatever the tape and the order of evaluation, where the listed variable starts as the program's text lays it. -/
import Derived.Test.YtpckfdopokmbkaaGreatDoorK12
import Derived.Test.YtpckfdopokmbkaaGreatDoorCards
import Derived.Test.YtpckfdopokmbkaaGreatDoorTie
import Derived.WalkKit
import Derived.ProofKit
import Derived.OpenShut
import Derived.ChangeMaps5
import Derived.Deep.DeepHandedRow
import Derived.Deep.DeepWitnessRowRef
import Derived.Lay
/- DeckPuts answers true and turns nothing, of any deck, whatever the tape and the order of evaluation, where the listed variable starts as the program's text lays it. -/
noncomputable section
namespace Go.Proofs.YtpckfdopokmbkaaGreatDoor.deckPuts
open Go.ChangeShapes Go.WideShapes Go.ChangeAt Go.RowKit Go.Proofs.YtpckfdopokmbkaaGreatDoor.Ev Go.Proofs.YtpckfdopokmbkaaGreatDoor

theorem own : ownKnob Tryz.prog.godebug = none := by kernel_rfl
theorem g0 : Tryz.prog.globalNamed "undertow/code.forms" = some 0 := by kernel_rfl
theorem t0 : (Tryz.prog.globals[0]?).map (·.type) = some 96 := by kernel_rfl
theorem noHandle : (Rows.deckPutsRow.laid.filter fun x => x.2.handleName?.isSome) = [] := by kernel_rfl
theorem laidOf {W : World} (h : laidMetH Tryz.prog Rows.deckPutsRow.laid W) : laidMet Tryz.prog Rows.deckPutsRow.laid W := by
  unfold laidMetH at h
  rw [noHandle] at h
  exact h
theorem ready (W : World) (hL : laidMetH Tryz.prog Rows.deckPutsRow.laid W) (hs : W.ShapedOpen Tryz.prog) : ∃ bs : List Nat, bs.length = 0 ∧ Rel Tryz.prog (glX) (phi0 Tryz.prog.globals.size bs) LS.start W := by
  have hL2 := laidOf hL
  have hn : Tryz.prog.globals.size ≤ 900 := of_decide_eq_true (by kernel_rfl)
  have k0 : TabOK Tryz.prog (phi0 Tryz.prog.globals.size []) W (0, formsL.map (.int .i64)) := tab_ok (name := "undertow/code.forms") (zs := formsL) hL2 (.head _) g0 t0 Tryz.underlying96 Tryz.underlying3 (by kernel_rfl) (by kernel_rfl)
  refine ⟨_, rfl, rel_start (bs := []) hn (by simp) (fun b hb => ?_) (shaped_size hs (by kernel_rfl)) (glOf_ok ?_)⟩
  · cases hb
  intro x hx
  simp only [List.mem_cons, List.not_mem_nil, or_false] at hx
  rcases hx with rfl
  · exact k0
theorem walk (v : Value) (W : World) (hL : laidMetH Tryz.prog Rows.deckPutsRow.laid W) (hsh : W.ShapedOpen Tryz.prog) (hv : DeckIn W v) :
    Calls Tryz.prog 3 #[v] W (fun e W' => e = .returned (.bool true) ∧ Below W.heap.size W W') := by
  obtain ⟨bs, hbs, hr⟩ := ready W hL hsh
  have hw : Ready Tryz.prog (glX) W := ⟨_, hr⟩
  exact deckPuts_calls (by rw [List.length_eq_zero_iff.1 hbs] at hr; exact hr) hv

theorem reads (os : Os) {H : Type} (enc : TypeId × Value → H) : ∃ places, DataW.whole enc Tryz.prog ((World.laidAll Tryz.prog os Rows.deckPutsRow.laid).forCall (fun _ _ => 0) ⟨#[], #[.agg #[.int .i64 0, .int .i64 0, .int .i64 0, .int .i64 0, .int .i64 0, .int .i64 0, .int .i64 0, .int .i64 0, .slice none 0 0, .slice none 0 0, .slice none 0 0]], []⟩).memory Tryz.f3.params.toList Rows.deckPutsSpec.vars false (#[.agg #[.int .i64 0, .int .i64 0, .int .i64 0, .int .i64 0, .int .i64 0, .int .i64 0, .int .i64 0, .int .i64 0, .slice none 0 0, .slice none 0 0, .slice none 0 0]] : Array Value).toList 8 = some ([.agg [.agg [.lit (.int .i64 0), .lit (.int .i64 0), .lit (.int .i64 0), .lit (.int .i64 0), .lit (.int .i64 0), .lit (.int .i64 0), .lit (.int .i64 0), .lit (.int .i64 0)], .nil, .nil, .nil]], [], places) :=
  ⟨[], by kernel_rfl⟩

set_option maxRecDepth 100000 in
theorem lifted (os : Os) (started : os.Started) (H : Type) (enc : TypeId × Value → H) (F : Stop.Interp) :
    ReturnsInHanded {} Tryz.checked os 3 .any ((OpenSpec.ofChange Rows.deckPutsSpec).preRow enc Tryz.prog Tryz.f3 Rows.deckPutsRow.domain false Rows.deckPutsRow.laid) (((OpenSpec.ofChange Rows.deckPutsSpec).at F).post enc Tryz.prog Tryz.f3 false true false false) := by
  obtain ⟨places, hx⟩ := reads os enc
  refine returnsInHanded_of_row (C := Tryz.checked) (s := OpenSpec.ofChange Rows.deckPutsSpec) own started (by kernel_rfl) Tryz.func3
    (witness_row_atRef (enc := enc) (C := Tryz.checked) false (World.laidAll Tryz.prog os Rows.deckPutsRow.laid) #[.agg #[.int .i64 0, .int .i64 0, .int .i64 0, .int .i64 0, .int .i64 0, .int .i64 0, .int .i64 0, .int .i64 0, .slice none 0 0, .slice none 0 0, .slice none 0 0]] (World.laidAll_os _ _ _) (by kernel_rfl) (by kernel_rfl) (by kernel_rfl)
      (OpenSpec.preRow_of_cond 8 hx (by kernel_rfl) (fun k hk => by cases hk) (by kernel_rfl) (laidMet_laidAll #[.agg #[.int .i64 0, .int .i64 0, .int .i64 0, .int .i64 0, .int .i64 0, .int .i64 0, .int .i64 0, .int .i64 0, .slice none 0 0, .slice none 0 0, .slice none 0 0]] (by kernel_rfl) (by kernel_rfl)))) ?_
  intro W base args ds gs before hval hW _ _ hwt hL hsh _
  have hp : Tryz.f3.params = #[28] := by kernel_rfl
  rw [hp] at hwt
  obtain ⟨v0, d0, q0, rfl, rfl, ht0⟩ : ∃ v0 d0 q0, args = #[v0] ∧ ds = [d0] ∧ DataW.Trod enc Tryz.prog W 0 (fun _ => true) true 28 v0 d0 q0 := by
    obtain ⟨p, q, hA, _⟩ := id hW
    rw [hp] at hA
    obtain ⟨v0, vs0, d0, ds0, p0, r0, e0, rfl, _, h0, hA0⟩ := trodAll_cons hA
    obtain ⟨rfl, rfl, _⟩ := trodAll_nil hA0
    exact ⟨v0, d0, p0, Array.ext' e0, rfl, h0⟩
  have hok0 : Value.okWide Tryz.prog W .any base 28 v0 := hval 0 28 v0 (by rw [hp]; rfl) rfl
  have hop := open_deck hok0 ht0
  refine (walk v0 W hL hsh hop).mono fun e W' ⟨he, hB⟩ => ?_
  subst he
  exact ⟨_, rfl, post_trueN (t := 4) (m := 4) (by kernel_rfl) (by kernel_rfl) rfl Tryz.underlying4 rfl hW hB⟩

theorem andT {a b : Bool} (h : a = true) (k : b = true) : (a && b) = true := by rw [h, k]; rfl
set_option maxRecDepth 100000 in
set_option maxHeartbeats 0 in
theorem closed : joinedFacts Tryz.pinned.checked.prog 3 Tryz.f3 (OpenSpec.ofChange Rows.deckPutsSpec).bare Rows.deckPutsRow = true := by
  unfold joinedFacts
  repeat' (with_reducible refine andT ?_ ?_)
  all_goals as_aux_lemma => kernel_rfl

theorem said : Rows.DeckPutsSaid :=
  OpenClaim.holds_of_cond 3 Tryz.f3 rfl rfl rfl rfl rfl rfl rfl ⟨rfl, rfl, rfl, rfl, rfl⟩ rfl rfl rfl rfl rfl (by kernel_rfl) Tryz.func3 closed
    (of_decide_eq_true (by kernel_rfl)) (by unfold Func.isWrapper; first | (rw [if_pos (by decide +kernel)]; kernel_rfl) | (rw [if_neg (by decide +kernel)]; exact ⟨rfl, rfl⟩))
    (fun os started H enc _ F => by rw [OpenClaim.pre_eq_preRow]; exact lifted os started H enc F)

theorem plain (f : FuncId) (fn : Func) (hf : Tryz.pinned.checked.prog.funcNamed "undertow/undertowlaw31.DeckPuts" = some f) (hfn : Tryz.pinned.checked.prog.funcs[f]? = some fn) :
    false = Tryz.pinned.checked.prog.looks [] ∧ ∀ (j : Nat) t, fn.params[j]? = some t → Tryz.pinned.checked.prog.wantsStandIn t = false := by
  obtain rfl : f = 3 := Option.some.inj ((show Tryz.prog.funcNamed "undertow/undertowlaw31.DeckPuts" = some 3 by kernel_rfl).symm.trans hf) |>.symm
  obtain rfl : fn = Tryz.f3 := (Option.some.inj (Tryz.func3.symm.trans hfn)).symm
  refine ⟨by kernel_rfl, fun j t ht => ?_⟩
  rw [show Tryz.f3.params = #[28] from by kernel_rfl] at ht
  cases j with
  | zero => cases ht; kernel_rfl
  | succ j =>
    simp at ht

theorem card : Rows.DeckPutsCardSaid :=
  Claim7.holds_tied_plain_at .later [] _ _ _ _ said (fun _ h => by cases h) (by kernel_rfl) (fun _ h => by cases h) deckPuts_row_tie rfl ⟨rfl, rfl⟩ (by kernel_rfl) rfl plain (by kernel_rfl)
end Go.Proofs.YtpckfdopokmbkaaGreatDoor.deckPuts
namespace Go.Proofs.YtpckfdopokmbkaaGreatDoor
theorem deckPuts_card_holds : Rows.DeckPutsCardSaid := deckPuts.card
end Go.Proofs.YtpckfdopokmbkaaGreatDoor
