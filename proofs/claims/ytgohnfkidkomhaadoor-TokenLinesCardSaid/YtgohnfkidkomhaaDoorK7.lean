/- TokenLines answers true and turns nothing, of any text, whatever the tape and the order of evaluation, where the listed variables start as the program's text lays them. -/
import Derived.Test.YtgohnfkidkomhaaDoorK6
import Derived.Test.YtgohnfkidkomhaaDoorCards
import Derived.Test.YtgohnfkidkomhaaDoorTie
import Derived.WalkKit
import Derived.ProofKit
import Derived.OpenShut
import Derived.Deep.DeepHandedRow
import Derived.Deep.DeepWitnessRowRef
import Derived.Lay
noncomputable section
namespace Go.Proofs.YtgohnfkidkomhaaDoor.tokenLines
open Go.ChangeShapes Go.WideShapes Go.ChangeAt Go.RowKit Go.Proofs.YtgohnfkidkomhaaDoor.Ev Go.Proofs.YtgohnfkidkomhaaDoor

theorem own : ownKnob Tryd.prog.godebug = none := by kernel_rfl
theorem g4 : Tryd.prog.globalNamed "strconv.ErrRange" = some 4 := by kernel_rfl
theorem g3 : Tryd.prog.globalNamed "strconv.ErrSyntax" = some 3 := by kernel_rfl
theorem noHandle : (Rows.tokenLinesRow.laid.filter fun x => x.2.handleName?.isSome) = [] := by kernel_rfl
theorem laidOf {W : World} (h : laidMetH Tryd.prog Rows.tokenLinesRow.laid W) : laidMet Tryd.prog Rows.tokenLinesRow.laid W := by
  unfold laidMetH at h
  rw [noHandle] at h
  exact h
theorem walk (s : ByteArray) (W : World) (hL : laidMetH Tryd.prog Rows.tokenLinesRow.laid W) (hs : W.ShapedOpen Tryd.prog) :
    Calls Tryd.prog 6 #[.string s] W (fun e W' => e = .returned (.bool true) ∧ Below W.heap.size W W') := by
  have hL2 := laidOf hL
  have hn : Tryd.prog.globals.size ≤ 900 := of_decide_eq_true (by kernel_rfl)
  obtain ⟨hg0, u0, a0, hc0, hsp0, hb0⟩ := sentinel (name := "strconv.ErrRange") hL2 (.tail _ (.tail _ (.tail _ (.head _)))) g4
  obtain ⟨hg1, u1, a1, hc1, hsp1, hb1⟩ := sentinel (name := "strconv.ErrSyntax") hL2 (.tail _ (.tail _ (.tail _ (.tail _ (.head _))))) g3
  have k4 : TabOK Tryd.prog (phi0 Tryd.prog.globals.size [a0.block, a1.block]) W (4, [.iface u0 (.pointer (some ⟨900, a0.off, none⟩))]) := sent_ok (j := 0) hg0 hn rfl hc0 hsp0
  have k3 : TabOK Tryd.prog (phi0 Tryd.prog.globals.size [a0.block, a1.block]) W (3, [.iface u1 (.pointer (some ⟨901, a1.off, none⟩))]) := sent_ok (j := 1) hg1 hn rfl hc1 hsp1
  have hr : Rel Tryd.prog (glS u0 a0.off u1 a1.off) (phi0 Tryd.prog.globals.size [a0.block, a1.block]) LS.start W := by
    refine rel_start (bs := [a0.block, a1.block]) hn (by simp) (fun b hb => ?_) (shaped_size hs (by kernel_rfl)) (glOf_ok ?_)
    · simp only [List.mem_cons, List.not_mem_nil, or_false] at hb
      rcases hb with rfl | rfl
      · exact hb0
      · exact hb1
    intro x hx
    simp only [List.mem_cons, List.not_mem_nil, or_false] at hx
    rcases hx with rfl | rfl
    · exact k4
    · exact k3
  exact tokenLines_calls u0 a0.off u1 a1.off s ⟨_, hr⟩

theorem reads (os : Os) {H : Type} (enc : TypeId × Value → H) : ∃ places, DataW.whole enc Tryd.prog ((World.laidAll Tryd.prog os Rows.tokenLinesRow.laid).forCall (fun _ _ => 0) ⟨#[], #[.string ⟨#[]⟩], []⟩).memory Tryd.f6.params.toList Rows.tokenLinesSpec.vars false (#[.string ⟨#[]⟩] : Array Value).toList 8 = some ([.lit (.string [])], [], places) :=
  ⟨[], by kernel_rfl⟩

set_option maxRecDepth 100000 in
theorem lifted (os : Os) (started : os.Started) (H : Type) (enc : TypeId × Value → H) (F : Stop.Interp) :
    ReturnsInHanded {} Tryd.checked os 6 .any ((OpenSpec.ofChange Rows.tokenLinesSpec).preRow enc Tryd.prog Tryd.f6 Rows.tokenLinesRow.domain false Rows.tokenLinesRow.laid) (((OpenSpec.ofChange Rows.tokenLinesSpec).at F).post enc Tryd.prog Tryd.f6 false true false false) := by
  obtain ⟨places, hx⟩ := reads os enc
  refine returnsInHanded_of_row (C := Tryd.checked) (s := OpenSpec.ofChange Rows.tokenLinesSpec) own started (by kernel_rfl) Tryd.func6
    (witness_row_atRef (enc := enc) (C := Tryd.checked) false (World.laidAll Tryd.prog os Rows.tokenLinesRow.laid) #[.string ⟨#[]⟩] (World.laidAll_os _ _ _) (by kernel_rfl) (by kernel_rfl) (by kernel_rfl)
      (OpenSpec.preRow_of_cond 8 hx (by kernel_rfl) (fun k hk => by cases hk) (by kernel_rfl) (laidMet_laidAll #[.string ⟨#[]⟩] (by kernel_rfl) (by kernel_rfl)))) ?_
  intro W base args ds gs before hval hW _ _ _ hL hsh _
  have hp : Tryd.f6.params = #[9] := by kernel_rfl
  obtain ⟨v, d, pl, rfl, rfl, ht⟩ : ∃ v d pl, args = #[v] ∧ ds = [d] ∧ DataW.Trod enc Tryd.prog W 0 (fun _ => true) true 9 v d pl := by
    obtain ⟨p, q, hA, _⟩ := id hW
    rw [hp] at hA
    obtain ⟨v, vs, d, ds', p1, q1, e1, rfl, e3, h1, h2⟩ := trodAll_cons hA
    obtain ⟨rfl, rfl, _⟩ := trodAll_nil h2
    exact ⟨v, d, p1, Array.ext' e1, rfl, h1⟩
  have hok : Value.okWide Tryd.prog W .any base 9 v := hval 0 9 v (by rw [hp]; rfl) rfl
  obtain ⟨s, rfl⟩ := okWide_string Tryd.underlying9 hok
  refine (walk s W hL hsh).mono fun e W' ⟨he, hB⟩ => ?_
  subst he
  exact ⟨_, rfl, post_trueN (t := 4) (m := 4) (by kernel_rfl) (by kernel_rfl) rfl Tryd.underlying4 rfl hW hB⟩

theorem andT {a b : Bool} (h : a = true) (k : b = true) : (a && b) = true := by rw [h, k]; rfl
set_option maxRecDepth 100000 in
set_option maxHeartbeats 0 in
theorem closed : joinedFacts Tryd.pinned.checked.prog 6 Tryd.f6 (OpenSpec.ofChange Rows.tokenLinesSpec).bare Rows.tokenLinesRow = true := by
  unfold joinedFacts
  repeat' (with_reducible refine andT ?_ ?_)
  all_goals as_aux_lemma => kernel_rfl

theorem said : Rows.TokenLinesSaid :=
  OpenClaim.holds_of_cond 6 Tryd.f6 rfl rfl rfl rfl rfl rfl rfl ⟨rfl, rfl, rfl, rfl, rfl⟩ rfl rfl rfl rfl rfl (by kernel_rfl) Tryd.func6 closed
    (of_decide_eq_true (by kernel_rfl)) (by unfold Func.isWrapper; first | (rw [if_pos (by decide +kernel)]; kernel_rfl) | (rw [if_neg (by decide +kernel)]; exact ⟨rfl, rfl⟩))
    (fun os started H enc _ F => by rw [OpenClaim.pre_eq_preRow]; exact lifted os started H enc F)

theorem plain (f : FuncId) (fn : Func) (hf : Tryd.pinned.checked.prog.funcNamed "undertow/undertowlaw20.TokenLines" = some f) (hfn : Tryd.pinned.checked.prog.funcs[f]? = some fn) :
    true = Tryd.pinned.checked.prog.looks [] ∧ ∀ (j : Nat) t, fn.params[j]? = some t → Tryd.pinned.checked.prog.wantsStandIn t = false := by
  obtain rfl : f = 6 := Option.some.inj ((show Tryd.prog.funcNamed "undertow/undertowlaw20.TokenLines" = some 6 by kernel_rfl).symm.trans hf) |>.symm
  obtain rfl : fn = Tryd.f6 := (Option.some.inj (Tryd.func6.symm.trans hfn)).symm
  refine ⟨by kernel_rfl, fun j t ht => ?_⟩
  rw [show Tryd.f6.params = #[9] from by kernel_rfl] at ht
  cases j with
  | zero => cases ht; kernel_rfl
  | succ j => simp at ht

theorem card : Rows.TokenLinesCardSaid :=
  Claim7.holds_tied_plain_at .later [] _ _ _ _ said (fun _ h => by cases h) (by kernel_rfl) (fun _ h => by cases h) tokenLines_row_tie rfl ⟨rfl, rfl⟩ (by kernel_rfl) rfl plain (by kernel_rfl)
end Go.Proofs.YtgohnfkidkomhaaDoor.tokenLines
namespace Go.Proofs.YtgohnfkidkomhaaDoor
theorem tokenLines_card_holds : Rows.TokenLinesCardSaid := tokenLines.card
end Go.Proofs.YtgohnfkidkomhaaDoor
