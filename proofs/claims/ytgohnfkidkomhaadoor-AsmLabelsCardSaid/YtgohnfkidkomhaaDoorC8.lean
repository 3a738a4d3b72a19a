/- AsmLabels answers true and turns nothing, of any two texts and any number, whatever the tape and the order of evaluation, where the listed variables start as the program's text lays them. -/
import Derived.Test.YtgohnfkidkomhaaDoorA5
import Derived.Test.YtgohnfkidkomhaaDoorCards
import Derived.Test.YtgohnfkidkomhaaDoorTie
import Derived.WalkKit
import Derived.ProofKit
import Derived.OpenShut
import Derived.ChangeMaps5
import Derived.Deep.DeepHandedRow
import Derived.Deep.DeepWitnessRowRef
import Derived.Lay
/- AsmLabels answers true and turns nothing, of any two texts and any number, whatever the tape and the order of evaluation, where the listed variables start as the program's text lays them. -/
noncomputable section
namespace Go.Proofs.YtgohnfkidkomhaaDoor.asmLabels
open Go.ChangeShapes Go.WideShapes Go.ChangeAt Go.RowKit Go.Proofs.YtgohnfkidkomhaaDoor.Ev Go.Proofs.YtgohnfkidkomhaaDoor

theorem own : ownKnob Tryd.prog.godebug = none := by kernel_rfl
theorem g4 : Tryd.prog.globalNamed "strconv.ErrRange" = some 4 := by kernel_rfl
theorem g3 : Tryd.prog.globalNamed "strconv.ErrSyntax" = some 3 := by kernel_rfl
theorem g2 : Tryd.prog.globalNamed "internal/strconv.uint64pow10" = some 2 := by kernel_rfl
theorem g0 : Tryd.prog.globalNamed "undertow/code.forms" = some 0 := by kernel_rfl
theorem g1 : Tryd.prog.globalNamed "internal/bytealg.MaxLen" = some 1 := by kernel_rfl
theorem t2 : (Tryd.prog.globals[2]?).map (·.type) = some 174 := by kernel_rfl
theorem t0 : (Tryd.prog.globals[0]?).map (·.type) = some 124 := by kernel_rfl
theorem noHandle : (Rows.asmLabelsRow.laid.filter fun x => x.2.handleName?.isSome) = [] := by kernel_rfl
theorem laidOf {W : World} (h : laidMetH Tryd.prog Rows.asmLabelsRow.laid W) : laidMet Tryd.prog Rows.asmLabelsRow.laid W := by
  unfold laidMetH at h
  rw [noHandle] at h
  exact h
theorem ready (W : World) (hL : laidMetH Tryd.prog Rows.asmLabelsRow.laid W) (hs : W.ShapedOpen Tryd.prog) : ∃ m u0 o0 u1 o1, ∃ bs : List Nat, bs.length = 2 ∧ Rel Tryd.prog (glA m u0 o0 u1 o1) (phi0 Tryd.prog.globals.size bs) LS.start W := by
  have hL2 := laidOf hL
  have hn : Tryd.prog.globals.size ≤ 900 := of_decide_eq_true (by kernel_rfl)
  obtain ⟨hg0, u0, a0, hc0, hsp0, hb0⟩ := sentinel (name := "strconv.ErrRange") hL2 (.tail _ (.tail _ (.tail _ (.tail _ (.tail _ (.head _)))))) g4
  obtain ⟨hg1, u1, a1, hc1, hsp1, hb1⟩ := sentinel (name := "strconv.ErrSyntax") hL2 (.tail _ (.tail _ (.tail _ (.tail _ (.tail _ (.tail _ (.head _))))))) g3
  obtain ⟨m, hcellm⟩ := Tryd.laysM146.s1_3 W hs
  have k4 : TabOK Tryd.prog (phi0 Tryd.prog.globals.size [a0.block, a1.block]) W (4, [.iface u0 (.pointer (some ⟨900, a0.off, none⟩))]) := sent_ok (j := 0) hg0 hn rfl hc0 hsp0
  have k3 : TabOK Tryd.prog (phi0 Tryd.prog.globals.size [a0.block, a1.block]) W (3, [.iface u1 (.pointer (some ⟨901, a1.off, none⟩))]) := sent_ok (j := 1) hg1 hn rfl hc1 hsp1
  have k2 : TabOK Tryd.prog (phi0 Tryd.prog.globals.size [a0.block, a1.block]) W (2, pow10L.map (.int .u64)) := tab_ok (name := "internal/strconv.uint64pow10") (zs := pow10L) hL2 (.tail _ (.tail _ (.head _))) g2 t2 Tryd.underlying174 Tryd.underlying99 (by kernel_rfl) (by kernel_rfl)
  have k0 : TabOK Tryd.prog (phi0 Tryd.prog.globals.size [a0.block, a1.block]) W (0, formsL.map (.int .i64)) := tab_ok (name := "undertow/code.forms") (zs := formsL) hL2 (.tail _ (.tail _ (.tail _ (.head _)))) g0 t0 Tryd.underlying124 Tryd.underlying3 (by kernel_rfl) (by kernel_rfl)
  have k1 : TabOK Tryd.prog (phi0 Tryd.prog.globals.size [a0.block, a1.block]) W (1, [.int .i64 m]) := ⟨Nat.le_of_ble_eq_true (by kernel_rfl), fun k v hk => by
    cases k with
    | zero => simp at hk; subst hk; exact ⟨_, hcellm, .int _ _⟩
    | succ k => simp at hk⟩
  refine ⟨m, u0, a0.off, u1, a1.off, _, rfl, rel_start (bs := [a0.block, a1.block]) hn (by simp) (fun b hb => ?_) (shaped_size hs (by kernel_rfl)) (glOf_ok ?_)⟩
  · simp only [List.mem_cons, List.not_mem_nil, or_false] at hb
    rcases hb with rfl | rfl
    · exact hb0
    · exact hb1
  intro x hx
  simp only [List.mem_cons, List.not_mem_nil, or_false] at hx
  rcases hx with rfl | rfl | rfl | rfl | rfl
  · exact k4
  · exact k3
  · exact k2
  · exact k0
  · exact k1
theorem walk (a : ByteArray) (ha : a.size ≤ 140737488351232) (b : ByteArray) (hb : b.size ≤ 140737488351232) (k : Int) (hk : (Lit.int .u8 k).wf = true) (W : World) (hL : laidMetH Tryd.prog Rows.asmLabelsRow.laid W) (hsh : W.ShapedOpen Tryd.prog) :
    Calls Tryd.prog 13 #[.string a, .string b, .int .u8 k] W (fun e W' => e = .returned (.bool true) ∧ Below W.heap.size W W') := by
  obtain ⟨m, u0, o0, u1, o1, bs, hbs, hr⟩ := ready W hL hsh
  have hw : Ready Tryd.prog (glA m u0 o0 u1 o1) W := ⟨_, hr⟩
  exact asmLabels_calls m u0 o0 u1 o1 a b ha hb hk hw

theorem reads (os : Os) {H : Type} (enc : TypeId × Value → H) : ∃ places, DataW.whole enc Tryd.prog ((World.laidAll Tryd.prog os Rows.asmLabelsRow.laid).forCall (fun _ _ => 0) ⟨#[], #[.string ⟨#[]⟩, .string ⟨#[]⟩, .int .u8 0], []⟩).memory Tryd.f13.params.toList Rows.asmLabelsSpec.vars false (#[.string ⟨#[]⟩, .string ⟨#[]⟩, .int .u8 0] : Array Value).toList 8 = some ([.lit (.string []), .lit (.string []), .lit (.int .u8 0)], [], places) :=
  ⟨[], by kernel_rfl⟩

set_option maxRecDepth 100000 in
theorem lifted (os : Os) (started : os.Started) (H : Type) (enc : TypeId × Value → H) (F : Stop.Interp) :
    ReturnsInHanded {} Tryd.checked os 13 .any ((OpenSpec.ofChange Rows.asmLabelsSpec).preRow enc Tryd.prog Tryd.f13 Rows.asmLabelsRow.domain false Rows.asmLabelsRow.laid) (((OpenSpec.ofChange Rows.asmLabelsSpec).at F).post enc Tryd.prog Tryd.f13 false true false false) := by
  obtain ⟨places, hx⟩ := reads os enc
  refine returnsInHanded_of_row (C := Tryd.checked) (s := OpenSpec.ofChange Rows.asmLabelsSpec) own started (by kernel_rfl) Tryd.func13
    (witness_row_atRef (enc := enc) (C := Tryd.checked) false (World.laidAll Tryd.prog os Rows.asmLabelsRow.laid) #[.string ⟨#[]⟩, .string ⟨#[]⟩, .int .u8 0] (World.laidAll_os _ _ _) (by kernel_rfl) (by kernel_rfl) (by kernel_rfl)
      (OpenSpec.preRow_of_cond 8 hx (by kernel_rfl) (fun k hk => by cases hk) (by kernel_rfl) (laidMet_laidAll #[.string ⟨#[]⟩, .string ⟨#[]⟩, .int .u8 0] (by kernel_rfl) (by kernel_rfl)))) ?_
  intro W base args ds gs before hval hW _ _ hwt hL hsh _
  have hp : Tryd.f13.params = #[9, 9, 5] := by kernel_rfl
  rw [hp] at hwt
  obtain ⟨v0, v1, v2, d0, d1, d2, q0, q1, q2, rfl, rfl, ht0, ht1, ht2⟩ : ∃ v0 v1 v2 d0 d1 d2 q0 q1 q2, args = #[v0, v1, v2] ∧ ds = [d0, d1, d2] ∧ DataW.Trod enc Tryd.prog W 0 (fun _ => true) true 9 v0 d0 q0 ∧ DataW.Trod enc Tryd.prog W 0 (fun _ => true) true 9 v1 d1 q1 ∧ DataW.Trod enc Tryd.prog W 0 (fun _ => true) true 5 v2 d2 q2 := by
    obtain ⟨p, q, hA, _⟩ := id hW
    rw [hp] at hA
    obtain ⟨v0, vs0, d0, ds0, p0, r0, e0, rfl, _, h0, hA0⟩ := trodAll_cons hA
    obtain ⟨v1, vs1, d1, ds1, p1, r1, e1, rfl, _, h1, hA1⟩ := trodAll_cons hA0
    obtain ⟨v2, vs2, d2, ds2, p2, r2, e2, rfl, _, h2, hA2⟩ := trodAll_cons hA1
    obtain ⟨rfl, rfl, _⟩ := trodAll_nil hA2
    subst e2
    subst e1
    exact ⟨v0, v1, v2, d0, d1, d2, p0, p1, p2, Array.ext' e0, rfl, h0, h1, h2⟩
  have hok0 : Value.okWide Tryd.prog W .any base 9 v0 := hval 0 9 v0 (by rw [hp]; rfl) rfl
  obtain ⟨a, rfl, rfl, _, _⟩ := ChangeMaps.open_string Tryd.underlying9 hok0 ht0
  have hok1 : Value.okWide Tryd.prog W .any base 9 v1 := hval 1 9 v1 (by rw [hp]; rfl) rfl
  obtain ⟨b, rfl, rfl, _, _⟩ := ChangeMaps.open_string Tryd.underlying9 hok1 ht1
  have hok2 : Value.okWide Tryd.prog W .any base 5 v2 := hval 2 5 v2 (by rw [hp]; rfl) rfl
  obtain ⟨k, rfl, rfl, _, wk⟩ := open_int Tryd.underlying5 hok2 ht2
  simp only [DataW.weightsEach, DataW.weights, List.cons_append, List.nil_append, List.all_cons, Bool.and_eq_true, decide_eq_true_eq, Array.length_toList] at hwt
  have hrb : reachBytes = 140737488351232 := rfl
  rw [hrb] at hwt
  refine (walk a (by first | exact hwt.1 | exact hwt.2.1 | exact hwt.2.2.1 | exact hwt) b (by first | exact hwt.1 | exact hwt.2.1 | exact hwt.2.2.1 | exact hwt) k wk W hL hsh).mono fun e W' ⟨he, hB⟩ => ?_
  subst he
  exact ⟨_, rfl, post_trueN (t := 4) (m := 4) (by kernel_rfl) (by kernel_rfl) rfl Tryd.underlying4 rfl hW hB⟩

theorem andT {a b : Bool} (h : a = true) (k : b = true) : (a && b) = true := by rw [h, k]; rfl
set_option maxRecDepth 100000 in
set_option maxHeartbeats 0 in
theorem closed : joinedFacts Tryd.pinned.checked.prog 13 Tryd.f13 (OpenSpec.ofChange Rows.asmLabelsSpec).bare Rows.asmLabelsRow = true := by
  unfold joinedFacts
  repeat' (with_reducible refine andT ?_ ?_)
  all_goals as_aux_lemma => kernel_rfl

theorem said : Rows.AsmLabelsSaid :=
  OpenClaim.holds_of_cond 13 Tryd.f13 rfl rfl rfl rfl rfl rfl rfl ⟨rfl, rfl, rfl, rfl, rfl⟩ rfl rfl rfl rfl rfl (by kernel_rfl) Tryd.func13 closed
    (of_decide_eq_true (by kernel_rfl)) (by unfold Func.isWrapper; first | (rw [if_pos (by decide +kernel)]; kernel_rfl) | (rw [if_neg (by decide +kernel)]; exact ⟨rfl, rfl⟩))
    (fun os started H enc _ F => by rw [OpenClaim.pre_eq_preRow]; exact lifted os started H enc F)

theorem plain (f : FuncId) (fn : Func) (hf : Tryd.pinned.checked.prog.funcNamed "undertow/undertowlaw21.AsmLabels" = some f) (hfn : Tryd.pinned.checked.prog.funcs[f]? = some fn) :
    true = Tryd.pinned.checked.prog.looks [] ∧ ∀ (j : Nat) t, fn.params[j]? = some t → Tryd.pinned.checked.prog.wantsStandIn t = false := by
  obtain rfl : f = 13 := Option.some.inj ((show Tryd.prog.funcNamed "undertow/undertowlaw21.AsmLabels" = some 13 by kernel_rfl).symm.trans hf) |>.symm
  obtain rfl : fn = Tryd.f13 := (Option.some.inj (Tryd.func13.symm.trans hfn)).symm
  refine ⟨by kernel_rfl, fun j t ht => ?_⟩
  rw [show Tryd.f13.params = #[9, 9, 5] from by kernel_rfl] at ht
  cases j with
  | zero => cases ht; kernel_rfl
  | succ j =>
    cases j with
    | zero => cases ht; kernel_rfl
    | succ j =>
      cases j with
      | zero => cases ht; kernel_rfl
      | succ j =>
        simp at ht

theorem card : Rows.AsmLabelsCardSaid :=
  Claim7.holds_tied_plain_at .later [] _ _ _ _ said (fun _ h => by cases h) (by kernel_rfl) (fun _ h => by cases h) asmLabels_row_tie rfl ⟨rfl, rfl⟩ (by kernel_rfl) rfl plain (by kernel_rfl)
end Go.Proofs.YtgohnfkidkomhaaDoor.asmLabels
namespace Go.Proofs.YtgohnfkidkomhaaDoor
theorem asmLabels_card_holds : Rows.AsmLabelsCardSaid := asmLabels.card
end Go.Proofs.YtgohnfkidkomhaaDoor
