/- ListTwice answers true and turns nothing, of any text, whatever the tape and the order of evaluation, where the listed variables start as the program's text lays them. -/
import Derived.Test.YtgohnfkidkomhaaDoorL1
import Derived.Test.YtgohnfkidkomhaaDoorCards
import Derived.Test.YtgohnfkidkomhaaDoorTie
import Derived.WalkKit
import Derived.ProofKit
import Derived.OpenShut
import Derived.ChangeMaps5
import Derived.Deep.DeepHandedRow
import Derived.Deep.DeepWitnessRowRef
import Derived.Lay
/- ListTwice answers true and turns nothing, of any text, whatever the tape and the order of evaluation, where the listed variables start as the program's text lays them. -/
noncomputable section
namespace Go.Proofs.YtgohnfkidkomhaaDoor.listTwice
open Go.ChangeShapes Go.WideShapes Go.ChangeAt Go.RowKit Go.Proofs.YtgohnfkidkomhaaDoor.Ev Go.Proofs.YtgohnfkidkomhaaDoor

theorem own : ownKnob Tryd.prog.godebug = none := by kernel_rfl
theorem g4 : Tryd.prog.globalNamed "strconv.ErrRange" = some 4 := by kernel_rfl
theorem g3 : Tryd.prog.globalNamed "strconv.ErrSyntax" = some 3 := by kernel_rfl
theorem g2 : Tryd.prog.globalNamed "internal/strconv.uint64pow10" = some 2 := by kernel_rfl
theorem g0 : Tryd.prog.globalNamed "undertow/code.forms" = some 0 := by kernel_rfl
theorem g1 : Tryd.prog.globalNamed "internal/bytealg.MaxLen" = some 1 := by kernel_rfl
theorem t2 : (Tryd.prog.globals[2]?).map (·.type) = some 174 := by kernel_rfl
theorem t0 : (Tryd.prog.globals[0]?).map (·.type) = some 124 := by kernel_rfl
theorem noHandle : (Rows.listTwiceRow.laid.filter fun x => x.2.handleName?.isSome) = [] := by kernel_rfl
theorem laidOf {W : World} (h : laidMetH Tryd.prog Rows.listTwiceRow.laid W) : laidMet Tryd.prog Rows.listTwiceRow.laid W := by
  unfold laidMetH at h
  rw [noHandle] at h
  exact h
theorem ready (W : World) (hL : laidMetH Tryd.prog Rows.listTwiceRow.laid W) (hs : W.ShapedOpen Tryd.prog) : ∃ m u0 o0 u1 o1, ∃ bs : List Nat, bs.length = 2 ∧ Rel Tryd.prog (glA m u0 o0 u1 o1) (phi0 Tryd.prog.globals.size bs) LS.start W := by
  have hL2 := laidOf hL
  have hn : Tryd.prog.globals.size ≤ 900 := of_decide_eq_true (by kernel_rfl)
  obtain ⟨hg0, u0, a0, hc0, hsp0, hb0⟩ := sentinel (name := "strconv.ErrRange") hL2 (.tail _ (.tail _ (.tail _ (.tail _ (.tail _ (.head _)))))) g4
  obtain ⟨hg1, u1, a1, hc1, hsp1, hb1⟩ := sentinel (name := "strconv.ErrSyntax") hL2 (.tail _ (.tail _ (.tail _ (.tail _ (.tail _ (.tail _ (.head _))))))) g3
  obtain ⟨m, hcellm⟩ := Tryd.laysM146.s1_3 W hs
  have k4 : TabOK Tryd.prog (phi0 Tryd.prog.globals.size [a0.block, a1.block]) W (4, [.iface u0 (.pointer (some ⟨900, a0.off, none⟩))]) := sent_ok (j := 0) hg0 hn rfl hc0 hsp0
  have k3 : TabOK Tryd.prog (phi0 Tryd.prog.globals.size [a0.block, a1.block]) W (3, [.iface u1 (.pointer (some ⟨901, a1.off, none⟩))]) := sent_ok (j := 1) hg1 hn rfl hc1 hsp1
  have k2 : TabOK Tryd.prog (phi0 Tryd.prog.globals.size [a0.block, a1.block]) W (2, pow10L.map (.int .u64)) := tab_ok (name := "internal/strconv.uint64pow10") (zs := pow10L) hL2 (.tail _ (.tail _ (.head _))) g2 t2 Tryd.underlying174 Tryd.underlying99 (by kernel_rfl) (by kernel_rfl)
  have k0 : TabOK Tryd.prog (phi0 Tryd.prog.globals.size [a0.block, a1.block]) W (0, formsL.map (.int .i64)) := tab_ok (name := "undertow/code.forms") (zs := formsL) hL2 (.tail _ (.tail _ (.tail _ (.head _)))) g0 t0 Tryd.underlying124 Tryd.underlying3 (by kernel_rfl) (by kernel_rfl)
  have k1 : TabOK Tryd.prog (phi0 Tryd.prog.globals.size [a0.block, a1.block]) W (1, [.int .i64 m]) := ⟨Nat.le_of_ble_eq_true (by kernel_rfl), fun k v hk => by
    cases k with
    | zero => simp at hk; subst hk; exact ⟨_, hcellm, .int _ _⟩
    | succ k => simp at hk⟩
  refine ⟨m, u0, a0.off, u1, a1.off, _, rfl, rel_start (bs := [a0.block, a1.block]) hn (by simp) (fun b hb => ?_) (shaped_size hs (by kernel_rfl)) (glOf_ok ?_)⟩
  · simp only [List.mem_cons, List.not_mem_nil, or_false] at hb
    rcases hb with rfl | rfl
    · exact hb0
    · exact hb1
  intro x hx
  simp only [List.mem_cons, List.not_mem_nil, or_false] at hx
  rcases hx with rfl | rfl | rfl | rfl | rfl
  · exact k4
  · exact k3
  · exact k2
  · exact k0
  · exact k1
theorem walk (s : ByteArray) (W : World) (hL : laidMetH Tryd.prog Rows.listTwiceRow.laid W) (hsh : W.ShapedOpen Tryd.prog) :
    Calls Tryd.prog 15 #[.string s] W (fun e W' => e = .returned (.bool true) ∧ Below W.heap.size W W') := by
  obtain ⟨m, u0, o0, u1, o1, bs, hbs, hr⟩ := ready W hL hsh
  have hw : Ready Tryd.prog (glA m u0 o0 u1 o1) W := ⟨_, hr⟩
  exact listTwice_calls m u0 o0 u1 o1 hw s

theorem reads (os : Os) {H : Type} (enc : TypeId × Value → H) : ∃ places, DataW.whole enc Tryd.prog ((World.laidAll Tryd.prog os Rows.listTwiceRow.laid).forCall (fun _ _ => 0) ⟨#[], #[.string ⟨#[]⟩], []⟩).memory Tryd.f15.params.toList Rows.listTwiceSpec.vars false (#[.string ⟨#[]⟩] : Array Value).toList 8 = some ([.lit (.string [])], [], places) :=
  ⟨[], by kernel_rfl⟩

set_option maxRecDepth 100000 in
theorem lifted (os : Os) (started : os.Started) (H : Type) (enc : TypeId × Value → H) (F : Stop.Interp) :
    ReturnsInHanded {} Tryd.checked os 15 .any ((OpenSpec.ofChange Rows.listTwiceSpec).preRow enc Tryd.prog Tryd.f15 Rows.listTwiceRow.domain false Rows.listTwiceRow.laid) (((OpenSpec.ofChange Rows.listTwiceSpec).at F).post enc Tryd.prog Tryd.f15 false true false false) := by
  obtain ⟨places, hx⟩ := reads os enc
  refine returnsInHanded_of_row (C := Tryd.checked) (s := OpenSpec.ofChange Rows.listTwiceSpec) own started (by kernel_rfl) Tryd.func15
    (witness_row_atRef (enc := enc) (C := Tryd.checked) false (World.laidAll Tryd.prog os Rows.listTwiceRow.laid) #[.string ⟨#[]⟩] (World.laidAll_os _ _ _) (by kernel_rfl) (by kernel_rfl) (by kernel_rfl)
      (OpenSpec.preRow_of_cond 8 hx (by kernel_rfl) (fun k hk => by cases hk) (by kernel_rfl) (laidMet_laidAll #[.string ⟨#[]⟩] (by kernel_rfl) (by kernel_rfl)))) ?_
  intro W base args ds gs before hval hW _ _ hwt hL hsh _
  have hp : Tryd.f15.params = #[9] := by kernel_rfl
  rw [hp] at hwt
  obtain ⟨v0, d0, q0, rfl, rfl, ht0⟩ : ∃ v0 d0 q0, args = #[v0] ∧ ds = [d0] ∧ DataW.Trod enc Tryd.prog W 0 (fun _ => true) true 9 v0 d0 q0 := by
    obtain ⟨p, q, hA, _⟩ := id hW
    rw [hp] at hA
    obtain ⟨v0, vs0, d0, ds0, p0, r0, e0, rfl, _, h0, hA0⟩ := trodAll_cons hA
    obtain ⟨rfl, rfl, _⟩ := trodAll_nil hA0
    exact ⟨v0, d0, p0, Array.ext' e0, rfl, h0⟩
  have hok0 : Value.okWide Tryd.prog W .any base 9 v0 := hval 0 9 v0 (by rw [hp]; rfl) rfl
  obtain ⟨s, rfl, rfl, _, _⟩ := ChangeMaps.open_string Tryd.underlying9 hok0 ht0
  refine (walk s W hL hsh).mono fun e W' ⟨he, hB⟩ => ?_
  subst he
  exact ⟨_, rfl, post_trueN (t := 4) (m := 4) (by kernel_rfl) (by kernel_rfl) rfl Tryd.underlying4 rfl hW hB⟩

theorem andT {a b : Bool} (h : a = true) (k : b = true) : (a && b) = true := by rw [h, k]; rfl
set_option maxRecDepth 100000 in
set_option maxHeartbeats 0 in
theorem closed : joinedFacts Tryd.pinned.checked.prog 15 Tryd.f15 (OpenSpec.ofChange Rows.listTwiceSpec).bare Rows.listTwiceRow = true := by
  unfold joinedFacts
  repeat' (with_reducible refine andT ?_ ?_)
  all_goals as_aux_lemma => kernel_rfl

theorem said : Rows.ListTwiceSaid :=
  OpenClaim.holds_of_cond 15 Tryd.f15 rfl rfl rfl rfl rfl rfl rfl ⟨rfl, rfl, rfl, rfl, rfl⟩ rfl rfl rfl rfl rfl (by kernel_rfl) Tryd.func15 closed
    (of_decide_eq_true (by kernel_rfl)) (by unfold Func.isWrapper; first | (rw [if_pos (by decide +kernel)]; kernel_rfl) | (rw [if_neg (by decide +kernel)]; exact ⟨rfl, rfl⟩))
    (fun os started H enc _ F => by rw [OpenClaim.pre_eq_preRow]; exact lifted os started H enc F)

theorem plain (f : FuncId) (fn : Func) (hf : Tryd.pinned.checked.prog.funcNamed "undertow/undertowlaw22.ListTwice" = some f) (hfn : Tryd.pinned.checked.prog.funcs[f]? = some fn) :
    true = Tryd.pinned.checked.prog.looks [] ∧ ∀ (j : Nat) t, fn.params[j]? = some t → Tryd.pinned.checked.prog.wantsStandIn t = false := by
  obtain rfl : f = 15 := Option.some.inj ((show Tryd.prog.funcNamed "undertow/undertowlaw22.ListTwice" = some 15 by kernel_rfl).symm.trans hf) |>.symm
  obtain rfl : fn = Tryd.f15 := (Option.some.inj (Tryd.func15.symm.trans hfn)).symm
  refine ⟨by kernel_rfl, fun j t ht => ?_⟩
  rw [show Tryd.f15.params = #[9] from by kernel_rfl] at ht
  cases j with
  | zero => cases ht; kernel_rfl
  | succ j =>
    simp at ht

theorem card : Rows.ListTwiceCardSaid :=
  Claim7.holds_tied_plain_at .later [] _ _ _ _ said (fun _ h => by cases h) (by kernel_rfl) (fun _ h => by cases h) listTwice_row_tie rfl ⟨rfl, rfl⟩ (by kernel_rfl) rfl plain (by kernel_rfl)
end Go.Proofs.YtgohnfkidkomhaaDoor.listTwice
namespace Go.Proofs.YtgohnfkidkomhaaDoor
theorem listTwice_card_holds : Rows.ListTwiceCardSaid := listTwice.card
end Go.Proofs.YtgohnfkidkomhaaDoor
