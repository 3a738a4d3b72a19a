/- ListKnown answers true and turns nothing, whatever the tape and the order of evaluation, where the listed tables start as the program's text lays them: by one evaluation in the kernel. -/
import Derived.Test.YtambfeiefkfbfaaDoorCards
import Derived.Test.YtambfeiefkfbfaaDoorTie
import Derived.Test.YtambfeiefkfbfaaDoorEv4
import Derived.WalkKit
import Derived.ProofKit
import Derived.OpenShut
import Derived.Deep.DeepHandedRow
import Derived.Deep.DeepWitnessRowRef
import Derived.Lay
namespace Go.Proofs.YtambfeiefkfbfaaDoor.listKnown
open Go.ChangeShapes Go.WideShapes Go.ChangeAt Go.RowKit Go.Proofs.YtambfeiefkfbfaaDoor.Ev

def forms : List Int := [0,1,1,1,1,1,1,1,2,2,2,1,3,2,2,2,4,4,0,5,6,0]
def pow10 : List Int := [1,10,100,1000,10000,100000,1000000,10000000,100000000,1000000000,10000000000,100000000000,1000000000000,10000000000000,100000000000000,1000000000000000,10000000000000000,100000000000000000,1000000000000000000,10000000000000000000]
def tabs : List (Nat × List Value) := [(0, forms.map (.int .i64)), (1, pow10.map (.int .u64))]
def exts : List (Nat × Xk) := [(66, .same), (88, .makeNoZero 51)]

theorem own : ownKnob Tryd.prog.godebug = none := by kernel_rfl
theorem x66 : XkOK Tryd.prog 66 .same := ⟨Tryd.f66, Tryd.func66, by kernel_rfl, by kernel_rfl, (show Extern.find Tryd.f66 = some Extern.AbiNoEscape.same by kernel_rfl)⟩
theorem x88 : XkOK Tryd.prog 88 (.makeNoZero 51) := ⟨Tryd.f88, Tryd.func88, by kernel_rfl, by kernel_rfl, (show Extern.find Tryd.f88 = some (Extern.BytealgMakeNoZero.makeNoZero Tryd.f88.params Tryd.f88.resultTypes) by kernel_rfl), (show Tryd.f88.resultTypes[0]? = some 51 by kernel_rfl)⟩
theorem good : Go.Proofs.YtambfeiefkfbfaaDoor.Ev.Good Tryd.prog (extOf exts) := good_of (by kernel_rfl) (by kernel_rfl) (by
  intro x hx
  simp only [exts, List.mem_cons, List.not_mem_nil, or_false] at hx
  rcases hx with rfl | rfl
  · exact x66
  · exact x88)

set_option maxRecDepth 100000 in
theorem evaluated : isT (callD Tryd.prog (glOf tabs) (extOf exts) 5000 100 40 3 [] LS.start) = true := by kernel_rfl

theorem g0 : Tryd.prog.globalNamed "undertow/code.forms" = some 0 := by kernel_rfl
theorem g1 : Tryd.prog.globalNamed "internal/strconv.uint64pow10" = some 1 := by kernel_rfl
theorem t0 : (Tryd.prog.globals[0]?).map (·.type) = some 103 := by kernel_rfl
theorem t1 : (Tryd.prog.globals[1]?).map (·.type) = some 142 := by kernel_rfl

theorem walk (W : World) (hL : laidMetH Tryd.prog Rows.listKnownRow.laid W) (hs : W.ShapedOpen Tryd.prog) :
    Calls Tryd.prog 3 #[] W (fun e W' => e = .returned (.bool true) ∧ Below W.heap.size W W') := by
  have hL2 : laidMet Tryd.prog Rows.listKnownRow.laid W := hL
  have a0 : TabOK Tryd.prog (phi0 Tryd.prog.globals.size []) W (0, forms.map (.int .i64)) :=
    tab_ok (name := "undertow/code.forms") (zs := forms) hL2 (.tail _ (.tail _ (.tail _ (.head _)))) g0 t0 Tryd.underlying103 Tryd.underlying3 (by kernel_rfl) (by kernel_rfl)
  have a1 : TabOK Tryd.prog (phi0 Tryd.prog.globals.size []) W (1, pow10.map (.int .u64)) :=
    tab_ok (name := "internal/strconv.uint64pow10") (zs := pow10) hL2 (.tail _ (.tail _ (.head _))) g1 t1 Tryd.underlying142 Tryd.underlying73 (by kernel_rfl) (by kernel_rfl)
  refine call_true good (rel_start (bs := []) (of_decide_eq_true (by kernel_rfl)) (by simp) (fun b hb => by cases hb) (shaped_size hs (by kernel_rfl)) (glOf_ok ?_)) evaluated
  intro x hx
  simp only [tabs, List.mem_cons, List.not_mem_nil, or_false] at hx
  rcases hx with rfl | rfl
  · exact a0
  · exact a1

theorem reads (os : Os) {H : Type} (enc : TypeId × Value → H) : ∃ places, DataW.whole enc Tryd.prog ((World.laidAll Tryd.prog os Rows.listKnownRow.laid).forCall (fun _ _ => 0) ⟨#[], #[], []⟩).memory Tryd.f3.params.toList Rows.listKnownSpec.vars false (#[] : Array Value).toList 8 = some ([], [], places) :=
  ⟨[], by kernel_rfl⟩

set_option maxRecDepth 100000 in
theorem lifted (os : Os) (started : os.Started) (H : Type) (enc : TypeId × Value → H) (F : Stop.Interp) :
    ReturnsInHanded {} Tryd.checked os 3 .any ((OpenSpec.ofChange Rows.listKnownSpec).preRow enc Tryd.prog Tryd.f3 Rows.listKnownRow.domain false Rows.listKnownRow.laid) (((OpenSpec.ofChange Rows.listKnownSpec).at F).post enc Tryd.prog Tryd.f3 false true false false) := by
  obtain ⟨places, hx⟩ := reads os enc
  refine returnsInHanded_of_row (C := Tryd.checked) (s := OpenSpec.ofChange Rows.listKnownSpec) own started (by kernel_rfl) Tryd.func3
    (witness_row_atRef (enc := enc) (C := Tryd.checked) false (World.laidAll Tryd.prog os Rows.listKnownRow.laid) #[] (World.laidAll_os _ _ _) (by kernel_rfl) (by kernel_rfl) (by kernel_rfl)
      (OpenSpec.preRow_of_cond 8 hx (by kernel_rfl) (fun k hk => by cases hk) (by kernel_rfl) (laidMet_laidAll #[] (by kernel_rfl) (by kernel_rfl)))) ?_
  intro W base args ds gs before hval hW _ _ _ hL hsh _
  have hargs : args = #[] := by
    obtain ⟨p, q, hA, _⟩ := hW
    have hp : Tryd.f3.params = #[] := by kernel_rfl
    rw [hp] at hA
    obtain ⟨e, _, _⟩ := trodAll_nil hA
    exact Array.ext' e
  subst hargs
  refine (walk W hL hsh).mono fun e W' ⟨he, hB⟩ => ?_
  subst he
  exact ⟨_, rfl, post_true (t := 4) (by kernel_rfl) (by kernel_rfl) rfl Tryd.underlying4 rfl hW hB⟩

theorem said : Rows.ListKnownSaid :=
  OpenClaim.holds_of_cond 3 Tryd.f3 rfl rfl rfl rfl rfl rfl rfl ⟨rfl, rfl, rfl, rfl, rfl⟩ rfl rfl rfl rfl rfl (by kernel_rfl) Tryd.func3 (by kernel_rfl)
    (of_decide_eq_true (by kernel_rfl)) (by unfold Func.isWrapper; first | (rw [if_pos (by decide +kernel)]; kernel_rfl) | (rw [if_neg (by decide +kernel)]; exact ⟨rfl, rfl⟩))
    (fun os started H enc _ F => by rw [OpenClaim.pre_eq_preRow]; exact lifted os started H enc F)

theorem plain (f : FuncId) (fn : Func) (hf : Tryd.pinned.checked.prog.funcNamed "undertow/undertowlaw22.ListKnown" = some f) (hfn : Tryd.pinned.checked.prog.funcs[f]? = some fn) :
    true = Tryd.pinned.checked.prog.looks [] ∧ ∀ (j : Nat) t, fn.params[j]? = some t → Tryd.pinned.checked.prog.wantsStandIn t = false := by
  obtain rfl : f = 3 := Option.some.inj ((show Tryd.prog.funcNamed "undertow/undertowlaw22.ListKnown" = some 3 by kernel_rfl).symm.trans hf) |>.symm
  obtain rfl : fn = Tryd.f3 := (Option.some.inj (Tryd.func3.symm.trans hfn)).symm
  refine ⟨by kernel_rfl, fun j t ht => ?_⟩
  rw [show Tryd.f3.params = #[] from by kernel_rfl] at ht
  simp at ht

theorem card : Rows.ListKnownCardSaid :=
  Claim7.holds_tied_plain_at .later [] _ _ _ _ said (fun _ h => by cases h) (by kernel_rfl) (fun _ h => by cases h) listKnown_row_tie rfl ⟨rfl, rfl⟩ (by kernel_rfl) rfl plain (by kernel_rfl)
end Go.Proofs.YtambfeiefkfbfaaDoor.listKnown
namespace Go.Proofs.YtambfeiefkfbfaaDoor
theorem listKnown_card_holds : Rows.ListKnownCardSaid := listKnown.card
end Go.Proofs.YtambfeiefkfbfaaDoor
