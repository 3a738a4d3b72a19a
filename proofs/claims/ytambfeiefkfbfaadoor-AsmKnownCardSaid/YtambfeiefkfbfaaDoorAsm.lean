/- AsmKnown answers true and turns nothing, whatever the tape and the order of evaluation, where the listed variables start as the program's text lays them: by one evaluation in the kernel. -/
import Derived.Test.YtambfeiefkfbfaaDoorCards
import Derived.Test.YtambfeiefkfbfaaDoorTie
import Derived.Test.YtambfeiefkfbfaaDoorEv4
import Derived.WalkKit
import Derived.ProofKit
import Derived.OpenShut
import Derived.Deep.DeepHandedRow
import Derived.Deep.DeepWitnessRowRef
import Derived.Lay
namespace Go.Proofs.YtambfeiefkfbfaaDoor.asmKnown
open Go.ChangeShapes Go.WideShapes Go.ChangeAt Go.RowKit Go.Proofs.YtambfeiefkfbfaaDoor.Ev

def db32 : List Int := [0,1,28,2,29,14,24,3,30,22,20,15,25,17,4,8,31,27,13,23,21,19,16,7,26,12,18,6,11,5,10,9]
def db64 : List Int := [0,1,56,2,57,49,28,3,61,58,42,50,38,29,17,4,62,47,59,36,45,43,51,22,53,39,33,30,24,18,12,5,63,55,48,27,60,41,37,16,46,35,44,21,52,32,23,11,54,26,40,15,34,20,31,10,25,14,19,9,13,8,7,6]
def pow10 : List Int := [1,10,100,1000,10000,100000,1000000,10000000,100000000,1000000000,10000000000,100000000000,1000000000000,10000000000000,100000000000000,1000000000000000,10000000000000000,100000000000000000,1000000000000000000,10000000000000000000]
def forms : List Int := [0,1,1,1,1,1,1,1,2,2,2,1,3,2,2,2,4,4,0,5,6,0]
def tabs (u0 o0 u1 o1 : Nat) : List (Nat × List Value) := [(5, db32.map (.int .u8)), (6, db64.map (.int .u8)), (1, pow10.map (.int .u64)), (0, forms.map (.int .i64)), (2, [.iface u0 (.pointer (some ⟨900, o0, none⟩))]), (3, [.iface u1 (.pointer (some ⟨901, o1, none⟩))])]
def exts : List (Nat × Xk) := [(66, .same), (88, .makeNoZero 51), (91, .flat Extern.BytealgCount.count), (99, .flat Extern.BytealgIndex.index), (102, .flat Extern.BytealgIndexByte.indexByte)]

theorem own : ownKnob Tryd.prog.godebug = none := by kernel_rfl
theorem x66 : XkOK Tryd.prog 66 .same := ⟨Tryd.f66, Tryd.func66, by kernel_rfl, by kernel_rfl, (show Extern.find Tryd.f66 = some Extern.AbiNoEscape.same by kernel_rfl)⟩
theorem x88 : XkOK Tryd.prog 88 (.makeNoZero 51) := ⟨Tryd.f88, Tryd.func88, by kernel_rfl, by kernel_rfl, (show Extern.find Tryd.f88 = some (Extern.BytealgMakeNoZero.makeNoZero Tryd.f88.params Tryd.f88.resultTypes) by kernel_rfl), (show Tryd.f88.resultTypes[0]? = some 51 by kernel_rfl)⟩
theorem x91 : XkOK Tryd.prog 91 (.flat Extern.BytealgCount.count) := ⟨Tryd.f91, Tryd.func91, by kernel_rfl, by kernel_rfl, (show Extern.find Tryd.f91 = some Extern.BytealgCount.count by kernel_rfl)⟩
theorem x99 : XkOK Tryd.prog 99 (.flat Extern.BytealgIndex.index) := ⟨Tryd.f99, Tryd.func99, by kernel_rfl, by kernel_rfl, (show Extern.find Tryd.f99 = some Extern.BytealgIndex.index by kernel_rfl)⟩
theorem x102 : XkOK Tryd.prog 102 (.flat Extern.BytealgIndexByte.indexByte) := ⟨Tryd.f102, Tryd.func102, by kernel_rfl, by kernel_rfl, (show Extern.find Tryd.f102 = some Extern.BytealgIndexByte.indexByte by kernel_rfl)⟩
theorem good : Go.Proofs.YtambfeiefkfbfaaDoor.Ev.Good Tryd.prog (extOf exts) := good_of (by kernel_rfl) (by kernel_rfl) (by
  intro x hx
  simp only [exts, List.mem_cons, List.not_mem_nil, or_false] at hx
  rcases hx with rfl | rfl | rfl | rfl | rfl
  · exact x66
  · exact x88
  · exact x91
  · exact x99
  · exact x102)

set_option maxRecDepth 100000 in
theorem evaluated (u0 o0 u1 o1 : Nat) : isT (callD Tryd.prog (glOf (tabs u0 o0 u1 o1)) (extOf exts) 5000 100 40 6 [] LS.start) = true := by kernel_rfl

theorem g5 : Tryd.prog.globalNamed "math/bits.deBruijn32tab" = some 5 := by kernel_rfl
theorem g6 : Tryd.prog.globalNamed "math/bits.deBruijn64tab" = some 6 := by kernel_rfl
theorem g1 : Tryd.prog.globalNamed "internal/strconv.uint64pow10" = some 1 := by kernel_rfl
theorem g0 : Tryd.prog.globalNamed "undertow/code.forms" = some 0 := by kernel_rfl
theorem g2 : Tryd.prog.globalNamed "strconv.ErrSyntax" = some 2 := by kernel_rfl
theorem g3 : Tryd.prog.globalNamed "strconv.ErrRange" = some 3 := by kernel_rfl
theorem t5 : (Tryd.prog.globals[5]?).map (·.type) = some 157 := by kernel_rfl
theorem t6 : (Tryd.prog.globals[6]?).map (·.type) = some 158 := by kernel_rfl
theorem t1 : (Tryd.prog.globals[1]?).map (·.type) = some 142 := by kernel_rfl
theorem t0 : (Tryd.prog.globals[0]?).map (·.type) = some 103 := by kernel_rfl
theorem noHandle : (Rows.asmKnownRow.laid.filter fun x => x.2.handleName?.isSome) = [] := by kernel_rfl
theorem laidOf {W : World} (h : laidMetH Tryd.prog Rows.asmKnownRow.laid W) : laidMet Tryd.prog Rows.asmKnownRow.laid W := by
  unfold laidMetH at h
  rw [noHandle] at h
  exact h

theorem walk (W : World) (hL : laidMetH Tryd.prog Rows.asmKnownRow.laid W) (hs : W.ShapedOpen Tryd.prog) :
    Calls Tryd.prog 6 #[] W (fun e W' => e = .returned (.bool true) ∧ Below W.heap.size W W') := by
  have hL2 := laidOf hL
  have hn : Tryd.prog.globals.size ≤ 900 := of_decide_eq_true (by kernel_rfl)
  obtain ⟨hg0, u0, a0, hc0, hsp0, hb0⟩ := sentinel (name := "strconv.ErrSyntax") hL2 (.tail _ (.tail _ (.tail _ (.tail _ (.tail _ (.tail _ (.head _))))))) g2
  obtain ⟨hg1, u1, a1, hc1, hsp1, hb1⟩ := sentinel (name := "strconv.ErrRange") hL2 (.tail _ (.tail _ (.tail _ (.tail _ (.tail _ (.head _)))))) g3
  have k5 : TabOK Tryd.prog (phi0 Tryd.prog.globals.size [a0.block, a1.block]) W (5, db32.map (.int .u8)) :=
    tab_ok (name := "math/bits.deBruijn32tab") (zs := db32) hL2 (.head _) g5 t5 Tryd.underlying157 Tryd.underlying5 (by kernel_rfl) (by kernel_rfl)
  have k6 : TabOK Tryd.prog (phi0 Tryd.prog.globals.size [a0.block, a1.block]) W (6, db64.map (.int .u8)) :=
    tab_ok (name := "math/bits.deBruijn64tab") (zs := db64) hL2 (.tail _ (.head _)) g6 t6 Tryd.underlying158 Tryd.underlying5 (by kernel_rfl) (by kernel_rfl)
  have k1 : TabOK Tryd.prog (phi0 Tryd.prog.globals.size [a0.block, a1.block]) W (1, pow10.map (.int .u64)) :=
    tab_ok (name := "internal/strconv.uint64pow10") (zs := pow10) hL2 (.tail _ (.tail _ (.head _))) g1 t1 Tryd.underlying142 Tryd.underlying73 (by kernel_rfl) (by kernel_rfl)
  have k0 : TabOK Tryd.prog (phi0 Tryd.prog.globals.size [a0.block, a1.block]) W (0, forms.map (.int .i64)) :=
    tab_ok (name := "undertow/code.forms") (zs := forms) hL2 (.tail _ (.tail _ (.tail _ (.head _)))) g0 t0 Tryd.underlying103 Tryd.underlying3 (by kernel_rfl) (by kernel_rfl)
  have k2 : TabOK Tryd.prog (phi0 Tryd.prog.globals.size [a0.block, a1.block]) W (2, [.iface u0 (.pointer (some ⟨900, a0.off, none⟩))]) := sent_ok (j := 0) hg0 hn rfl hc0 hsp0
  have k3 : TabOK Tryd.prog (phi0 Tryd.prog.globals.size [a0.block, a1.block]) W (3, [.iface u1 (.pointer (some ⟨901, a1.off, none⟩))]) := sent_ok (j := 1) hg1 hn rfl hc1 hsp1
  refine call_true good (rel_start (bs := [a0.block, a1.block]) hn (by simp) (fun b hb => ?_) (shaped_size hs (by kernel_rfl)) (glOf_ok ?_)) (evaluated u0 a0.off u1 a1.off)
  · simp only [List.mem_cons, List.not_mem_nil, or_false] at hb
    rcases hb with rfl | rfl
    · exact hb0
    · exact hb1
  intro x hx
  simp only [tabs, List.mem_cons, List.not_mem_nil, or_false] at hx
  rcases hx with rfl | rfl | rfl | rfl | rfl | rfl
  · exact k5
  · exact k6
  · exact k1
  · exact k0
  · exact k2
  · exact k3

theorem reads (os : Os) {H : Type} (enc : TypeId × Value → H) : ∃ places, DataW.whole enc Tryd.prog ((World.laidAll Tryd.prog os Rows.asmKnownRow.laid).forCall (fun _ _ => 0) ⟨#[], #[], []⟩).memory Tryd.f6.params.toList Rows.asmKnownSpec.vars false (#[] : Array Value).toList 8 = some ([], [], places) :=
  ⟨[], by kernel_rfl⟩

set_option maxRecDepth 100000 in
theorem lifted (os : Os) (started : os.Started) (H : Type) (enc : TypeId × Value → H) (F : Stop.Interp) :
    ReturnsInHanded {} Tryd.checked os 6 .any ((OpenSpec.ofChange Rows.asmKnownSpec).preRow enc Tryd.prog Tryd.f6 Rows.asmKnownRow.domain false Rows.asmKnownRow.laid) (((OpenSpec.ofChange Rows.asmKnownSpec).at F).post enc Tryd.prog Tryd.f6 false true false false) := by
  obtain ⟨places, hx⟩ := reads os enc
  refine returnsInHanded_of_row (C := Tryd.checked) (s := OpenSpec.ofChange Rows.asmKnownSpec) own started (by kernel_rfl) Tryd.func6
    (witness_row_atRef (enc := enc) (C := Tryd.checked) false (World.laidAll Tryd.prog os Rows.asmKnownRow.laid) #[] (World.laidAll_os _ _ _) (by kernel_rfl) (by kernel_rfl) (by kernel_rfl)
      (OpenSpec.preRow_of_cond 8 hx (by kernel_rfl) (fun k hk => by cases hk) (by kernel_rfl) (laidMet_laidAll #[] (by kernel_rfl) (by kernel_rfl)))) ?_
  intro W base args ds gs before hval hW _ _ _ hL hsh _
  have hargs : args = #[] := by
    obtain ⟨p, q, hA, _⟩ := hW
    have hp : Tryd.f6.params = #[] := by kernel_rfl
    rw [hp] at hA
    obtain ⟨e, _, _⟩ := trodAll_nil hA
    exact Array.ext' e
  subst hargs
  refine (walk W hL hsh).mono fun e W' ⟨he, hB⟩ => ?_
  subst he
  exact ⟨_, rfl, post_true (t := 4) (by kernel_rfl) (by kernel_rfl) rfl Tryd.underlying4 rfl hW hB⟩

theorem said : Rows.AsmKnownSaid :=
  OpenClaim.holds_of_cond 6 Tryd.f6 rfl rfl rfl rfl rfl rfl rfl ⟨rfl, rfl, rfl, rfl, rfl⟩ rfl rfl rfl rfl rfl (by kernel_rfl) Tryd.func6 (by kernel_rfl)
    (of_decide_eq_true (by kernel_rfl)) (by unfold Func.isWrapper; first | (rw [if_pos (by decide +kernel)]; kernel_rfl) | (rw [if_neg (by decide +kernel)]; exact ⟨rfl, rfl⟩))
    (fun os started H enc _ F => by rw [OpenClaim.pre_eq_preRow]; exact lifted os started H enc F)

theorem plain (f : FuncId) (fn : Func) (hf : Tryd.pinned.checked.prog.funcNamed "undertow/undertowlaw21.AsmKnown" = some f) (hfn : Tryd.pinned.checked.prog.funcs[f]? = some fn) :
    true = Tryd.pinned.checked.prog.looks [] ∧ ∀ (j : Nat) t, fn.params[j]? = some t → Tryd.pinned.checked.prog.wantsStandIn t = false := by
  obtain rfl : f = 6 := Option.some.inj ((show Tryd.prog.funcNamed "undertow/undertowlaw21.AsmKnown" = some 6 by kernel_rfl).symm.trans hf) |>.symm
  obtain rfl : fn = Tryd.f6 := (Option.some.inj (Tryd.func6.symm.trans hfn)).symm
  refine ⟨by kernel_rfl, fun j t ht => ?_⟩
  rw [show Tryd.f6.params = #[] from by kernel_rfl] at ht
  simp at ht

theorem card : Rows.AsmKnownCardSaid :=
  Claim7.holds_tied_plain_at .later [] _ _ _ _ said (fun _ h => by cases h) (by kernel_rfl) (fun _ h => by cases h) asmKnown_row_tie rfl ⟨rfl, rfl⟩ (by kernel_rfl) rfl plain (by kernel_rfl)
end Go.Proofs.YtambfeiefkfbfaaDoor.asmKnown
namespace Go.Proofs.YtambfeiefkfbfaaDoor
theorem asmKnown_card_holds : Rows.AsmKnownCardSaid := asmKnown.card
end Go.Proofs.YtambfeiefkfbfaaDoor
