/- AsmNames answers true and turns nothing, whatever the tape and the order of evaluation, where the listed variables start as the program's text lays them: by one evaluation in the kernel. -/
import Derived.Test.YtahkaalnbplpiaaDoorCards
import Derived.Test.YtahkaalnbplpiaaDoorTie
import Derived.Test.YtahkaalnbplpiaaDoorEv4
import Derived.WalkKit
import Derived.ProofKit
import Derived.OpenShut
import Derived.Deep.DeepHandedRow
import Derived.Deep.DeepWitnessRowRef
import Derived.Lay
namespace Go.Proofs.YtahkaalnbplpiaaDoor.asmNames
open Go.ChangeShapes Go.WideShapes Go.ChangeAt Go.RowKit Go.Proofs.YtahkaalnbplpiaaDoor.Ev

def db32 : List Int := [0,1,28,2,29,14,24,3,30,22,20,15,25,17,4,8,31,27,13,23,21,19,16,7,26,12,18,6,11,5,10,9]
def db64 : List Int := [0,1,56,2,57,49,28,3,61,58,42,50,38,29,17,4,62,47,59,36,45,43,51,22,53,39,33,30,24,18,12,5,63,55,48,27,60,41,37,16,46,35,44,21,52,32,23,11,54,26,40,15,34,20,31,10,25,14,19,9,13,8,7,6]
def pow10 : List Int := [1,10,100,1000,10000,100000,1000000,10000000,100000000,1000000000,10000000000,100000000000,1000000000000,10000000000000,100000000000000,1000000000000000,10000000000000000,100000000000000000,1000000000000000000,10000000000000000000]
def forms : List Int := [0,1,1,1,1,1,1,1,2,2,2,1,3,2,2,2,4,4,0,5,6,0]
def tabs (u0 o0 u1 o1 : Nat) : List (Nat × List Value) := [(3, db32.map (.int .u8)), (4, db64.map (.int .u8)), (1, pow10.map (.int .u64)), (0, forms.map (.int .i64)), (7, [.iface u0 (.pointer (some ⟨900, o0, none⟩))]), (8, [.iface u1 (.pointer (some ⟨901, o1, none⟩))])]
def exts : List (Nat × Xk) := [(66, .same), (94, .makeNoZero 64), (97, .flat Extern.BytealgCount.count), (107, .flat Extern.BytealgIndex.index), (117, .flat Extern.BytealgIndexByte.indexByte)]

theorem own : ownKnob Tryd.prog.godebug = none := by kernel_rfl
theorem x66 : XkOK Tryd.prog 66 .same := ⟨Tryd.f66, Tryd.func66, by kernel_rfl, by kernel_rfl, (show Extern.find Tryd.f66 = some Extern.AbiNoEscape.same by kernel_rfl)⟩
theorem x94 : XkOK Tryd.prog 94 (.makeNoZero 64) := ⟨Tryd.f94, Tryd.func94, by kernel_rfl, by kernel_rfl, (show Extern.find Tryd.f94 = some (Extern.BytealgMakeNoZero.makeNoZero Tryd.f94.params Tryd.f94.resultTypes) by kernel_rfl), (show Tryd.f94.resultTypes[0]? = some 64 by kernel_rfl)⟩
theorem x97 : XkOK Tryd.prog 97 (.flat Extern.BytealgCount.count) := ⟨Tryd.f97, Tryd.func97, by kernel_rfl, by kernel_rfl, (show Extern.find Tryd.f97 = some Extern.BytealgCount.count by kernel_rfl)⟩
theorem x107 : XkOK Tryd.prog 107 (.flat Extern.BytealgIndex.index) := ⟨Tryd.f107, Tryd.func107, by kernel_rfl, by kernel_rfl, (show Extern.find Tryd.f107 = some Extern.BytealgIndex.index by kernel_rfl)⟩
theorem x117 : XkOK Tryd.prog 117 (.flat Extern.BytealgIndexByte.indexByte) := ⟨Tryd.f117, Tryd.func117, by kernel_rfl, by kernel_rfl, (show Extern.find Tryd.f117 = some Extern.BytealgIndexByte.indexByte by kernel_rfl)⟩
theorem good : Go.Proofs.YtahkaalnbplpiaaDoor.Ev.Good Tryd.prog (extOf exts) := good_of (by kernel_rfl) (by kernel_rfl) (by
  intro x hx
  simp only [exts, List.mem_cons, List.not_mem_nil, or_false] at hx
  rcases hx with rfl | rfl | rfl | rfl | rfl
  · exact x66
  · exact x94
  · exact x97
  · exact x107
  · exact x117)

set_option maxRecDepth 100000 in
theorem works (u0 o0 u1 o1 : Nat) : isT (callD Tryd.prog (glOf (tabs u0 o0 u1 o1)) (extOf exts) 5000 100 40 (.fn 22) [] LS.start) = true := by kernel_rfl

set_option maxRecDepth 100000 in
theorem evaluated (u0 o0 u1 o1 : Nat) : ((List.range 256).all fun n => isT (callM Tryd.prog (glOf (tabs u0 o0 u1 o1)) (extOf exts) [22] 5000 100 40 (.fn 8) [.int .u8 (Int.ofNat n)] LS.start)) = true := by kernel_rfl

theorem g3 : Tryd.prog.globalNamed "math/bits.deBruijn32tab" = some 3 := by kernel_rfl
theorem g4 : Tryd.prog.globalNamed "math/bits.deBruijn64tab" = some 4 := by kernel_rfl
theorem g1 : Tryd.prog.globalNamed "internal/strconv.uint64pow10" = some 1 := by kernel_rfl
theorem g0 : Tryd.prog.globalNamed "undertow/code.forms" = some 0 := by kernel_rfl
theorem g7 : Tryd.prog.globalNamed "strconv.ErrSyntax" = some 7 := by kernel_rfl
theorem g8 : Tryd.prog.globalNamed "strconv.ErrRange" = some 8 := by kernel_rfl
theorem t3 : (Tryd.prog.globals[3]?).map (·.type) = some 165 := by kernel_rfl
theorem t4 : (Tryd.prog.globals[4]?).map (·.type) = some 166 := by kernel_rfl
theorem t1 : (Tryd.prog.globals[1]?).map (·.type) = some 148 := by kernel_rfl
theorem t0 : (Tryd.prog.globals[0]?).map (·.type) = some 94 := by kernel_rfl
theorem noHandle : (Rows.asmNamesRow.laid.filter fun x => x.2.handleName?.isSome) = [] := by kernel_rfl
theorem laidOf {W : World} (h : laidMetH Tryd.prog Rows.asmNamesRow.laid W) : laidMet Tryd.prog Rows.asmNamesRow.laid W := by
  unfold laidMetH at h
  rw [noHandle] at h
  exact h

theorem walk (m : Nat) (hm : m < 256) (W : World) (hL : laidMetH Tryd.prog Rows.asmNamesRow.laid W) (hs : W.ShapedOpen Tryd.prog) :
    Calls Tryd.prog 8 #[.int .u8 (Int.ofNat m)] W (fun e W' => e = .returned (.bool true) ∧ Below W.heap.size W W') := by
  have hL2 := laidOf hL
  have hn : Tryd.prog.globals.size ≤ 900 := of_decide_eq_true (by kernel_rfl)
  obtain ⟨hg0, u0, a0, hc0, hsp0, hb0⟩ := sentinel (name := "strconv.ErrSyntax") hL2 (.tail _ (.tail _ (.tail _ (.tail _ (.tail _ (.tail _ (.head _))))))) g7
  obtain ⟨hg1, u1, a1, hc1, hsp1, hb1⟩ := sentinel (name := "strconv.ErrRange") hL2 (.tail _ (.tail _ (.tail _ (.tail _ (.tail _ (.head _)))))) g8
  have k3 : TabOK Tryd.prog (phi0 Tryd.prog.globals.size [a0.block, a1.block]) W (3, db32.map (.int .u8)) :=
    tab_ok (name := "math/bits.deBruijn32tab") (zs := db32) hL2 (.head _) g3 t3 Tryd.underlying165 Tryd.underlying5 (by kernel_rfl) (by kernel_rfl)
  have k4 : TabOK Tryd.prog (phi0 Tryd.prog.globals.size [a0.block, a1.block]) W (4, db64.map (.int .u8)) :=
    tab_ok (name := "math/bits.deBruijn64tab") (zs := db64) hL2 (.tail _ (.head _)) g4 t4 Tryd.underlying166 Tryd.underlying5 (by kernel_rfl) (by kernel_rfl)
  have k1 : TabOK Tryd.prog (phi0 Tryd.prog.globals.size [a0.block, a1.block]) W (1, pow10.map (.int .u64)) :=
    tab_ok (name := "internal/strconv.uint64pow10") (zs := pow10) hL2 (.tail _ (.tail _ (.head _))) g1 t1 Tryd.underlying148 Tryd.underlying91 (by kernel_rfl) (by kernel_rfl)
  have k0 : TabOK Tryd.prog (phi0 Tryd.prog.globals.size [a0.block, a1.block]) W (0, forms.map (.int .i64)) :=
    tab_ok (name := "undertow/code.forms") (zs := forms) hL2 (.tail _ (.tail _ (.tail _ (.head _)))) g0 t0 Tryd.underlying94 Tryd.underlying3 (by kernel_rfl) (by kernel_rfl)
  have k7 : TabOK Tryd.prog (phi0 Tryd.prog.globals.size [a0.block, a1.block]) W (7, [.iface u0 (.pointer (some ⟨900, a0.off, none⟩))]) := sent_ok (j := 0) hg0 hn rfl hc0 hsp0
  have k8 : TabOK Tryd.prog (phi0 Tryd.prog.globals.size [a0.block, a1.block]) W (8, [.iface u1 (.pointer (some ⟨901, a1.off, none⟩))]) := sent_ok (j := 1) hg1 hn rfl hc1 hsp1
  have hlow := lowTabs (l := tabs u0 a0.off u1 a1.off) (by kernel_rfl)
  have hmemo : ∀ f ∈ [22], MemoOK Tryd.prog (glOf (tabs u0 a0.off u1 a1.off)) f := by
    intro f hf
    obtain rfl : f = 22 := by simpa using hf
    exact memo_ok good hlow hn (works u0 a0.off u1 a1.off)
  refine callM_true (args := [.int .u8 (Int.ofNat m)]) good hmemo (rel_start (bs := [a0.block, a1.block]) hn (by simp) (fun b hb => ?_) (shaped_size hs (by kernel_rfl)) (glOf_ok ?_)) rfl (List.all_eq_true.1 (evaluated u0 a0.off u1 a1.off) m (List.mem_range.2 hm))
  · simp only [List.mem_cons, List.not_mem_nil, or_false] at hb
    rcases hb with rfl | rfl
    · exact hb0
    · exact hb1
  intro x hx
  simp only [tabs, List.mem_cons, List.not_mem_nil, or_false] at hx
  rcases hx with rfl | rfl | rfl | rfl | rfl | rfl
  · exact k3
  · exact k4
  · exact k1
  · exact k0
  · exact k7
  · exact k8

theorem reads (os : Os) {H : Type} (enc : TypeId × Value → H) : ∃ places, DataW.whole enc Tryd.prog ((World.laidAll Tryd.prog os Rows.asmNamesRow.laid).forCall (fun _ _ => 0) ⟨#[], #[.int .u8 0], []⟩).memory Tryd.f8.params.toList Rows.asmNamesSpec.vars false (#[.int .u8 0] : Array Value).toList 8 = some ([.lit (.int .u8 0)], [], places) :=
  ⟨[], by kernel_rfl⟩

set_option maxRecDepth 100000 in
theorem lifted (os : Os) (started : os.Started) (H : Type) (enc : TypeId × Value → H) (F : Stop.Interp) :
    ReturnsInHanded {} Tryd.checked os 8 .any ((OpenSpec.ofChange Rows.asmNamesSpec).preRow enc Tryd.prog Tryd.f8 Rows.asmNamesRow.domain false Rows.asmNamesRow.laid) (((OpenSpec.ofChange Rows.asmNamesSpec).at F).post enc Tryd.prog Tryd.f8 false true false false) := by
  obtain ⟨places, hx⟩ := reads os enc
  refine returnsInHanded_of_row (C := Tryd.checked) (s := OpenSpec.ofChange Rows.asmNamesSpec) own started (by kernel_rfl) Tryd.func8
    (witness_row_atRef (enc := enc) (C := Tryd.checked) false (World.laidAll Tryd.prog os Rows.asmNamesRow.laid) #[.int .u8 0] (World.laidAll_os _ _ _) (by kernel_rfl) (by kernel_rfl) (by kernel_rfl)
      (OpenSpec.preRow_of_cond 8 hx (by kernel_rfl) (fun k hk => by cases hk) (by kernel_rfl) (laidMet_laidAll #[] (by kernel_rfl) (by kernel_rfl)))) ?_
  intro W base args ds gs before hval hW _ _ _ hL hsh _
  have hp : Tryd.f8.params = #[5] := by kernel_rfl
  obtain ⟨n, rfl, w0⟩ := open_one hp Tryd.underlying5 hval hW
  obtain ⟨m, hm, rfl⟩ : ∃ m : Nat, m < 256 ∧ n = Int.ofNat m := by
    have h0 : 0 ≤ n ∧ n < 256 := by
      simp only [Lit.wf, Bool.and_eq_true, decide_eq_true_eq] at w0
      have e1 : IntKind.min .u8 = 0 := by kernel_rfl
      have e2 : IntKind.max .u8 = 256 - 1 := by kernel_rfl
      rw [e1, e2] at w0
      omega
    exact ⟨n.toNat, by omega, by have := Int.toNat_of_nonneg h0.1; exact this.symm⟩
  refine (walk m hm W hL hsh).mono fun e W' ⟨he, hB⟩ => ?_
  subst he
  exact ⟨_, rfl, post_true1 (t := 4) hp (by kernel_rfl) rfl Tryd.underlying4 Tryd.underlying5 w0 (fun _ => rfl) hW hB⟩

theorem said : Rows.AsmNamesSaid :=
  OpenClaim.holds_of_cond 8 Tryd.f8 rfl rfl rfl rfl rfl rfl rfl ⟨rfl, rfl, rfl, rfl, rfl⟩ rfl rfl rfl rfl rfl (by kernel_rfl) Tryd.func8 (by kernel_rfl)
    (of_decide_eq_true (by kernel_rfl)) (by unfold Func.isWrapper; first | (rw [if_pos (by decide +kernel)]; kernel_rfl) | (rw [if_neg (by decide +kernel)]; exact ⟨rfl, rfl⟩))
    (fun os started H enc _ F => by rw [OpenClaim.pre_eq_preRow]; exact lifted os started H enc F)

theorem plain (f : FuncId) (fn : Func) (hf : Tryd.pinned.checked.prog.funcNamed "undertow/undertowlaw21.AsmNames" = some f) (hfn : Tryd.pinned.checked.prog.funcs[f]? = some fn) :
    true = Tryd.pinned.checked.prog.looks [] ∧ ∀ (j : Nat) t, fn.params[j]? = some t → Tryd.pinned.checked.prog.wantsStandIn t = false := by
  obtain rfl : f = 8 := Option.some.inj ((show Tryd.prog.funcNamed "undertow/undertowlaw21.AsmNames" = some 8 by kernel_rfl).symm.trans hf) |>.symm
  obtain rfl : fn = Tryd.f8 := (Option.some.inj (Tryd.func8.symm.trans hfn)).symm
  refine ⟨by kernel_rfl, fun j t ht => ?_⟩
  rw [show Tryd.f8.params = #[5] from by kernel_rfl] at ht
  cases j with
  | zero => cases ht; kernel_rfl
  | succ j => simp at ht

theorem card : Rows.AsmNamesCardSaid :=
  Claim7.holds_tied_plain_at .later [] _ _ _ _ said (fun _ h => by cases h) (by kernel_rfl) (fun _ h => by cases h) asmNames_row_tie rfl ⟨rfl, rfl⟩ (by kernel_rfl) rfl plain (by kernel_rfl)
end Go.Proofs.YtahkaalnbplpiaaDoor.asmNames
namespace Go.Proofs.YtahkaalnbplpiaaDoor
theorem asmNames_card_holds : Rows.AsmNamesCardSaid := asmNames.card
end Go.Proofs.YtahkaalnbplpiaaDoor
