/- ChipKnown answers true and turns nothing, whatever the tape and the order of evaluation, where the listed variables start as the program's text lays them: by one evaluation in the kernel. -/
import Derived.Test.YtahkaalnbplpiaaGreatDoorCards
import Derived.Test.YtahkaalnbplpiaaGreatDoorTie
import Derived.Test.YtahkaalnbplpiaaGreatDoorEv4
import Derived.WalkKit
import Derived.ProofKit
import Derived.OpenShut
import Derived.Deep.DeepHandedRow
import Derived.Deep.DeepWitnessRowRef
import Derived.Lay
namespace Go.Proofs.YtahkaalnbplpiaaGreatDoor.chipKnown
open Go.ChangeShapes Go.WideShapes Go.ChangeAt Go.RowKit Go.Proofs.YtahkaalnbplpiaaGreatDoor.Ev

def db32 : List Int := [0,1,28,2,29,14,24,3,30,22,20,15,25,17,4,8,31,27,13,23,21,19,16,7,26,12,18,6,11,5,10,9]
def db64 : List Int := [0,1,56,2,57,49,28,3,61,58,42,50,38,29,17,4,62,47,59,36,45,43,51,22,53,39,33,30,24,18,12,5,63,55,48,27,60,41,37,16,46,35,44,21,52,32,23,11,54,26,40,15,34,20,31,10,25,14,19,9,13,8,7,6]
def pow10 : List Int := [1,10,100,1000,10000,100000,1000000,10000000,100000000,1000000000,10000000000,100000000000,1000000000000,10000000000000,100000000000000,1000000000000000,10000000000000000,100000000000000000,1000000000000000000,10000000000000000000]
def forms : List Int := [0,1,1,1,1,1,1,1,2,2,2,1,3,2,2,2,4,4,0,5,6,0]
def tabs (u0 o0 u1 o1 : Nat) : List (Nat × List Value) := [(3, db32.map (.int .u8)), (7, db64.map (.int .u8)), (2, pow10.map (.int .u64)), (0, forms.map (.int .i64)), (8, [.iface u0 (.pointer (some ⟨900, o0, none⟩))]), (9, [.iface u1 (.pointer (some ⟨901, o1, none⟩))])]
def exts : List (Nat × Xk) := [(317, .same), (318, .makeNoZero 58), (111, .flat Extern.BytealgCount.count), (259, .flat Extern.BytealgIndex.index), (319, .flat Extern.BytealgIndexByte.indexByte), (378, .flat (Extern.MathFloor.toIntegral "math.archTrunc" .zero)), (372, .flat Extern.MathFloatBits.float64frombits), (373, .flat Extern.MathFloatBits.float64bits)]

theorem own : ownKnob Tryz.prog.godebug = none := by kernel_rfl
theorem x317 : XkOK Tryz.prog 317 .same := ⟨Tryz.f317, Tryz.func317, by kernel_rfl, by kernel_rfl, (show Extern.find Tryz.f317 = some Extern.AbiNoEscape.same by kernel_rfl)⟩
theorem x318 : XkOK Tryz.prog 318 (.makeNoZero 58) := ⟨Tryz.f318, Tryz.func318, by kernel_rfl, by kernel_rfl, (show Extern.find Tryz.f318 = some (Extern.BytealgMakeNoZero.makeNoZero Tryz.f318.params Tryz.f318.resultTypes) by kernel_rfl), (show Tryz.f318.resultTypes[0]? = some 58 by kernel_rfl)⟩
theorem x111 : XkOK Tryz.prog 111 (.flat Extern.BytealgCount.count) := ⟨Tryz.f111, Tryz.func111, by kernel_rfl, by kernel_rfl, (show Extern.find Tryz.f111 = some Extern.BytealgCount.count by kernel_rfl)⟩
theorem x259 : XkOK Tryz.prog 259 (.flat Extern.BytealgIndex.index) := ⟨Tryz.f259, Tryz.func259, by kernel_rfl, by kernel_rfl, (show Extern.find Tryz.f259 = some Extern.BytealgIndex.index by kernel_rfl)⟩
theorem x319 : XkOK Tryz.prog 319 (.flat Extern.BytealgIndexByte.indexByte) := ⟨Tryz.f319, Tryz.func319, by kernel_rfl, by kernel_rfl, (show Extern.find Tryz.f319 = some Extern.BytealgIndexByte.indexByte by kernel_rfl)⟩
theorem x378 : XkOK Tryz.prog 378 (.flat (Extern.MathFloor.toIntegral "math.archTrunc" .zero)) := ⟨Tryz.f378, Tryz.func378, by kernel_rfl, by kernel_rfl, (show Extern.find Tryz.f378 = some (Extern.MathFloor.toIntegral "math.archTrunc" .zero) by kernel_rfl)⟩
theorem x372 : XkOK Tryz.prog 372 (.flat Extern.MathFloatBits.float64frombits) := ⟨Tryz.f372, Tryz.func372, by kernel_rfl, by kernel_rfl, (show Extern.find Tryz.f372 = some Extern.MathFloatBits.float64frombits by kernel_rfl)⟩
theorem x373 : XkOK Tryz.prog 373 (.flat Extern.MathFloatBits.float64bits) := ⟨Tryz.f373, Tryz.func373, by kernel_rfl, by kernel_rfl, (show Extern.find Tryz.f373 = some Extern.MathFloatBits.float64bits by kernel_rfl)⟩
theorem good : Go.Proofs.YtahkaalnbplpiaaGreatDoor.Ev.Good Tryz.prog (extOf exts) := good_of (by kernel_rfl) (by kernel_rfl) (by
  intro x hx
  simp only [exts, List.mem_cons, List.not_mem_nil, or_false] at hx
  rcases hx with rfl | rfl | rfl | rfl | rfl | rfl | rfl | rfl
  · exact x317
  · exact x318
  · exact x111
  · exact x259
  · exact x319
  · exact x378
  · exact x372
  · exact x373)

set_option maxRecDepth 100000 in
theorem works0 (u0 o0 u1 o1 : Nat) : isT (callF Tryz.prog (glOf (tabs u0 o0 u1 o1)) (extOf exts) [] 5000 100 40 (.fn 43) [] LS.start) = true := by kernel_rfl

set_option maxRecDepth 100000 in
theorem evaluated (u0 o0 u1 o1 : Nat) : isT (callF Tryz.prog (glOf (tabs u0 o0 u1 o1)) (extOf exts) [43] 5000 100 40 (.fn 8) [] LS.start) = true := by kernel_rfl

theorem g3 : Tryz.prog.globalNamed "math/bits.deBruijn32tab" = some 3 := by kernel_rfl
theorem g7 : Tryz.prog.globalNamed "math/bits.deBruijn64tab" = some 7 := by kernel_rfl
theorem g2 : Tryz.prog.globalNamed "internal/strconv.uint64pow10" = some 2 := by kernel_rfl
theorem g0 : Tryz.prog.globalNamed "undertow/code.forms" = some 0 := by kernel_rfl
theorem g8 : Tryz.prog.globalNamed "strconv.ErrSyntax" = some 8 := by kernel_rfl
theorem g9 : Tryz.prog.globalNamed "strconv.ErrRange" = some 9 := by kernel_rfl
theorem t3 : (Tryz.prog.globals[3]?).map (·.type) = some 468 := by kernel_rfl
theorem t7 : (Tryz.prog.globals[7]?).map (·.type) = some 489 := by kernel_rfl
theorem t2 : (Tryz.prog.globals[2]?).map (·.type) = some 437 := by kernel_rfl
theorem t0 : (Tryz.prog.globals[0]?).map (·.type) = some 237 := by kernel_rfl
theorem noHandle : (Rows.chipKnownRow.laid.filter fun x => x.2.handleName?.isSome) = [] := by kernel_rfl
theorem laidOf {W : World} (h : laidMetH Tryz.prog Rows.chipKnownRow.laid W) : laidMet Tryz.prog Rows.chipKnownRow.laid W := by
  unfold laidMetH at h
  rw [noHandle] at h
  exact h

theorem walk (W : World) (hL : laidMetH Tryz.prog Rows.chipKnownRow.laid W) (hs : W.ShapedOpen Tryz.prog) :
    Calls Tryz.prog 8 #[] W (fun e W' => e = .returned (.bool true) ∧ Below W.heap.size W W') := by
  have hL2 := laidOf hL
  have hn : Tryz.prog.globals.size ≤ 900 := of_decide_eq_true (by kernel_rfl)
  obtain ⟨hg0, u0, a0, hc0, hsp0, hb0⟩ := sentinel (name := "strconv.ErrSyntax") hL2 (.tail _ (.tail _ (.tail _ (.tail _ (.tail _ (.tail _ (.head _))))))) g8
  obtain ⟨hg1, u1, a1, hc1, hsp1, hb1⟩ := sentinel (name := "strconv.ErrRange") hL2 (.tail _ (.tail _ (.tail _ (.tail _ (.tail _ (.head _)))))) g9
  have k3 : TabOK Tryz.prog (phi0 Tryz.prog.globals.size [a0.block, a1.block]) W (3, db32.map (.int .u8)) :=
    tab_ok (name := "math/bits.deBruijn32tab") (zs := db32) hL2 (.head _) g3 t3 Tryz.underlying468 Tryz.underlying5 (by kernel_rfl) (by kernel_rfl)
  have k7 : TabOK Tryz.prog (phi0 Tryz.prog.globals.size [a0.block, a1.block]) W (7, db64.map (.int .u8)) :=
    tab_ok (name := "math/bits.deBruijn64tab") (zs := db64) hL2 (.tail _ (.head _)) g7 t7 Tryz.underlying489 Tryz.underlying5 (by kernel_rfl) (by kernel_rfl)
  have k2 : TabOK Tryz.prog (phi0 Tryz.prog.globals.size [a0.block, a1.block]) W (2, pow10.map (.int .u64)) :=
    tab_ok (name := "internal/strconv.uint64pow10") (zs := pow10) hL2 (.tail _ (.tail _ (.head _))) g2 t2 Tryz.underlying437 Tryz.underlying65 (by kernel_rfl) (by kernel_rfl)
  have k0 : TabOK Tryz.prog (phi0 Tryz.prog.globals.size [a0.block, a1.block]) W (0, forms.map (.int .i64)) :=
    tab_ok (name := "undertow/code.forms") (zs := forms) hL2 (.tail _ (.tail _ (.tail _ (.head _)))) g0 t0 Tryz.underlying237 Tryz.underlying3 (by kernel_rfl) (by kernel_rfl)
  have k8 : TabOK Tryz.prog (phi0 Tryz.prog.globals.size [a0.block, a1.block]) W (8, [.iface u0 (.pointer (some ⟨900, a0.off, none⟩))]) := sent_ok (j := 0) hg0 hn rfl hc0 hsp0
  have k9 : TabOK Tryz.prog (phi0 Tryz.prog.globals.size [a0.block, a1.block]) W (9, [.iface u1 (.pointer (some ⟨901, a1.off, none⟩))]) := sent_ok (j := 1) hg1 hn rfl hc1 hsp1
  have hlow := lowTabs (l := tabs u0 a0.off u1 a1.off) (by kernel_rfl)
  have hm_nil : ∀ f ∈ ([] : List FuncId), MemoOK Tryz.prog (glOf (tabs u0 a0.off u1 a1.off)) f := fun f hf => by cases hf
  have hm0 : MemoOK Tryz.prog (glOf (tabs u0 a0.off u1 a1.off)) 43 := memoM_ok good hlow hn hm_nil (works0 u0 a0.off u1 a1.off)
  have hmemo0 : ∀ f ∈ [43], MemoOK Tryz.prog (glOf (tabs u0 a0.off u1 a1.off)) f := by
    intro f hf
    simp only [List.mem_cons, List.not_mem_nil, or_false] at hf
    rcases hf with rfl
    · exact hm0
  refine callM_true (args := []) good hmemo0 (rel_start (bs := [a0.block, a1.block]) hn (by simp) (fun b hb => ?_) (shaped_size hs (by kernel_rfl)) (glOf_ok ?_)) rfl (isT_M (evaluated u0 a0.off u1 a1.off))
  · simp only [List.mem_cons, List.not_mem_nil, or_false] at hb
    rcases hb with rfl | rfl
    · exact hb0
    · exact hb1
  intro x hx
  simp only [tabs, List.mem_cons, List.not_mem_nil, or_false] at hx
  rcases hx with rfl | rfl | rfl | rfl | rfl | rfl
  · exact k3
  · exact k7
  · exact k2
  · exact k0
  · exact k8
  · exact k9

theorem reads (os : Os) {H : Type} (enc : TypeId × Value → H) : ∃ places, DataW.whole enc Tryz.prog ((World.laidAll Tryz.prog os Rows.chipKnownRow.laid).forCall (fun _ _ => 0) ⟨#[], #[], []⟩).memory Tryz.f8.params.toList Rows.chipKnownSpec.vars false (#[] : Array Value).toList 8 = some ([], [], places) :=
  ⟨[], by kernel_rfl⟩

set_option maxRecDepth 100000 in
theorem lifted (os : Os) (started : os.Started) (H : Type) (enc : TypeId × Value → H) (F : Stop.Interp) :
    ReturnsInHanded {} Tryz.checked os 8 .any ((OpenSpec.ofChange Rows.chipKnownSpec).preRow enc Tryz.prog Tryz.f8 Rows.chipKnownRow.domain false Rows.chipKnownRow.laid) (((OpenSpec.ofChange Rows.chipKnownSpec).at F).post enc Tryz.prog Tryz.f8 false true false false) := by
  obtain ⟨places, hx⟩ := reads os enc
  refine returnsInHanded_of_row (C := Tryz.checked) (s := OpenSpec.ofChange Rows.chipKnownSpec) own started (by kernel_rfl) Tryz.func8
    (witness_row_atRef (enc := enc) (C := Tryz.checked) false (World.laidAll Tryz.prog os Rows.chipKnownRow.laid) #[] (World.laidAll_os _ _ _) (by kernel_rfl) (by kernel_rfl) (by kernel_rfl)
      (OpenSpec.preRow_of_cond 8 hx (by kernel_rfl) (fun k hk => by cases hk) (by kernel_rfl) (laidMet_laidAll #[] (by kernel_rfl) (by kernel_rfl)))) ?_
  intro W base args ds gs before hval hW _ _ _ hL hsh _
  have hp : Tryz.f8.params = #[] := by kernel_rfl
  have hargs : args = #[] := by
    obtain ⟨p, q, hA, _⟩ := hW
    rw [hp] at hA
    obtain ⟨e, _, _⟩ := trodAll_nil hA
    exact Array.ext' e
  subst hargs
  refine (walk W hL hsh).mono fun e W' ⟨he, hB⟩ => ?_
  subst he
  exact ⟨_, rfl, post_true (t := 4) (by kernel_rfl) (by kernel_rfl) rfl Tryz.underlying4 rfl hW hB⟩

theorem andT {a b : Bool} (h : a = true) (k : b = true) : (a && b) = true := by rw [h, k]; rfl
set_option maxRecDepth 100000 in
set_option maxHeartbeats 0 in
theorem closed : joinedFacts Tryz.pinned.checked.prog 8 Tryz.f8 (OpenSpec.ofChange Rows.chipKnownSpec).bare Rows.chipKnownRow = true := by
  unfold joinedFacts
  repeat' (with_reducible refine andT ?_ ?_)
  all_goals as_aux_lemma => kernel_rfl

theorem said : Rows.ChipKnownSaid :=
  OpenClaim.holds_of_cond 8 Tryz.f8 rfl rfl rfl rfl rfl rfl rfl ⟨rfl, rfl, rfl, rfl, rfl⟩ rfl rfl rfl rfl rfl (by kernel_rfl) Tryz.func8 closed
    (of_decide_eq_true (by kernel_rfl)) (by unfold Func.isWrapper; first | (rw [if_pos (by decide +kernel)]; kernel_rfl) | (rw [if_neg (by decide +kernel)]; exact ⟨rfl, rfl⟩))
    (fun os started H enc _ F => by rw [OpenClaim.pre_eq_preRow]; exact lifted os started H enc F)

theorem plain (f : FuncId) (fn : Func) (hf : Tryz.pinned.checked.prog.funcNamed "undertow/undertowlaw27.ChipKnown" = some f) (hfn : Tryz.pinned.checked.prog.funcs[f]? = some fn) :
    true = Tryz.pinned.checked.prog.looks [] ∧ ∀ (j : Nat) t, fn.params[j]? = some t → Tryz.pinned.checked.prog.wantsStandIn t = false := by
  obtain rfl : f = 8 := Option.some.inj ((show Tryz.prog.funcNamed "undertow/undertowlaw27.ChipKnown" = some 8 by kernel_rfl).symm.trans hf) |>.symm
  obtain rfl : fn = Tryz.f8 := (Option.some.inj (Tryz.func8.symm.trans hfn)).symm
  refine ⟨by kernel_rfl, fun j t ht => ?_⟩
  rw [show Tryz.f8.params = #[] from by kernel_rfl] at ht
  simp at ht

theorem card : Rows.ChipKnownCardSaid :=
  Claim7.holds_tied_plain_at .later [] _ _ _ _ said (fun _ h => by cases h) (by kernel_rfl) (fun _ h => by cases h) chipKnown_row_tie rfl ⟨rfl, rfl⟩ (by kernel_rfl) rfl plain (by kernel_rfl)
end Go.Proofs.YtahkaalnbplpiaaGreatDoor.chipKnown
namespace Go.Proofs.YtahkaalnbplpiaaGreatDoor
theorem chipKnown_card_holds : Rows.ChipKnownCardSaid := chipKnown.card
end Go.Proofs.YtahkaalnbplpiaaGreatDoor
