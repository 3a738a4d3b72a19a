/- ListLines answers true and turns nothing, of whatever instruction, whatever the tape and the order of evaluation, where the listed variables start as the program's text lays them. -/
import Derived.Test.YtgpifpijhimhlaaDoorL3
import Derived.Test.YtgpifpijhimhlaaDoorEv5
import Derived.Test.YtgpifpijhimhlaaDoorCards
import Derived.Test.YtgpifpijhimhlaaDoorTie
import Derived.WalkKit
import Derived.ProofKit
import Derived.OpenShut
import Derived.Deep.DeepHandedRow
import Derived.Deep.DeepWitnessRowRef
import Derived.Lay
noncomputable section
namespace Go.Proofs.YtgpifpijhimhlaaDoor
open Go.Proofs.YtgpifpijhimhlaaDoor.Ev Go.RowKit
theorem t9_x (el : TypeId) (fz : Nat × Nat) (m : Nat) (a b c n : Int) : callK Tryd.prog glT (fun _ => none) (asmL okC itoaB) 100 40 40 (.fn 9) [code (Int.ofNat (m + 22)) a b c n] (LS.tab 1 (pow10.map (.int .u64)) el fz) flatR = some (.tuple #[.string (lineB (Int.ofNat (m + 22)) a b c n), .int .i64 (cond (okC (Int.ofNat (m + 22)) a b c n) 0 2)]) := by
  unfold lineB
  rw [okC_high]
  kernel_rfl
theorem t10_x (el : TypeId) (fz : Nat × Nat) (m : Nat) (a b c n : Int) : callK Tryd.prog glT (fun _ => none) (asmL okC itoaB) 100 40 40 (.fn 10) [code (Int.ofNat (m + 22)) a b c n] (LS.tab 1 (pow10.map (.int .u64)) el fz) flatR = some (.tuple #[.string (lineB (Int.ofNat (m + 22)) a b c n), .int .i64 (cond (okC (Int.ofNat (m + 22)) a b c n) 0 2)]) := by
  unfold lineB
  rw [okC_high]
  kernel_rfl
variable {w : World} {el : TypeId} {fz : Nat × Nat}
def LineP (f : FuncId) (w : World) (op a b c n : Int) : Prop := Calls Tryd.prog f #[code op a b c n] w (fun e w' => e = .returned (.tuple #[.string (lineB op a b c n), .int .i64 (cond (okC op a b c n) 0 2)]) ∧ Below w.heap.size w w')
theorem most1 : 1 < most := Nat.lt_of_lt_of_le (by decide) (Nat.le_of_ble_eq_true (by kernel_rfl : Nat.ble 2 most = true))
theorem flat10 : (pow10.map (Value.int .u64)).all (af 8) = true := by kernel_rfl
theorem lineOf {f : FuncId} {op a b c n : Int} (h : callK Tryd.prog glT (fun _ => none) (asmL okC itoaB) 100 40 40 (.fn f) [code op a b c n] (LS.tab 1 (pow10.map (.int .u64)) el fz) flatR = some (.tuple #[.string (lineB op a b c n), .int .i64 (cond (okC op a b c n) 0 2)]))
    (hw : Ready Tryd.prog glT w) (ht : RowAt w 1 (pow10.map (.int .u64)) el fz) : LineP f w op a b c n :=
  flatKT good asmL_ok most1 glob1 flat10 (flat_code ..) h hw ht
theorem line_code (m : Nat) (a b c n : Int) (hw : Ready Tryd.prog glT w) (ht : RowAt w 1 (pow10.map (.int .u64)) el fz) : LineP 9 w (Int.ofNat m) a b c n :=
  match m with
  | 0 => lineOf (t9_0 el fz a b c n) hw ht
  | 1 => lineOf (t9_1 el fz a b c n) hw ht
  | 2 => lineOf (t9_2 el fz a b c n) hw ht
  | 3 => lineOf (t9_3 el fz a b c n) hw ht
  | 4 => lineOf (t9_4 el fz a b c n) hw ht
  | 5 => lineOf (t9_5 el fz a b c n) hw ht
  | 6 => lineOf (t9_6 el fz a b c n) hw ht
  | 7 => lineOf (t9_7 el fz a b c n) hw ht
  | 8 => lineOf (t9_8 el fz a b c n) hw ht
  | 9 => lineOf (t9_9 el fz a b c n) hw ht
  | 10 => lineOf (t9_10 el fz a b c n) hw ht
  | 11 => lineOf (t9_11 el fz a b c n) hw ht
  | 12 => lineOf (t9_12 el fz a b c n) hw ht
  | 13 => lineOf (t9_13 el fz a b c n) hw ht
  | 14 => lineOf (t9_14 el fz a b c n) hw ht
  | 15 => lineOf (t9_15 el fz a b c n) hw ht
  | 16 => lineOf (t9_16 el fz a b c n) hw ht
  | 17 => lineOf (t9_17 el fz a b c n) hw ht
  | 18 => lineOf (t9_18 el fz a b c n) hw ht
  | 19 => lineOf (t9_19 el fz a b c n) hw ht
  | 20 => lineOf (t9_20 el fz a b c n) hw ht
  | 21 => lineOf (t9_21 el fz a b c n) hw ht
  | m + 22 => lineOf (t9_x el fz m a b c n) hw ht
theorem line_ref (m : Nat) (a b c n : Int) (hw : Ready Tryd.prog glT w) (ht : RowAt w 1 (pow10.map (.int .u64)) el fz) : LineP 10 w (Int.ofNat m) a b c n :=
  match m with
  | 0 => lineOf (t10_0 el fz a b c n) hw ht
  | 1 => lineOf (t10_1 el fz a b c n) hw ht
  | 2 => lineOf (t10_2 el fz a b c n) hw ht
  | 3 => lineOf (t10_3 el fz a b c n) hw ht
  | 4 => lineOf (t10_4 el fz a b c n) hw ht
  | 5 => lineOf (t10_5 el fz a b c n) hw ht
  | 6 => lineOf (t10_6 el fz a b c n) hw ht
  | 7 => lineOf (t10_7 el fz a b c n) hw ht
  | 8 => lineOf (t10_8 el fz a b c n) hw ht
  | 9 => lineOf (t10_9 el fz a b c n) hw ht
  | 10 => lineOf (t10_10 el fz a b c n) hw ht
  | 11 => lineOf (t10_11 el fz a b c n) hw ht
  | 12 => lineOf (t10_12 el fz a b c n) hw ht
  | 13 => lineOf (t10_13 el fz a b c n) hw ht
  | 14 => lineOf (t10_14 el fz a b c n) hw ht
  | 15 => lineOf (t10_15 el fz a b c n) hw ht
  | 16 => lineOf (t10_16 el fz a b c n) hw ht
  | 17 => lineOf (t10_17 el fz a b c n) hw ht
  | 18 => lineOf (t10_18 el fz a b c n) hw ht
  | 19 => lineOf (t10_19 el fz a b c n) hw ht
  | 20 => lineOf (t10_20 el fz a b c n) hw ht
  | 21 => lineOf (t10_21 el fz a b c n) hw ht
  | m + 22 => lineOf (t10_x el fz m a b c n) hw ht
def afTab (g : AF) : AF := fun args σ => cond (hasTab 1 .u64 pow10 σ) (g args σ) none
theorem afTab_spec {g : AF} {args : List Value} {σ : LS} {q : Bool × Value} (h : afTab g args σ = some q) : hasTab 1 .u64 pow10 σ = true ∧ g args σ = some q := by
  unfold afTab at h
  rw [Bool.cond_eq_ite] at h
  split at h
  · rename_i e; exact ⟨e, h⟩
  · cases h
abbrev S5 := Int → Int → Int → Int → Int → ByteArray
def afLine (S : S5) (ok : Ok5) : AF := afTab (afCode fun op a b c n => .tuple #[.string (S op a b c n), .int .i64 (cond (ok op a b c n) 0 2)])
theorem fnLine {f : FuncId} (hf : ∀ (w : World) (el : TypeId) (fz : Nat × Nat) (m : Nat) (a b c n : Int), Ready Tryd.prog glT w → RowAt w 1 (pow10.map (.int .u64)) el fz → LineP f w (Int.ofNat m) a b c n) : FnOK Tryd.prog glT f (afLine lineB okC) := by
  intro args σ c0 v hk hc φ w args' hr hl
  subst hc
  obtain ⟨h1, h2⟩ := afTab_spec hk
  obtain ⟨el, fz, hrow⟩ := hasTab_row hr glob1 h1
  obtain ⟨m, a, b, c, n, rfl, rfl⟩ := afCode_spec h2
  have e : args'.toList = [code (Int.ofNat m) a b c n] := LR.of_af hl (flat_code ..)
  have e : args' = #[code (Int.ofNat m) a b c n] := by rw [← Array.toArray_toList (xs := args'), e]
  subst e
  refine Calls.mono (hf w el fz m a b c n ⟨_, hr.low low_glT glob900⟩ hrow) ?_
  rintro e w1 ⟨rfl, hb⟩
  exact ⟨_, rfl, VR.af_refl 8 rfl, hb⟩
theorem fn9 : FnOK Tryd.prog glT 9 (afLine lineB okC) := fnLine fun _ _ _ m a b c n h1 h2 => line_code m a b c n h1 h2
theorem fn10 : FnOK Tryd.prog glT 10 (afLine lineB okC) := fnLine fun _ _ _ m a b c n h1 h2 => line_ref m a b c n h1 h2
end Go.Proofs.YtgpifpijhimhlaaDoor

namespace Go.Proofs.YtgpifpijhimhlaaDoor
open Go.Proofs.YtgpifpijhimhlaaDoor.Ev Go.RowKit
def forms : List Int := [0,1,1,1,1,1,1,1,2,2,2,1,3,2,2,2,4,4,0,5,6,0]
def db32 : List Int := [0,1,28,2,29,14,24,3,30,22,20,15,25,17,4,8,31,27,13,23,21,19,16,7,26,12,18,6,11,5,10,9]
def db64 : List Int := [0,1,56,2,57,49,28,3,61,58,42,50,38,29,17,4,62,47,59,36,45,43,51,22,53,39,33,30,24,18,12,5,63,55,48,27,60,41,37,16,46,35,44,21,52,32,23,11,54,26,40,15,34,20,31,10,25,14,19,9,13,8,7,6]
def tabs : List (Nat × List Value) := [(0, forms.map (.int .i64)), (1, pow10.map (.int .u64)), (3, db32.map (.int .u8)), (4, db64.map (.int .u8))]
theorem glT_le : ∀ g k v, glT g k = some v → glOf tabs g k = some v := by
  intro g k v h
  unfold glT at h
  rw [Bool.cond_eq_ite] at h
  split at h
  · rename_i e
    have e := Nat.eq_of_beq_eq_true e
    subst e
    show (forms.map (Value.int .i64))[k]? = some v
    rw [List.getElem?_map]
    exact h
  · cases h
def asmTop (S : S5) (ok : Ok5) : Asm := asmOf [(9, afLine S ok), (10, afLine S ok), (11, afTrue)]
set_option maxRecDepth 100000 in
theorem law3 (S : S5) (ok : Ok5) (el : TypeId) (fz : Nat × Nat) (op a b c n : Int) : callK Tryd.prog (glOf tabs) (fun _ => none) (asmTop S ok) 100 40 40 (.fn 3) [code op a b c n] (LS.tab 1 (pow10.map (.int .u64)) el fz) flatR =
 cond (decide (0 ≤ op)) (
  cond (decide (0 ≤ op)) (
   cond ((S op a b c n).toList == (S op a b c n).toList) (
    cond ((bif ok op a b c n then (0 : Int) else 2) == bif ok op a b c n then (0 : Int) else 2) (
     some (.bool (true))) (
     some (.bool (false)))) (
    some (.bool (false)))) (
   none)) (
  none) := by kernel_rfl

theorem law3_true (S : S5) (ok : Ok5) (el : TypeId) (fz : Nat × Nat) (m : Nat) (a b c n : Int) : callK Tryd.prog (glOf tabs) (fun _ => none) (asmTop S ok) 100 40 40 (.fn 3) [code (Int.ofNat m) a b c n] (LS.tab 1 (pow10.map (.int .u64)) el fz) flatR = some (.bool true) := by
  rw [law3]
  simp
theorem asmTop_ok (h : MemoOK Tryd.prog (glOf tabs) 11) : AsmOK Tryd.prog (glOf tabs) (asmTop lineB okC) := asmOf_ok fun p hp => by
  simp only [List.mem_cons, List.not_mem_nil, or_false] at hp
  rcases hp with rfl | rfl | rfl
  · exact fn9.gl_mono glT_le
  · exact fn10.gl_mono glT_le
  · exact fnTrue h
/-- ListLines, of whatever instruction, wherever the tables stand. -/
theorem law3_calls {w : World} {el : TypeId} {fz : Nat × Nat} (h : MemoOK Tryd.prog (glOf tabs) 11) (hw : Ready Tryd.prog (glOf tabs) w) (ht : RowAt w 1 (pow10.map (.int .u64)) el fz) (m : Nat) (a b c n : Int) :
    Calls Tryd.prog 3 #[code (Int.ofNat m) a b c n] w (fun e w' => e = .returned (.bool true) ∧ Below w.heap.size w w') :=
  flatKT good (asmTop_ok h) most1 glob1 flat10 (flat_code ..) (law3_true lineB okC el fz m a b c n) hw ht
end Go.Proofs.YtgpifpijhimhlaaDoor

namespace Go.Proofs.YtgpifpijhimhlaaDoor.listLines
open Go.ChangeShapes Go.WideShapes Go.ChangeAt Go.RowKit Go.Proofs.YtgpifpijhimhlaaDoor.Ev Go.Proofs.YtgpifpijhimhlaaDoor

theorem field_int {P : Program} {H : Type} {enc : TypeId × Value → H} {w : World} {base : Nat} {sp : Nat → Bool} {held : Bool} {n : Nat} {t : TypeId} {k : IntKind} {cs : List Value} {xs : List (DataW H × List MemPlace)} {i : Nat}
    (ht : P.underlying t = some (.int k)) (hi : i < xs.length) (h : DataW.trod enc P w base sp held n t cs = xs[i]?) : ∃ m, cs = [.int k m] ∧ (Lit.int k m).wf = true := by
  rw [List.getElem?_eq_getElem hi] at h
  obtain ⟨m, h1, _, h2⟩ := DataW.trod_int ht h
  exact ⟨m, h1, h2⟩

set_option maxRecDepth 100000 in
theorem open_code {H : Type} {enc : TypeId × Value → H} {f : Func} {s : ChangeSpec} {apart : Bool} {W : World} {args : Array Value} {ds gs : List (DataW H)} {before : List MemPlace} {rc : Reach} {base : Nat}
    (hp : f.params = #[23]) (hval : ∀ (j : Nat) t v, f.params[j]? = some t → args[j]? = some v → Value.okWide Tryd.prog W rc base t v)
    (hW : DataW.Whole enc Tryd.prog f.params.toList s.vars apart W args.toList ds gs before) : ∃ (m : Nat) (a b c n : Int), args = #[code (Int.ofNat m) a b c n] := by
  obtain ⟨p, q, hA, _⟩ := hW
  rw [hp] at hA hval
  obtain ⟨v, vs, d, ds', p1, q1, e1, e2, e3, h1, h2⟩ := trodAll_cons hA
  obtain ⟨rfl, _, _⟩ := trodAll_nil h2
  have : args = #[v] := Array.ext' e1
  subst this
  obtain ⟨cs, rfl, hcs⟩ := okWide_struct Tryd.underlying23 (hval 0 23 v rfl rfl)
  obtain ⟨fuel, h1⟩ := h1
  obtain ⟨xs, n, _, _, hl, hlen, hf⟩ := DataW.trod_struct Tryd.underlying23 h1
  have h5 : Tryd.prog.cellsOf 23 = 5 := by kernel_rfl
  have e5 : Tryd.prog.cellsOf 5 = 1 := by kernel_rfl
  have e3 : Tryd.prog.cellsOf 3 = 1 := by kernel_rfl
  have hlen : xs.length = 5 := hlen
  rw [h5] at hcs
  obtain ⟨l⟩ := cs
  obtain ⟨v0, v1, v2, v3, v4, rfl⟩ : ∃ v0 v1 v2 v3 v4, l = [v0, v1, v2, v3, v4] := by
    match l, hcs with
    | [v0, v1, v2, v3, v4], _ => exact ⟨v0, v1, v2, v3, v4, rfl⟩
  have f0 := hf 0 _ rfl
  have f1 := hf 1 _ rfl
  have f2 := hf 2 _ rfl
  have f3 := hf 3 _ rfl
  have f4 := hf 4 _ rfl
  have f0 : DataW.trod enc Tryd.prog W 0 (fun _ => true) true n 5 (([v0, v1, v2, v3, v4].drop 0).take (Tryd.prog.cellsOf 5)) = xs[0]? := f0
  have f1 : DataW.trod enc Tryd.prog W 0 (fun _ => true) true n 3 (([v0, v1, v2, v3, v4].drop 1).take (Tryd.prog.cellsOf 3)) = xs[1]? := f1
  have f2 : DataW.trod enc Tryd.prog W 0 (fun _ => true) true n 3 (([v0, v1, v2, v3, v4].drop 2).take (Tryd.prog.cellsOf 3)) = xs[2]? := f2
  have f3 : DataW.trod enc Tryd.prog W 0 (fun _ => true) true n 3 (([v0, v1, v2, v3, v4].drop 3).take (Tryd.prog.cellsOf 3)) = xs[3]? := f3
  have f4 : DataW.trod enc Tryd.prog W 0 (fun _ => true) true n 3 (([v0, v1, v2, v3, v4].drop 4).take (Tryd.prog.cellsOf 3)) = xs[4]? := f4
  rw [e5] at f0
  rw [e3] at f1 f2 f3 f4
  obtain ⟨op, g0, w0⟩ := field_int Tryd.underlying5 (by omega) f0
  obtain ⟨a, g1, _⟩ := field_int Tryd.underlying3 (by omega) f1
  obtain ⟨b, g2, _⟩ := field_int Tryd.underlying3 (by omega) f2
  obtain ⟨c, g3, _⟩ := field_int Tryd.underlying3 (by omega) f3
  obtain ⟨n', g4, _⟩ := field_int Tryd.underlying3 (by omega) f4
  cases g0; cases g1; cases g2; cases g3; cases g4
  have h0 : 0 ≤ op := by
    simp only [Lit.wf, Bool.and_eq_true, decide_eq_true_eq] at w0
    have e1 : IntKind.min .u8 = 0 := by kernel_rfl
    rw [e1] at w0
    exact w0.1
  obtain ⟨m, rfl⟩ : ∃ m : Nat, op = Int.ofNat m := ⟨op.toNat, (Int.toNat_of_nonneg h0).symm⟩
  exact ⟨m, a, b, c, n', rfl⟩
end Go.Proofs.YtgpifpijhimhlaaDoor.listLines

namespace Go.Proofs.YtgpifpijhimhlaaDoor.listLines
open Go.ChangeShapes Go.WideShapes Go.ChangeAt Go.RowKit Go.Proofs.YtgpifpijhimhlaaDoor.Ev Go.Proofs.YtgpifpijhimhlaaDoor

def exts : List (Nat × Xk) := [(66, .same), (94, .makeNoZero 64), (97, .flat Extern.BytealgCount.count), (107, .flat Extern.BytealgIndex.index), (117, .flat Extern.BytealgIndexByte.indexByte)]


theorem own : ownKnob Tryd.prog.godebug = none := by kernel_rfl
theorem x66 : XkOK Tryd.prog 66 .same := ⟨Tryd.f66, Tryd.func66, by kernel_rfl, by kernel_rfl, (show Extern.find Tryd.f66 = some Extern.AbiNoEscape.same by kernel_rfl)⟩
theorem x94 : XkOK Tryd.prog 94 (.makeNoZero 64) := ⟨Tryd.f94, Tryd.func94, by kernel_rfl, by kernel_rfl, (show Extern.find Tryd.f94 = some (Extern.BytealgMakeNoZero.makeNoZero Tryd.f94.params Tryd.f94.resultTypes) by kernel_rfl), (show Tryd.f94.resultTypes[0]? = some 64 by kernel_rfl)⟩
theorem x97 : XkOK Tryd.prog 97 (.flat Extern.BytealgCount.count) := ⟨Tryd.f97, Tryd.func97, by kernel_rfl, by kernel_rfl, (show Extern.find Tryd.f97 = some Extern.BytealgCount.count by kernel_rfl)⟩
theorem x107 : XkOK Tryd.prog 107 (.flat Extern.BytealgIndex.index) := ⟨Tryd.f107, Tryd.func107, by kernel_rfl, by kernel_rfl, (show Extern.find Tryd.f107 = some Extern.BytealgIndex.index by kernel_rfl)⟩
theorem x117 : XkOK Tryd.prog 117 (.flat Extern.BytealgIndexByte.indexByte) := ⟨Tryd.f117, Tryd.func117, by kernel_rfl, by kernel_rfl, (show Extern.find Tryd.f117 = some Extern.BytealgIndexByte.indexByte by kernel_rfl)⟩
theorem goodX : Go.Proofs.YtgpifpijhimhlaaDoor.Ev.Good Tryd.prog (extOf exts) := good_of (by kernel_rfl) (by kernel_rfl) (by
  intro x hx
  simp only [exts, List.mem_cons, List.not_mem_nil, or_false] at hx
  rcases hx with rfl | rfl | rfl | rfl | rfl
  · exact x66
  · exact x94
  · exact x97
  · exact x107
  · exact x117)

set_option maxRecDepth 100000 in
theorem works0 : isT (callF Tryd.prog (glOf tabs) (extOf exts) [] 5000 100 40 (.fn 11) [] LS.start) = true := by kernel_rfl

theorem g3 : Tryd.prog.globalNamed "math/bits.deBruijn32tab" = some 3 := by kernel_rfl
theorem g4 : Tryd.prog.globalNamed "math/bits.deBruijn64tab" = some 4 := by kernel_rfl
theorem g1 : Tryd.prog.globalNamed "internal/strconv.uint64pow10" = some 1 := by kernel_rfl
theorem g0 : Tryd.prog.globalNamed "undertow/code.forms" = some 0 := by kernel_rfl
theorem t3 : (Tryd.prog.globals[3]?).map (·.type) = some 165 := by kernel_rfl
theorem t4 : (Tryd.prog.globals[4]?).map (·.type) = some 166 := by kernel_rfl
theorem t1 : (Tryd.prog.globals[1]?).map (·.type) = some 148 := by kernel_rfl
theorem t0 : (Tryd.prog.globals[0]?).map (·.type) = some 94 := by kernel_rfl
theorem noHandle : (Rows.listLinesRow.laid.filter fun x => x.2.handleName?.isSome) = [] := by kernel_rfl
theorem laidOf {W : World} (h : laidMetH Tryd.prog Rows.listLinesRow.laid W) : laidMet Tryd.prog Rows.listLinesRow.laid W := by
  unfold laidMetH at h
  rw [noHandle] at h
  exact h

theorem walk (m : Nat) (a b c n : Int) (W : World) (hL : laidMetH Tryd.prog Rows.listLinesRow.laid W) (hs : W.ShapedOpen Tryd.prog) :
    Calls Tryd.prog 3 #[code (Int.ofNat m) a b c n] W (fun e W' => e = .returned (.bool true) ∧ Below W.heap.size W W') := by
  have hL2 := laidOf hL
  have hn : Tryd.prog.globals.size ≤ 900 := of_decide_eq_true (by kernel_rfl)
  have k3 : TabOK Tryd.prog (phi0 Tryd.prog.globals.size []) W (3, db32.map (.int .u8)) :=
    tab_ok (name := "math/bits.deBruijn32tab") (zs := db32) hL2 (.head _) g3 t3 Tryd.underlying165 Tryd.underlying5 (by kernel_rfl) (by kernel_rfl)
  have k4 : TabOK Tryd.prog (phi0 Tryd.prog.globals.size []) W (4, db64.map (.int .u8)) :=
    tab_ok (name := "math/bits.deBruijn64tab") (zs := db64) hL2 (.tail _ (.head _)) g4 t4 Tryd.underlying166 Tryd.underlying5 (by kernel_rfl) (by kernel_rfl)
  have k1 : TabOK Tryd.prog (phi0 Tryd.prog.globals.size []) W (1, pow10.map (.int .u64)) :=
    tab_ok (name := "internal/strconv.uint64pow10") (zs := pow10) hL2 (.tail _ (.tail _ (.head _))) g1 t1 Tryd.underlying148 Tryd.underlying91 (by kernel_rfl) (by kernel_rfl)
  have k0 : TabOK Tryd.prog (phi0 Tryd.prog.globals.size []) W (0, forms.map (.int .i64)) :=
    tab_ok (name := "undertow/code.forms") (zs := forms) hL2 (.tail _ (.tail _ (.tail _ (.head _)))) g0 t0 Tryd.underlying94 Tryd.underlying3 (by kernel_rfl) (by kernel_rfl)
  have hlow := lowTabs (l := tabs) (by kernel_rfl)
  have hm_nil : ∀ f ∈ ([] : List FuncId), MemoOK Tryd.prog (glOf (tabs)) f := fun f hf => by cases hf
  have hm0 : MemoOK Tryd.prog (glOf (tabs)) 11 := memoM_ok goodX hlow hn hm_nil works0
  obtain ⟨el, fz, hrow⟩ := row_ok (name := "internal/strconv.uint64pow10") (zs := pow10) hL2 (.tail _ (.tail _ (.head _))) g1 t1 Tryd.underlying148 Tryd.underlying91 (by kernel_rfl) (by kernel_rfl)
  refine law3_calls hm0 ⟨_, rel_start (bs := []) hn (by simp) (fun b hb => ?_) (shaped_size hs (by kernel_rfl)) (glOf_ok ?_)⟩ hrow m a b c n
  · cases hb
  intro x hx
  simp only [tabs, List.mem_cons, List.not_mem_nil, or_false] at hx
  rcases hx with rfl | rfl | rfl | rfl
  · exact k0
  · exact k1
  · exact k3
  · exact k4

theorem reads (os : Os) {H : Type} (enc : TypeId × Value → H) : ∃ places, DataW.whole enc Tryd.prog ((World.laidAll Tryd.prog os Rows.listLinesRow.laid).forCall (fun _ _ => 0) ⟨#[], #[code 0 0 0 0 0], []⟩).memory Tryd.f3.params.toList Rows.listLinesSpec.vars false (#[code 0 0 0 0 0] : Array Value).toList 8 = some ([.agg [.lit (.int .u8 0), .lit (.int .i64 0), .lit (.int .i64 0), .lit (.int .i64 0), .lit (.int .i64 0)]], [], places) :=
  ⟨[], by kernel_rfl⟩

set_option maxRecDepth 100000 in
theorem lifted (os : Os) (started : os.Started) (H : Type) (enc : TypeId × Value → H) (F : Stop.Interp) :
    ReturnsInHanded {} Tryd.checked os 3 .any ((OpenSpec.ofChange Rows.listLinesSpec).preRow enc Tryd.prog Tryd.f3 Rows.listLinesRow.domain false Rows.listLinesRow.laid) (((OpenSpec.ofChange Rows.listLinesSpec).at F).post enc Tryd.prog Tryd.f3 false true false false) := by
  obtain ⟨places, hx⟩ := reads os enc
  refine returnsInHanded_of_row (C := Tryd.checked) (s := OpenSpec.ofChange Rows.listLinesSpec) own started (by kernel_rfl) Tryd.func3
    (witness_row_atRef (enc := enc) (C := Tryd.checked) false (World.laidAll Tryd.prog os Rows.listLinesRow.laid) #[code 0 0 0 0 0] (World.laidAll_os _ _ _) (by kernel_rfl) (by kernel_rfl) (by kernel_rfl)
      (OpenSpec.preRow_of_cond 8 hx (by kernel_rfl) (fun k hk => by cases hk) (by kernel_rfl) (laidMet_laidAll #[code 0 0 0 0 0] (by kernel_rfl) (by kernel_rfl)))) ?_
  intro W base args ds gs before hval hW _ _ _ hL hsh _
  have hp : Tryd.f3.params = #[23] := by kernel_rfl
  obtain ⟨m, a, b, c, n, rfl⟩ := open_code hp hval hW
  refine (walk m a b c n W hL hsh).mono fun e W' ⟨he, hB⟩ => ?_
  subst he
  obtain ⟨d, hd⟩ : ∃ d, ds = [d] := by
    obtain ⟨p, q, hA, _⟩ := id hW
    rw [hp] at hA
    obtain ⟨v, vs, d, ds', p1, q1, e1, rfl, e3, h1, h2⟩ := trodAll_cons hA
    obtain ⟨_, rfl, _⟩ := trodAll_nil h2
    exact ⟨d, rfl⟩
  subst hd
  exact ⟨_, rfl, post_trueN (t := 4) (m := 4) (by kernel_rfl) (by kernel_rfl) rfl Tryd.underlying4 rfl hW hB⟩

theorem andT {a b : Bool} (h : a = true) (k : b = true) : (a && b) = true := by rw [h, k]; rfl
set_option maxRecDepth 100000 in
set_option maxHeartbeats 0 in
theorem closed : joinedFacts Tryd.pinned.checked.prog 3 Tryd.f3 (OpenSpec.ofChange Rows.listLinesSpec).bare Rows.listLinesRow = true := by
  unfold joinedFacts
  repeat' (with_reducible refine andT ?_ ?_)
  all_goals as_aux_lemma => kernel_rfl

theorem said : Rows.ListLinesSaid :=
  OpenClaim.holds_of_cond 3 Tryd.f3 rfl rfl rfl rfl rfl rfl rfl ⟨rfl, rfl, rfl, rfl, rfl⟩ rfl rfl rfl rfl rfl (by kernel_rfl) Tryd.func3 closed
    (of_decide_eq_true (by kernel_rfl)) (by unfold Func.isWrapper; first | (rw [if_pos (by decide +kernel)]; kernel_rfl) | (rw [if_neg (by decide +kernel)]; exact ⟨rfl, rfl⟩))
    (fun os started H enc _ F => by rw [OpenClaim.pre_eq_preRow]; exact lifted os started H enc F)

theorem plain (f : FuncId) (fn : Func) (hf : Tryd.pinned.checked.prog.funcNamed "undertow/undertowlaw22.ListLines" = some f) (hfn : Tryd.pinned.checked.prog.funcs[f]? = some fn) :
    true = Tryd.pinned.checked.prog.looks [] ∧ ∀ (j : Nat) t, fn.params[j]? = some t → Tryd.pinned.checked.prog.wantsStandIn t = false := by
  obtain rfl : f = 3 := Option.some.inj ((show Tryd.prog.funcNamed "undertow/undertowlaw22.ListLines" = some 3 by kernel_rfl).symm.trans hf) |>.symm
  obtain rfl : fn = Tryd.f3 := (Option.some.inj (Tryd.func3.symm.trans hfn)).symm
  refine ⟨by kernel_rfl, fun j t ht => ?_⟩
  rw [show Tryd.f3.params = #[23] from by kernel_rfl] at ht
  cases j with
  | zero => cases ht; kernel_rfl
  | succ j => simp at ht

theorem card : Rows.ListLinesCardSaid :=
  Claim7.holds_tied_plain_at .later [] _ _ _ _ said (fun _ h => by cases h) (by kernel_rfl) (fun _ h => by cases h) listLines_row_tie rfl ⟨rfl, rfl⟩ (by kernel_rfl) rfl plain (by kernel_rfl)
end Go.Proofs.YtgpifpijhimhlaaDoor.listLines
namespace Go.Proofs.YtgpifpijhimhlaaDoor
theorem listLines_card_holds : Rows.ListLinesCardSaid := listLines.card
end Go.Proofs.YtgpifpijhimhlaaDoor
