/- Bytes of strings, decimal numbers, strconv.Itoa by the shelf, known cells of a row that came in. No condition but those of the texts. -/
import Derived.Test.YtgohbcbdgakjeaaGreatDoorEv6
import Derived.Test.YtgohbcbdgakjeaaGreatDoorProg
import Derived.Laws.Strings
import Derived.Test.YtgohbcbdgakjeaaGreatDoorShelf
import Derived.Lib.AtoiErrMem
import Derived.Lib.ItoaMem
import Derived.ChangeArms
import Derived.WideShapes
import Derived.ChangeShapes
noncomputable section
noncomputable section
namespace Go.Proofs.YtgohbcbdgakjeaaGreatDoor
open Go.Proofs.YtgohbcbdgakjeaaGreatDoor.Ev Go.RowKit
theorem tglob : Tryz.prog.globals.size ≤ 900 := of_decide_eq_true (by kernel_rfl)
theorem goodT : Go.Proofs.YtgohbcbdgakjeaaGreatDoor.Ev.Good Tryz.prog (fun _ => none) := ⟨by kernel_rfl, fun f fn hf => by
 have h2 : (Tryz.prog.funcs.toList.all fun fn => !(fn.name == "runtime.NumGoroutine")) = true := by kernel_rfl
 have := List.all_eq_true.1 h2 fn (by rw [← Array.getElem?_toList] at hf; exact List.mem_of_getElem? hf)
 simpa using this, fun f k h => by cases h⟩
def qs {R : Type} : List Int → Option R → Option R
 | [], k => k
 | a :: l, k => cond (decide (a = a)) (qs l k) none
theorem qs_eq {R : Type} : ∀ (l : List Int) (k : Option R), qs l k = k
 | [], _ => rfl
 | _ :: l, k => by simp [qs, qs_eq l k]
theorem wrap_id (n : Int) (h : -9223372036854775808 ≤ n ∧ n ≤ 9223372036854775807) : IntKind.i64.wrap n = n := by
 simp only [IntKind.wrap, IntKind.bits, IntKind.signed]
 simp
 omega
end Go.Proofs.YtgohbcbdgakjeaaGreatDoor
noncomputable section
namespace Go.Proofs.YtgohbcbdgakjeaaGreatDoor
open Go.Proofs.YtgohbcbdgakjeaaGreatDoor.Ev Go.RowKit
def digitB (c : Int) : Bool := decide (c ≥ 48) && decide (c ≤ 57)
def letterB (c : Int) : Bool := (decide (c ≥ 97) && decide (c ≤ 122)) || decide (c = 95)
def partB (c : Int) : Bool := letterB c || digitB c || decide (c = 46)
def hexB (c : Int) : Bool := digitB c || (decide (c ≥ 97) && decide (c ≤ 102))
def H0 : Hs := ⟨noAsm, fun _ => none, fun _ => noHl⟩
theorem H0_ok {gl : Gl} : H0.OK Tryz.prog gl := ⟨noAsm_ok, (fun _ _ h => by cases h), fun _ _ _ _ _ _ h => by cases h⟩
noncomputable abbrev ev (gl : Gl) (H : Hs) (f : FuncId) (args : List Value) : Option Value := callSK noSy Tryz.prog gl (fun _ => none) H 100 40 40 (.fn f) args LS.start flatR
set_option maxRecDepth 100000 in
theorem r_digit (gl : Gl) (c : Int) : ev gl H0 49 [.int .u8 c] =
 cond (decide (c ≥ 48)) (
 cond (decide (c ≤ 57)) (
 some (.bool true)) (
 some (.bool false))) (
 some (.bool false)) := by kernel_rfl
set_option maxRecDepth 100000 in
theorem r_letter (gl : Gl) (c : Int) : ev gl H0 46 [.int .u8 c] =
 cond (decide (c ≥ 97)) (
 cond (decide (c ≤ 122)) (
 some (.bool true)) (
 cond (c == 95) (
 some (.bool true)) (
 some (.bool false)))) (
 cond (c == 95) (
 some (.bool true)) (
 some (.bool false))) := by kernel_rfl
set_option maxRecDepth 100000 in
theorem r_part (gl : Gl) (c : Int) : ev gl H0 47 [.int .u8 c] =
 cond (decide (c ≥ 97)) (
 cond (decide (c ≤ 122)) (
 some (.bool true)) (
 cond (c == 95) (
 some (.bool true)) (
 cond (decide (c ≥ 48)) (
 cond (decide (c ≤ 57)) (
 some (.bool true)) (
 cond (c == 46) (
 some (.bool true)) (
 some (.bool false)))) (
 cond (c == 46) (
 some (.bool true)) (
 some (.bool false)))))) (
 cond (c == 95) (
 some (.bool true)) (
 cond (decide (c ≥ 48)) (
 cond (decide (c ≤ 57)) (
 some (.bool true)) (
 cond (c == 46) (
 some (.bool true)) (
 some (.bool false)))) (
 cond (c == 46) (
 some (.bool true)) (
 some (.bool false))))) := by kernel_rfl
set_option maxRecDepth 100000 in
theorem r_hex (gl : Gl) (c : Int) : ev gl H0 85 [.int .u8 c] =
 cond (decide (c ≥ 48)) (
 cond (decide (c ≤ 57)) (
 some (.bool true)) (
 cond (decide (c ≥ 97)) (
 cond (decide (c ≤ 102)) (
 some (.bool true)) (
 some (.bool false))) (
 some (.bool false)))) (
 cond (decide (c ≥ 97)) (
 cond (decide (c ≤ 102)) (
 some (.bool true)) (
 some (.bool false))) (
 some (.bool false))) := by kernel_rfl
def afB (p : Int → Bool) : AF := fun args _ => match args with
 | [.int .u8 c] => some (true, .bool (p c))
 | _ => none
theorem fnB {gl : Gl} (hgl : ∀ g k v, gl g k = some v → g < 1000 ∧ lowV 8 v = true) {f : FuncId} {p : Int → Bool} (h : ∀ c, ev gl H0 f [.int .u8 c] = some (.bool (p c))) : FnOK Tryz.prog gl f (afB p) :=
 fn_of noSy_ok goodT hgl tglob H0_ok fun args σ v e => by
  unfold afB at e
  split at e
  ·cases e
   exact ⟨rfl, h _⟩
  ·cases e
theorem fnDigit {gl : Gl} (hgl : ∀ g k v, gl g k = some v → g < 1000 ∧ lowV 8 v = true) : FnOK Tryz.prog gl 49 (afB digitB) := fnB hgl fun c => by
 rw [r_digit]; unfold digitB
 cases decide (c ≥ 48) <;> cases decide (c ≤ 57) <;> rfl
theorem fnLetter {gl : Gl} (hgl : ∀ g k v, gl g k = some v → g < 1000 ∧ lowV 8 v = true) : FnOK Tryz.prog gl 46 (afB letterB) := fnB hgl fun c => by
 rw [r_letter]; unfold letterB
 rw [show (c == 95) = decide (c = 95) from rfl]
 cases decide (c ≥ 97) <;> cases decide (c ≤ 122) <;> cases decide (c = 95) <;> rfl
theorem fnPart {gl : Gl} (hgl : ∀ g k v, gl g k = some v → g < 1000 ∧ lowV 8 v = true) : FnOK Tryz.prog gl 47 (afB partB) := fnB hgl fun c => by
 rw [r_part]; unfold partB letterB digitB
 rw [show (c == 95) = decide (c = 95) from rfl, show (c == 46) = decide (c = 46) from rfl]
 cases decide (c ≥ 97) <;> cases decide (c ≤ 122) <;> cases decide (c = 95) <;> cases decide (c ≥ 48) <;> cases decide (c ≤ 57) <;> cases decide (c = 46) <;> rfl
theorem fnHex {gl : Gl} (hgl : ∀ g k v, gl g k = some v → g < 1000 ∧ lowV 8 v = true) : FnOK Tryz.prog gl 85 (afB hexB) := fnB hgl fun c => by
 rw [r_hex]; unfold hexB digitB
 cases decide (c ≥ 97) <;> cases decide (c ≤ 102) <;> cases decide (c ≥ 48) <;> cases decide (c ≤ 57) <;> rfl
def runTo (p : Int → Bool) (s : ByteArray) : Nat → Int → Int
 | 0, n => n
 | f + 1, n => cond (decide (n < (s.size : Int)) && p (byteAt s n)) (runTo p s f (n + 1)) n
def runE (p : Int → Bool) (s : ByteArray) (n : Int) : Int := runTo p s ((s.size : Int) - n).toNat n
theorem runE_eq (p : Int → Bool) (s : ByteArray) (n : Int) : runE p s n = cond (decide (n < (s.size : Int)) && p (byteAt s n)) (runE p s (n + 1)) n := by
 unfold runE
 by_cases h : n < (s.size : Int)
 ·obtain ⟨m, hm⟩ : ∃ m, ((s.size : Int) - n).toNat = m + 1 := ⟨((s.size : Int) - n).toNat - 1, by omega⟩
  rw [hm, show ((s.size : Int) - (n + 1)).toNat = m from by omega]
  rfl
 ·rw [show ((s.size : Int) - n).toNat = 0 from by omega, decide_eq_false h]
  rfl
def afs1 : List (FuncId × AF) := [(49, afB digitB), (46, afB letterB), (47, afB partB), (85, afB hexB)]
def H1 : Hs := hsOf afs1 [] []
theorem afs1_ok {gl : Gl} (hgl : ∀ g k v, gl g k = some v → g < 1000 ∧ lowV 8 v = true) : ∀ p ∈ afs1, FnOK Tryz.prog gl p.1 p.2 := fun p hp => by
 simp only [afs1, List.mem_cons, List.not_mem_nil, or_false] at hp
 rcases hp with rfl | rfl | rfl | rfl
 ·exact fnDigit hgl
 ·exact fnLetter hgl
 ·exact fnPart hgl
 ·exact fnHex hgl
theorem H1_ok {gl : Gl} (hgl : ∀ g k v, gl g k = some v → g < 1000 ∧ lowV 8 v = true) : H1.OK Tryz.prog gl := hsOf_ok (afs1_ok hgl) (fun _ h => by cases h) (fun _ h => by cases h)
def runLive : List Nat := [7, 1, 0, 2]
def runOut : List Nat := [1, 7]
def runSt (a : Int) (s : ByteArray) (F : Nat) (n : Int) : LSt := ([.int .i64 n, .int .i64 a, .string s, .func (.func F) #[] #[]], [])
noncomputable abbrev rnd (gl : Gl) (H : Hs) (b : Nat) (f n : Nat) (live out : List Nat) (st : LSt) : Option (LSt ⊕ Out) := roundK noSy Tryz.prog gl (fun _ => none) H 100 40 40 f n live st (rndK Tryz.prog b live out)
set_option maxRecDepth 100000 in
theorem r_run0 (gl : Gl) (s : ByteArray) (a n : Int) : rnd gl H1 1000 45 0 runLive runOut (runSt a s 49 n) =
 cond (decide (n < (↑s.size : Int))) (
 cond (decide (0 ≤ n) && (decide (n < (↑s.size : Int)))) (
 cond (digitB (byteAt s n)) (
 some (.inl ([(.int .i64 (IntKind.i64.wrap (n + 1))), (.int .i64 (a)), (.string (s)), (.func (Fn.func 49) #[] #[])], []))) (
 some (.inr (.exit 0, ([(.int .i64 (a)), (.int .i64 (n))], []))))) (
 none)) (
 some (.inr (.exit 0, ([(.int .i64 (a)), (.int .i64 (n))], [])))) := by kernel_rfl
set_option maxRecDepth 100000 in
theorem r_run1 (gl : Gl) (s : ByteArray) (a n : Int) : rnd gl H1 1000 45 0 runLive runOut (runSt a s 47 n) =
 cond (decide (n < (↑s.size : Int))) (
 cond (decide (0 ≤ n) && (decide (n < (↑s.size : Int)))) (
 cond (partB (byteAt s n)) (
 some (.inl ([(.int .i64 (IntKind.i64.wrap (n + 1))), (.int .i64 (a)), (.string (s)), (.func (Fn.func 47) #[] #[])], []))) (
 some (.inr (.exit 0, ([(.int .i64 (a)), (.int .i64 (n))], []))))) (
 none)) (
 some (.inr (.exit 0, ([(.int .i64 (a)), (.int .i64 (n))], [])))) := by kernel_rfl
set_option maxRecDepth 100000 in
theorem r_run2 (gl : Gl) (s : ByteArray) (a n : Int) : rnd gl H1 1000 45 0 runLive runOut (runSt a s 85 n) =
 cond (decide (n < (↑s.size : Int))) (
 cond (decide (0 ≤ n) && (decide (n < (↑s.size : Int)))) (
 cond (hexB (byteAt s n)) (
 some (.inl ([(.int .i64 (IntKind.i64.wrap (n + 1))), (.int .i64 (a)), (.string (s)), (.func (Fn.func 85) #[] #[])], []))) (
 some (.inr (.exit 0, ([(.int .i64 (a)), (.int .i64 (n))], []))))) (
 none)) (
 some (.inr (.exit 0, ([(.int .i64 (a)), (.int .i64 (n))], [])))) := by kernel_rfl
def predOf (F : Nat) : Option (Int → Bool) := cond (Nat.beq F 49) (some digitB) (cond (Nat.beq F 47) (some partB) (cond (Nat.beq F 85) (some hexB) none))
theorem predOf_cases {F : Nat} {p : Int → Bool} (h : predOf F = some p) : (F = 49 ∧ p = digitB) ∨ (F = 47 ∧ p = partB) ∨ (F = 85 ∧ p = hexB) := by
 unfold predOf at h
 rw [Bool.cond_eq_ite] at h
 split at h
 ·rename_i e; cases h; exact .inl ⟨Nat.eq_of_beq_eq_true e, rfl⟩
 ·rw [Bool.cond_eq_ite] at h
  split at h
  ·rename_i e; cases h; exact .inr (.inl ⟨Nat.eq_of_beq_eq_true e, rfl⟩)
  ·rw [Bool.cond_eq_ite] at h
   split at h
   ·rename_i e; cases h; exact .inr (.inr ⟨Nat.eq_of_beq_eq_true e, rfl⟩)
   ·cases h
def runFin (p : Int → Bool) (a : Int) (s : ByteArray) (n : Int) : Out := (.exit 0, [.int .i64 a, .int .i64 (runE p s n)], [])
def runH : Hd := fun vs rows => match vs, rows with
 | [.int .i64 n, .int .i64 a, .string s, .func (.func F) ⟨[]⟩ ⟨[]⟩], [] => (predOf F).map fun p => .br (decide (0 ≤ n) && decide (s.size ≤ 1000000)) (.ret (runFin p a s n)) .fail
 | _, _ => none
theorem run_round (gl : Gl) {F : Nat} {p : Int → Bool} (hF : predOf F = some p) (s : ByteArray) (a n : Int) (h0 : 0 ≤ n) (hs : s.size ≤ 1000000) :
  rnd gl H1 1000 45 0 runLive runOut (runSt a s F n) = some (cond (decide (n < (s.size : Int)) && p (byteAt s n)) (.inl (runSt a s F (n + 1))) (.inr (.exit 0, [.int .i64 a, .int .i64 n], []))) := by
 have key : ∀ b : Bool, (cond (decide (n < (s.size : Int))) (cond (decide (0 ≤ n) && decide (n < (s.size : Int))) (cond b (some (Sum.inl (([.int .i64 (IntKind.i64.wrap (n + 1)), .int .i64 a, .string s, .func (.func F) #[] #[]], []) : LSt)))
   (some (Sum.inr ((.exit 0, [.int .i64 a, .int .i64 n], []) : Out)))) none) (some (.inr (.exit 0, [.int .i64 a, .int .i64 n], [])))) = some (cond (decide (n < (s.size : Int)) && b) (.inl (runSt a s F (n + 1))) (.inr (.exit 0, [.int .i64 a, .int .i64 n], []))) := by
  intro b
  by_cases h : n < (s.size : Int)
  ·have hw : IntKind.i64.wrap (n + 1) = n + 1 := wrap_id _ (by omega)
   simp only [h, h0, decide_true, Bool.and_self, cond_true, Bool.true_and, hw]
   cases b <;> rfl
  ·simp only [h, decide_false, cond_false, Bool.false_and]
 rcases predOf_cases hF with ⟨rfl, rfl⟩ | ⟨rfl, rfl⟩ | ⟨rfl, rfl⟩
 ·rw [r_run0]; exact key _
 ·rw [r_run1]; exact key _
 ·rw [r_run2]; exact key _
theorem run_ok {gl : Gl} (hgl : ∀ g k v, gl g k = some v → g < 1000 ∧ lowV 8 v = true) : LpOK Tryz.prog gl 45 0 ⟨runLive, runOut, runH⟩ := loop_of noSy_ok goodT hgl tglob (H1_ok hgl) (L := 100) (G := 40) (d := 40) fun vs rows t r h1 h2 => by
 simp only [runH] at h1
 split at h1
 ·rename_i n a s F
  obtain ⟨p, hp, rfl⟩ := Option.map_eq_some_iff.1 h1
  simp only [DT.run, Bool.cond_eq_ite] at h2
  split at h2
  ·rename_i hc
   simp only [Bool.and_eq_true, decide_eq_true_eq] at hc
   cases h2
   refine ⟨by decide, {n : Int // 0 ≤ n}, fun n => runSt a s F n.1, fun n => some (runFin p a s n.1), fun n => ((s.size : Int) - n.1).toNat, ⟨n, hc.1⟩, .inl rfl, rfl, fun i o ho => ?_⟩
   obtain ⟨i, hi⟩ := i
   cases ho
   refine ⟨_, run_round gl hp s a i hi hc.2, ?_⟩
   unfold runFin
   rw [runE_eq p s i]
   by_cases h : (decide (i < (s.size : Int)) && p (byteAt s i)) = true
   ·rw [h]
    simp only [Bool.and_eq_true, decide_eq_true_eq] at h
    exact ⟨⟨i + 1, by omega⟩, rfl, by simp only; omega, rfl⟩
   ·rw [Bool.eq_false_iff.2 h]
    rfl
  ·cases h2
 ·cases h1
end Go.Proofs.YtgohbcbdgakjeaaGreatDoor
noncomputable section
namespace Go.Proofs.YtgohbcbdgakjeaaGreatDoor
open Go.Proofs.YtgohbcbdgakjeaaGreatDoor.Ev Go.RowKit
theorem nthB_lt {l : List UInt8} {n : Nat} (h : n < l.length) : nthB l n = some l[n] := by rw [nthB_eq]; exact List.getElem?_eq_getElem h
theorem data_len (s : ByteArray) : s.data.toList.length = s.size := by simp
theorem byteAt_lt {s : ByteArray} {i : Int} (h0 : 0 ≤ i) (h1 : i < (s.size : Int)) : byteAt s i = ((s.data.toList[i.toNat]'(by rw [data_len]; omega)).toNat : Int) := by
 unfold byteAt
 rw [nthB_lt (by rw [data_len]; omega)]
 rfl
theorem ext_bytes {a b : ByteArray} (hs : a.size = b.size) (h : ∀ i : Int, 0 ≤ i → i < (a.size : Int) → byteAt a i = byteAt b i) : a = b := by
 have : a.data.toList = b.data.toList := by
  apply List.ext_getElem (by rw [data_len, data_len, hs])
  intro n h1 h2
  rw [data_len] at h1 h2
  have := h (n : Int) (by omega) (by omega)
  rw [byteAt_lt (by omega) (by omega), byteAt_lt (by omega) (by omega)] at this
  simp only [Int.toNat_natCast] at this
  exact UInt8.toNat_inj.1 (by omega)
 obtain ⟨⟨la⟩⟩ := a
 obtain ⟨⟨lb⟩⟩ := b
 simp only at this
 rw [this]
theorem beqS (a b : ByteArray) : (a.toList == b.toList) = decide (a = b) := by
 rw [ByteArray.toList_eq, ByteArray.toList_eq]
 by_cases h : a = b
 ·subst h; simp
 ·rw [decide_eq_false h, beq_eq_false_iff_ne]
  intro e
  obtain ⟨⟨la⟩⟩ := a
  obtain ⟨⟨lb⟩⟩ := b
  simp only at e
  exact h (by rw [e])
theorem subS_size {s : ByteArray} {l h : Int} (h0 : 0 ≤ l) (h1 : l ≤ h) (h2 : h ≤ (s.size : Int)) : ((subS s l h).size : Int) = h - l := by
 unfold subS
 rw [ByteArray.size_extract]
 omega
theorem byteAt_subS {s : ByteArray} {l h : Int} (h0 : 0 ≤ l) (h1 : l ≤ h) (h2 : h ≤ (s.size : Int)) {i : Int} (i0 : 0 ≤ i) (i1 : i < h - l) : byteAt (subS s l h) i = byteAt s (l + i) := by
 have hs := subS_size h0 h1 h2
 rw [byteAt_lt i0 (by omega), byteAt_lt (by omega) (by omega)]
 congr 2
 unfold subS
 have e : (s.extract l.toNat h.toNat).data.toList = (s.data.toList.take h.toNat).drop l.toNat := by
  rw [ByteArray.data_extract]
  simp [List.drop_take]
 simp only [e, List.getElem_drop, List.getElem_take]
 congr 1
 omega
theorem runE_bd {p : Int → Bool} {s : ByteArray} : ∀ (f : Nat) (n : Int), ((s.size : Int) - n).toNat = f → n ≤ (s.size : Int) → n ≤ runE p s n ∧ runE p s n ≤ (s.size : Int)
 | 0, n, hf, hn => by
  rw [runE_eq, decide_eq_false (by omega)]
  exact ⟨Int.le_refl _, hn⟩
 | f + 1, n, hf, hn => by
  rw [runE_eq]
  cases decide (n < (s.size : Int)) && p (byteAt s n) with
  | true =>
   have := runE_bd (p := p) (s := s) f (n + 1) (by omega) (by omega)
   exact ⟨by rw [cond_true]; omega, this.2⟩
  | false => exact ⟨Int.le_refl _, hn⟩
theorem runE_le {p : Int → Bool} {s : ByteArray} {n : Int} (hn : n ≤ (s.size : Int)) : n ≤ runE p s n ∧ runE p s n ≤ (s.size : Int) := runE_bd _ n rfl hn
theorem runE_in {p : Int → Bool} {s : ByteArray} : ∀ (f : Nat) (n : Int), ((s.size : Int) - n).toNat = f → n ≤ (s.size : Int) → ∀ i, n ≤ i → i < runE p s n → p (byteAt s i) = true
 | 0, n, hf, hn, i, h1, h2 => by
  have := (runE_le (p := p) hn).2
  omega
 | f + 1, n, hf, hn, i, h1, h2 => by
  rw [runE_eq] at h2
  cases hc : decide (n < (s.size : Int)) && p (byteAt s n) with
  | true =>
   rw [hc, cond_true] at h2
   simp only [Bool.and_eq_true, decide_eq_true_eq] at hc
   rcases Int.lt_or_le n i with hlt | hle
   ·exact runE_in f (n + 1) (by omega) (by omega) i (by omega) h2
   ·have : i = n := by omega
    subst this
    exact hc.2
  | false => rw [hc, cond_false] at h2; omega
theorem runE_top {p : Int → Bool} {s : ByteArray} : ∀ (f : Nat) (n : Int), ((s.size : Int) - n).toNat = f → n ≤ (s.size : Int) → (∀ i, n ≤ i → i < (s.size : Int) → p (byteAt s i) = true) → runE p s n = (s.size : Int)
 | 0, n, hf, hn, _ => by
  rw [runE_eq, decide_eq_false (by omega), Bool.false_and, cond_false]
  omega
 | f + 1, n, hf, hn, h => by
  rw [runE_eq, decide_eq_true (by omega), h n (Int.le_refl _) (by omega), Bool.and_self, cond_true]
  exact runE_top f (n + 1) (by omega) (by omega) fun i h1 h2 => h i (by omega) h2
theorem runE_stop {p : Int → Bool} {s : ByteArray} : ∀ (f : Nat) (n : Int), ((s.size : Int) - n).toNat = f → n ≤ (s.size : Int) → runE p s n < (s.size : Int) → p (byteAt s (runE p s n)) = false
 | 0, n, hf, hn, h => by
  have := (runE_le (p := p) hn).1
  omega
 | f + 1, n, hf, hn, h => by
  rw [runE_eq] at h ⊢
  cases hc : decide (n < (s.size : Int)) && p (byteAt s n) with
  | true =>
   rw [hc, cond_true] at h
   rw [cond_true]
   exact runE_stop f (n + 1) (by omega) (by omega) h
  | false =>
   rw [hc, cond_false] at h
   rw [cond_false]
   rw [decide_eq_true h, Bool.true_and] at hc
   exact hc
end Go.Proofs.YtgohbcbdgakjeaaGreatDoor
noncomputable section
namespace Go.Proofs.YtgohbcbdgakjeaaGreatDoor
open Go.Proofs.YtgohbcbdgakjeaaGreatDoor.Ev Go.RowKit
def bytesSym (s : ByteArray) : Sym := ⟨Lib.byteCells s.data.toList, fun _ o => byteI (nthB s.data.toList o), fun _ => ByteArray.empty, fun k o => decide (k = .u8) && decide (o < s.data.toList.length), fun _ => false⟩
def syB (s : ByteArray) : Sy := fun i => cond (Nat.beq i 1000) (some (bytesSym s)) none
def bytesRow (s : ByteArray) : Option LObj := some (.row ⟨Lib.byteCells s.data.toList, 5, (0, 0), 1, false, true⟩)
theorem byteCells_get (l : List UInt8) (o : Nat) : (Lib.byteCells l)[o]? = (l[o]?).map fun b => .int .u8 b.toNat := by
 unfold Lib.byteCells
 rw [List.getElem?_map]
theorem bytesSym_ok (s : ByteArray) : (bytesSym s).OK where
 int := fun k o h => by
  simp only [bytesSym, Bool.and_eq_true, decide_eq_true_eq] at h
  obtain ⟨rfl, h⟩ := h
  show (Lib.byteCells s.data.toList)[o]? = some (.int .u8 (byteI (nthB s.data.toList o)))
  rw [byteCells_get, nthB_eq, List.getElem?_eq_getElem h]
  rfl
 str := fun o h => by cases h
theorem syB_ok {gl : Gl} (s : ByteArray) : SyOK gl (syB s) := fun i S h => by
 unfold syB at h
 rw [Bool.cond_eq_ite] at h
 split at h
 ·rename_i e
  cases h
  have := Nat.eq_of_beq_eq_true e
  exact ⟨fun _ => bytesSym_ok s, fun hl => by omega⟩
 ·cases h
theorem bytes_all (l : List UInt8) : (Lib.byteCells l).all (af 8) = true := by
 rw [List.all_eq_true]
 intro v hv
 obtain ⟨i, hi⟩ := List.getElem?_of_mem hv
 rw [byteCells_get] at hi
 obtain ⟨b, _, rfl⟩ := Option.map_eq_some_iff.1 hi
 rfl
theorem size_len (s : ByteArray) : s.data.toList.length = s.size := by simp
theorem bs_int (s : ByteArray) (i : Int) : (bytesSym s).int .u8 (0 + i.toNat * 1) = byteAt s i := by
 unfold bytesSym byteAt
 rw [Nat.zero_add, Nat.mul_one]
theorem bs_ok (s : ByteArray) {i : Int} (h0 : 0 ≤ i) (h1 : i < (s.size : Int)) : (bytesSym s).okI .u8 (0 + i.toNat * 1) = true := by
 unfold bytesSym
 simp only [decide_true, Bool.true_and, decide_eq_true_eq]
 have := size_len s
 omega
theorem ble_self (n : Nat) : Nat.ble n n = true := Nat.ble_eq_true_of_le (Nat.le_refl n)
def puLive : List Nat := [101, 11, 1, 13, 10, 8, 99, 9, 12, 100, 6, 7]
def puOut : List Nat := [13, 9, 12, 6, 7]
def puSt (b cut : Int) (s : ByteArray) (i n : Int) : LSt := ([.int .i64 i, .int .u64 18446744073709551615, .int .i64 b, .int .u64 n, .int .u64 cut, .bool false, .slice (some ⟨1000, 0, none⟩) s.data.toList.length s.data.toList.length, .string s, .bool false, .int .i64 (s.data.toList.length : Int), .int .u64 0, .nilIface], [bytesRow s])
set_option maxRecDepth 100000 in
theorem r_pu16 (gl : Gl) (s : ByteArray) (i n : Int) : roundK (syB s) Tryz.prog gl (fun _ => none) H1 100 40 40 107 0 puLive (puSt 16 1152921504606846976 s i n) (rndK Tryz.prog 1001 puLive puOut) =
 let z5 := Lib.byteCells s.data.toList
 let z10 := List.all z5 (af 8) && true
 let z2 : Option (LSt ⊕ Out) := cond z10 (
 some (.inr (.ret, ([(.int .u64 (IntKind.u64.wrap (n * 16))), (.string (s)), (.bool false), (.int .u64 18446744073709551615), (.iface 155 (.int .i64 1))], [some (.row ⟨z5, 5, (0, 0), 1, false, true⟩)])))) (
 none)
 let z3 : Option (LSt ⊕ Out) := cond z10 (
 some (.inr (.ret, ([(.int .u64 (n)), (.string (s)), (.bool false), (.int .u64 0), (.iface 155 (.int .i64 2))], [some (.row ⟨z5, 5, (0, 0), 1, false, true⟩)])))) (
 none)
 let z7 : Option (LSt ⊕ Out) := cond z10 (
 some (.inr (.ret, ([(.int .u64 (n)), (.string (s)), (.bool false), (.int .u64 18446744073709551615), (.iface 155 (.int .i64 1))], [some (.row ⟨z5, 5, (0, 0), 1, false, true⟩)])))) (
 none)
 let z11 := (↑s.data.toList.length : Int)
 let z12 := 0 + i.toNat * 1
 let z6 := IntKind.u64.wrap (n * 16) + IntKind.u64.wrap (IntKind.u8.wrap ((bytesSym s).int .u8 z12 - 48))
 let z8 := BitVec.ofInt 8 ((bytesSym s).int .u8 z12) ||| BitVec.ofInt 8 32
 let z4 := IntKind.u8.wrap (IntKind.u8.wrap (↑z8.toNat : Int) - 97) + 10
 let z9 := IntKind.u64.wrap (n * 16) + IntKind.u64.wrap (IntKind.u8.wrap z4)
 let z0 : Option (LSt ⊕ Out) := cond (decide (97 ≤ IntKind.u8.wrap (↑z8.toNat : Int))) (
 cond (decide (IntKind.u8.wrap (↑z8.toNat : Int) ≤ 122)) (
 cond (decide (IntKind.u8.wrap z4 ≥ 16)) z3 (
 cond (decide (n ≥ 1152921504606846976)) z7 (
 cond (decide (IntKind.u64.wrap z9 < IntKind.u64.wrap (n * 16))) z2 (
 cond (decide (IntKind.u64.wrap z9 > 18446744073709551615)) z2 (
 cond z10 (
 some (.inl ([(.int .i64 (IntKind.i64.wrap (i + 1))), (.int .u64 18446744073709551615), (.int .i64 16), (.int .u64 (IntKind.u64.wrap z9)), (.int .u64 1152921504606846976), (.bool false), (.slice (some ⟨1000, 0, none⟩) (s.data.toList.length) (s.data.toList.length)), (.string (s)), (.bool false), (.int .i64 (z11)), (.int .u64 0), (Value.nilIface)], [some (.row ⟨z5, 5, (0, 0), 1, false, true⟩)]))) (
 none)))))) z3) z3
 let z1 : Option (LSt ⊕ Out) := cond (decide (48 ≤ (bytesSym s).int .u8 z12)) (
 cond (decide ((bytesSym s).int .u8 z12 ≤ 57)) (
 cond (decide (IntKind.u8.wrap ((bytesSym s).int .u8 z12 - 48) ≥ 16)) z3 (
 cond (decide (n ≥ 1152921504606846976)) z7 (
 cond (decide (IntKind.u64.wrap z6 < IntKind.u64.wrap (n * 16))) z2 (
 cond (decide (IntKind.u64.wrap z6 > 18446744073709551615)) z2 (
 cond z10 (
 some (.inl ([(.int .i64 (IntKind.i64.wrap (i + 1))), (.int .u64 18446744073709551615), (.int .i64 16), (.int .u64 (IntKind.u64.wrap z6)), (.int .u64 1152921504606846976), (.bool false), (.slice (some ⟨1000, 0, none⟩) (s.data.toList.length) (s.data.toList.length)), (.string (s)), (.bool false), (.int .i64 (z11)), (.int .u64 0), (Value.nilIface)], [some (.row ⟨z5, 5, (0, 0), 1, false, true⟩)]))) (
 none)))))) z0) z0
 cond (decide (i < z11)) (
 cond (decide (0 ≤ i) && (decide (i < z11)) && (s.data.toList.length.ble s.data.toList.length)) (
 cond (sameL z5 z5) (
 cond ((bytesSym s).okI .u8 z12) (
 cond ((bytesSym s).int .u8 z12 == 95) z1 z1) (
 none)) (
 none)) (
 none)) (
 cond z10 (
 some (.inr (.exit 3, ([(.int .u64 (n)), (.string (s)), (.bool false), (.int .u64 0), (Value.nilIface)], [some (.row ⟨z5, 5, (0, 0), 1, false, true⟩)])))) (
 none)) := by kernel_rfl
set_option maxRecDepth 100000 in
theorem r_pu10 (gl : Gl) (s : ByteArray) (i n : Int) : roundK (syB s) Tryz.prog gl (fun _ => none) H1 100 40 40 107 0 puLive (puSt 10 1844674407370955162 s i n) (rndK Tryz.prog 1001 puLive puOut) =
 let z5 := Lib.byteCells s.data.toList
 let z10 := List.all z5 (af 8) && true
 let z2 : Option (LSt ⊕ Out) := cond z10 (
 some (.inr (.ret, ([(.int .u64 (IntKind.u64.wrap (n * 10))), (.string (s)), (.bool false), (.int .u64 18446744073709551615), (.iface 155 (.int .i64 1))], [some (.row ⟨z5, 5, (0, 0), 1, false, true⟩)])))) (
 none)
 let z3 : Option (LSt ⊕ Out) := cond z10 (
 some (.inr (.ret, ([(.int .u64 (n)), (.string (s)), (.bool false), (.int .u64 0), (.iface 155 (.int .i64 2))], [some (.row ⟨z5, 5, (0, 0), 1, false, true⟩)])))) (
 none)
 let z7 : Option (LSt ⊕ Out) := cond z10 (
 some (.inr (.ret, ([(.int .u64 (n)), (.string (s)), (.bool false), (.int .u64 18446744073709551615), (.iface 155 (.int .i64 1))], [some (.row ⟨z5, 5, (0, 0), 1, false, true⟩)])))) (
 none)
 let z11 := (↑s.data.toList.length : Int)
 let z12 := 0 + i.toNat * 1
 let z6 := IntKind.u64.wrap (n * 10) + IntKind.u64.wrap (IntKind.u8.wrap ((bytesSym s).int .u8 z12 - 48))
 let z8 := BitVec.ofInt 8 ((bytesSym s).int .u8 z12) ||| BitVec.ofInt 8 32
 let z4 := IntKind.u8.wrap (IntKind.u8.wrap (↑z8.toNat : Int) - 97) + 10
 let z9 := IntKind.u64.wrap (n * 10) + IntKind.u64.wrap (IntKind.u8.wrap z4)
 let z0 : Option (LSt ⊕ Out) := cond (decide (97 ≤ IntKind.u8.wrap (↑z8.toNat : Int))) (
 cond (decide (IntKind.u8.wrap (↑z8.toNat : Int) ≤ 122)) (
 cond (decide (IntKind.u8.wrap z4 ≥ 10)) z3 (
 cond (decide (n ≥ 1844674407370955162)) z7 (
 cond (decide (IntKind.u64.wrap z9 < IntKind.u64.wrap (n * 10))) z2 (
 cond (decide (IntKind.u64.wrap z9 > 18446744073709551615)) z2 (
 cond z10 (
 some (.inl ([(.int .i64 (IntKind.i64.wrap (i + 1))), (.int .u64 18446744073709551615), (.int .i64 10), (.int .u64 (IntKind.u64.wrap z9)), (.int .u64 1844674407370955162), (.bool false), (.slice (some ⟨1000, 0, none⟩) (s.data.toList.length) (s.data.toList.length)), (.string (s)), (.bool false), (.int .i64 (z11)), (.int .u64 0), (Value.nilIface)], [some (.row ⟨z5, 5, (0, 0), 1, false, true⟩)]))) (
 none)))))) z3) z3
 let z1 : Option (LSt ⊕ Out) := cond (decide (48 ≤ (bytesSym s).int .u8 z12)) (
 cond (decide ((bytesSym s).int .u8 z12 ≤ 57)) (
 cond (decide (IntKind.u8.wrap ((bytesSym s).int .u8 z12 - 48) ≥ 10)) z3 (
 cond (decide (n ≥ 1844674407370955162)) z7 (
 cond (decide (IntKind.u64.wrap z6 < IntKind.u64.wrap (n * 10))) z2 (
 cond (decide (IntKind.u64.wrap z6 > 18446744073709551615)) z2 (
 cond z10 (
 some (.inl ([(.int .i64 (IntKind.i64.wrap (i + 1))), (.int .u64 18446744073709551615), (.int .i64 10), (.int .u64 (IntKind.u64.wrap z6)), (.int .u64 1844674407370955162), (.bool false), (.slice (some ⟨1000, 0, none⟩) (s.data.toList.length) (s.data.toList.length)), (.string (s)), (.bool false), (.int .i64 (z11)), (.int .u64 0), (Value.nilIface)], [some (.row ⟨z5, 5, (0, 0), 1, false, true⟩)]))) (
 none)))))) z0) z0
 cond (decide (i < z11)) (
 cond (decide (0 ≤ i) && (decide (i < z11)) && (s.data.toList.length.ble s.data.toList.length)) (
 cond (sameL z5 z5) (
 cond ((bytesSym s).okI .u8 z12) (
 cond ((bytesSym s).int .u8 z12 == 95) z1 z1) (
 none)) (
 none)) (
 none)) (
 cond z10 (
 some (.inr (.exit 3, ([(.int .u64 (n)), (.string (s)), (.bool false), (.int .u64 0), (Value.nilIface)], [some (.row ⟨z5, 5, (0, 0), 1, false, true⟩)])))) (
 none)) := by kernel_rfl
def puMax : Int := 18446744073709551615
def dg (c : Int) : Int := if c ≤ 57 then c - 48 else c - 87
def puDone (s : ByteArray) (n : Int) : Out := (.exit 3, [.int .u64 n, .string s, .bool false, .int .u64 0, .nilIface], [bytesRow s])
def puRng (s : ByteArray) (n : Int) : Out := (.ret, [.int .u64 n, .string s, .bool false, .int .u64 puMax, .iface 155 (.int .i64 1)], [bytesRow s])
def puStep (b cut : Int) (s : ByteArray) (i n : Int) : LSt ⊕ Out :=
 if i < (s.size : Int) then (if n ≥ cut then .inr (puRng s n) else if n * b + dg (byteAt s i) > puMax then .inr (puRng s (n * b)) else .inl (puSt b cut s (i + 1) (n * b + dg (byteAt s i)))) else .inr (puDone s n)
theorem wrapU_id (n : Int) (h : 0 ≤ n ∧ n ≤ 18446744073709551615) : IntKind.u64.wrap n = n := by
 simp only [IntKind.wrap, IntKind.bits, IntKind.signed]
 simp
 omega
theorem wrapU_over (n : Int) (h : 18446744073709551616 ≤ n ∧ n < 36893488147419103232) : IntKind.u64.wrap n = n - 18446744073709551616 := by
 simp only [IntKind.wrap, IntKind.bits, IntKind.signed]
 simp
 omega
theorem wrap8_id (n : Int) (h : 0 ≤ n ∧ n ≤ 255) : IntKind.u8.wrap n = n := by
 simp only [IntKind.wrap, IntKind.bits, IntKind.signed]
 simp
 omega
theorem lower_hex (c : Int) (h : 97 ≤ c ∧ c ≤ 102) : ((BitVec.ofInt 8 c ||| BitVec.ofInt 8 32).toNat : Int) = c := by
 have : c = 97 ∨ c = 98 ∨ c = 99 ∨ c = 100 ∨ c = 101 ∨ c = 102 := by omega
 rcases this with rfl | rfl | rfl | rfl | rfl | rfl <;> rfl
theorem digitB_iff {c : Int} : digitB c = true ↔ 48 ≤ c ∧ c ≤ 57 := by simp [digitB]
theorem hexB_iff {c : Int} : hexB c = true ↔ (48 ≤ c ∧ c ≤ 57) ∨ (97 ≤ c ∧ c ≤ 102) := by simp [hexB, digitB]
theorem pu10_round (gl : Gl) (s : ByteArray) (i n : Int) (h0 : 0 ≤ i) (hn : 0 ≤ n ∧ n ≤ puMax) (hs : s.size ≤ 1000000) (hd : i < (s.size : Int) → digitB (byteAt s i) = true) :
  roundK (syB s) Tryz.prog gl (fun _ => none) H1 100 40 40 107 0 puLive (puSt 10 1844674407370955162 s i n) (rndK Tryz.prog 1001 puLive puOut) = some (puStep 10 1844674407370955162 s i n) := by
 rw [r_pu10]
 dsimp only
 unfold puStep
 have hL : (s.data.toList.length : Int) = (s.size : Int) := by rw [size_len]
 unfold puMax at hn
 by_cases h : i < (s.size : Int)
 ·have hc := digitB_iff.1 (hd h)
  rw [hL]
  simp only [h, h0, decide_true, ble_self, sameL_self, bs_ok s h0 h, bs_int, bytes_all, Bool.and_true, Bool.and_self, cond_true, if_true]
  generalize byteAt s i = c at hc
  have e1 : (c == 95) = false := by simp; omega
  have e2 : dg c = c - 48 := by unfold dg; rw [if_pos hc.2]
  have e3 : IntKind.u8.wrap (c - 48) = c - 48 := wrap8_id _ (by omega)
  have e4 : ¬ (c - 48 ≥ 10) := by omega
  simp only [e1, e2, e3, e4, hc.1, hc.2, decide_true, decide_false, cond_true, cond_false]
  by_cases hcut : n ≥ 1844674407370955162
  ·simp only [hcut, decide_true, cond_true, if_true]
   rfl
  ·have w1 : IntKind.u64.wrap (n * 10) = n * 10 := wrapU_id _ (by omega)
   have w2 : IntKind.u64.wrap (c - 48) = c - 48 := wrapU_id _ (by omega)
   have w4 : IntKind.i64.wrap (i + 1) = i + 1 := wrap_id _ (by omega)
   simp only [hcut, decide_false, cond_false, if_false, w1, w2, w4]
   by_cases ho : n * 10 + (c - 48) > puMax
   ·unfold puMax at ho
    have w3 : IntKind.u64.wrap (n * 10 + (c - 48)) = n * 10 + (c - 48) - 18446744073709551616 := wrapU_over _ (by omega)
    have e5 : n * 10 + (c - 48) - 18446744073709551616 < n * 10 := by omega
    have ho' : n * 10 + (c - 48) > puMax := ho
    simp only [w3, e5, ho', decide_true, cond_true, if_true]
    rfl
   ·have ho' := ho
    unfold puMax at ho
    have w3 : IntKind.u64.wrap (n * 10 + (c - 48)) = n * 10 + (c - 48) := wrapU_id _ (by omega)
    have e5 : ¬ (n * 10 + (c - 48) < n * 10) := by omega
    simp only [w3, e5, ho, ho', decide_false, cond_false, if_false]
    rfl
 ·have h2 : ¬ (i < (s.data.toList.length : Int)) := by rw [hL]; exact h
  simp only [h, h2, decide_false, cond_false, bytes_all, Bool.and_true, cond_true, if_false]
  rfl
theorem pu16_round (gl : Gl) (s : ByteArray) (i n : Int) (h0 : 0 ≤ i) (hn : 0 ≤ n ∧ n ≤ puMax) (hs : s.size ≤ 1000000) (hd : i < (s.size : Int) → hexB (byteAt s i) = true) :
  roundK (syB s) Tryz.prog gl (fun _ => none) H1 100 40 40 107 0 puLive (puSt 16 1152921504606846976 s i n) (rndK Tryz.prog 1001 puLive puOut) = some (puStep 16 1152921504606846976 s i n) := by
 rw [r_pu16]
 dsimp only
 unfold puStep
 have hL : (s.data.toList.length : Int) = (s.size : Int) := by rw [size_len]
 unfold puMax at hn
 by_cases h : i < (s.size : Int)
 ·have hc := hexB_iff.1 (hd h)
  rw [hL]
  simp only [h, h0, decide_true, ble_self, sameL_self, bs_ok s h0 h, bs_int, bytes_all, Bool.and_true, Bool.and_self, cond_true, if_true]
  generalize byteAt s i = c at hc
  have e1 : (c == 95) = false := by simp; omega
  have fin : ∀ d : Int, 0 ≤ d ∧ d < 16 → n * 16 + d = n * 16 + d → ¬ (n ≥ 1152921504606846976) → IntKind.u64.wrap (n * 16) = n * 16 ∧ IntKind.u64.wrap d = d ∧ IntKind.u64.wrap (n * 16 + d) = n * 16 + d ∧ ¬ (n * 16 + d < n * 16) ∧ ¬ (n * 16 + d > 18446744073709551615) ∧ ¬ (n * 16 + d > puMax) := fun d hd _ hcut =>
   ⟨wrapU_id _ (by omega), wrapU_id _ (by omega), wrapU_id _ (by omega), by omega, by omega, by unfold puMax; omega⟩
  have w4 : IntKind.i64.wrap (i + 1) = i + 1 := wrap_id _ (by omega)
  rcases hc with hc | hc
  ·have e2 : dg c = c - 48 := by unfold dg; rw [if_pos hc.2]
   have e3 : IntKind.u8.wrap (c - 48) = c - 48 := wrap8_id _ (by omega)
   have e4 : ¬ (c - 48 ≥ 16) := by omega
   simp only [e1, e2, e3, e4, hc.1, hc.2, decide_true, decide_false, cond_true, cond_false]
   by_cases hcut : n ≥ 1152921504606846976
   ·simp only [hcut, decide_true, cond_true, if_true]
    rfl
   ·obtain ⟨w1, w2, w3, e5, e6, e7⟩ := fin (c - 48) (by omega) rfl hcut
    simp only [hcut, decide_false, cond_false, if_false, w1, w2, w3, w4, e5, e6, e7]
    rfl
  ·have e2 : dg c = c - 87 := by unfold dg; rw [if_neg (by omega)]
   have a1 : 48 ≤ c := by omega
   have a2 : ¬ (c ≤ 57) := by omega
   have l1 := lower_hex c hc
   have l2 : IntKind.u8.wrap c = c := wrap8_id _ (by omega)
   have l3 : IntKind.u8.wrap (c - 97) = c - 97 := wrap8_id _ (by omega)
   have l4 : IntKind.u8.wrap (c - 97 + 10) = c - 87 := by rw [wrap8_id _ (by omega)]; omega
   have e4 : ¬ (c - 87 ≥ 16) := by omega
   have a3 : c ≤ 122 := by omega
   simp only [e1, e2, a1, a2, l1, l2, l3, l4, e4, hc.1, a3, decide_true, decide_false, cond_true, cond_false]
   by_cases hcut : n ≥ 1152921504606846976
   ·simp only [hcut, decide_true, cond_true, if_true]
    rfl
   ·obtain ⟨w1, w2, w3, e5, e6, e7⟩ := fin (c - 87) (by omega) rfl hcut
    simp only [hcut, decide_false, cond_false, if_false, w1, w2, w3, w4, e5, e6, e7]
    rfl
 ·have h2 : ¬ (i < (s.data.toList.length : Int)) := by rw [hL]; exact h
  simp only [h, h2, decide_false, cond_false, bytes_all, Bool.and_true, cond_true, if_false]
  rfl
end Go.Proofs.YtgohbcbdgakjeaaGreatDoor
noncomputable section
namespace Go.Proofs.YtgohbcbdgakjeaaGreatDoor
open Go.Proofs.YtgohbcbdgakjeaaGreatDoor.Ev Go.RowKit
def puGo (b cut : Int) (s : ByteArray) : Nat → Int → Int → Bool × Int
 | 0, _, n => (true, n)
 | f + 1, i, n => if i < (s.size : Int) then (if n ≥ cut then (false, n) else if n * b + dg (byteAt s i) > puMax then (false, n * b) else puGo b cut s f (i + 1) (n * b + dg (byteAt s i))) else (true, n)
def puAll (b cut : Int) (s : ByteArray) : Bool × Int := puGo b cut s s.size 0 0
def allB (p : Int → Bool) (s : ByteArray) : Bool := decide (runE p s 0 = (s.size : Int))
theorem runE_all {p : Int → Bool} {s : ByteArray} : ∀ (f : Nat) (n : Int), ((s.size : Int) - n).toNat = f → n ≤ (s.size : Int) → runE p s n = (s.size : Int) → ∀ i, n ≤ i → i < (s.size : Int) → p (byteAt s i) = true
 | 0, n, hf, hn, h, i, h1, h2 => by omega
 | f + 1, n, hf, hn, h, i, h1, h2 => by
  rw [runE_eq] at h
  by_cases hc : (decide (n < (s.size : Int)) && p (byteAt s n)) = true
  ·rw [hc, cond_true] at h
   simp only [Bool.and_eq_true, decide_eq_true_eq] at hc
   rcases Int.lt_or_le n i with hlt | hle
   ·exact runE_all f (n + 1) (by omega) (by omega) h i (by omega) h2
   ·have : i = n := by omega
    subst this
    exact hc.2
  ·rw [Bool.eq_false_iff.2 hc, cond_false] at h
   omega
theorem allB_spec {p : Int → Bool} {s : ByteArray} (h : allB p s = true) {i : Int} (h0 : 0 ≤ i) (h1 : i < (s.size : Int)) : p (byteAt s i) = true :=
 runE_all _ 0 rfl (by omega) (of_decide_eq_true h) i h0 h1
def cutOf (b : Int) : Int := if b = 16 then 1152921504606846976 else 1844674407370955162
def predB (b : Int) : Int → Bool := if b = 16 then hexB else digitB
def puLH : Hd := fun vs rows => match vs, rows with
 | [.int .i64 i, .int .u64 M, .int .i64 b, .int .u64 n, .int .u64 cut, .bool false, .slice (some ⟨id, off, none⟩) L C, .string s, .bool false, .int .i64 L2, .int .u64 z, .nilIface], [some (.row ⟨cells, el, fz, es, false, true⟩)] =>
  some (.br (decide (i = 0) && decide (M = 18446744073709551615) && decide (n = 0) && decide (z = 0) && decide (id = 1000) && decide (off = 0) && decide (el = 5) && decide (fz.1 = 0) && decide (fz.2 = 0) && decide (es = 1) && (decide (b = 10) || decide (b = 16)) && decide (cut = cutOf b))
   (.br (decide (L = s.data.toList.length) && decide (C = s.data.toList.length) && decide (L2 = (s.data.toList.length : Int)) && sameL cells (Lib.byteCells s.data.toList))
    (.br (decide (s.size ≤ 1000000) && allB (predB b) s) (.br (puAll b (cutOf b) s).1 (.ret (puDone s (puAll b (cutOf b) s).2)) (.ret (puRng s (puAll b (cutOf b) s).2))) .fail) .fail) .fail)
 | _, _ => none
theorem pu_round (gl : Gl) {b : Int} (hb : b = 10 ∨ b = 16) (s : ByteArray) (i n : Int) (h0 : 0 ≤ i) (hn : 0 ≤ n ∧ n ≤ puMax) (hs : s.size ≤ 1000000) (hd : i < (s.size : Int) → predB b (byteAt s i) = true) :
  roundK (syB s) Tryz.prog gl (fun _ => none) H1 100 40 40 107 0 puLive (puSt b (cutOf b) s i n) (rndK Tryz.prog 1001 puLive puOut) = some (puStep b (cutOf b) s i n) := by
 rcases hb with rfl | rfl
 ·exact pu10_round gl s i n h0 hn hs hd
 ·exact pu16_round gl s i n h0 hn hs hd
theorem dg_range {b c : Int} (hb : b = 10 ∨ b = 16) (h : predB b c = true) : 0 ≤ dg c ∧ dg c < b := by
 unfold dg
 rcases hb with rfl | rfl
 ·have := digitB_iff.1 h
  split <;> omega
 ·have := hexB_iff.1 h
  split <;> omega
theorem run_lt {x : Bool × Int} {t e : DT Out} {r : Out} : DT.run (.br x.1 t e) = some r → (x.1 = true ∧ t.run = some r) ∨ (x.1 = false ∧ e.run = some r) := by
 intro h
 cases hx : x.1 with
 | true => rw [hx] at h; exact .inl ⟨rfl, h⟩
 | false => rw [hx] at h; exact .inr ⟨rfl, h⟩
theorem brT {c : Bool} {t : DT Out} {r : Out} (h : DT.run (.br c t .fail) = some r) : c = true ∧ t.run = some r := condT h
open Classical in
theorem pu_ok {gl : Gl} (hgl : ∀ g k v, gl g k = some v → g < 1000 ∧ lowV 8 v = true) : LpOK Tryz.prog gl 107 0 ⟨puLive, puOut, puLH⟩ := by
 intro fn body x hf hb hx vs rows t e vs' rows' h1 h2
 have key : ∀ (s : ByteArray) (b : Int) (r : Out), (b = 10 ∨ b = 16) → s.size ≤ 1000000 → allB (predB b) s = true → (vs, rows) = puSt b (cutOf b) s 0 0 → r = (if (puAll b (cutOf b) s).1 = true then puDone s (puAll b (cutOf b) s).2 else puRng s (puAll b (cutOf b) s).2) →
   LoopOK Tryz.prog gl fn.ntmps x ⟨puLive, puOut, fun vs' rows' => if (vs', rows') = (vs, rows) then some (.ret r) else none⟩ := by
  intro s b r hb1 hs hall hst hr
  refine loop_of (syB_ok s) goodT hgl tglob (H1_ok hgl) (L := 100) (G := 40) (d := 40) (f := 107) (n := 0) (fun vs1 rows1 t1 r1 h1 h2 => ?_) fn body x hf hb hx
  simp only at h1
  split at h1
  ·rename_i he
   cases h1
   cases h2
   rw [← he] at hst
   have hrow : rows1 = [bytesRow s] := by
    have := congrArg Prod.snd hst
    exact this
   have hl : 1000 + rows1.length = 1001 := by rw [hrow]; rfl
   refine ⟨by rw [hl]; decide, {q : Nat × Int × Int // 0 ≤ q.2.1 ∧ 0 ≤ q.2.2 ∧ q.2.2 ≤ puMax ∧ q.2.1 + q.1 = s.size}, fun q => puSt b (cutOf b) s q.1.2.1 q.1.2.2,
    fun q => some (if (puGo b (cutOf b) s q.1.1 q.1.2.1 q.1.2.2).1 = true then puDone s (puGo b (cutOf b) s q.1.1 q.1.2.1 q.1.2.2).2 else puRng s (puGo b (cutOf b) s q.1.1 q.1.2.1 q.1.2.2).2), fun q => q.1.1, ⟨(s.size, 0, 0), by simp, by simp, by show (0 : Int) ≤ 18446744073709551615; decide, by simp⟩, .inl hst, ?_, ?_⟩
   ·show some _ = some _
    rw [hr]
    rfl
   ·rintro ⟨⟨f, i, n⟩, q1, q2, q3, q4⟩ o ho
    simp only at q1 q2 q3 q4 ho ⊢
    rw [hl]
    refine ⟨_, pu_round gl hb1 s i n q1 ⟨q2, q3⟩ hs (fun hi => allB_spec hall q1 hi), ?_⟩
    unfold puStep
    cases f with
    | zero =>
     rw [if_neg (by omega)]
     simp only [puGo, if_true] at ho
     cases ho
     rfl
    | succ f =>
     have hi : i < (s.size : Int) := by omega
     have hd := dg_range hb1 (allB_spec hall q1 hi)
     rw [if_pos hi]
     simp only [puGo, if_pos hi] at ho
     by_cases hcut : n ≥ cutOf b
     ·rw [if_pos hcut] at ho ⊢
      cases ho
      rfl
     ·rw [if_neg hcut] at ho ⊢
      by_cases hov : n * b + dg (byteAt s i) > puMax
      ·rw [if_pos hov] at ho ⊢
       cases ho
       rfl
      ·rw [if_neg hov] at ho ⊢
       have hnb : 0 ≤ n * b := by rcases hb1 with rfl | rfl <;> omega
       exact ⟨⟨(f, i + 1, n * b + dg (byteAt s i)), by simp only; omega, by simp only; omega, by simp only; omega, by simp only; omega⟩, rfl, by simp only; omega, ho⟩
  ·cases h1
 simp only [puLH] at h1
 split at h1
 ·rename_i i M b n cut id off L C s L2 z cells el fz es
  cases h1
  obtain ⟨c1, h3⟩ := brT h2
  obtain ⟨c2, h4⟩ := brT h3
  obtain ⟨c3, h5⟩ := brT h4
  simp only [Bool.and_eq_true, decide_eq_true_eq, Bool.or_eq_true] at c1 c2 c3
  obtain ⟨⟨⟨⟨⟨⟨⟨⟨⟨⟨⟨rfl, rfl⟩, rfl⟩, rfl⟩, rfl⟩, rfl⟩, rfl⟩, f1⟩, f2⟩, rfl⟩, hb1⟩, rfl⟩ := c1
  obtain ⟨⟨⟨rfl, rfl⟩, rfl⟩, c24⟩ := c2
  have hcell := sameL_eq c24
  subst hcell
  obtain ⟨fz1, fz2⟩ := fz
  simp only at f1 f2
  subst f1; subst f2
  have hr : (e, vs', rows') = (if (puAll b (cutOf b) s).1 = true then puDone s (puAll b (cutOf b) s).2 else puRng s (puAll b (cutOf b) s).2) := by
   rcases run_lt h5 with ⟨g1, g2⟩ | ⟨g1, g2⟩
   ·rw [if_pos g1]; cases g2; rfl
   ·rw [if_neg (by rw [g1]; decide)]; cases g2; rfl
  exact key s b _ hb1 c3.1 c3.2 rfl hr _ _ (.ret (e, vs', rows')) e vs' rows' (if_pos rfl) rfl
 ·cases h1
end Go.Proofs.YtgohbcbdgakjeaaGreatDoor
noncomputable section
namespace Go.Proofs.YtgohbcbdgakjeaaGreatDoor
open Go.Proofs.YtgohbcbdgakjeaaGreatDoor.Ev Go.RowKit
def afClone : AF := fun args _ => match args with
 | [.string s] => some (decide (s.size ≤ 281474976710656), .string s)
 | _ => none
theorem fnClone {gl : Gl} (hgl : ∀ g k v, gl g k = some v → g < 1000 ∧ lowV 8 v = true) : FnOK Tryz.prog gl 131 afClone := FnOK.flat hgl tglob fun args σ v h => by
 unfold afClone at h
 split at h
 ·simp only [Option.some.injEq, Prod.mk.injEq, decide_eq_true_eq] at h
  obtain ⟨h1, rfl⟩ := h
  exact ⟨rfl, rfl, fun w _ => Tryz.stringslite_Clone _ w h1⟩
 ·cases h
def glS (u0 o0 u1 o1 : Nat) : Gl := glOf [(6, [.iface u0 (.pointer (some ⟨900, o0, none⟩))]), (5, [.iface u1 (.pointer (some ⟨901, o1, none⟩))])]
theorem glS_low (u0 o0 u1 o1 : Nat) : ∀ g k v, glS u0 o0 u1 o1 g k = some v → g < 1000 ∧ lowV 8 v = true := lowTabs (by rfl)
def afs4 : List (FuncId × AF) := (131, afClone) :: afs1
theorem afs4_ok {gl : Gl} (hgl : ∀ g k v, gl g k = some v → g < 1000 ∧ lowV 8 v = true) : ∀ p ∈ afs4, FnOK Tryz.prog gl p.1 p.2 := fun p hp => by
 rcases List.mem_cons.1 hp with rfl | hp
 ·exact fnClone hgl
 ·exact afs1_ok hgl p hp
def H4 : Hs := hsOf afs4 [] [(107, [(0, ⟨puLive, puOut, puLH⟩)])]
theorem H4_ok {gl : Gl} (hgl : ∀ g k v, gl g k = some v → g < 1000 ∧ lowV 8 v = true) : H4.OK Tryz.prog gl := hsOf_ok (afs4_ok hgl) (fun _ h => by cases h) (fun p hp q hq => by
 simp only [List.mem_cons, List.not_mem_nil, or_false] at hp
 subst hp
 simp only [List.mem_cons, List.not_mem_nil, or_false] at hq
 subst hq
 exact pu_ok hgl)
set_option maxRecDepth 100000 in
theorem r_w10 (u0 o0 u1 o1 : Nat) (s : ByteArray) : callSK noSy Tryz.prog (glS u0 o0 u1 o1) (fun _ => none) H4 100 40 40 (.fn 86) [.string s, .int .i64 10, .int .i64 64] LS.start (exitK Tryz.prog 1000) =
 let z0 := veq 8 (.iface u1 (.pointer (some ⟨901, o1, none⟩))) (.iface u1 (.pointer (some ⟨901, o1, none⟩)))
 let z1 := Lib.byteCells s.data.toList
 let z2 := veq 8 (.iface u0 (.pointer (some ⟨900, o0, none⟩))) (.iface u0 (.pointer (some ⟨900, o0, none⟩)))
 let z3 := (⟨#[80, 97, 114, 115, 101, 85, 105, 110, 116]⟩ : ByteArray)
 let z4 := List.all z1 (af 8) && true
 cond (s.toList == (⟨#[]⟩ : ByteArray).toList) (
 cond (decide (s.size ≤ 281474976710656)) (
 cond z0 (
 cond z0 (
 some (.normal, ([(.tuple #[(.int .u64 0), (.iface 158 (.pointer (some ⟨1000, 0, none⟩)))])], [some (.row ⟨[(.string z3), (.string (s)), (.iface u1 (.pointer (some ⟨901, o1, none⟩)))], 170, (0, 0), 0, false, false⟩)]))) (
 none)) (
 none)) (
 none)) (
 cond z4 (
 cond (decide (s.data.toList.length = s.data.toList.length) && (decide (s.data.toList.length = s.data.toList.length)) && (decide ((↑s.data.toList.length : Int) = (↑s.data.toList.length : Int))) && (sameL z1 z1)) (
 cond (decide (s.size ≤ 1000000) && (allB (predB 10) s)) (
 cond ((puAll 10 1844674407370955162 s).fst) (
 cond z4 (
 some (.normal, ([(.tuple #[(.int .u64 ((puAll 10 1844674407370955162 s).snd)), (Value.nilIface)])], []))) (
 none)) (
 cond z4 (
 cond (decide (s.size ≤ 281474976710656)) (
 cond z2 (
 cond z2 (
 some (.normal, ([(.tuple #[(.int .u64 18446744073709551615), (.iface 158 (.pointer (some ⟨1000, 0, none⟩)))])], [some (.row ⟨[(.string z3), (.string (s)), (.iface u0 (.pointer (some ⟨900, o0, none⟩)))], 170, (0, 0), 0, false, false⟩)]))) (
 none)) (
 none)) (
 none)) (
 none))) (
 none)) (
 none)) (
 none)) := by kernel_rfl
set_option maxRecDepth 100000 in
theorem r_w16 (u0 o0 u1 o1 : Nat) (s : ByteArray) : callSK noSy Tryz.prog (glS u0 o0 u1 o1) (fun _ => none) H4 100 40 40 (.fn 86) [.string s, .int .i64 16, .int .i64 64] LS.start (exitK Tryz.prog 1000) =
 let z0 := veq 8 (.iface u1 (.pointer (some ⟨901, o1, none⟩))) (.iface u1 (.pointer (some ⟨901, o1, none⟩)))
 let z1 := Lib.byteCells s.data.toList
 let z2 := veq 8 (.iface u0 (.pointer (some ⟨900, o0, none⟩))) (.iface u0 (.pointer (some ⟨900, o0, none⟩)))
 let z3 := (⟨#[80, 97, 114, 115, 101, 85, 105, 110, 116]⟩ : ByteArray)
 let z4 := List.all z1 (af 8) && true
 cond (s.toList == (⟨#[]⟩ : ByteArray).toList) (
 cond (decide (s.size ≤ 281474976710656)) (
 cond z0 (
 cond z0 (
 some (.normal, ([(.tuple #[(.int .u64 0), (.iface 158 (.pointer (some ⟨1000, 0, none⟩)))])], [some (.row ⟨[(.string z3), (.string (s)), (.iface u1 (.pointer (some ⟨901, o1, none⟩)))], 170, (0, 0), 0, false, false⟩)]))) (
 none)) (
 none)) (
 none)) (
 cond z4 (
 cond (decide (s.data.toList.length = s.data.toList.length) && (decide (s.data.toList.length = s.data.toList.length)) && (decide ((↑s.data.toList.length : Int) = (↑s.data.toList.length : Int))) && (sameL z1 z1)) (
 cond (decide (s.size ≤ 1000000) && (allB (predB 16) s)) (
 cond ((puAll 16 1152921504606846976 s).fst) (
 cond z4 (
 some (.normal, ([(.tuple #[(.int .u64 ((puAll 16 1152921504606846976 s).snd)), (Value.nilIface)])], []))) (
 none)) (
 cond z4 (
 cond (decide (s.size ≤ 281474976710656)) (
 cond z2 (
 cond z2 (
 some (.normal, ([(.tuple #[(.int .u64 18446744073709551615), (.iface 158 (.pointer (some ⟨1000, 0, none⟩)))])], [some (.row ⟨[(.string z3), (.string (s)), (.iface u0 (.pointer (some ⟨900, o0, none⟩)))], 170, (0, 0), 0, false, false⟩)]))) (
 none)) (
 none)) (
 none)) (
 none))) (
 none)) (
 none)) (
 none)) := by kernel_rfl
end Go.Proofs.YtgohbcbdgakjeaaGreatDoor
noncomputable section
namespace Go.Proofs.YtgohbcbdgakjeaaGreatDoor
open Go.Proofs.YtgohbcbdgakjeaaGreatDoor.Ev Go.RowKit
def neRow (u o id : Nat) (t : ByteArray) : Option LObj := some (.row ⟨[.string (⟨#[80, 97, 114, 115, 101, 85, 105, 110, 116]⟩ : ByteArray), .string t, .iface u (.pointer (some ⟨id, o, none⟩))], 170, (0, 0), 0, false, false⟩)
def puHd (u0 o0 : Nat) : Hd := fun vs rows => match vs, rows with
 | [.string t, .int .i64 b, .int .i64 n], [] => some (.br (decide (n = 64) && (decide (b = 10) || decide (b = 16))) (.br (decide (t.size ≤ 1000000) && decide (1 ≤ t.size) && allB (predB b) t)
   (.br (puAll b (cutOf b) t).1 (.ret (.normal, [.tuple #[.int .u64 (puAll b (cutOf b) t).2, .nilIface]], []))
    (.ret (.normal, [.tuple #[.int .u64 18446744073709551615, .iface 158 (.pointer (some ⟨1000, 0, none⟩))]], [neRow u0 o0 900 t]))) .fail) .fail)
 | _, _ => none
theorem veq_self (u i o : Nat) : veq 8 (.iface u (.pointer (some ⟨i, o, none⟩))) (.iface u (.pointer (some ⟨i, o, none⟩))) = true := by
 simp [veq]
theorem toList_empty {t : ByteArray} (h : 1 ≤ t.size) : (t.toList == (⟨#[]⟩ : ByteArray).toList) = false := by
 rw [beqS]
 refine decide_eq_false fun e => ?_
 subst e
 exact absurd h (by decide)
theorem puHd_ok (u0 o0 u1 o1 : Nat) : SubOK Tryz.prog (glS u0 o0 u1 o1) 86 (puHd u0 o0) := by
 refine sub_of noSy_ok goodT (glS_low u0 o0 u1 o1) tglob (H4_ok (glS_low u0 o0 u1 o1)) (L := 100) (G := 40) (d := 40) fun vs rows t r h1 h2 => ?_
 unfold puHd at h1
 split at h1
 ·rename_i s b n
  cases h1
  obtain ⟨c1, h3⟩ := brT h2
  obtain ⟨c2, h4⟩ := brT h3
  simp only [Bool.and_eq_true, decide_eq_true_eq, Bool.or_eq_true] at c1 c2
  obtain ⟨rfl, hb⟩ := c1
  obtain ⟨⟨c3, c4⟩, c5⟩ := c2
  refine ⟨by decide, ?_⟩
  have e0 := toList_empty c4
  have e1 : s.size ≤ 281474976710656 := by omega
  rcases hb with rfl | rfl
  ·refine Eq.trans (r_w10 u0 o0 u1 o1 s) ?_
   simp only [e0, cond_false, bytes_all, Bool.and_true, cond_true, decide_true, sameL_self, Bool.and_self, c3, c5, e1, veq_self]
   rcases run_lt h4 with ⟨g1, g2⟩ | ⟨g1, g2⟩
   ·rw [show (puAll 10 1844674407370955162 s).1 = true from g1]
    exact g2
   ·rw [show (puAll 10 1844674407370955162 s).1 = false from g1]
    exact g2
  ·refine Eq.trans (r_w16 u0 o0 u1 o1 s) ?_
   simp only [e0, cond_false, bytes_all, Bool.and_true, cond_true, decide_true, sameL_self, Bool.and_self, c3, c5, e1, veq_self]
   rcases run_lt h4 with ⟨g1, g2⟩ | ⟨g1, g2⟩
   ·rw [show (puAll 16 1152921504606846976 s).1 = true from g1]
    exact g2
   ·rw [show (puAll 16 1152921504606846976 s).1 = false from g1]
    exact g2
 ·cases h1
def H5 (u0 o0 : Nat) : Hs := hsOf afs1 [(86, puHd u0 o0)] [(45, [(0, ⟨runLive, runOut, runH⟩)])]
end Go.Proofs.YtgohbcbdgakjeaaGreatDoor
noncomputable section
namespace Go.Proofs.YtgohbcbdgakjeaaGreatDoor
open Go.Proofs.YtgohbcbdgakjeaaGreatDoor.Ev Go.RowKit
def numV (s : ByteArray) (a : Int) (b n2 : Int) : Int × Int × Int :=
 if runE (predB b) s n2 = n2 then (0, 0, 200) else
  if (puAll b (cutOf b) (subS s n2 (runE (predB b) s n2))).1 = true ∧ (puAll b (cutOf b) (subS s n2 (runE (predB b) s n2))).2 ≤ 4294967296 then
   ((if byteAt s a = 45 then - (puAll b (cutOf b) (subS s n2 (runE (predB b) s n2))).2 else (puAll b (cutOf b) (subS s n2 (runE (predB b) s n2))).2), runE (predB b) s n2 - a, 0) else (0, 0, 201)
def sgn (s : ByteArray) (a : Int) : Int := if byteAt s a = 45 then a + 1 else a
def isHex (s : ByteArray) (n : Int) : Prop := n + 1 < (s.size : Int) ∧ byteAt s n = 48 ∧ byteAt s (n + 1) = 120
open Classical in
def numC (s : ByteArray) (a : Int) : Int × Int × Int := if isHex s (sgn s a) then numV s a 16 (sgn s a + 2) else numV s a 10 (sgn s a)
def num3 (x : Int × Int × Int) : Value := .tuple #[.int .i64 x.1, .int .i64 x.2.1, .int .i64 x.2.2]
theorem prefix_eq {s : ByteArray} {l : Int} (h0 : 0 ≤ l) (h1 : l + 1 < (s.size : Int)) : ((subS (subS s l (s.size : Int)) 0 2).toList == (⟨#[48, 120]⟩ : ByteArray).toList) = (decide (byteAt s l = 48) && decide (byteAt s (l + 1) = 120)) := by
 rw [beqS]
 have z1 := subS_size (s := s) h0 (show l ≤ (s.size : Int) by omega) (Int.le_refl _)
 have z2 := subS_size (s := subS s l (s.size : Int)) (l := 0) (h := 2) (by decide) (by decide) (by omega)
 have b0 : byteAt (subS (subS s l (s.size : Int)) 0 2) 0 = byteAt s l := by
  rw [byteAt_subS (by decide) (by decide) (by omega) (by decide) (by decide), byteAt_subS h0 (by omega) (Int.le_refl _) (by decide) (by omega)]
  congr 1; omega
 have b1 : byteAt (subS (subS s l (s.size : Int)) 0 2) 1 = byteAt s (l + 1) := by
  rw [byteAt_subS (by decide) (by decide) (by omega) (by decide) (by decide), byteAt_subS h0 (by omega) (Int.le_refl _) (by decide) (by omega)]
  congr 1
 have c0 : byteAt (⟨#[48, 120]⟩ : ByteArray) 0 = 48 := rfl
 have c1 : byteAt (⟨#[48, 120]⟩ : ByteArray) 1 = 120 := rfl
 have cs : (⟨#[48, 120]⟩ : ByteArray).size = 2 := rfl
 by_cases h : byteAt s l = 48 ∧ byteAt s (l + 1) = 120
 ·rw [h.1, h.2]
  have : subS (subS s l (s.size : Int)) 0 2 = (⟨#[48, 120]⟩ : ByteArray) := ext_bytes (by omega) fun i i0 i1 => by
   have : i = 0 ∨ i = 1 := by omega
   rcases this with rfl | rfl
   ·rw [b0, c0, h.1]
   ·rw [b1, c1, h.2]
  rw [this]
  simp
 ·have hne : subS (subS s l (s.size : Int)) 0 2 ≠ (⟨#[48, 120]⟩ : ByteArray) := fun e => h (by
   rw [e] at b0 b1
   exact ⟨by rw [← b0]; rfl, by rw [← b1]; rfl⟩)
  rw [decide_eq_false hne]
  by_cases g : byteAt s l = 48
  ·have : ¬ byteAt s (l + 1) = 120 := fun e => h ⟨g, e⟩
   simp [this]
  ·simp [g]
theorem puGo_nn {b cut : Int} (hb : b = 10 ∨ b = 16) {t : ByteArray} (hd : ∀ i, 0 ≤ i → i < (t.size : Int) → predB b (byteAt t i) = true) : ∀ (f : Nat) (i n : Int), 0 ≤ i → 0 ≤ n → 0 ≤ (puGo b cut t f i n).2
 | 0, i, n, h0, h1 => h1
 | f + 1, i, n, h0, h1 => by
  have hnb : 0 ≤ n * b := by rcases hb with rfl | rfl <;> omega
  unfold puGo
  split
  ·rename_i hi
   have := dg_range hb (hd i h0 hi)
   split
   ·exact h1
   ·split
    ·exact hnb
    ·exact puGo_nn hb hd f (i + 1) _ (by omega) (by omega)
  ·exact h1
def numT (s : ByteArray) (a : Int) (p : Int → Bool) (b cut n2 : Int) : Option Value :=
 cond (decide (0 ≤ n2) && decide (s.size ≤ 1000000)) (
  cond (IntKind.i64.wrap (runE p s n2 - n2) == 0) (
   some (.tuple #[(.int IntKind.i64 0), (.int IntKind.i64 0), (.int IntKind.i64 200)])) (
   cond (decide (0 ≤ n2) && decide (n2 ≤ IntKind.i64.wrap (n2 + IntKind.i64.wrap (runE p s n2 - n2))) && decide (IntKind.i64.wrap (n2 + IntKind.i64.wrap (runE p s n2 - n2)) ≤ (↑s.size : Int))) (
    cond (decide ((subS s n2 (IntKind.i64.wrap (n2 + IntKind.i64.wrap (runE p s n2 - n2)))).size ≤ 1000000) && decide (1 ≤ (subS s n2 (IntKind.i64.wrap (n2 + IntKind.i64.wrap (runE p s n2 - n2)))).size) && allB (predB b) (subS s n2 (IntKind.i64.wrap (n2 + IntKind.i64.wrap (runE p s n2 - n2))))) (
     cond ((puAll b cut (subS s n2 (IntKind.i64.wrap (n2 + IntKind.i64.wrap (runE p s n2 - n2))))).fst) (
      cond (decide ((puAll b cut (subS s n2 (IntKind.i64.wrap (n2 + IntKind.i64.wrap (runE p s n2 - n2))))).snd > 4294967296)) (
       some (.tuple #[(.int IntKind.i64 0), (.int IntKind.i64 0), (.int IntKind.i64 201)])) (
       cond (decide (0 ≤ a) && decide (a < (↑s.size : Int))) (
        cond (byteAt s a == 45) (
         some (.tuple #[(.int IntKind.i64 (IntKind.i64.wrap (0 - IntKind.i64.wrap (puAll b cut (subS s n2 (IntKind.i64.wrap (n2 + IntKind.i64.wrap (runE p s n2 - n2))))).snd))), (.int IntKind.i64 (IntKind.i64.wrap (IntKind.i64.wrap (n2 + IntKind.i64.wrap (runE p s n2 - n2)) - a))), (.int IntKind.i64 0)])) (
         some (.tuple #[(.int IntKind.i64 (IntKind.i64.wrap (puAll b cut (subS s n2 (IntKind.i64.wrap (n2 + IntKind.i64.wrap (runE p s n2 - n2))))).snd)), (.int IntKind.i64 (IntKind.i64.wrap (IntKind.i64.wrap (n2 + IntKind.i64.wrap (runE p s n2 - n2)) - a))), (.int IntKind.i64 0)]))) (
        none))) (
      some (.tuple #[(.int IntKind.i64 0), (.int IntKind.i64 0), (.int IntKind.i64 201)]))) (
     none)) (
    none))) (
  none)
theorem numT_eq {s : ByteArray} {a b n2 : Int} (hb : b = 10 ∨ b = 16) (h0 : 0 ≤ a) (h1 : a < (s.size : Int)) (hs : s.size ≤ 1000000) (h2 : a ≤ n2) (h3 : n2 ≤ (s.size : Int)) : numT s a (predB b) b (cutOf b) n2 = some (num3 (numV s a b n2)) := by
 obtain ⟨r1, r2⟩ := runE_le (p := predB b) h3
 have w1 : IntKind.i64.wrap (runE (predB b) s n2 - n2) = runE (predB b) s n2 - n2 := wrap_id _ (by omega)
 have e2 : n2 + (runE (predB b) s n2 - n2) = runE (predB b) s n2 := by omega
 have w2 : IntKind.i64.wrap (runE (predB b) s n2) = runE (predB b) s n2 := wrap_id _ (by omega)
 have w3 : IntKind.i64.wrap (runE (predB b) s n2 - a) = runE (predB b) s n2 - a := wrap_id _ (by omega)
 have c0 : 0 ≤ n2 := by omega
 unfold numT numV
 by_cases hz : runE (predB b) s n2 = n2
 ·have hzz : (IntKind.i64.wrap (runE (predB b) s n2 - n2) == 0) = true := by rw [w1, hz]; simp
  rw [hzz, if_pos hz]
  simp only [c0, hs, decide_true, Bool.and_self, cond_true]
  rfl
 ·have hzz : (IntKind.i64.wrap (runE (predB b) s n2 - n2) == 0) = false := by rw [w1]; simp; omega
  rw [hzz, if_neg hz]
  simp only [w1, e2, w2, w3]
  have zs := subS_size (s := s) c0 r1 r2
  have hall : allB (predB b) (subS s n2 (runE (predB b) s n2)) = true := by
   unfold allB
   rw [decide_eq_true_eq]
   refine runE_top _ 0 rfl (by omega) fun i i0 i1 => ?_
   rw [byteAt_subS c0 r1 r2 i0 (by omega)]
   exact runE_in _ n2 rfl h3 _ (by omega) (by omega)
  have z1 : (subS s n2 (runE (predB b) s n2)).size ≤ 1000000 := by omega
  have z2 : 1 ≤ (subS s n2 (runE (predB b) s n2)).size := by omega
  have hnn : 0 ≤ (puAll b (cutOf b) (subS s n2 (runE (predB b) s n2))).2 := puGo_nn hb (fun i i0 i1 => allB_spec hall i0 i1) _ _ _ (by omega) (by omega)
  simp only [c0, hs, r1, r2, z1, z2, hall, decide_true, Bool.and_self, cond_true, cond_false, h0, h1]
  generalize puAll b (cutOf b) (subS s n2 (runE (predB b) s n2)) = r at hnn
  obtain ⟨ok, v⟩ := r
  cases ok with
  | false => simp only [cond_false, Bool.false_eq_true, false_and, if_false]; rfl
  | true =>
   simp only [cond_true, true_and]
   by_cases hv : v > 4294967296
   ·rw [decide_eq_true hv, cond_true, if_neg (by omega)]
    rfl
   ·rw [decide_eq_false hv, cond_false, if_pos (by omega)]
    simp only at hnn
    have w4 : IntKind.i64.wrap v = v := wrap_id _ (by omega)
    have w5 : IntKind.i64.wrap (0 - v) = - v := by rw [wrap_id _ (by omega)]; omega
    rw [w4, w5]
    by_cases h45 : byteAt s a = 45
    ·rw [show (byteAt s a == 45) = true by rw [h45]; rfl, cond_true, if_pos h45]
     rfl
    ·rw [show (byteAt s a == 45) = false by simpa using h45, cond_false, if_neg h45]
     rfl
def numW (s : ByteArray) (a n1 : Int) : Option Value :=
 cond (decide (0 ≤ n1) && decide (n1 ≤ (s.size : Int)) && decide ((s.size : Int) ≤ (s.size : Int))) (cond (decide (((subS s n1 (s.size : Int)).size : Int) ≥ 2)) (cond (decide ((0 : Int) ≤ 0) && decide ((0 : Int) ≤ 2) && decide (2 ≤ ((subS s n1 (s.size : Int)).size : Int)))
       (cond ((subS (subS s n1 (s.size : Int)) 0 2).toList == (⟨#[48, 120]⟩ : ByteArray).toList) (numT s a hexB 16 1152921504606846976 (IntKind.i64.wrap (n1 + 2))) (numT s a digitB 10 1844674407370955162 n1)) none) (numT s a digitB 10 1844674407370955162 n1)) none
set_option maxRecDepth 100000 in
theorem r_num2 (gl : Gl) (u0 o0 : Nat) (s : ByteArray) (a : Int) : ev gl (H5 u0 o0) 50 [.string s, .int .i64 a] =
  cond (decide (0 ≤ a) && decide (a < (s.size : Int))) (cond (byteAt s a == 45) (numW s a (IntKind.i64.wrap (a + 1))) (numW s a a)) none := by kernel_rfl
theorem num_eq (gl : Gl) (u0 o0 : Nat) {s : ByteArray} {a : Int} (h0 : 0 ≤ a) (h1 : a < (s.size : Int)) (hs : s.size ≤ 1000000) : ev gl (H5 u0 o0) 50 [.string s, .int .i64 a] = some (num3 (numC s a)) := by
 rw [r_num2]
 have key : ∀ n1 : Int, 0 ≤ n1 → n1 ≤ (s.size : Int) → a ≤ n1 → sgn s a = n1 → numW s a n1 = some (num3 (numC s a)) := by
  intro n1 k0 k1 k2 hsg
  have zs := subS_size (s := s) k0 k1 (Int.le_refl _)
  have hdec : numT s a digitB 10 1844674407370955162 n1 = some (num3 (numV s a 10 n1)) := numT_eq (b := 10) (.inl rfl) h0 h1 hs k2 k1
  unfold numW numC
  simp only [k0, k1, Int.le_refl, decide_true, Bool.and_self, cond_true]
  rw [hsg]
  by_cases g : n1 + 1 < (s.size : Int)
  ·have g1 : ((subS s n1 (s.size : Int)).size : Int) ≥ 2 := by omega
   have g2 : (2 : Int) ≤ ((subS s n1 (s.size : Int)).size : Int) := g1
   have g3 : (0 : Int) ≤ 2 := by decide
   have w : IntKind.i64.wrap (n1 + 2) = n1 + 2 := wrap_id _ (by omega)
   have hhex : numT s a hexB 16 1152921504606846976 (n1 + 2) = some (num3 (numV s a 16 (n1 + 2))) := numT_eq (b := 16) (.inr rfl) h0 h1 hs (by omega) (by omega)
   simp only [g1, g2, g3, decide_true, Bool.and_self, cond_true, prefix_eq k0 g, w, hdec, hhex]
   by_cases hx : byteAt s n1 = 48 ∧ byteAt s (n1 + 1) = 120
   ·rw [if_pos ⟨g, hx.1, hx.2⟩]
    simp only [hx.1, hx.2, decide_true, Bool.and_self, cond_true]
   ·rw [if_neg fun q => hx ⟨q.2.1, q.2.2⟩]
    by_cases q : byteAt s n1 = 48
    ·have q2 : ¬ byteAt s (n1 + 1) = 120 := fun e => hx ⟨q, e⟩
     simp only [q, q2, decide_true, decide_false, Bool.and_false, cond_false]
    ·simp only [q, decide_false, Bool.false_and, cond_false]
  ·have g1 : ¬ ((subS s n1 (s.size : Int)).size : Int) ≥ 2 := by omega
   rw [if_neg fun q => g q.1]
   simp only [g1, decide_false, cond_false, hdec]
 rw [decide_eq_true h0, decide_eq_true h1, Bool.and_self, cond_true]
 by_cases h45 : byteAt s a = 45
 ·rw [show (byteAt s a == 45) = true by rw [h45]; rfl, cond_true]
  have w : IntKind.i64.wrap (a + 1) = a + 1 := wrap_id _ (by omega)
  rw [w]
  exact key (a + 1) (by omega) (by omega) (by omega) (if_pos h45)
 ·rw [show (byteAt s a == 45) = false by simpa using h45, cond_false]
  exact key a h0 (by omega) (by omega) (if_neg h45)
end Go.Proofs.YtgohbcbdgakjeaaGreatDoor
noncomputable section
namespace Go.Proofs.YtgohbcbdgakjeaaGreatDoor
open Go.Proofs.YtgohbcbdgakjeaaGreatDoor.Ev Go.RowKit
def afAt (ok : ByteArray → Bool) (v : ByteArray → Int) : AF := fun args _ => match args with
 | [.string s] => some (ok s, .tuple #[.int .i64 (v s), .nilIface])
 | _ => none
def atOk (s : ByteArray) : Bool := decide (s.size ≤ 18) && (Lib.atoi s.data.toList).isSome
def atV (s : ByteArray) : Int := (Lib.atoi s.data.toList).getD 0
theorem fnAtoi {gl : Gl} (hgl : ∀ g k v, gl g k = some v → g < 1000 ∧ lowV 8 v = true) : FnOK Tryz.prog gl 83 (afAt atOk atV) := FnOK.flat hgl tglob fun args σ v h => by
 unfold afAt at h
 split at h
 ·rename_i s
  simp only [Option.some.injEq, Prod.mk.injEq] at h
  obtain ⟨h1, rfl⟩ := h
  simp only [atOk, Bool.and_eq_true, decide_eq_true_eq] at h1
  obtain ⟨n, hn⟩ := Option.isSome_iff_exists.1 h1.2
  refine ⟨rfl, rfl, fun w _ => Calls.mono (Tryz.strconv_Atoi s n h1.1 hn w) ?_⟩
  rintro e w' ⟨rfl, t, rfl⟩
  refine ⟨?_, Lib.bytesWorld_below w _ t⟩
  unfold atV
  rw [hn]
  rfl
 ·cases h
def H6 (ok : ByteArray → Bool) (v : ByteArray → Int) : Hs := hsOf ((83, afAt ok v) :: afs1) [] [(45, [(0, ⟨runLive, runOut, runH⟩)])]
set_option maxRecDepth 100000 in
theorem r_reg (gl : Gl) (ok : ByteArray → Bool) (v : ByteArray → Int) (s : ByteArray) : ev gl (H6 ok v) 48 [.string s] =
 cond (decide ((↑s.size : Int) < 2)) (
 some (.int .i64 (-1))) (
 cond (decide ((↑s.size : Int) > 3)) (
 some (.int .i64 (-1))) (
 cond (decide (0 < (↑s.size : Int))) (
 cond (byteAt s 0 != 114) (
 some (.int .i64 (-1))) (
 cond (decide (s.size ≤ 1000000)) (
 cond (IntKind.i64.wrap (runE digitB s 1 - 1) != IntKind.i64.wrap ((↑s.size : Int) - 1)) (
 some (.int .i64 (-1))) (
 cond ((↑s.size : Int) == 3) (
 cond (decide (1 < (↑s.size : Int))) (
 cond (byteAt s 1 == 48) (
 some (.int .i64 (-1))) (
 cond (decide (1 ≤ (↑s.size : Int)) && (decide ((↑s.size : Int) ≤ (↑s.size : Int)))) (
 cond (ok (subS s 1 (↑s.size : Int))) (
 cond (decide (v (subS s 1 (↑s.size : Int)) ≥ 16)) (
 some (.int .i64 (-1))) (
 some (.int .i64 (v (subS s 1 (↑s.size : Int)))))) (
 none)) (
 none))) (
 none)) (
 cond (decide (1 ≤ (↑s.size : Int)) && (decide ((↑s.size : Int) ≤ (↑s.size : Int)))) (
 cond (ok (subS s 1 (↑s.size : Int))) (
 cond (decide (v (subS s 1 (↑s.size : Int)) ≥ 16)) (
 some (.int .i64 (-1))) (
 some (.int .i64 (v (subS s 1 (↑s.size : Int)))))) (
 none)) (
 none)))) (
 none))) (
 none))) := by kernel_rfl
set_option maxRecDepth 100000 in
theorem r_Reg (gl : Gl) (s : ByteArray) : ev gl H0 58 [.string s] =
 cond (s.toList == ((⟨#[114]⟩ : ByteArray) ++ { data := #[UInt8.ofNat 48] }).toList) (
 some (.int .i64 0)) (
 cond (s.toList == ((⟨#[114]⟩ : ByteArray) ++ { data := #[UInt8.ofNat 49] }).toList) (
 some (.int .i64 1)) (
 cond (s.toList == ((⟨#[114]⟩ : ByteArray) ++ { data := #[UInt8.ofNat 50] }).toList) (
 some (.int .i64 2)) (
 cond (s.toList == ((⟨#[114]⟩ : ByteArray) ++ { data := #[UInt8.ofNat 51] }).toList) (
 some (.int .i64 3)) (
 cond (s.toList == ((⟨#[114]⟩ : ByteArray) ++ { data := #[UInt8.ofNat 52] }).toList) (
 some (.int .i64 4)) (
 cond (s.toList == ((⟨#[114]⟩ : ByteArray) ++ { data := #[UInt8.ofNat 53] }).toList) (
 some (.int .i64 5)) (
 cond (s.toList == ((⟨#[114]⟩ : ByteArray) ++ { data := #[UInt8.ofNat 54] }).toList) (
 some (.int .i64 6)) (
 cond (s.toList == ((⟨#[114]⟩ : ByteArray) ++ { data := #[UInt8.ofNat 55] }).toList) (
 some (.int .i64 7)) (
 cond (s.toList == ((⟨#[114]⟩ : ByteArray) ++ { data := #[UInt8.ofNat 56] }).toList) (
 some (.int .i64 8)) (
 cond (s.toList == ((⟨#[114]⟩ : ByteArray) ++ { data := #[UInt8.ofNat 57] }).toList) (
 some (.int .i64 9)) (
 cond (s.toList == ((⟨#[114]⟩ : ByteArray) ++ ({ data := #[UInt8.ofNat 49] } ++ { data := #[UInt8.ofNat 48] })).toList) (
 some (.int .i64 10)) (
 cond (s.toList == ((⟨#[114]⟩ : ByteArray) ++ ({ data := #[UInt8.ofNat 49] } ++ { data := #[UInt8.ofNat 49] })).toList) (
 some (.int .i64 11)) (
 cond (s.toList == ((⟨#[114]⟩ : ByteArray) ++ ({ data := #[UInt8.ofNat 49] } ++ { data := #[UInt8.ofNat 50] })).toList) (
 some (.int .i64 12)) (
 cond (s.toList == ((⟨#[114]⟩ : ByteArray) ++ ({ data := #[UInt8.ofNat 49] } ++ { data := #[UInt8.ofNat 51] })).toList) (
 some (.int .i64 13)) (
 cond (s.toList == ((⟨#[114]⟩ : ByteArray) ++ ({ data := #[UInt8.ofNat 49] } ++ { data := #[UInt8.ofNat 52] })).toList) (
 some (.int .i64 14)) (
 cond (s.toList == ((⟨#[114]⟩ : ByteArray) ++ ({ data := #[UInt8.ofNat 49] } ++ { data := #[UInt8.ofNat 53] })).toList) (
 some (.int .i64 15)) (
 some (.int .i64 (-1)))))))))))))))))) := by kernel_rfl
def regC (s : ByteArray) : Int :=
 if s.size = 2 ∧ byteAt s 0 = 114 ∧ 48 ≤ byteAt s 1 ∧ byteAt s 1 ≤ 57 then byteAt s 1 - 48 else
  if s.size = 3 ∧ byteAt s 0 = 114 ∧ byteAt s 1 = 49 ∧ 48 ≤ byteAt s 2 ∧ byteAt s 2 ≤ 53 then byteAt s 2 - 38 else -1
theorem eq2 (s : ByteArray) (x : UInt8) : (s.toList == ((⟨#[114]⟩ : ByteArray) ++ (⟨#[x]⟩ : ByteArray)).toList) = decide (s.size = 2 ∧ byteAt s 0 = 114 ∧ byteAt s 1 = x.toNat) := by
 rw [beqS]
 have e : ((⟨#[114]⟩ : ByteArray) ++ (⟨#[x]⟩ : ByteArray)) = (⟨#[114, x]⟩ : ByteArray) := rfl
 rw [e]
 congr 1
 refine propext ⟨fun h => ?_, fun h => ?_⟩
 ·subst h; exact ⟨rfl, rfl, rfl⟩
 ·refine ext_bytes h.1 fun i i0 i1 => ?_
  have : i = 0 ∨ i = 1 := by omega
  rcases this with rfl | rfl
  ·exact h.2.1
  ·exact h.2.2
theorem eq3 (s : ByteArray) (x y : UInt8) : (s.toList == ((⟨#[114]⟩ : ByteArray) ++ ((⟨#[x]⟩ : ByteArray) ++ (⟨#[y]⟩ : ByteArray))).toList) = decide (s.size = 3 ∧ byteAt s 0 = 114 ∧ byteAt s 1 = x.toNat ∧ byteAt s 2 = y.toNat) := by
 rw [beqS]
 have e : ((⟨#[114]⟩ : ByteArray) ++ ((⟨#[x]⟩ : ByteArray) ++ (⟨#[y]⟩ : ByteArray))) = (⟨#[114, x, y]⟩ : ByteArray) := rfl
 rw [e]
 congr 1
 refine propext ⟨fun h => ?_, fun h => ?_⟩
 ·subst h; exact ⟨rfl, rfl, rfl, rfl⟩
 ·refine ext_bytes h.1 fun i i0 i1 => ?_
  have : i = 0 ∨ i = 1 ∨ i = 2 := by omega
  rcases this with rfl | rfl | rfl
  ·exact h.2.1
  ·exact h.2.2.1
  ·exact h.2.2.2
theorem Reg_eq (gl : Gl) (s : ByteArray) : ev gl H0 58 [.string s] = some (.int .i64 (regC s)) := by
 rw [r_Reg]
 simp only [eq2, eq3, Bool.cond_decide]
 unfold regC
 generalize byteAt s 0 = b0
 generalize byteAt s 1 = b1
 generalize byteAt s 2 = b2
 generalize s.size = n
 have c : ∀ k : Nat, k < 58 → (UInt8.ofNat k).toNat = k := fun k hk => by
  simp only [UInt8.toNat_ofNat']
  omega
 simp only [c 48 (by decide), c 49 (by decide), c 50 (by decide), c 51 (by decide), c 52 (by decide), c 53 (by decide), c 54 (by decide), c 55 (by decide), c 56 (by decide), c 57 (by decide)]
 by_cases A : n = 2 ∧ b0 = 114 ∧ 48 ≤ b1 ∧ b1 ≤ 57
 ·rw [if_pos A]
  obtain ⟨rfl, rfl, h1, h2⟩ := A
  have : b1 = 48 ∨ b1 = 49 ∨ b1 = 50 ∨ b1 = 51 ∨ b1 = 52 ∨ b1 = 53 ∨ b1 = 54 ∨ b1 = 55 ∨ b1 = 56 ∨ b1 = 57 := by omega
  rcases this with rfl | rfl | rfl | rfl | rfl | rfl | rfl | rfl | rfl | rfl <;> simp
 ·rw [if_neg A]
  by_cases B : n = 3 ∧ b0 = 114 ∧ b1 = 49 ∧ 48 ≤ b2 ∧ b2 ≤ 53
  ·rw [if_pos B]
   obtain ⟨rfl, rfl, rfl, h1, h2⟩ := B
   have : b2 = 48 ∨ b2 = 49 ∨ b2 = 50 ∨ b2 = 51 ∨ b2 = 52 ∨ b2 = 53 := by omega
   rcases this with rfl | rfl | rfl | rfl | rfl | rfl <;> simp
  ·rw [if_neg B]
   iterate 16 rw [if_neg (by omega)]
theorem atoi_one {t : ByteArray} (h : t.size = 1) (hd : digitB (byteAt t 0) = true) : atOk t = true ∧ atV t = byteAt t 0 - 48 := by
 have hl : t.data.toList.length = 1 := by rw [data_len, h]
 obtain ⟨x, hx⟩ : ∃ x, t.data.toList = [x] := List.length_eq_one_iff.1 hl
 have hb : byteAt t 0 = x.toNat := by
  unfold byteAt
  rw [hx]
  rfl
 have hd := digitB_iff.1 hd
 rw [hb] at hd
 have h45 : (x == 45) = false := by
  rw [beq_eq_false_iff_ne]
  rintro rfl
  exact absurd hd.1 (by decide)
 have h43 : (x == 43) = false := by
  rw [beq_eq_false_iff_ne]
  rintro rfl
  exact absurd hd.1 (by decide)
 have hv : Lib.digitVal x = some (x.toNat - 48) := if_pos ⟨by omega, by omega⟩
 have e : Lib.atoi t.data.toList = some (((x.toNat - 48 : Nat) : Int)) := by
  rw [hx]
  simp [Lib.atoi, h45, h43, Lib.decNat, Lib.decFrom, hv]
 unfold atOk atV
 rw [e, hb, h]
 exact ⟨rfl, by simp only [Option.getD_some]; omega⟩
theorem atoi_two {t : ByteArray} (h : t.size = 2) (hd : digitB (byteAt t 0) = true) (hd' : digitB (byteAt t 1) = true) : atOk t = true ∧ atV t = (byteAt t 0 - 48) * 10 + (byteAt t 1 - 48) := by
 have hl : t.data.toList.length = 2 := by rw [data_len, h]
 obtain ⟨x, y, hx⟩ : ∃ x y, t.data.toList = [x, y] := by
  match hq : t.data.toList, hl with
  | [x, y], _ => exact ⟨x, y, rfl⟩
 have hb : byteAt t 0 = x.toNat := by
  unfold byteAt
  rw [hx]
  rfl
 have hc : byteAt t 1 = y.toNat := by
  unfold byteAt
  rw [hx]
  rfl
 have hd := digitB_iff.1 hd
 have hd' := digitB_iff.1 hd'
 rw [hb] at hd
 rw [hc] at hd'
 have h45 : (x == 45) = false := by
  rw [beq_eq_false_iff_ne]
  rintro rfl
  exact absurd hd.1 (by decide)
 have h43 : (x == 43) = false := by
  rw [beq_eq_false_iff_ne]
  rintro rfl
  exact absurd hd.1 (by decide)
 have hv : Lib.digitVal x = some (x.toNat - 48) := if_pos ⟨by omega, by omega⟩
 have hw : Lib.digitVal y = some (y.toNat - 48) := if_pos ⟨by omega, by omega⟩
 have e : Lib.atoi t.data.toList = some ((((x.toNat - 48) * 10 + (y.toNat - 48) : Nat) : Int)) := by
  rw [hx]
  simp [Lib.atoi, h45, h43, Lib.decNat, Lib.decFrom, hv, hw]
 unfold atOk atV
 rw [e, hb, hc, h]
 exact ⟨rfl, by simp only [Option.getD_some]; omega⟩
theorem reg_eq (gl : Gl) (s : ByteArray) (hs : s.size ≤ 1000000) : ev gl (H6 atOk atV) 48 [.string s] = some (.int .i64 (regC s)) := by
 rw [r_reg]
 unfold regC
 by_cases h2 : (s.size : Int) < 2
 ·rw [decide_eq_true h2, cond_true, if_neg (by omega), if_neg (by omega)]
 by_cases h3 : (s.size : Int) > 3
 ·rw [decide_eq_false h2, decide_eq_true h3, cond_false, cond_true, if_neg (by omega), if_neg (by omega)]
 have z : (0 : Int) < (s.size : Int) := by omega
 have z1 : (1 : Int) < (s.size : Int) := by omega
 have z2 : (1 : Int) ≤ (s.size : Int) := by omega
 have zz : (0 : Int) ≤ 1 := by decide
 have n0 : decide ((0 : Nat) ≤ 0) = true := rfl
 have n1 : decide ((0 : Nat) ≤ 1) = true := rfl
 simp only [h2, h3, z, z1, z2, n0, n1, hs, Int.le_refl, decide_true, decide_false, cond_true, cond_false, Bool.and_self]
 by_cases h0 : byteAt s 0 = 114
 case neg =>
  rw [show (byteAt s 0 != 114) = true by simpa using h0, cond_true, if_neg (by simp [h0]), if_neg (by simp [h0])]
 rw [show (byteAt s 0 != 114) = false by simp [h0], cond_false]
 obtain ⟨r1, r2⟩ := runE_le (p := digitB) (s := s) z2
 have w1 : IntKind.i64.wrap (runE digitB s 1 - 1) = runE digitB s 1 - 1 := wrap_id _ (by omega)
 have w2 : IntKind.i64.wrap ((s.size : Int) - 1) = (s.size : Int) - 1 := wrap_id _ (by omega)
 rw [w1, w2]
 by_cases hr : runE digitB s 1 = (s.size : Int)
 case neg =>
  rw [show (runE digitB s 1 - 1 != (s.size : Int) - 1) = true by simp; omega, cond_true]
  have hst := runE_stop (p := digitB) (s := s) _ 1 rfl z2 (by omega)
  have hd : ¬ ((∀ i : Int, 1 ≤ i → i < (s.size : Int) → digitB (byteAt s i) = true)) := fun hall => by
   rw [hall _ r1 (by omega)] at hst
   cases hst
  rw [if_neg, if_neg]
  ·intro q
   refine hd fun i i1 i2 => ?_
   have : i = 1 ∨ i = 2 := by omega
   rcases this with rfl | rfl
   ·rw [q.2.2.1]; rfl
   ·exact digitB_iff.2 ⟨q.2.2.2.1, by omega⟩
  ·intro q
   refine hd fun i i1 i2 => ?_
   have : i = 1 := by omega
   subst this
   exact digitB_iff.2 q.2.2
 rw [show (runE digitB s 1 - 1 != (s.size : Int) - 1) = false by simp; omega, cond_false]
 have hall := runE_all (p := digitB) (s := s) _ 1 rfl z2 hr
 have zs := subS_size (s := s) zz z2 (Int.le_refl _)
 have b0 : byteAt (subS s 1 (s.size : Int)) 0 = byteAt s 1 := by rw [byteAt_subS zz z2 (Int.le_refl _) (by decide) (by omega)]; rfl
 have d1 := digitB_iff.1 (hall 1 (by omega) z1)
 rcases (by omega : s.size = 2 ∨ s.size = 3) with h | h
 ·obtain ⟨a1, a2⟩ := atoi_one (t := subS s 1 (s.size : Int)) (by omega) (by rw [b0]; exact hall 1 (by omega) z1)
  rw [show ((s.size : Int) == 3) = false by simp; omega, cond_false, a1, cond_true, a2, b0, decide_eq_false (show ¬ (byteAt s 1 - 48 ≥ 16) by omega), cond_false, if_pos ⟨h, h0, d1.1, d1.2⟩]
 ·have b1 : byteAt (subS s 1 (s.size : Int)) 1 = byteAt s 2 := by rw [byteAt_subS zz z2 (Int.le_refl _) (by decide) (by omega)]; rfl
  have d2 := digitB_iff.1 (hall 2 (by omega) (by omega))
  obtain ⟨a1, a2⟩ := atoi_two (t := subS s 1 (s.size : Int)) (by omega) (by rw [b0]; exact hall 1 (by omega) z1) (by rw [b1]; exact hall 2 (by omega) (by omega))
  rw [show ((s.size : Int) == 3) = true by simp; omega, cond_true, a1, a2, b0, b1]
  rw [if_neg (by omega)]
  by_cases h48 : byteAt s 1 = 48
  ·rw [show (byteAt s 1 == 48) = true by rw [h48]; rfl, cond_true, if_neg (by omega)]
  ·rw [show (byteAt s 1 == 48) = false by simpa using h48, cond_false, cond_true]
   by_cases hv : (byteAt s 1 - 48) * 10 + (byteAt s 2 - 48) ≥ 16
   ·rw [decide_eq_true hv, cond_true, if_neg (by omega)]
   ·rw [decide_eq_false hv, cond_false, if_pos ⟨h, h0, by omega, by omega, by omega⟩]
    refine congrArg some (congrArg (Value.int .i64) ?_)
    omega
end Go.Proofs.YtgohbcbdgakjeaaGreatDoor
noncomputable section
namespace Go.Proofs.YtgohbcbdgakjeaaGreatDoor
open Go.Proofs.YtgohbcbdgakjeaaGreatDoor.Ev Go.RowKit
def afReg (rg : ByteArray → Int) : AF := fun args _ => match args with
 | [.string s] => some (decide (s.size ≤ 1000000), .int .i64 (rg s))
 | _ => none
def afNum (nm : ByteArray → Int → Int × Int × Int) : AF := fun args _ => match args with
 | [.string s, .int .i64 a] => some (decide (0 ≤ a) && decide (a < (s.size : Int)) && decide (s.size ≤ 1000000), num3 (nm s a))
 | _ => none
def H7 (rg : ByteArray → Int) (nm : ByteArray → Int → Int × Int × Int) : Hs := hsOf ((48, afReg rg) :: (50, afNum nm) :: afs1) [] [(45, [(0, ⟨runLive, runOut, runH⟩)])]
structure Tok where
 kind : Int
 text : ByteArray
 n : Int
 at_ : Int
def tokC (t : Tok) : List Value := [.int .u8 t.kind, .string t.text, .int .i64 t.n, .int .i64 t.at_]
def tlLive : List Nat := [5, 6, 1, 7, 2, 3, 4]
def tlOut : List Nat := [5, 2, 3, 4]
def boxes (s : ByteArray) (a : Int) : List (Option LObj) := [some (.row ⟨[.int .i64 a], 3, (0, 0), 0, false, false⟩), some (.row ⟨[.string s], 9, (0, 0), 0, false, false⟩)]
def tokRow (cs : List Value) : Option LObj := some (.row ⟨cs, 59, (0, 0), 4, false, false⟩)
def tlV (o : Value) : List Value := [o, .pointer (some ⟨1000, 0, none⟩), .pointer (some ⟨1001, 0, none⟩), .func (.func 44) #[] #[.pointer (some ⟨1001, 0, none⟩), .pointer (some ⟨1000, 0, none⟩)], .slice none 0 0, .int .i64 0, .int .i64 0]
def tlSt0 (s : ByteArray) (a : Int) : LSt := (tlV (.slice none 0 0), boxes s a)
def tlSt1 (s : ByteArray) (a : Int) (cs : List Value) (n : Nat) : LSt := (tlV (.slice (some ⟨1002, 0, none⟩) n n), boxes s a ++ [tokRow cs])
set_option maxRecDepth 100000 in
theorem r_tl0 (gl : Gl) (rg : ByteArray → Int) (nm : ByteArray → Int → Int × Int × Int) (s : ByteArray) (a : Int) : roundK noSy Tryz.prog gl (fun _ => none) (H7 rg nm) 100 40 40 29 0 tlLive (tlSt0 s a) (rndK Tryz.prog 1002 tlLive tlOut) =
 let z1 := a + IntKind.i64.wrap (runE partB s a - a)
 let z3 := decide (0 ≤ a) && (decide (a ≤ IntKind.i64.wrap z1)) && (decide (IntKind.i64.wrap z1 ≤ (↑s.size : Int)))
 let z4 : Option (LSt ⊕ Out) := some (.inr (.exit 0, ([(.slice none 0 0), (.slice none 0 0), (.int .i64 0), (.int .i64 0)], [some (.row ⟨[(.int .i64 (a))], 3, (0, 0), 0, false, false⟩), some (.row ⟨[(.string (s))], 9, (0, 0), 0, false, false⟩)])))
 let z6 := (⟨#[]⟩ : ByteArray)
 let z7 := decide (a < (↑s.size : Int))
 let z0 : Option (LSt ⊕ Out) := cond (decide (0 ≤ a) && z7 && (decide (s.size ≤ 1000000))) (
 cond ((nm s a).snd.snd != 0) (
 qs [a] (
 some (.inr (.ret, ([(.slice none 0 0), (.slice none 0 0), (.int .i64 (a)), (.int .i64 ((nm s a).snd.snd))], [some (.row ⟨[(.int .i64 (a))], 3, (0, 0), 0, false, false⟩), some (.row ⟨[(.string (s))], 9, (0, 0), 0, false, false⟩)]))))) (
 some (.inl ([(.slice (some ⟨1002, 0, none⟩) 1 1), (.pointer (some ⟨1000, 0, none⟩)), (.pointer (some ⟨1001, 0, none⟩)), (.func (Fn.func 44) #[] #[(.pointer (some ⟨1001, 0, none⟩)), (.pointer (some ⟨1000, 0, none⟩))]), (.slice none 0 0), (.int .i64 0), (.int .i64 0)], [some (.row ⟨[(.int .i64 (IntKind.i64.wrap (a + (nm s a).snd.fst)))], 3, (0, 0), 0, false, false⟩), some (.row ⟨[(.string (s))], 9, (0, 0), 0, false, false⟩), some (.row ⟨[(.int .u8 3), (.string z6), (.int .i64 ((nm s a).fst)), (.int .i64 (a))], 59, (0, 0), 4, false, false⟩)])))) (
 none)
 let z8 := IntKind.i64.wrap (a + 1)
 let z2 : Option (LSt ⊕ Out) := some (.inl ([(.slice none 0 0), (.pointer (some ⟨1000, 0, none⟩)), (.pointer (some ⟨1001, 0, none⟩)), (.func (Fn.func 44) #[] #[(.pointer (some ⟨1001, 0, none⟩)), (.pointer (some ⟨1000, 0, none⟩))]), (.slice none 0 0), (.int .i64 0), (.int .i64 0)], [some (.row ⟨[(.int .i64 z8)], 3, (0, 0), 0, false, false⟩), some (.row ⟨[(.string (s))], 9, (0, 0), 0, false, false⟩)]))
 let z9 := IntKind.i64.wrap z1
 let z5 := subS s a z9
 cond z7 (
 cond (decide (0 ≤ a) && z7) (
 cond (byteAt s a == 35) z4 (
 cond (byteAt s a == 32) z2 (
 cond (byteAt s a == 9) z2 (
 cond (byteAt s a == 44) (
 some (.inl ([(.slice (some ⟨1002, 0, none⟩) 1 1), (.pointer (some ⟨1000, 0, none⟩)), (.pointer (some ⟨1001, 0, none⟩)), (.func (Fn.func 44) #[] #[(.pointer (some ⟨1001, 0, none⟩)), (.pointer (some ⟨1000, 0, none⟩))]), (.slice none 0 0), (.int .i64 0), (.int .i64 0)], [some (.row ⟨[(.int .i64 z8)], 3, (0, 0), 0, false, false⟩), some (.row ⟨[(.string (s))], 9, (0, 0), 0, false, false⟩), some (.row ⟨[(.int .u8 4), (.string z6), (.int .i64 0), (.int .i64 (a))], 59, (0, 0), 4, false, false⟩)]))) (
 cond (byteAt s a == 58) (
 some (.inl ([(.slice (some ⟨1002, 0, none⟩) 1 1), (.pointer (some ⟨1000, 0, none⟩)), (.pointer (some ⟨1001, 0, none⟩)), (.func (Fn.func 44) #[] #[(.pointer (some ⟨1001, 0, none⟩)), (.pointer (some ⟨1000, 0, none⟩))]), (.slice none 0 0), (.int .i64 0), (.int .i64 0)], [some (.row ⟨[(.int .i64 z8)], 3, (0, 0), 0, false, false⟩), some (.row ⟨[(.string (s))], 9, (0, 0), 0, false, false⟩), some (.row ⟨[(.int .u8 5), (.string z6), (.int .i64 0), (.int .i64 (a))], 59, (0, 0), 4, false, false⟩)]))) (
 cond (letterB (byteAt s a)) (
 cond (decide (0 ≤ a) && (decide (s.size ≤ 1000000))) (
 cond z3 (
 cond z3 (
 cond (veq 8 (.string z5) (.string z5)) (
 cond z3 (
 cond (veq 8 (.string z5) (.string z5)) (
 qs [a, a, a, a] (
 cond (veq 8 (.string s) (.string s)) (
 cond (veq 8 (.string s) (.string s)) (
 cond (decide (z5.size ≤ 1000000)) (
 cond (decide (rg z5 ≥ 0)) (
 some (.inl ([(.slice (some ⟨1002, 0, none⟩) 1 1), (.pointer (some ⟨1000, 0, none⟩)), (.pointer (some ⟨1001, 0, none⟩)), (.func (Fn.func 44) #[] #[(.pointer (some ⟨1001, 0, none⟩)), (.pointer (some ⟨1000, 0, none⟩))]), (.slice none 0 0), (.int .i64 0), (.int .i64 0)], [some (.row ⟨[(.int .i64 z9)], 3, (0, 0), 0, false, false⟩), some (.row ⟨[(.string (s))], 9, (0, 0), 0, false, false⟩), some (.row ⟨[(.int .u8 2), (.string z6), (.int .i64 (rg z5)), (.int .i64 (a))], 59, (0, 0), 4, false, false⟩)]))) (
 some (.inl ([(.slice (some ⟨1002, 0, none⟩) 1 1), (.pointer (some ⟨1000, 0, none⟩)), (.pointer (some ⟨1001, 0, none⟩)), (.func (Fn.func 44) #[] #[(.pointer (some ⟨1001, 0, none⟩)), (.pointer (some ⟨1000, 0, none⟩))]), (.slice none 0 0), (.int .i64 0), (.int .i64 0)], [some (.row ⟨[(.int .i64 z9)], 3, (0, 0), 0, false, false⟩), some (.row ⟨[(.string (s))], 9, (0, 0), 0, false, false⟩), some (.row ⟨[(.int .u8 1), (.string z5), (.int .i64 0), (.int .i64 (a))], 59, (0, 0), 4, false, false⟩)])))) (
 none)) (
 none)) (
 none))) (
 none)) (
 none)) (
 none)) (
 none)) (
 none)) (
 none)) (
 cond (byteAt s a == 45) z0 (
 cond (digitB (byteAt s a)) z0 (
 qs [a] (
 some (.inr (.ret, ([(.slice none 0 0), (.slice none 0 0), (.int .i64 (a)), (.int .i64 200)], [some (.row ⟨[(.int .i64 (a))], 3, (0, 0), 0, false, false⟩), some (.row ⟨[(.string (s))], 9, (0, 0), 0, false, false⟩)]))))))))))))) (
 none)) z4 := by kernel_rfl
set_option maxRecDepth 100000 in
theorem r_tl1 (gl : Gl) (rg : ByteArray → Int) (nm : ByteArray → Int → Int × Int × Int) (s : ByteArray) (a : Int) (cs : List Value) (n : Nat) : roundK noSy Tryz.prog gl (fun _ => none) (H7 rg nm) 100 40 40 29 0 tlLive (tlSt1 s a cs n) (rndK Tryz.prog 1002 tlLive tlOut) =
 let z1 := a + IntKind.i64.wrap (runE partB s a - a)
 let z5 := ((n + 1) * 40).ble 140737488355328 && ((n + 1).ble 1099511627776)
 let z6 := decide (0 ≤ a) && (decide (a ≤ IntKind.i64.wrap z1)) && (decide (IntKind.i64.wrap z1 ≤ (↑s.size : Int)))
 let z7 := (⟨#[]⟩ : ByteArray)
 let z8 := (n * 4).beq cs.length
 let z9 := cs ++ [(.int .u8 3), (.string z7), (.int .i64 ((nm s a).fst)), (.int .i64 (a))]
 let z10 := List.all cs (af 8) && true
 let z3 : Option (LSt ⊕ Out) := cond z10 (
 some (.inr (.exit 0, ([(.slice (some ⟨1002, 0, none⟩) (n) (n)), (.slice none 0 0), (.int .i64 0), (.int .i64 0)], [some (.row ⟨[(.int .i64 (a))], 3, (0, 0), 0, false, false⟩), some (.row ⟨[(.string (s))], 9, (0, 0), 0, false, false⟩), some (.row ⟨cs, 59, (0, 0), 4, false, false⟩)])))) (
 none)
 let z12 := cs ++ [(.int .u8 4), (.string z7), (.int .i64 0), (.int .i64 (a))]
 let z13 := cs ++ [(.int .u8 5), (.string z7), (.int .i64 0), (.int .i64 (a))]
 let z15 := decide (a < (↑s.size : Int))
 let z0 : Option (LSt ⊕ Out) := cond (decide (0 ≤ a) && z15 && (decide (s.size ≤ 1000000))) (
 cond ((nm s a).snd.snd != 0) (
 qs [a] (
 cond z10 (
 some (.inr (.ret, ([(.slice (some ⟨1002, 0, none⟩) (n) (n)), (.slice none 0 0), (.int .i64 (a)), (.int .i64 ((nm s a).snd.snd))], [some (.row ⟨[(.int .i64 (a))], 3, (0, 0), 0, false, false⟩), some (.row ⟨[(.string (s))], 9, (0, 0), 0, false, false⟩), some (.row ⟨cs, 59, (0, 0), 4, false, false⟩)])))) (
 none))) (
 cond (n.ble n) (
 cond z5 (
 cond z8 (
 cond (List.all z9 (af 8) && true) (
 some (.inl ([(.slice (some ⟨1002, 0, none⟩) (n + 1) (n + 1)), (.pointer (some ⟨1000, 0, none⟩)), (.pointer (some ⟨1001, 0, none⟩)), (.func (Fn.func 44) #[] #[(.pointer (some ⟨1001, 0, none⟩)), (.pointer (some ⟨1000, 0, none⟩))]), (.slice none 0 0), (.int .i64 0), (.int .i64 0)], [some (.row ⟨[(.int .i64 (IntKind.i64.wrap (a + (nm s a).snd.fst)))], 3, (0, 0), 0, false, false⟩), some (.row ⟨[(.string (s))], 9, (0, 0), 0, false, false⟩), some (.row ⟨z9, 59, (0, 0), 4, false, false⟩)]))) (
 none)) (
 none)) (
 none)) (
 none))) (
 none)
 let z16 := IntKind.i64.wrap (a + 1)
 let z2 : Option (LSt ⊕ Out) := cond z10 (
 some (.inl ([(.slice (some ⟨1002, 0, none⟩) (n) (n)), (.pointer (some ⟨1000, 0, none⟩)), (.pointer (some ⟨1001, 0, none⟩)), (.func (Fn.func 44) #[] #[(.pointer (some ⟨1001, 0, none⟩)), (.pointer (some ⟨1000, 0, none⟩))]), (.slice none 0 0), (.int .i64 0), (.int .i64 0)], [some (.row ⟨[(.int .i64 z16)], 3, (0, 0), 0, false, false⟩), some (.row ⟨[(.string (s))], 9, (0, 0), 0, false, false⟩), some (.row ⟨cs, 59, (0, 0), 4, false, false⟩)]))) (
 none)
 let z17 := IntKind.i64.wrap z1
 let z4 := subS s a z17
 let z11 := cs ++ [(.int .u8 2), (.string z7), (.int .i64 (rg z4)), (.int .i64 (a))]
 let z14 := cs ++ [(.int .u8 1), (.string z4), (.int .i64 0), (.int .i64 (a))]
 cond z15 (
 cond (decide (0 ≤ a) && z15) (
 cond (byteAt s a == 35) z3 (
 cond (byteAt s a == 32) z2 (
 cond (byteAt s a == 9) z2 (
 cond (byteAt s a == 44) (
 cond (n.ble n) (
 cond z5 (
 cond z8 (
 cond (List.all z12 (af 8) && true) (
 some (.inl ([(.slice (some ⟨1002, 0, none⟩) (n + 1) (n + 1)), (.pointer (some ⟨1000, 0, none⟩)), (.pointer (some ⟨1001, 0, none⟩)), (.func (Fn.func 44) #[] #[(.pointer (some ⟨1001, 0, none⟩)), (.pointer (some ⟨1000, 0, none⟩))]), (.slice none 0 0), (.int .i64 0), (.int .i64 0)], [some (.row ⟨[(.int .i64 z16)], 3, (0, 0), 0, false, false⟩), some (.row ⟨[(.string (s))], 9, (0, 0), 0, false, false⟩), some (.row ⟨z12, 59, (0, 0), 4, false, false⟩)]))) (
 none)) (
 none)) (
 none)) (
 none)) (
 cond (byteAt s a == 58) (
 cond (n.ble n) (
 cond z5 (
 cond z8 (
 cond (List.all z13 (af 8) && true) (
 some (.inl ([(.slice (some ⟨1002, 0, none⟩) (n + 1) (n + 1)), (.pointer (some ⟨1000, 0, none⟩)), (.pointer (some ⟨1001, 0, none⟩)), (.func (Fn.func 44) #[] #[(.pointer (some ⟨1001, 0, none⟩)), (.pointer (some ⟨1000, 0, none⟩))]), (.slice none 0 0), (.int .i64 0), (.int .i64 0)], [some (.row ⟨[(.int .i64 z16)], 3, (0, 0), 0, false, false⟩), some (.row ⟨[(.string (s))], 9, (0, 0), 0, false, false⟩), some (.row ⟨z13, 59, (0, 0), 4, false, false⟩)]))) (
 none)) (
 none)) (
 none)) (
 none)) (
 cond (letterB (byteAt s a)) (
 cond (decide (0 ≤ a) && (decide (s.size ≤ 1000000))) (
 cond z6 (
 cond z6 (
 cond (veq 8 (.string z4) (.string z4)) (
 cond z6 (
 cond (veq 8 (.string z4) (.string z4)) (
 qs [a, a, a, a] (
 cond (veq 8 (.string s) (.string s)) (
 cond (veq 8 (.string s) (.string s)) (
 cond (decide (z4.size ≤ 1000000)) (
 cond (decide (rg z4 ≥ 0)) (
 cond (n.ble n) (
 cond z5 (
 cond z8 (
 cond (List.all z11 (af 8) && true) (
 some (.inl ([(.slice (some ⟨1002, 0, none⟩) (n + 1) (n + 1)), (.pointer (some ⟨1000, 0, none⟩)), (.pointer (some ⟨1001, 0, none⟩)), (.func (Fn.func 44) #[] #[(.pointer (some ⟨1001, 0, none⟩)), (.pointer (some ⟨1000, 0, none⟩))]), (.slice none 0 0), (.int .i64 0), (.int .i64 0)], [some (.row ⟨[(.int .i64 z17)], 3, (0, 0), 0, false, false⟩), some (.row ⟨[(.string (s))], 9, (0, 0), 0, false, false⟩), some (.row ⟨z11, 59, (0, 0), 4, false, false⟩)]))) (
 none)) (
 none)) (
 none)) (
 none)) (
 cond (n.ble n) (
 cond z5 (
 cond z8 (
 cond (List.all z14 (af 8) && true) (
 some (.inl ([(.slice (some ⟨1002, 0, none⟩) (n + 1) (n + 1)), (.pointer (some ⟨1000, 0, none⟩)), (.pointer (some ⟨1001, 0, none⟩)), (.func (Fn.func 44) #[] #[(.pointer (some ⟨1001, 0, none⟩)), (.pointer (some ⟨1000, 0, none⟩))]), (.slice none 0 0), (.int .i64 0), (.int .i64 0)], [some (.row ⟨[(.int .i64 z17)], 3, (0, 0), 0, false, false⟩), some (.row ⟨[(.string (s))], 9, (0, 0), 0, false, false⟩), some (.row ⟨z14, 59, (0, 0), 4, false, false⟩)]))) (
 none)) (
 none)) (
 none)) (
 none))) (
 none)) (
 none)) (
 none))) (
 none)) (
 none)) (
 none)) (
 none)) (
 none)) (
 none)) (
 cond (byteAt s a == 45) z0 (
 cond (digitB (byteAt s a)) z0 (
 qs [a] (
 cond z10 (
 some (.inr (.ret, ([(.slice (some ⟨1002, 0, none⟩) (n) (n)), (.slice none 0 0), (.int .i64 (a)), (.int .i64 200)], [some (.row ⟨[(.int .i64 (a))], 3, (0, 0), 0, false, false⟩), some (.row ⟨[(.string (s))], 9, (0, 0), 0, false, false⟩), some (.row ⟨cs, 59, (0, 0), 4, false, false⟩)])))) (
 none))))))))))) (
 none)) z3 := by kernel_rfl
inductive TS where
 | stop
 | skip
 | tok (t : Tok) (size : Int)
 | err (e : Int)
def tokS (s : ByteArray) (a : Int) : TS :=
 if a < (s.size : Int) then
  if byteAt s a = 35 then .stop else
  if byteAt s a = 32 ∨ byteAt s a = 9 then .skip else
  if byteAt s a = 44 then .tok ⟨4, ⟨#[]⟩, 0, a⟩ 1 else
  if byteAt s a = 58 then .tok ⟨5, ⟨#[]⟩, 0, a⟩ 1 else
  if letterB (byteAt s a) = true then
   (if 0 ≤ regC (subS s a (runE partB s a)) then .tok ⟨2, ⟨#[]⟩, regC (subS s a (runE partB s a)), a⟩ (runE partB s a - a) else .tok ⟨1, subS s a (runE partB s a), 0, a⟩ (runE partB s a - a)) else
  if byteAt s a = 45 ∨ digitB (byteAt s a) = true then (if (numC s a).2.2 = 0 then .tok ⟨3, ⟨#[]⟩, (numC s a).1, a⟩ (numC s a).2.1 else .err (numC s a).2.2) else .err 200
 else .stop
def toksC (l : List Tok) : List Value := l.flatMap tokC
def tlSt (s : ByteArray) (a : Int) (l : List Tok) : LSt := match l with
 | [] => tlSt0 s a
 | _ :: _ => tlSt1 s a (toksC l) l.length
def tlEnd (x : Ex) (s : ByteArray) (a : Int) (l : List Tok) (b e : Int) : Out := match l with
 | [] => (x, [.slice none 0 0, .slice none 0 0, .int .i64 b, .int .i64 e], boxes s a)
 | _ :: _ => (x, [.slice (some ⟨1002, 0, none⟩) l.length l.length, .slice none 0 0, .int .i64 b, .int .i64 e], boxes s a ++ [tokRow (toksC l)])
def tlRes (s : ByteArray) (a : Int) (l : List Tok) : TS → LSt ⊕ Out
 | .stop => .inr (tlEnd (.exit 0) s a l 0 0)
 | .skip => .inl (tlSt s (a + 1) l)
 | .tok t k => .inl (tlSt s (a + k) (l ++ [t]))
 | .err e => .inr (tlEnd .ret s a l a e)
theorem veq_str (x : ByteArray) : veq 8 (.string x) (.string x) = true := by simp [veq]
theorem toksC_all (l : List Tok) : (toksC l).all (af 8) = true := by
 induction l with
 | nil => rfl
 | cons t l ih =>
  show (tokC t ++ toksC l).all (af 8) = true
  rw [List.all_append, ih]
  rfl
theorem toksC_len (l : List Tok) : (toksC l).length = l.length * 4 := by
 induction l with
 | nil => rfl
 | cons t l ih =>
  show (tokC t ++ toksC l).length = _
  rw [List.length_append, ih, List.length_cons]
  show 4 + l.length * 4 = _
  omega
theorem toksC_snoc (l : List Tok) (t : Tok) : toksC l ++ tokC t = toksC (l ++ [t]) := by
 unfold toksC
 rw [List.flatMap_append]
 simp
theorem tlRes_tok {s : ByteArray} {a k b : Int} {l : List Tok} {t : Tok} (h : a + k = b) : tlRes s a l (.tok t k) = .inl (tlSt s b (l ++ [t])) := by
 subst h; rfl
theorem numV_bd {s : ByteArray} {a b n2 : Int} (h1 : a ≤ n2) (h2 : n2 ≤ (s.size : Int)) (h3 : a ≤ (s.size : Int)) : 0 ≤ (numV s a b n2).2.1 ∧ a + (numV s a b n2).2.1 ≤ (s.size : Int) ∧ ((numV s a b n2).2.2 = 0 → 1 ≤ (numV s a b n2).2.1) := by
 obtain ⟨r1, r2⟩ := runE_le (p := predB b) h2
 unfold numV
 split
 ·exact ⟨by decide, by simpa using h3, fun h => by cases h⟩
 ·split
  ·exact ⟨by simp only; omega, by simp only; omega, fun _ => by simp only; omega⟩
  ·exact ⟨by decide, by simpa using h3, fun h => by cases h⟩
theorem numC_bd {s : ByteArray} {a : Int} (h0 : 0 ≤ a) (h1 : a < (s.size : Int)) : 0 ≤ (numC s a).2.1 ∧ a + (numC s a).2.1 ≤ (s.size : Int) ∧ ((numC s a).2.2 = 0 → 1 ≤ (numC s a).2.1) := by
 have hs : a ≤ sgn s a ∧ sgn s a ≤ a + 1 := by unfold sgn; split <;> omega
 unfold numC
 split
 ·rename_i h
  exact numV_bd (by omega) (by have := h.1; omega) (by omega)
 ·exact numV_bd (by omega) (by omega) (by omega)
theorem tl_round0 (gl : Gl) {s : ByteArray} {a : Int} (h0 : 0 ≤ a) (hs : s.size ≤ 200) : roundK noSy Tryz.prog gl (fun _ => none) (H7 regC numC) 100 40 40 29 0 tlLive (tlSt s a []) (rndK Tryz.prog 1002 tlLive tlOut) = some (tlRes s a [] (tokS s a)) := by
 show roundK noSy Tryz.prog gl (fun _ => none) (H7 regC numC) 100 40 40 29 0 tlLive (tlSt0 s a) (rndK Tryz.prog 1002 tlLive tlOut) = _
 rw [r_tl0]
 dsimp only
 unfold tokS
 have hs6 : s.size ≤ 1000000 := by omega
 by_cases h : a < (s.size : Int)
 case neg =>
  rw [decide_eq_false h, cond_false, if_neg h]
  rfl
 obtain ⟨r1, r2⟩ := runE_le (p := partB) (show a ≤ (s.size : Int) by omega)
 have w1 : IntKind.i64.wrap (a + 1) = a + 1 := wrap_id _ (by omega)
 have w2 : IntKind.i64.wrap (runE partB s a - a) = runE partB s a - a := wrap_id _ (by omega)
 have w3 : a + (runE partB s a - a) = runE partB s a := by omega
 have w4 : IntKind.i64.wrap (runE partB s a) = runE partB s a := wrap_id _ (by omega)
 have z := subS_size (s := s) h0 r1 r2
 have z1 : (subS s a (runE partB s a)).size ≤ 1000000 := by omega
 simp only [h, h0, hs6, decide_true, Bool.and_self, cond_true, w1, w2, w3, w4, r1, r2, veq_str, qs_eq, z1, if_true]
 by_cases c1 : byteAt s a = 35
 ·rw [show (byteAt s a == 35) = true by simpa using c1, cond_true, if_pos c1]; rfl
 rw [show (byteAt s a == 35) = false by simpa using c1, cond_false, if_neg c1]
 by_cases c2 : byteAt s a = 32
 ·rw [show (byteAt s a == 32) = true by simpa using c2, cond_true, if_pos (.inl c2)]; rfl
 rw [show (byteAt s a == 32) = false by simpa using c2, cond_false]
 by_cases c3 : byteAt s a = 9
 ·rw [show (byteAt s a == 9) = true by simpa using c3, cond_true, if_pos (.inr c3)]; rfl
 rw [show (byteAt s a == 9) = false by simpa using c3, cond_false, if_neg (by simp [c2, c3])]
 by_cases c4 : byteAt s a = 44
 ·rw [show (byteAt s a == 44) = true by simpa using c4, cond_true, if_pos c4]; rfl
 rw [show (byteAt s a == 44) = false by simpa using c4, cond_false, if_neg c4]
 by_cases c5 : byteAt s a = 58
 ·rw [show (byteAt s a == 58) = true by simpa using c5, cond_true, if_pos c5]; rfl
 rw [show (byteAt s a == 58) = false by simpa using c5, cond_false, if_neg c5]
 by_cases c6 : letterB (byteAt s a) = true
 ·rw [c6, cond_true, if_pos rfl]
  by_cases c7 : 0 ≤ regC (subS s a (runE partB s a))
  ·rw [decide_eq_true (show regC (subS s a (runE partB s a)) ≥ 0 from c7), cond_true, if_pos c7]
   rw [tlRes_tok w3]
   rfl
  ·rw [decide_eq_false (show ¬ regC (subS s a (runE partB s a)) ≥ 0 from c7), cond_false, if_neg c7]
   rw [tlRes_tok w3]
   rfl
 rw [Bool.eq_false_iff.2 c6, cond_false, if_neg (by decide)]
 obtain ⟨k1, k2, k3⟩ := numC_bd h0 h
 have w5 : IntKind.i64.wrap (a + (numC s a).2.1) = a + (numC s a).2.1 := wrap_id _ (by omega)
 rw [w5]
 have fin : (cond ((numC s a).2.2 != 0) (some (.inr (tlEnd .ret s a [] a (numC s a).2.2))) (some (.inl (tlSt s (a + (numC s a).2.1) [⟨3, ⟨#[]⟩, (numC s a).1, a⟩]))) : Option (LSt ⊕ Out)) = some (tlRes s a [] (if (numC s a).2.2 = 0 then .tok ⟨3, ⟨#[]⟩, (numC s a).1, a⟩ (numC s a).2.1 else .err (numC s a).2.2)) := by
  by_cases c8 : (numC s a).2.2 = 0
  ·rw [show ((numC s a).2.2 != 0) = false by simp [c8], cond_false, if_pos c8]; rfl
  ·rw [show ((numC s a).2.2 != 0) = true by simpa using c8, cond_true, if_neg c8]; rfl
 by_cases c7 : byteAt s a = 45
 ·rw [show (byteAt s a == 45) = true by simpa using c7, cond_true, if_pos (.inl c7)]
  exact fin
 rw [show (byteAt s a == 45) = false by simpa using c7, cond_false]
 by_cases c8 : digitB (byteAt s a) = true
 ·rw [c8, cond_true, if_pos (.inr rfl)]
  exact fin
 ·rw [Bool.eq_false_iff.2 c8, cond_false, if_neg (by simp [c7])]
  rfl
theorem tl_round1 (gl : Gl) {s : ByteArray} {a : Int} (h0 : 0 ≤ a) (hs : s.size ≤ 200) {l : List Tok} (hl : l.length ≤ 1000) (hne : l ≠ []) : roundK noSy Tryz.prog gl (fun _ => none) (H7 regC numC) 100 40 40 29 0 tlLive (tlSt s a l) (rndK Tryz.prog 1002 tlLive tlOut) = some (tlRes s a l (tokS s a)) := by
 have e1 : tlSt s a l = tlSt1 s a (toksC l) l.length := by
  cases l with
  | nil => exact (hne rfl).elim
  | cons t l => rfl
 have e2 : ∀ (b : Int) (t : Tok), tlSt s b (l ++ [t]) = tlSt1 s b (toksC l ++ tokC t) (l.length + 1) := fun b t => by
  rw [toksC_snoc]
  cases l with
  | nil => exact (hne rfl).elim
  | cons u l =>
   show tlSt1 s b (toksC (u :: l ++ [t])) (u :: l ++ [t]).length = _
   rw [List.length_append]
   rfl
 have e3 : ∀ (x : Ex) (b e : Int), tlEnd x s a l b e = (x, [.slice (some ⟨1002, 0, none⟩) l.length l.length, .slice none 0 0, .int .i64 b, .int .i64 e], boxes s a ++ [tokRow (toksC l)]) := fun x b e => by
  cases l with
  | nil => exact (hne rfl).elim
  | cons t l => rfl
 rw [e1, r_tl1]
 have hall : ∀ t : Tok, (toksC l ++ ([.int .u8 t.kind, .string t.text, .int .i64 t.n, .int .i64 t.at_] : List Value)).all (af 8) = true := fun t => by
  rw [List.all_append, toksC_all]
  rfl
 have b1 : Nat.ble l.length l.length = true := ble_self _
 have b2 : Nat.ble ((l.length + 1) * 40) 140737488355328 = true := Nat.ble_eq_true_of_le (by omega)
 have b3 : Nat.ble (l.length + 1) 1099511627776 = true := Nat.ble_eq_true_of_le (by omega)
 have b4 : Nat.beq (l.length * 4) (toksC l).length = true := by rw [toksC_len]; exact Nat.beq_refl _
 have a1 := hall ⟨4, ⟨#[]⟩, 0, a⟩
 have a2 := hall ⟨5, ⟨#[]⟩, 0, a⟩
 have a3 := hall ⟨2, ⟨#[]⟩, regC (subS s a (runE partB s a)), a⟩
 have a4 := hall ⟨1, subS s a (runE partB s a), 0, a⟩
 have a5 := hall ⟨3, ⟨#[]⟩, (numC s a).1, a⟩
 simp only at a1 a2 a3 a4 a5
 unfold tokS
 have hs6 : s.size ≤ 1000000 := by omega
 by_cases h : a < (s.size : Int)
 case neg =>
  rw [decide_eq_false h, cond_false, if_neg h]
  simp only [toksC_all, Bool.and_true, cond_true]
  unfold tlRes
  rw [e3]
  rfl
 obtain ⟨r1, r2⟩ := runE_le (p := partB) (show a ≤ (s.size : Int) by omega)
 have w1 : IntKind.i64.wrap (a + 1) = a + 1 := wrap_id _ (by omega)
 have w2 : IntKind.i64.wrap (runE partB s a - a) = runE partB s a - a := wrap_id _ (by omega)
 have w3 : a + (runE partB s a - a) = runE partB s a := by omega
 have w4 : IntKind.i64.wrap (runE partB s a) = runE partB s a := wrap_id _ (by omega)
 have z := subS_size (s := s) h0 r1 r2
 have z1 : (subS s a (runE partB s a)).size ≤ 1000000 := by omega
 obtain ⟨k1, k2, k3⟩ := numC_bd h0 h
 have w5 : IntKind.i64.wrap (a + (numC s a).2.1) = a + (numC s a).2.1 := wrap_id _ (by omega)
 simp only [h, h0, hs6, decide_true, Bool.and_self, cond_true, w1, w2, w3, w4, w5, r1, r2, veq_str, qs_eq, z1, if_true, b1, b2, b3, b4, toksC_all, a1, a2, a3, a4, a5, Bool.and_true]
 by_cases c1 : byteAt s a = 35
 ·rw [show (byteAt s a == 35) = true by simpa using c1, cond_true, if_pos c1]
  unfold tlRes
  rw [e3]; rfl
 rw [show (byteAt s a == 35) = false by simpa using c1, cond_false, if_neg c1]
 by_cases c2 : byteAt s a = 32
 ·rw [show (byteAt s a == 32) = true by simpa using c2, cond_true, if_pos (.inl c2)]
  unfold tlRes
  rw [show tlSt s (a + 1) l = tlSt1 s (a + 1) (toksC l) l.length by cases l with | nil => exact (hne rfl).elim | cons t l => rfl]
  rfl
 rw [show (byteAt s a == 32) = false by simpa using c2, cond_false]
 by_cases c3 : byteAt s a = 9
 ·rw [show (byteAt s a == 9) = true by simpa using c3, cond_true, if_pos (.inr c3)]
  unfold tlRes
  rw [show tlSt s (a + 1) l = tlSt1 s (a + 1) (toksC l) l.length by cases l with | nil => exact (hne rfl).elim | cons t l => rfl]
  rfl
 rw [show (byteAt s a == 9) = false by simpa using c3, cond_false, if_neg (by simp [c2, c3])]
 by_cases c4 : byteAt s a = 44
 ·rw [show (byteAt s a == 44) = true by simpa using c4, cond_true, if_pos c4, tlRes_tok rfl, e2]; rfl
 rw [show (byteAt s a == 44) = false by simpa using c4, cond_false, if_neg c4]
 by_cases c5 : byteAt s a = 58
 ·rw [show (byteAt s a == 58) = true by simpa using c5, cond_true, if_pos c5, tlRes_tok rfl, e2]; rfl
 rw [show (byteAt s a == 58) = false by simpa using c5, cond_false, if_neg c5]
 by_cases c6 : letterB (byteAt s a) = true
 ·rw [c6, cond_true, if_pos rfl]
  by_cases c7 : 0 ≤ regC (subS s a (runE partB s a))
  ·rw [decide_eq_true (show regC (subS s a (runE partB s a)) ≥ 0 from c7), cond_true, if_pos c7, tlRes_tok w3, e2]
   rfl
  ·rw [decide_eq_false (show ¬ regC (subS s a (runE partB s a)) ≥ 0 from c7), cond_false, if_neg c7, tlRes_tok w3, e2]
   rfl
 rw [Bool.eq_false_iff.2 c6, cond_false, if_neg (by decide)]
 have fin : (cond ((numC s a).2.2 != 0) (some (.inr (tlEnd .ret s a l a (numC s a).2.2))) (some (.inl (tlSt s (a + (numC s a).2.1) (l ++ [⟨3, ⟨#[]⟩, (numC s a).1, a⟩])))) : Option (LSt ⊕ Out)) = some (tlRes s a l (if (numC s a).2.2 = 0 then .tok ⟨3, ⟨#[]⟩, (numC s a).1, a⟩ (numC s a).2.1 else .err (numC s a).2.2)) := by
  by_cases c8 : (numC s a).2.2 = 0
  ·rw [show ((numC s a).2.2 != 0) = false by simp [c8], cond_false, if_pos c8]; rfl
  ·rw [show ((numC s a).2.2 != 0) = true by simpa using c8, cond_true, if_neg c8]; rfl
 rw [e2, e3] at fin
 by_cases c7 : byteAt s a = 45
 ·rw [show (byteAt s a == 45) = true by simpa using c7, cond_true, if_pos (.inl c7)]
  exact fin
 rw [show (byteAt s a == 45) = false by simpa using c7, cond_false]
 by_cases c8 : digitB (byteAt s a) = true
 ·rw [c8, cond_true, if_pos (.inr rfl)]
  exact fin
 ·rw [Bool.eq_false_iff.2 c8, cond_false, if_neg (by simp [c7])]
  show _ = some (Sum.inr (tlEnd .ret s a l a 200))
  rw [e3]
  rfl
end Go.Proofs.YtgohbcbdgakjeaaGreatDoor
noncomputable section
namespace Go.Proofs.YtgohbcbdgakjeaaGreatDoor
open Go.Proofs.YtgohbcbdgakjeaaGreatDoor.Ev Go.RowKit
def tokGo (s : ByteArray) : Nat → Int → List Tok → List Tok × Int × Int
 | 0, a, l => (l, a, 0)
 | f + 1, a, l => match tokS s a with
  | .stop => (l, a, 0)
  | .skip => tokGo s f (a + 1) l
  | .tok t k => tokGo s f (a + k) (l ++ [t])
  | .err e => (l, a, e)
def lineC (s : ByteArray) : List Tok × Int × Int := tokGo s (s.size + 1) 0 []
def tlFin (s : ByteArray) (r : List Tok × Int × Int) : Out := if r.2.2 = 0 then tlEnd (.exit 0) s r.2.1 r.1 0 0 else tlEnd .ret s r.2.1 r.1 r.2.1 r.2.2
def TS.Adv (s : ByteArray) (a : Int) : TS → Prop
 | .stop => True
 | .skip => a + 1 ≤ (s.size : Int)
 | .tok _ k => 1 ≤ k ∧ a + k ≤ (s.size : Int)
 | .err e => e ≠ 0 ∧ a < (s.size : Int)
theorem tokS_adv {s : ByteArray} {a : Int} (h0 : 0 ≤ a) : (tokS s a).Adv s a := by
 unfold tokS
 by_cases h : a < (s.size : Int)
 case neg => rw [if_neg h]; trivial
 rw [if_pos h]
 split
 ·trivial
 split
 ·show a + 1 ≤ _; omega
 split
 ·exact ⟨by decide, by omega⟩
 split
 ·exact ⟨by decide, by omega⟩
 split
 ·rename_i hl
  have h1 : a + 1 ≤ runE partB s a := by
   rw [runE_eq, decide_eq_true h, Bool.true_and, show partB (byteAt s a) = true by unfold partB; rw [hl]; rfl, cond_true]
   exact (runE_le (p := partB) (show a + 1 ≤ (s.size : Int) by omega)).1
  obtain ⟨r1, r2⟩ := runE_le (p := partB) (show a ≤ (s.size : Int) by omega)
  split
  ·exact ⟨by omega, by omega⟩
  ·exact ⟨by omega, by omega⟩
 split
 ·obtain ⟨k1, k2, k3⟩ := numC_bd h0 h
  split
  ·rename_i hz
   exact ⟨k3 hz, k2⟩
  ·rename_i hz
   exact ⟨hz, h⟩
 ·exact ⟨by decide, h⟩
theorem tokGo_cut {s : ByteArray} : ∀ (f g : Nat) (a : Int) (l : List Tok), 0 ≤ a → ((s.size : Int) - a).toNat < f → ((s.size : Int) - a).toNat < g → tokGo s f a l = tokGo s g a l
 | 0, _, _, _, _, h, _ => by omega
 | _ + 1, 0, _, _, _, _, h => by omega
 | f + 1, g + 1, a, l, h0, h1, h2 => by
  have := tokS_adv (s := s) h0
  unfold tokGo
  cases hq : tokS s a with
  | stop => rfl
  | err e => rfl
  | skip =>
   rw [hq] at this
   have this : a + 1 ≤ (s.size : Int) := this
   exact tokGo_cut f g (a + 1) l (by omega) (by omega) (by omega)
  | tok t k =>
   rw [hq] at this
   have this : 1 ≤ k ∧ a + k ≤ (s.size : Int) := this
   exact tokGo_cut f g (a + k) (l ++ [t]) (by omega) (by omega) (by omega)
theorem tokGo_len {s : ByteArray} : ∀ (f : Nat) (a : Int) (l : List Tok), 0 ≤ a → a ≤ (s.size : Int) → l.length ≤ a → ((tokGo s f a l).1.length : Int) ≤ s.size ∧ 0 ≤ (tokGo s f a l).2.1 ∧ (tokGo s f a l).2.1 ≤ (s.size : Int)
 | 0, a, l, h0, h1, h2 => ⟨by show (l.length : Int) ≤ _; omega, h0, h1⟩
 | f + 1, a, l, h0, h1, h2 => by
  have := tokS_adv (s := s) h0
  unfold tokGo
  cases hq : tokS s a with
  | stop => exact ⟨by show (l.length : Int) ≤ _; omega, h0, h1⟩
  | err e => exact ⟨by show (l.length : Int) ≤ _; omega, h0, h1⟩
  | skip =>
   rw [hq] at this
   have this : a + 1 ≤ (s.size : Int) := this
   exact tokGo_len f (a + 1) l (by omega) (by omega) (by omega)
  | tok t k =>
   rw [hq] at this
   have this : 1 ≤ k ∧ a + k ≤ (s.size : Int) := this
   exact tokGo_len f (a + k) (l ++ [t]) (by omega) (by omega) (by simp; omega)
theorem fnReg {gl : Gl} (hgl : ∀ g k v, gl g k = some v → g < 1000 ∧ lowV 8 v = true) : FnOK Tryz.prog gl 48 (afReg regC) := fn_of noSy_ok goodT hgl tglob (H := H6 atOk atV) (L := 100) (G := 40) (d := 40)
 (hsOf_ok (fun p hp => by
  rcases List.mem_cons.1 hp with rfl | hp
  ·exact fnAtoi hgl
  ·exact afs1_ok hgl p hp) (fun _ h => by cases h) (fun p hp q hq => by
  simp only [List.mem_cons, List.not_mem_nil, or_false] at hp
  subst hp
  simp only [List.mem_cons, List.not_mem_nil, or_false] at hq
  subst hq
  exact run_ok hgl)) fun args σ v e => by
  unfold afReg at e
  split at e
  ·simp only [Option.some.injEq, Prod.mk.injEq, decide_eq_true_eq] at e
   obtain ⟨h1, rfl⟩ := e
   exact ⟨rfl, reg_eq gl _ h1⟩
  ·cases e
theorem fnNum {gl : Gl} {u0 o0 u1 o1 : Nat} (hS : ∀ g k v, glS u0 o0 u1 o1 g k = some v → gl g k = some v) (hgl : ∀ g k v, gl g k = some v → g < 1000 ∧ lowV 8 v = true) : FnOK Tryz.prog gl 50 (afNum numC) := fn_of noSy_ok goodT hgl tglob (H := H5 u0 o0) (L := 100) (G := 40) (d := 40)
 (hsOf_ok (afs1_ok hgl) (fun p hp => by
  simp only [List.mem_cons, List.not_mem_nil, or_false] at hp
  subst hp
  exact (puHd_ok u0 o0 u1 o1).gl_mono hS hgl) (fun p hp q hq => by
  simp only [List.mem_cons, List.not_mem_nil, or_false] at hp
  subst hp
  simp only [List.mem_cons, List.not_mem_nil, or_false] at hq
  subst hq
  exact run_ok hgl)) fun args σ v e => by
  unfold afNum at e
  split at e
  ·simp only [Option.some.injEq, Prod.mk.injEq, Bool.and_eq_true, decide_eq_true_eq] at e
   obtain ⟨⟨⟨h1, h2⟩, h3⟩, rfl⟩ := e
   exact ⟨rfl, num_eq gl u0 o0 h1 h2 h3⟩
  ·cases e
theorem H7_ok {gl : Gl} {u0 o0 u1 o1 : Nat} (hS : ∀ g k v, glS u0 o0 u1 o1 g k = some v → gl g k = some v) (hgl : ∀ g k v, gl g k = some v → g < 1000 ∧ lowV 8 v = true) : (H7 regC numC).OK Tryz.prog gl := hsOf_ok (fun p hp => by
  rcases List.mem_cons.1 hp with rfl | hp
  ·exact fnReg hgl
  ·rcases List.mem_cons.1 hp with rfl | hp
   ·exact fnNum hS hgl
   ·exact afs1_ok hgl p hp) (fun _ h => by cases h) (fun p hp q hq => by
  simp only [List.mem_cons, List.not_mem_nil, or_false] at hp
  subst hp
  simp only [List.mem_cons, List.not_mem_nil, or_false] at hq
  subst hq
  exact run_ok hgl)
end Go.Proofs.YtgohbcbdgakjeaaGreatDoor
noncomputable section
namespace Go.Proofs.YtgohbcbdgakjeaaGreatDoor
open Go.Proofs.YtgohbcbdgakjeaaGreatDoor.Ev Go.RowKit
def tlOut1 (x : Ex) (s : ByteArray) (r : List Tok × Int × Int) (b e : Int) : Out := (x, [.slice (some ⟨1002, 0, none⟩) r.1.length r.1.length, .slice none 0 0, .int .i64 b, .int .i64 e], boxes s r.2.1 ++ [tokRow (toksC r.1)])
def tlT (g : Bool) (s : ByteArray) : DT Out := .br g (.br (decide (s.size ≤ 200)) (.br (lineC s).1.isEmpty
 (.br (decide ((lineC s).2.2 = 0)) (.ret (tlEnd (.exit 0) s (lineC s).2.1 [] 0 0)) (.ret (tlEnd .ret s (lineC s).2.1 [] (lineC s).2.1 (lineC s).2.2)))
 (.br (decide ((lineC s).2.2 = 0)) (.ret (tlOut1 (.exit 0) s (lineC s) 0 0)) (.ret (tlOut1 .ret s (lineC s) (lineC s).2.1 (lineC s).2.2)))) .fail) .fail
theorem brC {c : Bool} {t e : DT Out} {r : Out} (h : DT.run (.br c t e) = some r) : (c = true ∧ t.run = some r) ∨ (c = false ∧ e.run = some r) := by
 cases c
 ·exact .inr ⟨rfl, h⟩
 ·exact .inl ⟨rfl, h⟩
theorem nbeq (a b : Nat) : (Nat.beq a b = true) = (a = b) := propext ⟨Nat.eq_of_beq_eq_true, fun h => h ▸ Nat.beq_refl a⟩
def tlH : Hd := fun vs rows => match vs, rows with
 | [.slice none o1 c1, .pointer (some ⟨p0, q0, none⟩), .pointer (some ⟨p1, q1, none⟩), .func (.func F) ⟨[]⟩ ⟨[.pointer (some ⟨p2, q2, none⟩), .pointer (some ⟨p3, q3, none⟩)]⟩, .slice none o2 c2, .int .i64 x, .int .i64 y],
  [some (.row ⟨[.int .i64 a], t1, (g1, g2), e1, false, false⟩), some (.row ⟨[.string s], t2, (g3, g4), e2, false, false⟩)] =>
  some (tlT (Nat.beq o1 0 && Nat.beq c1 0 && Nat.beq p0 1000 && Nat.beq q0 0 && Nat.beq p1 1001 && Nat.beq q1 0 && Nat.beq F 44 && Nat.beq p2 1001 && Nat.beq q2 0 && Nat.beq p3 1000 && Nat.beq q3 0 && Nat.beq o2 0 && Nat.beq c2 0 && decide (x = 0) && decide (y = 0) &&
   decide (a = 0) && Nat.beq t1 3 && Nat.beq g1 0 && Nat.beq g2 0 && Nat.beq e1 0 && Nat.beq t2 9 && Nat.beq g3 0 && Nat.beq g4 0 && Nat.beq e2 0) s)
 | _, _ => none
theorem tl_ok {gl : Gl} {u0 o0 u1 o1 : Nat} (hS : ∀ g k v, glS u0 o0 u1 o1 g k = some v → gl g k = some v) (hgl : ∀ g k v, gl g k = some v → g < 1000 ∧ lowV 8 v = true) : LpOK Tryz.prog gl 29 0 ⟨tlLive, tlOut, tlH⟩ := loop_of noSy_ok goodT hgl tglob (H7_ok hS hgl) (L := 100) (G := 40) (d := 40) fun vs rows t r h1 h2 => by
 simp only [tlH] at h1
 split at h1
 ·rename_i o1 c1 p0 q0 p1 q1 F p2 q2 p3 q3 o2 c2 x y a t1 g1 g2 e1 s t2 g3 g4 e2
  cases h1
  obtain ⟨hg, h3⟩ := brT h2
  obtain ⟨hs, h4⟩ := brT h3
  simp only [Bool.and_eq_true, decide_eq_true_eq, nbeq] at hg hs
  obtain ⟨⟨⟨⟨⟨⟨⟨⟨⟨⟨⟨⟨⟨⟨⟨⟨⟨⟨⟨⟨⟨⟨⟨rfl, rfl⟩, rfl⟩, rfl⟩, rfl⟩, rfl⟩, rfl⟩, rfl⟩, rfl⟩, rfl⟩, rfl⟩, rfl⟩, rfl⟩, rfl⟩, rfl⟩, rfl⟩, rfl⟩, rfl⟩, rfl⟩, rfl⟩, rfl⟩, rfl⟩, rfl⟩, rfl⟩ := hg
  have hr : r = tlFin s (lineC s) := by
   unfold tlFin
   rcases brC h4 with ⟨k1, k2⟩ | ⟨k1, k2⟩
   ·have k1 : (lineC s).1 = [] := by simpa using k1
    rcases brC k2 with ⟨m1, m2⟩ | ⟨m1, m2⟩
    ·rw [if_pos (of_decide_eq_true m1), k1]; cases m2; rfl
    ·rw [if_neg (of_decide_eq_false m1), k1]; cases m2; rfl
   ·obtain ⟨t, l, k1⟩ : ∃ t l, (lineC s).1 = t :: l := by
     cases hq : (lineC s).1 with
     | nil => rw [hq] at k1; cases k1
     | cons t l => exact ⟨t, l, rfl⟩
    rcases brC k2 with ⟨m1, m2⟩ | ⟨m1, m2⟩
    ·rw [if_pos (of_decide_eq_true m1)]; cases m2; unfold tlOut1; rw [k1]; rfl
    ·rw [if_neg (of_decide_eq_false m1)]; cases m2; unfold tlOut1; rw [k1]; rfl
  refine ⟨show 1002 ≤ most by decide, {p : Int × List Tok // 0 ≤ p.1 ∧ p.1 ≤ (s.size : Int) ∧ (p.2.length : Int) ≤ p.1}, fun p => tlSt s p.1.1 p.1.2, fun p => some (tlFin s (tokGo s (((s.size : Int) - p.1.1).toNat + 1) p.1.1 p.1.2)), fun p => ((s.size : Int) - p.1.1).toNat, ⟨(0, []), by simp, by simp, by simp⟩, .inl rfl, ?_, ?_⟩
  ·rw [hr]
   unfold lineC
   simp only [Int.sub_zero, Int.toNat_natCast]
  ·rintro ⟨⟨a, l⟩, ha, hb, hc⟩ o ho
   simp only at ha hb hc ho
   have hround : roundK noSy Tryz.prog gl (fun _ => none) (H7 regC numC) 100 40 40 29 0 tlLive (tlSt s a l) (rndK Tryz.prog 1002 tlLive tlOut) = some (tlRes s a l (tokS s a)) := by
    cases l with
    | nil => exact tl_round0 gl ha hs
    | cons t l => exact tl_round1 gl ha hs (by omega) (by simp)
   refine ⟨_, hround, ?_⟩
   have hadv := tokS_adv (s := s) ha
   unfold tokGo at ho
   cases hq : tokS s a with
   | stop => rw [hq] at ho; cases ho; rfl
   | err e =>
    rw [hq] at ho hadv
    cases ho
    unfold tlFin tlRes
    rw [if_neg hadv.1]
   | skip =>
    rw [hq] at ho hadv
    have hadv : a + 1 ≤ (s.size : Int) := hadv
    refine ⟨⟨(a + 1, l), by simp only; omega, hadv, by simp only; omega⟩, rfl, by simp only; omega, ?_⟩
    rw [← ho]
    simp only
    rw [tokGo_cut _ (((s.size : Int) - a).toNat) (a + 1) l (by omega) (by omega) (by omega)]
   | tok t k =>
    rw [hq] at ho hadv
    have hadv : 1 ≤ k ∧ a + k ≤ (s.size : Int) := hadv
    refine ⟨⟨(a + k, l ++ [t]), by simp only; omega, hadv.2, by simp only [List.length_append, List.length_cons, List.length_nil]; omega⟩, rfl, by simp only; omega, ?_⟩
    rw [← ho]
    simp only
    rw [tokGo_cut _ (((s.size : Int) - a).toNat) (a + k) (l ++ [t]) (by omega) (by omega) (by omega)]
 ·cases h1
def H8 : Hs := hsOf [] [] [(29, [(0, ⟨tlLive, tlOut, tlH⟩)])]
theorem H8_ok {gl : Gl} {u0 o0 u1 o1 : Nat} (hS : ∀ g k v, glS u0 o0 u1 o1 g k = some v → gl g k = some v) (hgl : ∀ g k v, gl g k = some v → g < 1000 ∧ lowV 8 v = true) : H8.OK Tryz.prog gl := hsOf_ok (fun _ h => by cases h) (fun _ h => by cases h) (fun p hp q hq => by
  simp only [List.mem_cons, List.not_mem_nil, or_false] at hp
  subst hp
  simp only [List.mem_cons, List.not_mem_nil, or_false] at hq
  subst hq
  exact tl_ok hS hgl)
set_option maxRecDepth 100000 in
theorem r_tokLine (gl : Gl) (s : ByteArray) : callSK noSy Tryz.prog gl (fun _ => none) H8 100 40 40 (.fn 29) [.string s] (rowsOf []) (exitK Tryz.prog 1000) =
 let z0 : Option Out := some (.normal, ([(.tuple #[(.slice none 0 0), (.int .i64 ((lineC s).snd.fst)), (.int .i64 ((lineC s).snd.snd))])], []))
 let z1 := List.all (toksC (lineC s).fst) (af 8) && true
 cond (decide ((↑s.size : Int) > 200)) (
 some (.normal, ([(.tuple #[(.slice none 0 0), (.int .i64 0), (.int .i64 3)])], []))) (
 cond (decide (s.size ≤ 200)) (
 cond ((lineC s).fst.isEmpty) (
 cond (decide ((lineC s).snd.snd = 0)) (
 some (.normal, ([(.tuple #[(.slice none 0 0), (.int .i64 0), (.int .i64 0)])], []))) z0) (
 cond (decide ((lineC s).snd.snd = 0)) (
 cond z1 (
 cond z1 (
 some (.normal, ([(.tuple #[(.slice (some ⟨1000, 0, none⟩) ((lineC s).fst.length) ((lineC s).fst.length)), (.int .i64 0), (.int .i64 0)])], [some (.row ⟨(toksC (lineC s).fst), 59, (0, 0), 4, false, false⟩)]))) (
 none)) (
 none)) (
 cond z1 z0 (
 none)))) (
 none)) := by kernel_rfl
def lnRow (l : List Tok) : Option LObj := tokRow (toksC l)
def lnT (big : Int) (s : ByteArray) : DT Out := .br (decide ((s.size : Int) > 200)) (.ret (.normal, [.tuple #[.slice none 0 0, .int .i64 0, .int .i64 big]], []))
 (.br (lineC s).1.isEmpty (.br (decide ((lineC s).2.2 = 0)) (.ret (.normal, [.tuple #[.slice none 0 0, .int .i64 0, .int .i64 0]], [])) (.ret (.normal, [.tuple #[.slice none 0 0, .int .i64 (lineC s).2.1, .int .i64 (lineC s).2.2]], [])))
  (.br (decide ((lineC s).2.2 = 0)) (.ret (.normal, [.tuple #[.slice (some ⟨1000, 0, none⟩) (lineC s).1.length (lineC s).1.length, .int .i64 0, .int .i64 0]], [lnRow (lineC s).1])) (.ret (.normal, [.tuple #[.slice none 0 0, .int .i64 (lineC s).2.1, .int .i64 (lineC s).2.2]], []))))
def lnHd : Hd := fun vs rows => match vs, rows with
 | [.string s], [] => some (lnT 3 s)
 | _, _ => none
theorem line_sub {gl : Gl} {u0 o0 u1 o1 : Nat} (hS : ∀ g k v, glS u0 o0 u1 o1 g k = some v → gl g k = some v) (hgl : ∀ g k v, gl g k = some v → g < 1000 ∧ lowV 8 v = true) : SubOK Tryz.prog gl 29 lnHd := by
 refine sub_of noSy_ok goodT hgl tglob (H8_ok hS hgl) (L := 100) (G := 40) (d := 40) fun vs rows t r h1 h2 => ?_
 unfold lnHd at h1
 split at h1
 ·rename_i s
  cases h1
  refine ⟨by decide, ?_⟩
  refine Eq.trans (r_tokLine gl s) ?_
  rw [← h2]
  unfold lnT
  simp only [DT.run, toksC_all, Bool.and_true, cond_true]
  by_cases hs : (s.size : Int) > 200
  ·rw [decide_eq_true hs, cond_true, cond_true]
  ·rw [decide_eq_false hs, cond_false, cond_false, decide_eq_true (show s.size ≤ 200 by omega), cond_true]
   rfl
 ·cases h1
end Go.Proofs.YtgohbcbdgakjeaaGreatDoor
noncomputable section
namespace Go.Proofs.YtgohbcbdgakjeaaGreatDoor
open Go.Proofs.YtgohbcbdgakjeaaGreatDoor.Ev Go.RowKit
set_option maxRecDepth 100000 in
theorem q_digit (gl : Gl) (c : Int) : ev gl H0 59 [.int .u8 c] =
 cond (decide (c ≥ 48)) (
 cond (decide (c ≤ 57)) (
 some (.bool true)) (
 some (.bool false))) (
 some (.bool false)) := by kernel_rfl
set_option maxRecDepth 100000 in
theorem q_letter (gl : Gl) (c : Int) : ev gl H0 56 [.int .u8 c] =
 cond (decide (c ≥ 97)) (
 cond (decide (c ≤ 122)) (
 some (.bool true)) (
 cond (c == 95) (
 some (.bool true)) (
 some (.bool false)))) (
 cond (c == 95) (
 some (.bool true)) (
 some (.bool false))) := by kernel_rfl
set_option maxRecDepth 100000 in
theorem q_part (gl : Gl) (c : Int) : ev gl H0 57 [.int .u8 c] =
 cond (decide (c ≥ 97)) (
 cond (decide (c ≤ 122)) (
 some (.bool true)) (
 cond (c == 95) (
 some (.bool true)) (
 cond (decide (c ≥ 48)) (
 cond (decide (c ≤ 57)) (
 some (.bool true)) (
 cond (c == 46) (
 some (.bool true)) (
 some (.bool false)))) (
 cond (c == 46) (
 some (.bool true)) (
 some (.bool false)))))) (
 cond (c == 95) (
 some (.bool true)) (
 cond (decide (c ≥ 48)) (
 cond (decide (c ≤ 57)) (
 some (.bool true)) (
 cond (c == 46) (
 some (.bool true)) (
 some (.bool false)))) (
 cond (c == 46) (
 some (.bool true)) (
 some (.bool false))))) := by kernel_rfl
set_option maxRecDepth 100000 in
theorem q_hex (gl : Gl) (c : Int) : ev gl H0 88 [.int .u8 c] =
 cond (decide (c ≥ 48)) (
 cond (decide (c ≤ 57)) (
 some (.bool true)) (
 cond (decide (c ≥ 97)) (
 cond (decide (c ≤ 102)) (
 some (.bool true)) (
 some (.bool false))) (
 some (.bool false)))) (
 cond (decide (c ≥ 97)) (
 cond (decide (c ≤ 102)) (
 some (.bool true)) (
 some (.bool false))) (
 some (.bool false))) := by kernel_rfl
set_option maxRecDepth 100000 in
theorem q_value (gl : Gl) (c : Int) : ev gl H0 89 [.int .u8 c] =
 cond (decide (c ≥ 48)) (
 cond (decide (c ≤ 57)) (
 some (.int .i64 (IntKind.i64.wrap (IntKind.u8.wrap (c - 48))))) (
 some (.int .i64 (IntKind.i64.wrap (IntKind.i64.wrap (IntKind.u8.wrap (c - 97)) + 10))))) (
 some (.int .i64 (IntKind.i64.wrap (IntKind.i64.wrap (IntKind.u8.wrap (c - 97)) + 10)))) := by kernel_rfl
theorem fnDigitR {gl : Gl} (hgl : ∀ g k v, gl g k = some v → g < 1000 ∧ lowV 8 v = true) : FnOK Tryz.prog gl 59 (afB digitB) := fnB hgl fun c => by
 rw [q_digit]; unfold digitB
 cases decide (c ≥ 48) <;> cases decide (c ≤ 57) <;> rfl
theorem fnLetterR {gl : Gl} (hgl : ∀ g k v, gl g k = some v → g < 1000 ∧ lowV 8 v = true) : FnOK Tryz.prog gl 56 (afB letterB) := fnB hgl fun c => by
 rw [q_letter]; unfold letterB
 rw [show (c == 95) = decide (c = 95) from rfl]
 cases decide (c ≥ 97) <;> cases decide (c ≤ 122) <;> cases decide (c = 95) <;> rfl
theorem fnPartR {gl : Gl} (hgl : ∀ g k v, gl g k = some v → g < 1000 ∧ lowV 8 v = true) : FnOK Tryz.prog gl 57 (afB partB) := fnB hgl fun c => by
 rw [q_part]; unfold partB letterB digitB
 rw [show (c == 95) = decide (c = 95) from rfl, show (c == 46) = decide (c = 46) from rfl]
 cases decide (c ≥ 97) <;> cases decide (c ≤ 122) <;> cases decide (c = 95) <;> cases decide (c ≥ 48) <;> cases decide (c ≤ 57) <;> cases decide (c = 46) <;> rfl
theorem fnHexR {gl : Gl} (hgl : ∀ g k v, gl g k = some v → g < 1000 ∧ lowV 8 v = true) : FnOK Tryz.prog gl 88 (afB hexB) := fnB hgl fun c => by
 rw [q_hex]; unfold hexB digitB
 cases decide (c ≥ 97) <;> cases decide (c ≤ 102) <;> cases decide (c ≥ 48) <;> cases decide (c ≤ 57) <;> rfl
def afV : AF := fun args _ => match args with
 | [.int .u8 c] => some (hexB c, .int .i64 (dg c))
 | _ => none
theorem fnValueR {gl : Gl} (hgl : ∀ g k v, gl g k = some v → g < 1000 ∧ lowV 8 v = true) : FnOK Tryz.prog gl 89 afV :=
 fn_of noSy_ok goodT hgl tglob H0_ok fun args σ v e => by
  unfold afV at e
  split at e
  ·rename_i c
   simp only [Option.some.injEq, Prod.mk.injEq] at e
   obtain ⟨e1, rfl⟩ := e
   refine ⟨rfl, ?_⟩
   have e1 := hexB_iff.1 e1
   refine Eq.trans (q_value gl c) ?_
   unfold dg
   by_cases h : 48 ≤ c ∧ c ≤ 57
   ·rw [decide_eq_true (show c ≥ 48 from h.1), decide_eq_true h.2, cond_true, cond_true, if_pos h.2, wrap8_id _ (by omega), wrap_id _ (by omega)]
   ·rw [decide_eq_true (show c ≥ 48 by omega), decide_eq_false (show ¬ c ≤ 57 by omega), cond_true, cond_false, if_neg (by omega), wrap8_id _ (by omega), wrap_id (c - 97) (by omega), wrap_id _ (by omega), show c - 97 + 10 = c - 87 by omega]
  ·cases e
def afs2 : List (FuncId × AF) := [(59, afB digitB), (56, afB letterB), (57, afB partB), (88, afB hexB), (89, afV)]
def H9 : Hs := hsOf afs2 [] []
theorem afs2_ok {gl : Gl} (hgl : ∀ g k v, gl g k = some v → g < 1000 ∧ lowV 8 v = true) : ∀ p ∈ afs2, FnOK Tryz.prog gl p.1 p.2 := fun p hp => by
 simp only [afs2, List.mem_cons, List.not_mem_nil, or_false] at hp
 rcases hp with rfl | rfl | rfl | rfl | rfl
 ·exact fnDigitR hgl
 ·exact fnLetterR hgl
 ·exact fnPartR hgl
 ·exact fnHexR hgl
 ·exact fnValueR hgl
theorem H9_ok {gl : Gl} (hgl : ∀ g k v, gl g k = some v → g < 1000 ∧ lowV 8 v = true) : H9.OK Tryz.prog gl := hsOf_ok (afs2_ok hgl) (fun _ h => by cases h) (fun _ h => by cases h)
def rnLive : List Nat := [7, 10, 0, 8, 9, 1, 11]
def rnOut : List Nat := [1, 7, 9, 0, 11, 10]
def rnSt (s : ByteArray) (a b : Int) (i n m : Int) (g : Bool) : LSt := ([.int .i64 i, .int .i64 n, .string s, .int .i64 b, .int .i64 m, .int .i64 a, .bool g], [])
def rnEnd (s : ByteArray) (a : Int) (i n m : Int) (g : Bool) : Out := (.exit 0, [.int .i64 a, .int .i64 i, .int .i64 m, .string s, .bool g, .int .i64 n], [])
set_option maxRecDepth 100000 in
theorem q_num10 (gl : Gl) (s : ByteArray) (a i n m : Int) (g : Bool) : rnd gl H9 1000 60 0 rnLive rnOut (rnSt s a 10 i n m g) =
 let z0 := decide (i < (↑s.size : Int))
 let z1 := IntKind.i64.wrap (m * 10) + dg (byteAt s i)
 cond z0 (
 cond (decide (0 ≤ i) && z0) (
 cond (digitB (byteAt s i)) (
 cond (decide (0 ≤ i) && z0) (
 cond (hexB (byteAt s i)) (
 cond (decide (IntKind.i64.wrap z1 > 4294967296)) (
 some (.inl ([(.int .i64 (IntKind.i64.wrap (i + 1))), (.int .i64 (IntKind.i64.wrap (n + 1))), (.string (s)), (.int .i64 10), (.int .i64 4294967297), (.int .i64 (a)), (.bool true)], []))) (
 some (.inl ([(.int .i64 (IntKind.i64.wrap (i + 1))), (.int .i64 (IntKind.i64.wrap (n + 1))), (.string (s)), (.int .i64 10), (.int .i64 (IntKind.i64.wrap z1)), (.int .i64 (a)), (.bool (g))], [])))) (
 none)) (
 none)) (
 some (.inr (.exit 0, ([(.int .i64 (a)), (.int .i64 (i)), (.int .i64 (m)), (.string (s)), (.bool (g)), (.int .i64 (n))], []))))) (
 none)) (
 some (.inr (.exit 0, ([(.int .i64 (a)), (.int .i64 (i)), (.int .i64 (m)), (.string (s)), (.bool (g)), (.int .i64 (n))], [])))) := by kernel_rfl
set_option maxRecDepth 100000 in
theorem q_num16 (gl : Gl) (s : ByteArray) (a i n m : Int) (g : Bool) : rnd gl H9 1000 60 0 rnLive rnOut (rnSt s a 16 i n m g) =
 let z0 := decide (0 ≤ i) && (decide (i < (↑s.size : Int)))
 let z1 := IntKind.i64.wrap (m * 16) + dg (byteAt s i)
 let z2 := IntKind.i64.wrap (i + 1)
 let z3 := IntKind.i64.wrap (n + 1)
 let z4 := decide (IntKind.i64.wrap z1 > 4294967296)
 cond (decide (i < (↑s.size : Int))) (
 cond z0 (
 cond (digitB (byteAt s i)) (
 cond z0 (
 cond (hexB (byteAt s i)) (
 cond z4 (
 some (.inl ([(.int .i64 z2), (.int .i64 z3), (.string (s)), (.int .i64 16), (.int .i64 4294967297), (.int .i64 (a)), (.bool true)], []))) (
 some (.inl ([(.int .i64 z2), (.int .i64 z3), (.string (s)), (.int .i64 16), (.int .i64 (IntKind.i64.wrap z1)), (.int .i64 (a)), (.bool (g))], [])))) (
 none)) (
 none)) (
 cond z0 (
 cond (hexB (byteAt s i)) (
 cond z0 (
 cond (hexB (byteAt s i)) (
 cond z4 (
 some (.inl ([(.int .i64 z2), (.int .i64 z3), (.string (s)), (.int .i64 16), (.int .i64 4294967297), (.int .i64 (a)), (.bool true)], []))) (
 some (.inl ([(.int .i64 z2), (.int .i64 z3), (.string (s)), (.int .i64 16), (.int .i64 (IntKind.i64.wrap z1)), (.int .i64 (a)), (.bool (g))], [])))) (
 none)) (
 none)) (
 some (.inr (.exit 0, ([(.int .i64 (a)), (.int .i64 (i)), (.int .i64 (m)), (.string (s)), (.bool (g)), (.int .i64 (n))], []))))) (
 none))) (
 none)) (
 some (.inr (.exit 0, ([(.int .i64 (a)), (.int .i64 (i)), (.int .i64 (m)), (.string (s)), (.bool (g)), (.int .i64 (n))], [])))) := by kernel_rfl
end Go.Proofs.YtgohbcbdgakjeaaGreatDoor
noncomputable section
namespace Go.Proofs.YtgohbcbdgakjeaaGreatDoor
open Go.Proofs.YtgohbcbdgakjeaaGreatDoor.Ev Go.RowKit
def rnGo (b : Int) (s : ByteArray) : Nat → Int → Int → Bool → Int × Bool
 | 0, _, v, g => (v, g)
 | f + 1, i, v, g => if i < (s.size : Int) ∧ predB b (byteAt s i) = true then (if v * b + dg (byteAt s i) > 4294967296 then rnGo b s f (i + 1) 4294967297 true else rnGo b s f (i + 1) (v * b + dg (byteAt s i)) g) else (v, g)
theorem rnGo_in {b : Int} {s : ByteArray} {f : Nat} {i v : Int} {g : Bool} (h : i < (s.size : Int) ∧ predB b (byteAt s i) = true) : rnGo b s (f + 1) i v g = if v * b + dg (byteAt s i) > 4294967296 then rnGo b s f (i + 1) 4294967297 true else rnGo b s f (i + 1) (v * b + dg (byteAt s i)) g := if_pos h
theorem rnGo_out {b : Int} {s : ByteArray} : ∀ (f : Nat) {i v : Int} {g : Bool}, ¬ (i < (s.size : Int) ∧ predB b (byteAt s i) = true) → rnGo b s f i v g = (v, g)
 | 0, _, _, _, _ => rfl
 | _ + 1, _, _, _, h => if_neg h
theorem rnGo_big {b : Int} {s : ByteArray} : ∀ (f : Nat) (i v : Int), (rnGo b s f i v true).2 = true
 | 0, _, _ => rfl
 | f + 1, i, v => by
  unfold rnGo
  split
  ·split
   ·exact rnGo_big f _ _
   ·exact rnGo_big f _ _
  ·rfl
theorem hex_digit {c : Int} (h : digitB c = true) : hexB c = true := by unfold hexB; rw [h]; rfl
theorem rn_round (gl : Gl) {b : Int} (hb : b = 10 ∨ b = 16) {s : ByteArray} (a : Int) {i k v : Int} (g : Bool) (h0 : 0 ≤ i) (hs : s.size ≤ 1000000) (hk : 0 ≤ k ∧ k ≤ i) (hv : 0 ≤ v ∧ v ≤ 4294967297) :
  rnd gl H9 1000 60 0 rnLive rnOut (rnSt s a b i k v g) = some (if i < (s.size : Int) ∧ predB b (byteAt s i) = true then (if v * b + dg (byteAt s i) > 4294967296 then .inl (rnSt s a b (i + 1) (k + 1) 4294967297 true) else .inl (rnSt s a b (i + 1) (k + 1) (v * b + dg (byteAt s i)) g)) else .inr (rnEnd s a i k v g)) := by
 by_cases h : i < (s.size : Int)
 case neg =>
  rw [if_neg fun q => h q.1]
  rcases hb with rfl | rfl
  ·rw [q_num10, decide_eq_false h, cond_false]; rfl
  ·rw [q_num16, decide_eq_false h, cond_false]; rfl
 have w1 : IntKind.i64.wrap (i + 1) = i + 1 := wrap_id _ (by omega)
 have w2 : IntKind.i64.wrap (k + 1) = k + 1 := wrap_id _ (by omega)
 rcases hb with rfl | rfl
 ·rw [q_num10]
  simp only [h, h0, decide_true, Bool.and_self, cond_true, w1, w2, true_and]
  by_cases hd : digitB (byteAt s i) = true
  ·rw [if_pos (show predB 10 (byteAt s i) = true from hd), hd, hex_digit hd, cond_true, cond_true]
   have := digitB_iff.1 hd
   have hd2 : 0 ≤ dg (byteAt s i) ∧ dg (byteAt s i) ≤ 9 := by unfold dg; split <;> omega
   rw [wrap_id (v * 10) (by omega), wrap_id _ (by omega)]
   by_cases hg : v * 10 + dg (byteAt s i) > 4294967296
   ·rw [decide_eq_true hg, cond_true, if_pos hg]; rfl
   ·rw [decide_eq_false hg, cond_false, if_neg hg]; rfl
  ·rw [if_neg (show ¬ predB 10 (byteAt s i) = true from hd), Bool.eq_false_iff.2 hd, cond_false]; rfl
 ·rw [q_num16]
  simp only [h, h0, decide_true, Bool.and_self, cond_true, w1, w2, true_and]
  by_cases hx : hexB (byteAt s i) = true
  ·rw [if_pos (show predB 16 (byteAt s i) = true from hx), hx]
   have := hexB_iff.1 hx
   have hd2 : 0 ≤ dg (byteAt s i) ∧ dg (byteAt s i) ≤ 15 := by unfold dg; split <;> omega
   rw [wrap_id (v * 16) (by omega), wrap_id _ (by omega)]
   by_cases hg : v * 16 + dg (byteAt s i) > 4294967296
   ·rw [decide_eq_true hg, if_pos hg]
    cases digitB (byteAt s i) <;> rfl
   ·rw [decide_eq_false hg, if_neg hg]
    cases digitB (byteAt s i) <;> rfl
  ·have hd : digitB (byteAt s i) = false := Bool.eq_false_iff.2 fun q => hx (hex_digit q)
   rw [if_neg (show ¬ predB 16 (byteAt s i) = true from hx), Bool.eq_false_iff.2 hx, hd, cond_false, cond_false]; rfl
def rnFin (s : ByteArray) (a b i : Int) (k v : Int) (g : Bool) : Out := rnEnd s a (runE (predB b) s i) (k + (runE (predB b) s i - i)) (rnGo b s ((s.size : Int) - i).toNat i v g).1 (rnGo b s ((s.size : Int) - i).toNat i v g).2
def rnH : Hd := fun vs rows => match vs, rows with
 | [.int .i64 i, .int .i64 k, .string s, .int .i64 b, .int .i64 v, .int .i64 a, .bool g], [] => some (.br (decide (k = 0) && decide (v = 0) && (decide (b = 10) || decide (b = 16)) && !g) (.br (decide (0 ≤ i) && decide (i ≤ (s.size : Int)) && decide (s.size ≤ 1000000)) (.ret (rnFin s a b i 0 0 false)) .fail) .fail)
 | _, _ => none
theorem rnH_ok {gl : Gl} (hgl : ∀ g k v, gl g k = some v → g < 1000 ∧ lowV 8 v = true) : LpOK Tryz.prog gl 60 0 ⟨rnLive, rnOut, rnH⟩ := loop_of noSy_ok goodT hgl tglob (H9_ok hgl) (L := 100) (G := 40) (d := 40) fun vs rows t r h1 h2 => by
 simp only [rnH] at h1
 split at h1
 ·rename_i i k s b v a g
  cases h1
  obtain ⟨c1, h3⟩ := brT h2
  obtain ⟨c2, h4⟩ := brT h3
  simp only [Bool.and_eq_true, Bool.or_eq_true, decide_eq_true_eq, Bool.not_eq_true'] at c1 c2
  obtain ⟨⟨⟨rfl, rfl⟩, hb⟩, rfl⟩ := c1
  obtain ⟨⟨c3, c4⟩, c5⟩ := c2
  cases h4
  refine ⟨show 1000 ≤ most by decide, {p : Int × Int × Int × Bool // 0 ≤ p.1 ∧ p.1 ≤ (s.size : Int) ∧ 0 ≤ p.2.1 ∧ p.2.1 ≤ p.1 ∧ 0 ≤ p.2.2.1 ∧ p.2.2.1 ≤ 4294967297}, fun p => rnSt s a b p.1.1 p.1.2.1 p.1.2.2.1 p.1.2.2.2, fun p => some (rnFin s a b p.1.1 p.1.2.1 p.1.2.2.1 p.1.2.2.2), fun p => ((s.size : Int) - p.1.1).toNat, ⟨(i, 0, 0, false), by simp only; omega⟩, .inl rfl, rfl, ?_⟩
  rintro ⟨⟨i, k, v, g⟩, i0, i1, k0, k1, v0, v1⟩ o ho
  simp only at i0 i1 k0 k1 v0 v1 ho
  cases ho
  refine ⟨_, rn_round gl hb a g i0 c5 ⟨k0, k1⟩ ⟨v0, v1⟩, ?_⟩
  unfold rnFin
  rw [runE_eq (predB b) s i]
  by_cases h : i < (s.size : Int) ∧ predB b (byteAt s i) = true
  ·rw [if_pos h, decide_eq_true h.1, h.2, Bool.and_self, cond_true]
   obtain ⟨f, hf⟩ : ∃ f, ((s.size : Int) - i).toNat = f + 1 := ⟨((s.size : Int) - i).toNat - 1, by omega⟩
   have hf2 : ((s.size : Int) - (i + 1)).toNat = f := by omega
   have hd := dg_range hb h.2
   have hvb : 0 ≤ v * b := by rcases hb with rfl | rfl <;> omega
   rw [hf, rnGo_in h]
   by_cases hg : v * b + dg (byteAt s i) > 4294967296
   ·rw [if_pos hg, if_pos hg]
    refine ⟨⟨(i + 1, k + 1, 4294967297, true), by simp only; omega⟩, rfl, by simp only; omega, ?_⟩
    simp only [hf2]
    rw [show k + 1 + (runE (predB b) s (i + 1) - (i + 1)) = k + (runE (predB b) s (i + 1) - i) by omega]
   ·rw [if_neg hg, if_neg hg]
    refine ⟨⟨(i + 1, k + 1, v * b + dg (byteAt s i), g), by simp only; omega⟩, rfl, by simp only; omega, ?_⟩
    simp only [hf2]
    rw [show k + 1 + (runE (predB b) s (i + 1) - (i + 1)) = k + (runE (predB b) s (i + 1) - i) by omega]
  ·rw [if_neg h]
   have hc : (decide (i < (s.size : Int)) && predB b (byteAt s i)) = false := by
    rw [Bool.eq_false_iff]
    simpa using h
   rw [hc, cond_false]
   show rnEnd s a i k v g = _
   rw [rnGo_out _ h]
   simp only
   rw [show k + (i - i) = k by omega]
 ·cases h1
def H10 : Hs := hsOf afs2 [] [(60, [(0, ⟨rnLive, rnOut, rnH⟩)])]
theorem H10_ok {gl : Gl} (hgl : ∀ g k v, gl g k = some v → g < 1000 ∧ lowV 8 v = true) : H10.OK Tryz.prog gl := hsOf_ok (afs2_ok hgl) (fun _ h => by cases h) (fun p hp q hq => by
  simp only [List.mem_cons, List.not_mem_nil, or_false] at hp
  subst hp
  simp only [List.mem_cons, List.not_mem_nil, or_false] at hq
  subst hq
  exact rnH_ok hgl)
def rnT (s : ByteArray) (a b n2 : Int) : Option Value :=
 cond (decide (0 ≤ n2) && decide (n2 ≤ (s.size : Int)) && decide (s.size ≤ 1000000)) (cond (0 + (runE (predB b) s n2 - n2) == 0) (some (.tuple #[.int .i64 0, .int .i64 0, .int .i64 200]))
  (cond (rnGo b s ((s.size : Int) - n2).toNat n2 0 false).2 (some (.tuple #[.int .i64 0, .int .i64 0, .int .i64 201])) (cond (decide (0 ≤ a) && decide (a < (s.size : Int))) (cond (byteAt s a == 45)
   (some (.tuple #[.int .i64 (IntKind.i64.wrap (0 - (rnGo b s ((s.size : Int) - n2).toNat n2 0 false).1)), .int .i64 (IntKind.i64.wrap (runE (predB b) s n2 - a)), .int .i64 0]))
   (some (.tuple #[.int .i64 (rnGo b s ((s.size : Int) - n2).toNat n2 0 false).1, .int .i64 (IntKind.i64.wrap (runE (predB b) s n2 - a)), .int .i64 0]))) none))) none
def rnW (s : ByteArray) (a n1 : Int) : Option Value :=
 cond (decide (IntKind.i64.wrap (n1 + 1) < (s.size : Int))) (cond (decide (0 ≤ n1) && decide (n1 < (s.size : Int))) (cond (byteAt s n1 == 48) (cond (decide (0 ≤ IntKind.i64.wrap (n1 + 1)) && decide (IntKind.i64.wrap (n1 + 1) < (s.size : Int))) (cond (byteAt s (IntKind.i64.wrap (n1 + 1)) == 120) (rnT s a 16 (IntKind.i64.wrap (n1 + 2))) (rnT s a 10 n1)) none) (rnT s a 10 n1)) none) (rnT s a 10 n1)
set_option maxRecDepth 100000 in
theorem q_number (gl : Gl) (s : ByteArray) (a : Int) : ev gl H10 60 [.string s, .int .i64 a] =
  cond (decide (0 ≤ a) && decide (a < (s.size : Int))) (cond (byteAt s a == 45) (rnW s a (IntKind.i64.wrap (a + 1))) (rnW s a a)) none := by kernel_rfl
theorem puGo_ge {b cut : Int} (hb : b = 10 ∨ b = 16) {t : ByteArray} (hd : ∀ i, 0 ≤ i → i < (t.size : Int) → predB b (byteAt t i) = true) : ∀ (f : Nat) (i n : Int), 0 ≤ i → 0 ≤ n → (puGo b cut t f i n).1 = true → n ≤ (puGo b cut t f i n).2
 | 0, i, n, h0, h1, _ => Int.le_refl _
 | f + 1, i, n, h0, h1, h => by
  have hnb : n ≤ n * b := by rcases hb with rfl | rfl <;> omega
  unfold puGo at h ⊢
  by_cases hi : i < (t.size : Int)
  ·rw [if_pos hi] at h ⊢
   have := dg_range hb (hd i h0 hi)
   by_cases g1 : n ≥ cut
   ·rw [if_pos g1] at h; cases h
   ·rw [if_neg g1] at h ⊢
    by_cases g2 : n * b + dg (byteAt t i) > puMax
    ·rw [if_pos g2] at h; cases h
    ·rw [if_neg g2] at h ⊢
     have := puGo_ge hb hd f (i + 1) _ (by omega) (by omega) h
     omega
  ·rw [if_neg hi]
   exact Int.le_refl _
theorem rn_pu {b : Int} (hb : b = 10 ∨ b = 16) {s : ByteArray} {n2 : Int} (h0 : 0 ≤ n2) (h1 : n2 ≤ (s.size : Int)) : ∀ (f' : Nat) (i v : Int), n2 ≤ i → i ≤ runE (predB b) s n2 → (runE (predB b) s n2 - i).toNat = f' → 0 ≤ v → v ≤ 4294967296 →
  (if (puGo b (cutOf b) (subS s n2 (runE (predB b) s n2)) f' (i - n2) v).1 = true ∧ (puGo b (cutOf b) (subS s n2 (runE (predB b) s n2)) f' (i - n2) v).2 ≤ 4294967296 then rnGo b s ((s.size : Int) - i).toNat i v false = ((puGo b (cutOf b) (subS s n2 (runE (predB b) s n2)) f' (i - n2) v).2, false) else (rnGo b s ((s.size : Int) - i).toNat i v false).2 = true)
 | 0, i, v, k1, k2, k3, v0, v1 => by
  obtain ⟨r1, r2⟩ := runE_le (p := predB b) h1
  have hi : i = runE (predB b) s n2 := by omega
  rw [if_pos ⟨rfl, v1⟩]
  refine rnGo_out _ fun q => ?_
  have := runE_stop (p := predB b) _ n2 rfl h1 (by omega)
  rw [← hi, q.2] at this
  cases this
 | f + 1, i, v, k1, k2, k3, v0, v1 => by
  obtain ⟨r1, r2⟩ := runE_le (p := predB b) h1
  have hp := runE_in (p := predB b) _ n2 rfl h1 i k1 (by omega)
  have zs := subS_size (s := s) h0 r1 r2
  have hall : ∀ j, 0 ≤ j → j < ((subS s n2 (runE (predB b) s n2)).size : Int) → predB b (byteAt (subS s n2 (runE (predB b) s n2)) j) = true := fun j j0 j1 => by
   rw [byteAt_subS h0 r1 r2 j0 (by omega)]
   exact runE_in _ n2 rfl h1 _ (by omega) (by omega)
  have hby : byteAt (subS s n2 (runE (predB b) s n2)) (i - n2) = byteAt s i := by
   rw [byteAt_subS h0 r1 r2 (by omega) (by omega)]
   congr 1; omega
  obtain ⟨m, hm⟩ : ∃ m, ((s.size : Int) - i).toNat = m + 1 := ⟨((s.size : Int) - i).toNat - 1, by omega⟩
  have hm2 : ((s.size : Int) - (i + 1)).toNat = m := by omega
  have hd := dg_range hb hp
  have hvb : 0 ≤ v * b ∧ v * b ≤ 68719476736 := by rcases hb with rfl | rfl <;> omega
  have hb16 : b ≤ 16 := by rcases hb with rfl | rfl <;> decide
  have hcut : ¬ v ≥ cutOf b := by unfold cutOf; split <;> omega
  have hmax : ¬ v * b + dg (byteAt s i) > puMax := by unfold puMax; omega
  have e : puGo b (cutOf b) (subS s n2 (runE (predB b) s n2)) (f + 1) (i - n2) v = puGo b (cutOf b) (subS s n2 (runE (predB b) s n2)) f (i + 1 - n2) (v * b + dg (byteAt s i)) := by
   show (if i - n2 < _ then _ else _) = _
   rw [if_pos (by omega), if_neg hcut, hby, if_neg hmax, show i - n2 + 1 = i + 1 - n2 by omega]
  rw [e, hm, rnGo_in ⟨by omega, hp⟩]
  by_cases hg : v * b + dg (byteAt s i) > 4294967296
  ·rw [if_pos hg, if_neg]
   ·exact rnGo_big _ _ _
   ·rintro ⟨q1, q2⟩
    have := puGo_ge hb hall f (i + 1 - n2) _ (by omega) (by omega) q1
    omega
  ·rw [if_neg hg, ← hm2]
   exact rn_pu hb h0 h1 f (i + 1) _ (by omega) (by omega) (by omega) (by omega) (by omega)
theorem rnT_eq {s : ByteArray} {a b n2 : Int} (hb : b = 10 ∨ b = 16) (h0 : 0 ≤ a) (h1 : a < (s.size : Int)) (hs : s.size ≤ 1000000) (h2 : a ≤ n2) (h3 : n2 ≤ (s.size : Int)) : rnT s a b n2 = some (num3 (numV s a b n2)) := by
 obtain ⟨r1, r2⟩ := runE_le (p := predB b) h3
 have n0 : 0 ≤ n2 := by omega
 have w3 : IntKind.i64.wrap (runE (predB b) s n2 - a) = runE (predB b) s n2 - a := wrap_id _ (by omega)
 have zs := subS_size (s := s) n0 r1 r2
 have key := rn_pu hb n0 h3 _ n2 0 (Int.le_refl _) r1 rfl (Int.le_refl _) (by decide)
 have hall : ∀ j, 0 ≤ j → j < ((subS s n2 (runE (predB b) s n2)).size : Int) → predB b (byteAt (subS s n2 (runE (predB b) s n2)) j) = true := fun j j0 j1 => by
  rw [byteAt_subS n0 r1 r2 j0 (by omega)]
  exact runE_in _ n2 rfl h3 _ (by omega) (by omega)
 have nn := puGo_nn (cut := cutOf b) hb hall (subS s n2 (runE (predB b) s n2)).size 0 0 (Int.le_refl _) (Int.le_refl _)
 rw [show n2 - n2 = 0 by omega, show (runE (predB b) s n2 - n2).toNat = (subS s n2 (runE (predB b) s n2)).size by omega] at key
 unfold rnT numV puAll
 simp only [n0, h3, hs, h0, h1, decide_true, Bool.and_self, cond_true, w3]
 by_cases hz : runE (predB b) s n2 = n2
 ·rw [if_pos hz, show (0 + (runE (predB b) s n2 - n2) == 0) = true by rw [beq_iff_eq]; omega, cond_true]
  rfl
 ·rw [if_neg hz, show (0 + (runE (predB b) s n2 - n2) == 0) = false by rw [beq_eq_false_iff_ne]; omega, cond_false]
  split at key
  ·rename_i hc
   rw [if_pos hc, key, cond_false]
   by_cases h45 : byteAt s a = 45
   ·rw [show (byteAt s a == 45) = true by rw [h45]; rfl, cond_true, if_pos h45, wrap_id _ (by simp only; omega), Int.zero_sub]
    rfl
   ·rw [show (byteAt s a == 45) = false by simpa using h45, cond_false, if_neg h45]
    rfl
  ·rename_i hc
   rw [if_neg hc, key, cond_true]
   rfl
theorem number_eq (gl : Gl) {s : ByteArray} {a : Int} (h0 : 0 ≤ a) (h1 : a < (s.size : Int)) (hs : s.size ≤ 1000000) : ev gl H10 60 [.string s, .int .i64 a] = some (num3 (numC s a)) := by
 rw [q_number]
 have key : ∀ n1 : Int, 0 ≤ n1 → n1 ≤ (s.size : Int) → a ≤ n1 → sgn s a = n1 → rnW s a n1 = some (num3 (numC s a)) := by
  intro n1 k0 k1 k2 hsg
  have w1 : IntKind.i64.wrap (n1 + 1) = n1 + 1 := wrap_id _ (by omega)
  have w2 : IntKind.i64.wrap (n1 + 2) = n1 + 2 := wrap_id _ (by omega)
  have hdec := rnT_eq (b := 10) (.inl rfl) h0 h1 hs k2 k1
  unfold rnW numC
  rw [hsg, w1, w2]
  by_cases g : n1 + 1 < (s.size : Int)
  ·have g1 : n1 < (s.size : Int) := by omega
   have g2 : 0 ≤ n1 + 1 := by omega
   have hhex := rnT_eq (b := 16) (.inr rfl) h0 h1 hs (show a ≤ n1 + 2 by omega) (by omega)
   simp only [g, g1, g2, k0, decide_true, Bool.and_self, cond_true, hdec, hhex]
   by_cases hx : byteAt s n1 = 48
   ·rw [show (byteAt s n1 == 48) = true by rw [hx]; rfl, cond_true]
    by_cases hy : byteAt s (n1 + 1) = 120
    ·rw [if_pos ⟨g, hx, hy⟩, show (byteAt s (n1 + 1) == 120) = true by rw [hy]; rfl, cond_true]
    ·rw [if_neg fun q => hy q.2.2, show (byteAt s (n1 + 1) == 120) = false by simpa using hy, cond_false]
   ·rw [if_neg fun q => hx q.2.1, show (byteAt s n1 == 48) = false by simpa using hx, cond_false]
  ·rw [if_neg fun q => g q.1, decide_eq_false g, cond_false, hdec]
 rw [decide_eq_true h0, decide_eq_true h1, Bool.and_self, cond_true]
 by_cases h45 : byteAt s a = 45
 ·rw [show (byteAt s a == 45) = true by rw [h45]; rfl, cond_true]
  have w : IntKind.i64.wrap (a + 1) = a + 1 := wrap_id _ (by omega)
  rw [w]
  exact key (a + 1) (by omega) (by omega) (by omega) (if_pos h45)
 ·rw [show (byteAt s a == 45) = false by simpa using h45, cond_false]
  exact key a h0 (by omega) (by omega) (if_neg h45)
end Go.Proofs.YtgohbcbdgakjeaaGreatDoor
noncomputable section
namespace Go.Proofs.YtgohbcbdgakjeaaGreatDoor
open Go.Proofs.YtgohbcbdgakjeaaGreatDoor.Ev Go.RowKit
def ilLive : List Nat := [8, 0, 6, 9, 5, 2, 3, 4]
def ilOut : List Nat := [0, 8, 6, 9, 5, 2, 3, 4]
structure TCell where
 z : Int
 e : ByteArray
 y : Int
 x : Int
def tcRow (c : TCell) : Option LObj := some (.row ⟨[.int .u8 c.z, .string c.e, .int .i64 c.y, .int .i64 c.x], 59, (0, 0), 0, false, false⟩)
def ilSt0 (s : ByteArray) (a k : Int) (c : TCell) : LSt := ([.int .i64 k, .string s, .int .i64 a, .pointer (some ⟨1000, 0, none⟩), .slice none 0 0, .slice none 0 0, .int .i64 0, .int .i64 0], [tcRow c])
def ilSt1 (s : ByteArray) (a k : Int) (c : TCell) (cs : List Value) (n : Nat) : LSt := ([.int .i64 k, .string s, .int .i64 a, .pointer (some ⟨1000, 0, none⟩), .slice (some ⟨1001, 0, none⟩) n n, .slice none 0 0, .int .i64 0, .int .i64 0], [tcRow c, tokRow cs])
def ilEnd0 (s : ByteArray) (a k : Int) (c : TCell) : Out := (.exit 3, [.string s, .int .i64 k, .int .i64 a, .pointer (some ⟨1000, 0, none⟩), .slice none 0 0, .slice none 0 0, .int .i64 0, .int .i64 0], [tcRow c])
def ilEnd1 (s : ByteArray) (a k : Int) (c : TCell) (cs : List Value) (n : Nat) : Out := (.exit 3, [.string s, .int .i64 k, .int .i64 a, .pointer (some ⟨1000, 0, none⟩), .slice (some ⟨1001, 0, none⟩) n n, .slice none 0 0, .int .i64 0, .int .i64 0], [tcRow c, tokRow cs])
set_option maxRecDepth 100000 in
theorem q_il0 (gl : Gl) (s : ByteArray) (a k : Int) (c : TCell) : roundK noSy Tryz.prog gl (fun _ => none) H9 100 40 40 33 1 ilLive (ilSt0 s a k c) (rndK Tryz.prog 1001 ilLive ilOut) =
 let z0 : Option (LSt ⊕ Out) := some (.inr (.exit 3, ([(.string (s)), (.int .i64 (k)), (.int .i64 (a)), (.pointer (some ⟨1000, 0, none⟩)), (.slice none 0 0), (.slice none 0 0), (.int .i64 0), (.int .i64 0)], [some (.row ⟨[(.int .u8 (c.z)), (.string (c.e)), (.int .i64 (c.y)), (.int .i64 (c.x))], 59, (0, 0), 0, false, false⟩)])))
 let z1 := decide (IntKind.i64.wrap (a + k) < (↑s.size : Int))
 cond z1 (
 cond (decide (0 ≤ IntKind.i64.wrap (a + k)) && z1) (
 cond (partB (byteAt s (IntKind.i64.wrap (a + k)))) (
 some (.inl ([(.int .i64 (IntKind.i64.wrap (k + 1))), (.string (s)), (.int .i64 (a)), (.pointer (some ⟨1000, 0, none⟩)), (.slice none 0 0), (.slice none 0 0), (.int .i64 0), (.int .i64 0)], [some (.row ⟨[(.int .u8 (c.z)), (.string (c.e)), (.int .i64 (c.y)), (.int .i64 (c.x))], 59, (0, 0), 0, false, false⟩)]))) z0) (
 none)) z0 := by kernel_rfl
set_option maxRecDepth 100000 in
theorem q_il1 (gl : Gl) (s : ByteArray) (a k : Int) (c : TCell) (cs : List Value) (n : Nat) : roundK noSy Tryz.prog gl (fun _ => none) H9 100 40 40 33 1 ilLive (ilSt1 s a k c cs n) (rndK Tryz.prog 1002 ilLive ilOut) =
 let z0 : Option (LSt ⊕ Out) := cond (List.all cs (af 8) && true) (
 some (.inr (.exit 3, ([(.string (s)), (.int .i64 (k)), (.int .i64 (a)), (.pointer (some ⟨1000, 0, none⟩)), (.slice (some ⟨1001, 0, none⟩) (n) (n)), (.slice none 0 0), (.int .i64 0), (.int .i64 0)], [some (.row ⟨[(.int .u8 (c.z)), (.string (c.e)), (.int .i64 (c.y)), (.int .i64 (c.x))], 59, (0, 0), 0, false, false⟩), some (.row ⟨cs, 59, (0, 0), 4, false, false⟩)])))) (
 none)
 let z1 := decide (IntKind.i64.wrap (a + k) < (↑s.size : Int))
 cond z1 (
 cond (decide (0 ≤ IntKind.i64.wrap (a + k)) && z1) (
 cond (partB (byteAt s (IntKind.i64.wrap (a + k)))) (
 cond (List.all cs (af 8) && true) (
 some (.inl ([(.int .i64 (IntKind.i64.wrap (k + 1))), (.string (s)), (.int .i64 (a)), (.pointer (some ⟨1000, 0, none⟩)), (.slice (some ⟨1001, 0, none⟩) (n) (n)), (.slice none 0 0), (.int .i64 0), (.int .i64 0)], [some (.row ⟨[(.int .u8 (c.z)), (.string (c.e)), (.int .i64 (c.y)), (.int .i64 (c.x))], 59, (0, 0), 0, false, false⟩), some (.row ⟨cs, 59, (0, 0), 4, false, false⟩)]))) (
 none)) z0) (
 none)) z0 := by kernel_rfl
theorem il_round0 (gl : Gl) {s : ByteArray} {a k : Int} (c : TCell) (ha : 0 ≤ a) (hk : 0 ≤ k) (hak : a + k ≤ (s.size : Int)) (hs : s.size ≤ 200) : roundK noSy Tryz.prog gl (fun _ => none) H9 100 40 40 33 1 ilLive (ilSt0 s a k c) (rndK Tryz.prog 1001 ilLive ilOut) = some (if a + k < (s.size : Int) ∧ partB (byteAt s (a + k)) = true then .inl (ilSt0 s a (k + 1) c) else .inr (ilEnd0 s a k c)) := by
 have w1 : IntKind.i64.wrap (a + k) = a + k := wrap_id _ (by omega)
 have w2 : IntKind.i64.wrap (k + 1) = k + 1 := wrap_id _ (by omega)
 have h0 : 0 ≤ a + k := by omega
 rw [q_il0, w1, w2]
 by_cases h : a + k < (s.size : Int)
 ·simp only [h, h0, decide_true, Bool.and_self, cond_true, true_and]
  by_cases hp : partB (byteAt s (a + k)) = true
  ·rw [if_pos hp, hp, cond_true]; rfl
  ·rw [if_neg hp, Bool.eq_false_iff.2 hp, cond_false]; rfl
 ·rw [if_neg fun q => h q.1, decide_eq_false h, cond_false]; rfl
theorem il_round1 (gl : Gl) {s : ByteArray} {a k : Int} (c : TCell) {cs : List Value} (n : Nat) (hcs : cs.all (af 8) = true) (ha : 0 ≤ a) (hk : 0 ≤ k) (hak : a + k ≤ (s.size : Int)) (hs : s.size ≤ 200) : roundK noSy Tryz.prog gl (fun _ => none) H9 100 40 40 33 1 ilLive (ilSt1 s a k c cs n) (rndK Tryz.prog 1002 ilLive ilOut) = some (if a + k < (s.size : Int) ∧ partB (byteAt s (a + k)) = true then .inl (ilSt1 s a (k + 1) c cs n) else .inr (ilEnd1 s a k c cs n)) := by
 have w1 : IntKind.i64.wrap (a + k) = a + k := wrap_id _ (by omega)
 have w2 : IntKind.i64.wrap (k + 1) = k + 1 := wrap_id _ (by omega)
 have h0 : 0 ≤ a + k := by omega
 rw [q_il1, w1, w2, hcs]
 simp only [Bool.and_true, cond_true]
 by_cases h : a + k < (s.size : Int)
 ·simp only [h, h0, decide_true, Bool.and_self, cond_true, true_and]
  by_cases hp : partB (byteAt s (a + k)) = true
  ·rw [if_pos hp, hp, cond_true]; rfl
  ·rw [if_neg hp, Bool.eq_false_iff.2 hp, cond_false]; rfl
 ·rw [if_neg fun q => h q.1, decide_eq_false h, cond_false]; rfl
def ilG (s : ByteArray) (a k : Int) : Bool := decide (0 ≤ a) && decide (0 ≤ k) && decide (a + k ≤ (s.size : Int)) && decide (s.size ≤ 200)
def ilN (s : ByteArray) (a k : Int) : Int := runE partB s (a + k) - a
def ilH : Hd := fun vs rows => match vs, rows with
 | [.int .i64 k, .string s, .int .i64 a, .pointer (some ⟨p, q, none⟩), .slice none o c, .slice none o3 c3, .int .i64 w3, .int .i64 w4], [some (.row ⟨[.int .u8 z, .string e, .int .i64 y, .int .i64 x], t1, (g1, g2), e1, false, false⟩)] =>
  some (.br (Nat.beq o3 0 && Nat.beq c3 0 && decide (w3 = 0) && decide (w4 = 0) && Nat.beq p 1000 && Nat.beq q 0 && Nat.beq o 0 && Nat.beq c 0 && Nat.beq t1 59 && Nat.beq g1 0 && Nat.beq g2 0 && Nat.beq e1 0) (.br (ilG s a k) (.ret (ilEnd0 s a (ilN s a k) ⟨z, e, y, x⟩)) .fail) .fail)
 | [.int .i64 k, .string s, .int .i64 a, .pointer (some ⟨p, q, none⟩), .slice (some ⟨p2, q2, none⟩) n n2, .slice none o3 c3, .int .i64 w3, .int .i64 w4], [some (.row ⟨[.int .u8 z, .string e, .int .i64 y, .int .i64 x], t1, (g1, g2), e1, false, false⟩), some (.row ⟨cs, t2, (g3, g4), e2, false, false⟩)] =>
  some (.br (Nat.beq o3 0 && Nat.beq c3 0 && decide (w3 = 0) && decide (w4 = 0) && Nat.beq p 1000 && Nat.beq q 0 && Nat.beq p2 1001 && Nat.beq q2 0 && Nat.beq t1 59 && Nat.beq g1 0 && Nat.beq g2 0 && Nat.beq e1 0 && Nat.beq t2 59 && Nat.beq g3 0 && Nat.beq g4 0 && Nat.beq e2 4) (.br (ilG s a k) (.br (Nat.beq n2 n && cs.all (af 8)) (.ret (ilEnd1 s a (ilN s a k) ⟨z, e, y, x⟩ cs n)) .fail) .fail) .fail)
 | _, _ => none
theorem ilN_eq (s : ByteArray) (a k : Int) : ilN s a k = cond (decide (a + k < (s.size : Int)) && partB (byteAt s (a + k))) (ilN s a (k + 1)) k := by
 unfold ilN
 rw [runE_eq partB s (a + k)]
 cases (decide (a + k < (s.size : Int)) && partB (byteAt s (a + k)))
 ·show a + k - a = k; omega
 ·rw [cond_true, cond_true, show a + k + 1 = a + (k + 1) by omega]
theorem ilH_ok {gl : Gl} (hgl : ∀ g k v, gl g k = some v → g < 1000 ∧ lowV 8 v = true) : LpOK Tryz.prog gl 33 1 ⟨ilLive, ilOut, ilH⟩ := loop_of noSy_ok goodT hgl tglob (H9_ok hgl) (L := 100) (G := 40) (d := 40) fun vs rows t r h1 h2 => by
 simp only [ilH] at h1
 split at h1
 ·rename_i k s a p q o c o3 c3 w3 w4 z e y x t1 g1 g2 e1
  cases h1
  obtain ⟨hg, h3⟩ := brT h2
  obtain ⟨hG, h4⟩ := brT h3
  simp only [ilG, Bool.and_eq_true, decide_eq_true_eq, nbeq] at hg hG
  obtain ⟨⟨⟨⟨⟨⟨⟨⟨⟨⟨⟨rfl, rfl⟩, rfl⟩, rfl⟩, rfl⟩, rfl⟩, rfl⟩, rfl⟩, rfl⟩, rfl⟩, rfl⟩, rfl⟩ := hg
  obtain ⟨⟨⟨ha, hk⟩, hak⟩, hs⟩ := hG
  cases h4
  refine ⟨show 1001 ≤ most by decide, {k : Int // 0 ≤ k ∧ a + k ≤ (s.size : Int)}, fun k => ilSt0 s a k.1 ⟨z, e, y, x⟩, fun k => some (ilEnd0 s a (ilN s a k.1) ⟨z, e, y, x⟩), fun k => ((s.size : Int) - k.1).toNat, ⟨k, hk, hak⟩, .inl rfl, rfl, ?_⟩
  rintro ⟨k, k0, k1⟩ o ho
  simp only at ho
  cases ho
  refine ⟨_, il_round0 gl ⟨z, e, y, x⟩ ha k0 k1 hs, ?_⟩
  rw [ilN_eq]
  by_cases h : a + k < (s.size : Int) ∧ partB (byteAt s (a + k)) = true
  ·rw [if_pos h, decide_eq_true h.1, h.2, Bool.and_self, cond_true]
   exact ⟨⟨k + 1, by omega, by omega⟩, rfl, by simp only; omega, rfl⟩
  ·rw [if_neg h, show (decide (a + k < (s.size : Int)) && partB (byteAt s (a + k))) = false by rw [Bool.eq_false_iff]; simpa using h, cond_false]
 ·rename_i k s a p q p2 q2 n n2 o3 c3 w3 w4 z e y x t1 g1 g2 e1 cs t2 g3 g4 e2
  cases h1
  obtain ⟨hg, h3⟩ := brT h2
  obtain ⟨hG, h4⟩ := brT h3
  obtain ⟨hn, h5⟩ := brT h4
  simp only [ilG, Bool.and_eq_true, decide_eq_true_eq, nbeq] at hg hG hn
  obtain ⟨⟨⟨⟨⟨⟨⟨⟨⟨⟨⟨⟨⟨⟨⟨rfl, rfl⟩, rfl⟩, rfl⟩, rfl⟩, rfl⟩, rfl⟩, rfl⟩, rfl⟩, rfl⟩, rfl⟩, rfl⟩, rfl⟩, rfl⟩, rfl⟩, rfl⟩ := hg
  obtain ⟨⟨⟨ha, hk⟩, hak⟩, hs⟩ := hG
  obtain ⟨rfl, hcs⟩ := hn
  cases h5
  refine ⟨show 1002 ≤ most by decide, {k : Int // 0 ≤ k ∧ a + k ≤ (s.size : Int)}, fun k => ilSt1 s a k.1 ⟨z, e, y, x⟩ cs _, fun k => some (ilEnd1 s a (ilN s a k.1) ⟨z, e, y, x⟩ cs _), fun k => ((s.size : Int) - k.1).toNat, ⟨k, hk, hak⟩, .inl rfl, rfl, ?_⟩
  rintro ⟨k, k0, k1⟩ o ho
  simp only at ho
  cases ho
  refine ⟨_, il_round1 gl ⟨z, e, y, x⟩ _ hcs ha k0 k1 hs, ?_⟩
  rw [ilN_eq]
  by_cases h : a + k < (s.size : Int) ∧ partB (byteAt s (a + k)) = true
  ·rw [if_pos h, decide_eq_true h.1, h.2, Bool.and_self, cond_true]
   exact ⟨⟨k + 1, by omega, by omega⟩, rfl, by simp only; omega, rfl⟩
  ·rw [if_neg h, show (decide (a + k < (s.size : Int)) && partB (byteAt s (a + k))) = false by rw [Bool.eq_false_iff]; simpa using h, cond_false]
 ·cases h1
def H11 (rg : ByteArray → Int) (nm : ByteArray → Int → Int × Int × Int) : Hs := hsOf ((58, afReg rg) :: (60, afNum nm) :: afs2) [] [(33, [(1, ⟨ilLive, ilOut, ilH⟩)])]
def llLive : List Nat := [6, 5, 0, 2, 3, 4]
def llOut : List Nat := [5, 2, 3, 4]
def llSt0 (s : ByteArray) (a : Int) : LSt := ([.int .i64 a, .slice none 0 0, .string s, .slice none 0 0, .int .i64 0, .int .i64 0], [])
def llSt1 (s : ByteArray) (a : Int) (cs : List Value) (n : Nat) : LSt := ([.int .i64 a, .slice (some ⟨1000, 0, none⟩) n n, .string s, .slice none 0 0, .int .i64 0, .int .i64 0], [tokRow cs])
set_option maxRecDepth 100000 in
theorem q_ll0 (gl : Gl) (rg : ByteArray → Int) (nm : ByteArray → Int → Int × Int × Int) (s : ByteArray) (a : Int) : roundK noSy Tryz.prog gl (fun _ => none) (H11 rg nm) 100 40 40 33 0 llLive (llSt0 s a) (rndK Tryz.prog 1000 llLive llOut) =
 let z1 := IntKind.i64.wrap (a + ilN s a 1)
 let z3 := decide (a < (↑s.size : Int))
 let z4 : Option (LSt ⊕ Out) := some (.inr (.exit 0, ([(.slice none 0 0), (.slice none 0 0), (.int .i64 0), (.int .i64 0)], [])))
 let z5 := (⟨#[]⟩ : ByteArray)
 let z0 : Option (LSt ⊕ Out) := cond (decide (0 ≤ a) && z3 && (decide (s.size ≤ 1000000))) (
 cond ((nm s a).snd.snd != 0) (
 some (.inr (.ret, ([(.slice none 0 0), (.slice none 0 0), (.int .i64 (a)), (.int .i64 ((nm s a).snd.snd))], [])))) (
 some (.inl ([(.int .i64 (IntKind.i64.wrap (a + (nm s a).snd.fst))), (.slice (some ⟨1000, 0, none⟩) 1 1), (.string (s)), (.slice none 0 0), (.int .i64 0), (.int .i64 0)], [some (.row ⟨[(.int .u8 3), (.string z5), (.int .i64 ((nm s a).fst)), (.int .i64 (a))], 59, (0, 0), 4, false, false⟩)])))) (
 none)
 let z6 := IntKind.i64.wrap (a + 1)
 let z2 : Option (LSt ⊕ Out) := some (.inl ([(.int .i64 z6), (.slice none 0 0), (.string (s)), (.slice none 0 0), (.int .i64 0), (.int .i64 0)], []))
 let z7 := decide ((subS s a z1).size ≤ 1000000)
 cond z3 (
 cond (decide (0 ≤ a) && z3) (
 cond (byteAt s a != 35) (
 cond (decide (0 ≤ a) && z3) (
 cond (byteAt s a == 32) z2 (
 cond (byteAt s a == 9) z2 (
 cond (byteAt s a == 44) (
 some (.inl ([(.int .i64 z6), (.slice (some ⟨1000, 0, none⟩) 1 1), (.string (s)), (.slice none 0 0), (.int .i64 0), (.int .i64 0)], [some (.row ⟨[(.int .u8 4), (.string z5), (.int .i64 0), (.int .i64 (a))], 59, (0, 0), 4, false, false⟩)]))) (
 cond (byteAt s a == 58) (
 some (.inl ([(.int .i64 z6), (.slice (some ⟨1000, 0, none⟩) 1 1), (.string (s)), (.slice none 0 0), (.int .i64 0), (.int .i64 0)], [some (.row ⟨[(.int .u8 5), (.string z5), (.int .i64 0), (.int .i64 (a))], 59, (0, 0), 4, false, false⟩)]))) (
 cond (letterB (byteAt s a)) (
 cond (ilG s a 1) (
 cond (decide (0 ≤ a) && (decide (a ≤ IntKind.i64.wrap (a + ilN s a 1))) && (decide (IntKind.i64.wrap (a + ilN s a 1) ≤ (↑s.size : Int)))) (
 cond z7 (
 cond (decide (rg (subS s a z1) ≥ 0)) (
 cond z7 (
 some (.inl ([(.int .i64 z1), (.slice (some ⟨1000, 0, none⟩) 1 1), (.string (s)), (.slice none 0 0), (.int .i64 0), (.int .i64 0)], [some (.row ⟨[(.int .u8 2), (.string z5), (.int .i64 (rg (subS s a z1))), (.int .i64 (a))], 59, (0, 0), 4, false, false⟩)]))) (
 none)) (
 some (.inl ([(.int .i64 z1), (.slice (some ⟨1000, 0, none⟩) 1 1), (.string (s)), (.slice none 0 0), (.int .i64 0), (.int .i64 0)], [some (.row ⟨[(.int .u8 1), (.string (subS s a z1)), (.int .i64 0), (.int .i64 (a))], 59, (0, 0), 4, false, false⟩)])))) (
 none)) (
 none)) (
 none)) (
 cond (byteAt s a == 45) z0 (
 cond (digitB (byteAt s a)) z0 (
 some (.inr (.ret, ([(.slice none 0 0), (.slice none 0 0), (.int .i64 (a)), (.int .i64 200)], []))))))))))) (
 none)) z4) (
 none)) z4 := by kernel_rfl
set_option maxRecDepth 100000 in
theorem q_ll1 (gl : Gl) (rg : ByteArray → Int) (nm : ByteArray → Int → Int × Int × Int) (s : ByteArray) (a : Int) (cs : List Value) (n : Nat) : roundK noSy Tryz.prog gl (fun _ => none) (H11 rg nm) 100 40 40 33 0 llLive (llSt1 s a cs n) (rndK Tryz.prog 1000 llLive llOut) =
 let z1 := ((n + 1) * 40).ble 140737488355328 && ((n + 1).ble 1099511627776)
 let z5 := (⟨#[]⟩ : ByteArray)
 let z6 := List.all cs (af 8) && true
 let z4 : Option (LSt ⊕ Out) := cond z6 (
 some (.inr (.exit 0, ([(.slice (some ⟨1000, 0, none⟩) (n) (n)), (.slice none 0 0), (.int .i64 0), (.int .i64 0)], [some (.row ⟨cs, 59, (0, 0), 4, false, false⟩)])))) (
 none)
 let z7 := decide (a < (↑s.size : Int))
 let z8 := (n * 4).beq cs.length
 let z9 := cs ++ [(.int .u8 3), (.string z5), (.int .i64 ((nm s a).fst)), (.int .i64 (a))]
 let z0 : Option (LSt ⊕ Out) := cond (decide (0 ≤ a) && z7 && (decide (s.size ≤ 1000000))) (
 cond ((nm s a).snd.snd != 0) (
 cond z6 (
 some (.inr (.ret, ([(.slice (some ⟨1000, 0, none⟩) (n) (n)), (.slice none 0 0), (.int .i64 (a)), (.int .i64 ((nm s a).snd.snd))], [some (.row ⟨cs, 59, (0, 0), 4, false, false⟩)])))) (
 none)) (
 cond (n.ble n) (
 cond z1 (
 cond z8 (
 cond (List.all z9 (af 8) && true) (
 some (.inl ([(.int .i64 (IntKind.i64.wrap (a + (nm s a).snd.fst))), (.slice (some ⟨1000, 0, none⟩) (n + 1) (n + 1)), (.string (s)), (.slice none 0 0), (.int .i64 0), (.int .i64 0)], [some (.row ⟨z9, 59, (0, 0), 4, false, false⟩)]))) (
 none)) (
 none)) (
 none)) (
 none))) (
 none)
 let z11 := cs ++ [(.int .u8 4), (.string z5), (.int .i64 0), (.int .i64 (a))]
 let z12 := cs ++ [(.int .u8 5), (.string z5), (.int .i64 0), (.int .i64 (a))]
 let z14 := IntKind.i64.wrap (a + ilN s a 1)
 let z2 := subS s a z14
 let z10 := cs ++ [(.int .u8 2), (.string z5), (.int .i64 (rg z2)), (.int .i64 (a))]
 let z13 := cs ++ [(.int .u8 1), (.string z2), (.int .i64 0), (.int .i64 (a))]
 let z15 := IntKind.i64.wrap (a + 1)
 let z3 : Option (LSt ⊕ Out) := cond z6 (
 some (.inl ([(.int .i64 z15), (.slice (some ⟨1000, 0, none⟩) (n) (n)), (.string (s)), (.slice none 0 0), (.int .i64 0), (.int .i64 0)], [some (.row ⟨cs, 59, (0, 0), 4, false, false⟩)]))) (
 none)
 cond z7 (
 cond (decide (0 ≤ a) && z7) (
 cond (byteAt s a != 35) (
 cond (decide (0 ≤ a) && z7) (
 cond (byteAt s a == 32) z3 (
 cond (byteAt s a == 9) z3 (
 cond (byteAt s a == 44) (
 cond (n.ble n) (
 cond z1 (
 cond z8 (
 cond (List.all z11 (af 8) && true) (
 some (.inl ([(.int .i64 z15), (.slice (some ⟨1000, 0, none⟩) (n + 1) (n + 1)), (.string (s)), (.slice none 0 0), (.int .i64 0), (.int .i64 0)], [some (.row ⟨z11, 59, (0, 0), 4, false, false⟩)]))) (
 none)) (
 none)) (
 none)) (
 none)) (
 cond (byteAt s a == 58) (
 cond (n.ble n) (
 cond z1 (
 cond z8 (
 cond (List.all z12 (af 8) && true) (
 some (.inl ([(.int .i64 z15), (.slice (some ⟨1000, 0, none⟩) (n + 1) (n + 1)), (.string (s)), (.slice none 0 0), (.int .i64 0), (.int .i64 0)], [some (.row ⟨z12, 59, (0, 0), 4, false, false⟩)]))) (
 none)) (
 none)) (
 none)) (
 none)) (
 cond (letterB (byteAt s a)) (
 cond z6 (
 cond (ilG s a 1) (
 cond (n.beq n && (List.all cs (af 8))) (
 cond z6 (
 cond (decide (0 ≤ a) && (decide (a ≤ IntKind.i64.wrap (a + ilN s a 1))) && (decide (IntKind.i64.wrap (a + ilN s a 1) ≤ (↑s.size : Int)))) (
 cond (decide (z2.size ≤ 1000000)) (
 cond (decide (rg z2 ≥ 0)) (
 cond (decide (z2.size ≤ 1000000)) (
 cond (n.ble n) (
 cond z1 (
 cond z8 (
 cond (List.all z10 (af 8) && true) (
 some (.inl ([(.int .i64 z14), (.slice (some ⟨1000, 0, none⟩) (n + 1) (n + 1)), (.string (s)), (.slice none 0 0), (.int .i64 0), (.int .i64 0)], [some (.row ⟨z10, 59, (0, 0), 4, false, false⟩)]))) (
 none)) (
 none)) (
 none)) (
 none)) (
 none)) (
 cond (n.ble n) (
 cond z1 (
 cond z8 (
 cond (List.all z13 (af 8) && true) (
 some (.inl ([(.int .i64 z14), (.slice (some ⟨1000, 0, none⟩) (n + 1) (n + 1)), (.string (s)), (.slice none 0 0), (.int .i64 0), (.int .i64 0)], [some (.row ⟨z13, 59, (0, 0), 4, false, false⟩)]))) (
 none)) (
 none)) (
 none)) (
 none))) (
 none)) (
 none)) (
 none)) (
 none)) (
 none)) (
 none)) (
 cond (byteAt s a == 45) z0 (
 cond (digitB (byteAt s a)) z0 (
 cond z6 (
 some (.inr (.ret, ([(.slice (some ⟨1000, 0, none⟩) (n) (n)), (.slice none 0 0), (.int .i64 (a)), (.int .i64 200)], [some (.row ⟨cs, 59, (0, 0), 4, false, false⟩)])))) (
 none))))))))) (
 none)) z4) (
 none)) z4 := by kernel_rfl
end Go.Proofs.YtgohbcbdgakjeaaGreatDoor
noncomputable section
namespace Go.Proofs.YtgohbcbdgakjeaaGreatDoor
open Go.Proofs.YtgohbcbdgakjeaaGreatDoor.Ev Go.RowKit
def llSt (s : ByteArray) (a : Int) (l : List Tok) : LSt := match l with
 | [] => llSt0 s a
 | _ :: _ => llSt1 s a (toksC l) l.length
def llEnd (x : Ex) (l : List Tok) (b e : Int) : Out := match l with
 | [] => (x, [.slice none 0 0, .slice none 0 0, .int .i64 b, .int .i64 e], [])
 | _ :: _ => (x, [.slice (some ⟨1000, 0, none⟩) l.length l.length, .slice none 0 0, .int .i64 b, .int .i64 e], [tokRow (toksC l)])
def llRes (s : ByteArray) (a : Int) (l : List Tok) : TS → LSt ⊕ Out
 | .stop => .inr (llEnd (.exit 0) l 0 0)
 | .skip => .inl (llSt s (a + 1) l)
 | .tok t k => .inl (llSt s (a + k) (l ++ [t]))
 | .err e => .inr (llEnd .ret l a e)
theorem llRes_tok {s : ByteArray} {a k b : Int} {l : List Tok} {t : Tok} (h : a + k = b) : llRes s a l (.tok t k) = .inl (llSt s b (l ++ [t])) := by
 subst h; rfl
theorem il_run {s : ByteArray} {a : Int} (h : a < (s.size : Int)) (hl : letterB (byteAt s a) = true) : a + ilN s a 1 = runE partB s a := by
 have e := runE_eq partB s a
 rw [decide_eq_true h, Bool.true_and, show partB (byteAt s a) = true by unfold partB; rw [hl]; rfl, cond_true] at e
 unfold ilN
 omega
theorem ll_round0 (gl : Gl) {s : ByteArray} {a : Int} (h0 : 0 ≤ a) (hs : s.size ≤ 200) : roundK noSy Tryz.prog gl (fun _ => none) (H11 regC numC) 100 40 40 33 0 llLive (llSt s a []) (rndK Tryz.prog 1000 llLive llOut) = some (llRes s a [] (tokS s a)) := by
 show roundK noSy Tryz.prog gl (fun _ => none) (H11 regC numC) 100 40 40 33 0 llLive (llSt0 s a) (rndK Tryz.prog 1000 llLive llOut) = _
 rw [q_ll0]
 dsimp only
 unfold tokS
 have hs6 : s.size ≤ 1000000 := by omega
 by_cases h : a < (s.size : Int)
 case neg =>
  rw [decide_eq_false h, cond_false, if_neg h]
  rfl
 obtain ⟨r1, r2⟩ := runE_le (p := partB) (show a ≤ (s.size : Int) by omega)
 have w1 : IntKind.i64.wrap (a + 1) = a + 1 := wrap_id _ (by omega)
 have w3 : a + (runE partB s a - a) = runE partB s a := by omega
 have w4 : IntKind.i64.wrap (runE partB s a) = runE partB s a := wrap_id _ (by omega)
 have z := subS_size (s := s) h0 r1 r2
 have z1 : (subS s a (runE partB s a)).size ≤ 1000000 := by omega
 have hG : ilG s a 1 = true := by simp only [ilG, Bool.and_eq_true, decide_eq_true_eq]; omega
 simp only [h, h0, hs6, decide_true, Bool.and_self, cond_true, w1, if_true, hG]
 by_cases c1 : byteAt s a = 35
 ·rw [show (byteAt s a != 35) = false by simpa using c1, cond_false, if_pos c1]; rfl
 rw [show (byteAt s a != 35) = true by simpa using c1, cond_true, if_neg c1]
 by_cases c2 : byteAt s a = 32
 ·rw [show (byteAt s a == 32) = true by simpa using c2, cond_true, if_pos (.inl c2)]; rfl
 rw [show (byteAt s a == 32) = false by simpa using c2, cond_false]
 by_cases c3 : byteAt s a = 9
 ·rw [show (byteAt s a == 9) = true by simpa using c3, cond_true, if_pos (.inr c3)]; rfl
 rw [show (byteAt s a == 9) = false by simpa using c3, cond_false, if_neg (by simp [c2, c3])]
 by_cases c4 : byteAt s a = 44
 ·rw [show (byteAt s a == 44) = true by simpa using c4, cond_true, if_pos c4]; rfl
 rw [show (byteAt s a == 44) = false by simpa using c4, cond_false, if_neg c4]
 by_cases c5 : byteAt s a = 58
 ·rw [show (byteAt s a == 58) = true by simpa using c5, cond_true, if_pos c5]; rfl
 rw [show (byteAt s a == 58) = false by simpa using c5, cond_false, if_neg c5]
 by_cases c6 : letterB (byteAt s a) = true
 ·rw [c6, cond_true, if_pos rfl]
  simp only [il_run h c6, w4, r1, r2, decide_true, Bool.and_self, cond_true, z1]
  by_cases c7 : 0 ≤ regC (subS s a (runE partB s a))
  ·rw [decide_eq_true (show regC (subS s a (runE partB s a)) ≥ 0 from c7), cond_true, if_pos c7]
   rw [llRes_tok w3]
   rfl
  ·rw [decide_eq_false (show ¬ regC (subS s a (runE partB s a)) ≥ 0 from c7), cond_false, if_neg c7]
   rw [llRes_tok w3]
   rfl
 rw [Bool.eq_false_iff.2 c6, cond_false, if_neg (by decide)]
 obtain ⟨k1, k2, k3⟩ := numC_bd h0 h
 have w5 : IntKind.i64.wrap (a + (numC s a).2.1) = a + (numC s a).2.1 := wrap_id _ (by omega)
 rw [w5]
 have fin : (cond ((numC s a).2.2 != 0) (some (.inr (llEnd .ret [] a (numC s a).2.2))) (some (.inl (llSt s (a + (numC s a).2.1) [⟨3, ⟨#[]⟩, (numC s a).1, a⟩]))) : Option (LSt ⊕ Out)) = some (llRes s a [] (if (numC s a).2.2 = 0 then .tok ⟨3, ⟨#[]⟩, (numC s a).1, a⟩ (numC s a).2.1 else .err (numC s a).2.2)) := by
  by_cases c8 : (numC s a).2.2 = 0
  ·rw [show ((numC s a).2.2 != 0) = false by simp [c8], cond_false, if_pos c8]; rfl
  ·rw [show ((numC s a).2.2 != 0) = true by simpa using c8, cond_true, if_neg c8]; rfl
 by_cases c7 : byteAt s a = 45
 ·rw [show (byteAt s a == 45) = true by simpa using c7, cond_true, if_pos (.inl c7)]
  exact fin
 rw [show (byteAt s a == 45) = false by simpa using c7, cond_false]
 by_cases c8 : digitB (byteAt s a) = true
 ·rw [c8, cond_true, if_pos (.inr rfl)]
  exact fin
 ·rw [Bool.eq_false_iff.2 c8, cond_false, if_neg (by simp [c7])]
  rfl
theorem ll_round1 (gl : Gl) {s : ByteArray} {a : Int} (h0 : 0 ≤ a) (hs : s.size ≤ 200) {l : List Tok} (hl : l.length ≤ 1000) (hne : l ≠ []) : roundK noSy Tryz.prog gl (fun _ => none) (H11 regC numC) 100 40 40 33 0 llLive (llSt s a l) (rndK Tryz.prog 1000 llLive llOut) = some (llRes s a l (tokS s a)) := by
 have e1 : ∀ b : Int, llSt s b l = llSt1 s b (toksC l) l.length := fun b => by
  cases l with
  | nil => exact (hne rfl).elim
  | cons t l => rfl
 have e2 : ∀ (b : Int) (t : Tok), llSt s b (l ++ [t]) = llSt1 s b (toksC l ++ tokC t) (l.length + 1) := fun b t => by
  rw [toksC_snoc]
  cases l with
  | nil => exact (hne rfl).elim
  | cons u l =>
   show llSt1 s b (toksC (u :: l ++ [t])) (u :: l ++ [t]).length = _
   rw [List.length_append]
   rfl
 have e3 : ∀ (x : Ex) (b e : Int), llEnd x l b e = (x, [.slice (some ⟨1000, 0, none⟩) l.length l.length, .slice none 0 0, .int .i64 b, .int .i64 e], [tokRow (toksC l)]) := fun x b e => by
  cases l with
  | nil => exact (hne rfl).elim
  | cons t l => rfl
 rw [e1, q_ll1]
 have hall : ∀ t : Tok, (toksC l ++ ([.int .u8 t.kind, .string t.text, .int .i64 t.n, .int .i64 t.at_] : List Value)).all (af 8) = true := fun t => by
  rw [List.all_append, toksC_all]
  rfl
 have b0 : Nat.beq l.length l.length = true := Nat.beq_refl _
 have b1 : Nat.ble l.length l.length = true := ble_self _
 have b2 : Nat.ble ((l.length + 1) * 40) 140737488355328 = true := Nat.ble_eq_true_of_le (by omega)
 have b3 : Nat.ble (l.length + 1) 1099511627776 = true := Nat.ble_eq_true_of_le (by omega)
 have b4 : Nat.beq (l.length * 4) (toksC l).length = true := by rw [toksC_len]; exact Nat.beq_refl _
 have a1 := hall ⟨4, ⟨#[]⟩, 0, a⟩
 have a2 := hall ⟨5, ⟨#[]⟩, 0, a⟩
 have a3 := hall ⟨2, ⟨#[]⟩, regC (subS s a (runE partB s a)), a⟩
 have a4 := hall ⟨1, subS s a (runE partB s a), 0, a⟩
 have a5 := hall ⟨3, ⟨#[]⟩, (numC s a).1, a⟩
 simp only at a1 a2 a3 a4 a5
 unfold tokS
 have hs6 : s.size ≤ 1000000 := by omega
 by_cases h : a < (s.size : Int)
 case neg =>
  rw [decide_eq_false h, cond_false, if_neg h]
  simp only [toksC_all, Bool.and_true, cond_true]
  unfold llRes
  rw [e3]
  rfl
 obtain ⟨r1, r2⟩ := runE_le (p := partB) (show a ≤ (s.size : Int) by omega)
 have w1 : IntKind.i64.wrap (a + 1) = a + 1 := wrap_id _ (by omega)
 have w3 : a + (runE partB s a - a) = runE partB s a := by omega
 have w4 : IntKind.i64.wrap (runE partB s a) = runE partB s a := wrap_id _ (by omega)
 have z := subS_size (s := s) h0 r1 r2
 have z1 : (subS s a (runE partB s a)).size ≤ 1000000 := by omega
 have hG : ilG s a 1 = true := by simp only [ilG, Bool.and_eq_true, decide_eq_true_eq]; omega
 obtain ⟨k1, k2, k3⟩ := numC_bd h0 h
 have w5 : IntKind.i64.wrap (a + (numC s a).2.1) = a + (numC s a).2.1 := wrap_id _ (by omega)
 simp only [h, h0, hs6, decide_true, Bool.and_self, cond_true, w1, w5, if_true, hG, b0, b1, b2, b3, b4, toksC_all, a1, a2, a5, Bool.and_true]
 by_cases c1 : byteAt s a = 35
 ·rw [show (byteAt s a != 35) = false by simpa using c1, cond_false, if_pos c1]
  unfold llRes
  rw [e3]; rfl
 rw [show (byteAt s a != 35) = true by simpa using c1, cond_true, if_neg c1]
 by_cases c2 : byteAt s a = 32
 ·rw [show (byteAt s a == 32) = true by simpa using c2, cond_true, if_pos (.inl c2)]
  unfold llRes
  rw [e1]
  rfl
 rw [show (byteAt s a == 32) = false by simpa using c2, cond_false]
 by_cases c3 : byteAt s a = 9
 ·rw [show (byteAt s a == 9) = true by simpa using c3, cond_true, if_pos (.inr c3)]
  unfold llRes
  rw [e1]
  rfl
 rw [show (byteAt s a == 9) = false by simpa using c3, cond_false, if_neg (by simp [c2, c3])]
 by_cases c4 : byteAt s a = 44
 ·rw [show (byteAt s a == 44) = true by simpa using c4, cond_true, if_pos c4, llRes_tok rfl, e2]; rfl
 rw [show (byteAt s a == 44) = false by simpa using c4, cond_false, if_neg c4]
 by_cases c5 : byteAt s a = 58
 ·rw [show (byteAt s a == 58) = true by simpa using c5, cond_true, if_pos c5, llRes_tok rfl, e2]; rfl
 rw [show (byteAt s a == 58) = false by simpa using c5, cond_false, if_neg c5]
 by_cases c6 : letterB (byteAt s a) = true
 ·rw [c6, cond_true, if_pos rfl]
  simp only [il_run h c6, w4, r1, r2, decide_true, Bool.and_self, cond_true, z1, a3, a4]
  by_cases c7 : 0 ≤ regC (subS s a (runE partB s a))
  ·rw [decide_eq_true (show regC (subS s a (runE partB s a)) ≥ 0 from c7), cond_true, if_pos c7, llRes_tok w3, e2]
   rfl
  ·rw [decide_eq_false (show ¬ regC (subS s a (runE partB s a)) ≥ 0 from c7), cond_false, if_neg c7, llRes_tok w3, e2]
   rfl
 rw [Bool.eq_false_iff.2 c6, cond_false, if_neg (by decide)]
 have fin : (cond ((numC s a).2.2 != 0) (some (.inr (llEnd .ret l a (numC s a).2.2))) (some (.inl (llSt s (a + (numC s a).2.1) (l ++ [⟨3, ⟨#[]⟩, (numC s a).1, a⟩])))) : Option (LSt ⊕ Out)) = some (llRes s a l (if (numC s a).2.2 = 0 then .tok ⟨3, ⟨#[]⟩, (numC s a).1, a⟩ (numC s a).2.1 else .err (numC s a).2.2)) := by
  by_cases c8 : (numC s a).2.2 = 0
  ·rw [show ((numC s a).2.2 != 0) = false by simp [c8], cond_false, if_pos c8]; rfl
  ·rw [show ((numC s a).2.2 != 0) = true by simpa using c8, cond_true, if_neg c8]; rfl
 rw [e2, e3] at fin
 by_cases c7 : byteAt s a = 45
 ·rw [show (byteAt s a == 45) = true by simpa using c7, cond_true, if_pos (.inl c7)]
  exact fin
 rw [show (byteAt s a == 45) = false by simpa using c7, cond_false]
 by_cases c8 : digitB (byteAt s a) = true
 ·rw [c8, cond_true, if_pos (.inr rfl)]
  exact fin
 ·rw [Bool.eq_false_iff.2 c8, cond_false, if_neg (by simp [c7])]
  show _ = some (Sum.inr (llEnd .ret l a 200))
  rw [e3]
  rfl
end Go.Proofs.YtgohbcbdgakjeaaGreatDoor
noncomputable section
namespace Go.Proofs.YtgohbcbdgakjeaaGreatDoor
open Go.Proofs.YtgohbcbdgakjeaaGreatDoor.Ev Go.RowKit
def llFin (r : List Tok × Int × Int) : Out := if r.2.2 = 0 then llEnd (.exit 0) r.1 0 0 else llEnd .ret r.1 r.2.1 r.2.2
def llOut1 (x : Ex) (r : List Tok × Int × Int) (b e : Int) : Out := (x, [.slice (some ⟨1000, 0, none⟩) r.1.length r.1.length, .slice none 0 0, .int .i64 b, .int .i64 e], [tokRow (toksC r.1)])
def llT (g : Bool) (s : ByteArray) : DT Out := .br g (.br (decide (s.size ≤ 200)) (.br (lineC s).1.isEmpty
 (.br (decide ((lineC s).2.2 = 0)) (.ret (llEnd (.exit 0) [] 0 0)) (.ret (llEnd .ret [] (lineC s).2.1 (lineC s).2.2)))
 (.br (decide ((lineC s).2.2 = 0)) (.ret (llOut1 (.exit 0) (lineC s) 0 0)) (.ret (llOut1 .ret (lineC s) (lineC s).2.1 (lineC s).2.2)))) .fail) .fail
def llH : Hd := fun vs rows => match vs, rows with
 | [.int .i64 a, .slice none o c, .string s, .slice none o2 c2, .int .i64 x, .int .i64 y], [] => some (llT (decide (a = 0) && Nat.beq o 0 && Nat.beq c 0 && Nat.beq o2 0 && Nat.beq c2 0 && decide (x = 0) && decide (y = 0)) s)
 | _, _ => none
theorem fnRegR {gl : Gl} (hgl : ∀ g k v, gl g k = some v → g < 1000 ∧ lowV 8 v = true) : FnOK Tryz.prog gl 58 (afReg regC) := fn_of noSy_ok goodT hgl tglob H0_ok (L := 100) (G := 40) (d := 40) fun args σ v e => by
 unfold afReg at e
 split at e
 ·simp only [Option.some.injEq, Prod.mk.injEq] at e
  obtain ⟨_, rfl⟩ := e
  exact ⟨rfl, Reg_eq gl _⟩
 ·cases e
theorem fnNumR {gl : Gl} (hgl : ∀ g k v, gl g k = some v → g < 1000 ∧ lowV 8 v = true) : FnOK Tryz.prog gl 60 (afNum numC) := fn_of noSy_ok goodT hgl tglob (H10_ok hgl) (L := 100) (G := 40) (d := 40) fun args σ v e => by
 unfold afNum at e
 split at e
 ·simp only [Option.some.injEq, Prod.mk.injEq, Bool.and_eq_true, decide_eq_true_eq] at e
  obtain ⟨⟨⟨h1, h2⟩, h3⟩, rfl⟩ := e
  exact ⟨rfl, number_eq gl h1 h2 h3⟩
 ·cases e
theorem H11_ok {gl : Gl} (hgl : ∀ g k v, gl g k = some v → g < 1000 ∧ lowV 8 v = true) : (H11 regC numC).OK Tryz.prog gl := hsOf_ok (fun p hp => by
  rcases List.mem_cons.1 hp with rfl | hp
  ·exact fnRegR hgl
  ·rcases List.mem_cons.1 hp with rfl | hp
   ·exact fnNumR hgl
   ·exact afs2_ok hgl p hp) (fun _ h => by cases h) (fun p hp q hq => by
  simp only [List.mem_cons, List.not_mem_nil, or_false] at hp
  subst hp
  simp only [List.mem_cons, List.not_mem_nil, or_false] at hq
  subst hq
  exact ilH_ok hgl)
theorem ll_ok {gl : Gl} (hgl : ∀ g k v, gl g k = some v → g < 1000 ∧ lowV 8 v = true) : LpOK Tryz.prog gl 33 0 ⟨llLive, llOut, llH⟩ := loop_of noSy_ok goodT hgl tglob (H11_ok hgl) (L := 100) (G := 40) (d := 40) fun vs rows t r h1 h2 => by
 simp only [llH] at h1
 split at h1
 ·rename_i a o c s o2 c2 x y
  cases h1
  obtain ⟨hg, h3⟩ := brT h2
  obtain ⟨hs, h4⟩ := brT h3
  simp only [Bool.and_eq_true, decide_eq_true_eq, nbeq] at hg hs
  obtain ⟨⟨⟨⟨⟨⟨rfl, rfl⟩, rfl⟩, rfl⟩, rfl⟩, rfl⟩, rfl⟩ := hg
  have hr : r = llFin (lineC s) := by
   unfold llFin
   rcases brC h4 with ⟨k1, k2⟩ | ⟨k1, k2⟩
   ·have k1 : (lineC s).1 = [] := by simpa using k1
    rcases brC k2 with ⟨m1, m2⟩ | ⟨m1, m2⟩
    ·rw [if_pos (of_decide_eq_true m1), k1]; cases m2; rfl
    ·rw [if_neg (of_decide_eq_false m1), k1]; cases m2; rfl
   ·obtain ⟨t, l, k1⟩ : ∃ t l, (lineC s).1 = t :: l := by
     cases hq : (lineC s).1 with
     | nil => rw [hq] at k1; cases k1
     | cons t l => exact ⟨t, l, rfl⟩
    rcases brC k2 with ⟨m1, m2⟩ | ⟨m1, m2⟩
    ·rw [if_pos (of_decide_eq_true m1)]; cases m2; unfold llOut1; rw [k1]; rfl
    ·rw [if_neg (of_decide_eq_false m1)]; cases m2; unfold llOut1; rw [k1]; rfl
  refine ⟨show 1000 ≤ most by decide, {p : Int × List Tok // 0 ≤ p.1 ∧ p.1 ≤ (s.size : Int) ∧ (p.2.length : Int) ≤ p.1}, fun p => llSt s p.1.1 p.1.2, fun p => some (llFin (tokGo s (((s.size : Int) - p.1.1).toNat + 1) p.1.1 p.1.2)), fun p => ((s.size : Int) - p.1.1).toNat, ⟨(0, []), by simp, by simp, by simp⟩, .inl rfl, ?_, ?_⟩
  ·rw [hr]
   unfold lineC
   simp only [Int.sub_zero, Int.toNat_natCast]
  ·rintro ⟨⟨a, l⟩, ha, hb, hc⟩ o ho
   simp only at ha hb hc ho
   have hround : roundK noSy Tryz.prog gl (fun _ => none) (H11 regC numC) 100 40 40 33 0 llLive (llSt s a l) (rndK Tryz.prog 1000 llLive llOut) = some (llRes s a l (tokS s a)) := by
    cases l with
    | nil => exact ll_round0 gl ha hs
    | cons t l => exact ll_round1 gl ha hs (by omega) (by simp)
   refine ⟨_, hround, ?_⟩
   have hadv := tokS_adv (s := s) ha
   unfold tokGo at ho
   cases hq : tokS s a with
   | stop => rw [hq] at ho; cases ho; rfl
   | err e =>
    rw [hq] at ho hadv
    cases ho
    unfold llFin llRes
    rw [if_neg hadv.1]
   | skip =>
    rw [hq] at ho hadv
    have hadv : a + 1 ≤ (s.size : Int) := hadv
    refine ⟨⟨(a + 1, l), by simp only; omega, hadv, by simp only; omega⟩, rfl, by simp only; omega, ?_⟩
    rw [← ho]
    simp only
    rw [tokGo_cut _ (((s.size : Int) - a).toNat) (a + 1) l (by omega) (by omega) (by omega)]
   | tok t k =>
    rw [hq] at ho hadv
    have hadv : 1 ≤ k ∧ a + k ≤ (s.size : Int) := hadv
    refine ⟨⟨(a + k, l ++ [t]), by simp only; omega, hadv.2, by simp only [List.length_append, List.length_cons, List.length_nil]; omega⟩, rfl, by simp only; omega, ?_⟩
    rw [← ho]
    simp only
    rw [tokGo_cut _ (((s.size : Int) - a).toNat) (a + k) (l ++ [t]) (by omega) (by omega) (by omega)]
 ·cases h1
def H12 : Hs := hsOf [] [] [(33, [(0, ⟨llLive, llOut, llH⟩)])]
theorem H12_ok {gl : Gl} (hgl : ∀ g k v, gl g k = some v → g < 1000 ∧ lowV 8 v = true) : H12.OK Tryz.prog gl := hsOf_ok (fun _ h => by cases h) (fun _ h => by cases h) (fun p hp q hq => by
  simp only [List.mem_cons, List.not_mem_nil, or_false] at hp
  subst hp
  simp only [List.mem_cons, List.not_mem_nil, or_false] at hq
  subst hq
  exact ll_ok hgl)
set_option maxRecDepth 100000 in
theorem q_tokLine (gl : Gl) (s : ByteArray) : callSK noSy Tryz.prog gl (fun _ => none) H12 100 40 40 (.fn 33) [.string s] (rowsOf []) (exitK Tryz.prog 1000) =
 let z0 : Option Out := some (.normal, ([(.tuple #[(.slice none 0 0), (.int .i64 ((lineC s).snd.fst)), (.int .i64 ((lineC s).snd.snd))])], []))
 let z1 := List.all (toksC (lineC s).fst) (af 8) && true
 cond (decide ((↑s.size : Int) > 200)) (
 some (.normal, ([(.tuple #[(.slice none 0 0), (.int .i64 0), (.int .i64 3)])], []))) (
 cond (decide (s.size ≤ 200)) (
 cond ((lineC s).fst.isEmpty) (
 cond (decide ((lineC s).snd.snd = 0)) (
 some (.normal, ([(.tuple #[(.slice none 0 0), (.int .i64 0), (.int .i64 0)])], []))) z0) (
 cond (decide ((lineC s).snd.snd = 0)) (
 cond z1 (
 cond z1 (
 some (.normal, ([(.tuple #[(.slice (some ⟨1000, 0, none⟩) ((lineC s).fst.length) ((lineC s).fst.length)), (.int .i64 0), (.int .i64 0)])], [some (.row ⟨(toksC (lineC s).fst), 59, (0, 0), 4, false, false⟩)]))) (
 none)) (
 none)) (
 cond z1 z0 (
 none)))) (
 none)) := by kernel_rfl
theorem lineR_sub {gl : Gl} (hgl : ∀ g k v, gl g k = some v → g < 1000 ∧ lowV 8 v = true) : SubOK Tryz.prog gl 33 lnHd := by
 refine sub_of noSy_ok goodT hgl tglob (H12_ok hgl) (L := 100) (G := 40) (d := 40) fun vs rows t r h1 h2 => ?_
 unfold lnHd at h1
 split at h1
 ·rename_i s
  cases h1
  refine ⟨by decide, ?_⟩
  refine Eq.trans (q_tokLine gl s) ?_
  rw [← h2]
  unfold lnT
  simp only [DT.run, toksC_all, Bool.and_true, cond_true]
  by_cases hs : (s.size : Int) > 200
  ·rw [decide_eq_true hs, cond_true, cond_true]
  ·rw [decide_eq_false hs, cond_false, cond_false, decide_eq_true (show s.size ≤ 200 by omega), cond_true]
   rfl
 ·cases h1
end Go.Proofs.YtgohbcbdgakjeaaGreatDoor
noncomputable section
namespace Go.Proofs.YtgohbcbdgakjeaaGreatDoor
open Go.Proofs.YtgohbcbdgakjeaaGreatDoor.Ev Go.RowKit
def cellI : Option Value → Int
 | some (.int _ n) => n
 | _ => 0
def cellS : Option Value → ByteArray
 | some (.string s) => s
 | _ => ByteArray.empty
def cellIsI (k : IntKind) : Option Value → Bool
 | some (.int k' _) => decide (k' = k)
 | _ => false
def cellIsS : Option Value → Bool
 | some (.string _) => true
 | _ => false
def symOf (cs : List Value) : Sym := ⟨cs, fun _ o => cellI cs[o]?, fun o => cellS cs[o]?, fun k o => cellIsI k cs[o]?, fun o => cellIsS cs[o]?⟩
theorem symOf_ok (cs : List Value) : (symOf cs).OK where
 int := fun k o h => by
  simp only [symOf] at h ⊢
  cases hc : cs[o]? with
  | none => rw [hc] at h; cases h
  | some v =>
   rw [hc] at h
   cases v with
   | int k' n =>
    simp only [cellIsI, decide_eq_true_eq] at h
    subst h
    rfl
   | _ => cases h
 str := fun o h => by
  simp only [symOf] at h ⊢
  cases hc : cs[o]? with
  | none => rw [hc] at h; cases h
  | some v =>
   rw [hc] at h
   cases v with
   | string s => rfl
   | _ => cases h
theorem toksC_get : ∀ (l : List Tok) (i j : Nat), j < 4 → (toksC l)[i * 4 + j]? = (l[i]?).bind fun t => (tokC t)[j]?
 | [], i, j, _ => by simp [toksC]
 | t :: l, 0, j, h => by
  show (tokC t ++ toksC l)[0 * 4 + j]? = _
  rw [List.getElem?_append_left (by show 0 * 4 + j < 4; omega), Nat.zero_mul, Nat.zero_add]
  rfl
 | t :: l, i + 1, j, h => by
  show (tokC t ++ toksC l)[(i + 1) * 4 + j]? = _
  rw [List.getElem?_append_right (by show 4 ≤ (i + 1) * 4 + j; omega), show (i + 1) * 4 + j - (tokC t).length = i * 4 + j by show (i + 1) * 4 + j - 4 = _; omega, toksC_get l i j h]
  rfl
theorem veq7_str (x : ByteArray) : veq 7 (.string x) (.string x) = true := by simp [veq]
def afW : AF := fun args _ => match args with
 | [] => some (true, .bool true)
 | _ => none
end Go.Proofs.YtgohbcbdgakjeaaGreatDoor
noncomputable section
namespace Go.Proofs.YtgohbcbdgakjeaaGreatDoor
open Go.Proofs.YtgohbcbdgakjeaaGreatDoor.Ev Go.RowKit
end Go.Proofs.YtgohbcbdgakjeaaGreatDoor
noncomputable section
namespace Go.Proofs.YtgohbcbdgakjeaaGreatDoor
open Go.Proofs.YtgohbcbdgakjeaaGreatDoor.Ev Go.RowKit
theorem app_size (a b : ByteArray) : ((a ++ b).size : Int) = a.size + b.size := by rw [ByteArray.size_append]; omega
theorem byteAt_l {a b : ByteArray} {i : Int} (h0 : 0 ≤ i) (h1 : i < (a.size : Int)) : byteAt (a ++ b) i = byteAt a i := by
 have := app_size a b
 rw [byteAt_lt h0 (by omega), byteAt_lt h0 h1]
 have e : (a ++ b).data.toList = a.data.toList ++ b.data.toList := by simp [ByteArray.data_append]
 simp only [e]
 rw [List.getElem_append_left (by rw [data_len]; omega)]
theorem byteAt_r {a b : ByteArray} {i : Int} (h0 : (a.size : Int) ≤ i) (h1 : i < (a.size : Int) + b.size) : byteAt (a ++ b) i = byteAt b (i - a.size) := by
 have := app_size a b
 rw [byteAt_lt (by omega) (by omega), byteAt_lt (by omega) (by omega)]
 have e : (a ++ b).data.toList = a.data.toList ++ b.data.toList := by simp [ByteArray.data_append]
 simp only [e]
 rw [List.getElem_append_right (by rw [data_len]; omega)]
 have e2 : i.toNat - a.data.toList.length = (i - (a.size : Int)).toNat := by rw [data_len]; omega
 simp only [e2]
def itoaB (n : Int) : ByteArray := ⟨(Lib.itoa n).toArray⟩
def decB (m : Nat) : ByteArray := ⟨(Lib.decDigits m).toArray⟩
theorem itoaB_pos {n : Int} (h : 0 ≤ n) : itoaB n = decB n.toNat := by
 unfold itoaB decB Lib.itoa
 rw [if_neg (by omega)]
theorem itoaB_neg {n : Int} (h : n < 0) : itoaB n = (⟨#[45]⟩ : ByteArray) ++ decB n.natAbs := by
 unfold itoaB decB Lib.itoa
 rw [if_pos h]
 apply ByteArray.ext
 simp
end Go.Proofs.YtgohbcbdgakjeaaGreatDoor
noncomputable section
namespace Go.Proofs.YtgohbcbdgakjeaaGreatDoor
open Go.Proofs.YtgohbcbdgakjeaaGreatDoor.Ev Go.RowKit
theorem xNE : XkOK Tryz.prog 118 .same := ⟨Tryz.f118, Tryz.func118, by kernel_rfl, by kernel_rfl, (show Extern.find Tryz.f118 = some Extern.AbiNoEscape.same by kernel_rfl)⟩
def exB : Ext := extOf [(118, .same)]
theorem goodB : Go.Proofs.YtgohbcbdgakjeaaGreatDoor.Ev.Good Tryz.prog exB := good_of (by kernel_rfl) (by kernel_rfl) (by
 intro x hx
 simp only [List.mem_cons, List.not_mem_nil, or_false] at hx
 subst hx
 exact xNE)
end Go.Proofs.YtgohbcbdgakjeaaGreatDoor
noncomputable section
namespace Go.Proofs.YtgohbcbdgakjeaaGreatDoor
open Go.Proofs.YtgohbcbdgakjeaaGreatDoor.Ev Go.RowKit
def HB0 : Hs := hsOf [] [] []
theorem HB0_ok {gl : Gl} : HB0.OK Tryz.prog gl := hsOf_ok (fun _ h => by cases h) (fun _ h => by cases h) (fun _ h => by cases h)
end Go.Proofs.YtgohbcbdgakjeaaGreatDoor
noncomputable section
namespace Go.Proofs.YtgohbcbdgakjeaaGreatDoor
open Go.Proofs.YtgohbcbdgakjeaaGreatDoor.Ev Go.RowKit
theorem condI {R : Type} {b : Bool} {x y r : Option R} (h : b = true) (k : x = r) : cond b x y = r := by rw [h]; exact k
theorem condE {R : Type} {b : Bool} {x y r : Option R} (h : b = false) (k : y = r) : cond b x y = r := by rw [h]; exact k
abbrev p0 : Value := .pointer (some ⟨1000, 0, none⟩)
theorem nble {a b : Nat} (h : a ≤ b) : Nat.ble a b = true := Nat.ble_eq_true_of_le h
theorem andI {a b : Bool} (h : a = true) (k : b = true) : (a && b) = true := by rw [h, k]; rfl
end Go.Proofs.YtgohbcbdgakjeaaGreatDoor
noncomputable section
namespace Go.Proofs.YtgohbcbdgakjeaaGreatDoor
open Go.Proofs.YtgohbcbdgakjeaaGreatDoor.Ev Go.RowKit
def afItoa (it : Int → ByteArray) : AF := fun args _ => match args with
 | [.int .i64 n] => some (decide (-9223372036854775808 ≤ n) && decide (n ≤ 9223372036854775807), .string (it n))
 | _ => none
end Go.Proofs.YtgohbcbdgakjeaaGreatDoor
noncomputable section
namespace Go.Proofs.YtgohbcbdgakjeaaGreatDoor
open Go.Proofs.YtgohbcbdgakjeaaGreatDoor.Ev Go.RowKit
theorem fnItoa {gl : Gl} (hgl : ∀ g k v, gl g k = some v → g < 1000 ∧ lowV 8 v = true) (hp : ∀ (i : Nat) z, Lib.pow10Tab[i]? = some z → gl 2 i = some (.int .u64 z)) : FnOK Tryz.prog gl 19 (afItoa itoaB) := FnOK.flat hgl tglob fun args σ v h => by
 unfold afItoa at h
 split at h
 ·rename_i n
  simp only [Option.some.injEq, Prod.mk.injEq, Bool.and_eq_true, decide_eq_true_eq] at h
  obtain ⟨⟨h1, h2⟩, rfl⟩ := h
  refine ⟨rfl, rfl, fun w hw => ?_⟩
  obtain ⟨φ, hr⟩ := hw
  have ht := tab_gl hr (name := "internal/strconv.uint64pow10") (k := .u64) (zs := Lib.pow10Tab) (g := 2) (by kernel_rfl) (Nat.le_of_ble_eq_true (by kernel_rfl)) hp (by kernel_rfl)
  refine Calls.mono (Tryz.strconv_Itoa n h1 h2 w ht) ?_
  rintro e w' ⟨rfl, k, os, rfl⟩
  refine ⟨rfl, ?_⟩
  have e : (w.drewN k).heap = w.heap := by simp
  refine ⟨rfl, rfl, rfl, by simp [Go.Sort.grow], fun i hi => ?_⟩
  show ((w.drewN k).heap ++ os)[i]? = _
  rw [e, Array.getElem?_append_left hi]
 ·cases h
end Go.Proofs.YtgohbcbdgakjeaaGreatDoor
noncomputable section
namespace Go.Proofs.YtgohbcbdgakjeaaGreatDoor
open Go.Proofs.YtgohbcbdgakjeaaGreatDoor.Ev Go.RowKit
def pow10L : List Int := [1, 10, 100, 1000, 10000, 100000, 1000000, 10000000, 100000000, 1000000000, 10000000000, 100000000000, 1000000000000, 10000000000000, 100000000000000, 1000000000000000, 10000000000000000, 100000000000000000, 1000000000000000000, 10000000000000000000]
theorem pow10L_eq : pow10L = Lib.pow10Tab := by decide +kernel
theorem fn_memo {gl : Gl} {f : FuncId} (hgl : ∀ g k v, gl g k = some v → g < 1000 ∧ lowV 8 v = true) (hm : MemoOK Tryz.prog gl f) : FnOK Tryz.prog gl f afW := FnOK.flat hgl tglob fun args σ v h => by
 unfold afW at h
 split at h
 ·cases h
  refine ⟨rfl, rfl, fun w hw => ?_⟩
  obtain ⟨φ, hr⟩ := hw
  exact hm φ LS.start w hr
 ·cases h
open Go.ChangeShapes Go.WideShapes Go.ChangeAt
end Go.Proofs.YtgohbcbdgakjeaaGreatDoor
