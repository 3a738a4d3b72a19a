/- What a byte is, where a run of bytes ends, strings byte by byte. No condition. -/
import Derived.Test.YtgohnfkidkomhaaDoorEv6
import Derived.Test.YtgohnfkidkomhaaDoorProg
import Derived.Laws.Strings
noncomputable section
noncomputable section
namespace Go.Proofs.YtgohnfkidkomhaaDoor
open Go.Proofs.YtgohnfkidkomhaaDoor.Ev Go.RowKit

def gl0 : Gl := fun _ _ => none
theorem low0 : ∀ g k v, gl0 g k = some v → g < 1000 ∧ lowV 8 v = true := fun _ _ _ h => by cases h
theorem tglob : Tryd.prog.globals.size ≤ 900 := of_decide_eq_true (by kernel_rfl)
theorem goodT : Go.Proofs.YtgohnfkidkomhaaDoor.Ev.Good Tryd.prog (fun _ => none) := ⟨by kernel_rfl, fun f fn hf => by
  have h2 : (Tryd.prog.funcs.toList.all fun fn => !(fn.name == "runtime.NumGoroutine")) = true := by kernel_rfl
  have := List.all_eq_true.1 h2 fn (by rw [← Array.getElem?_toList] at hf; exact List.mem_of_getElem? hf)
  simpa using this, fun f k h => by cases h⟩
def qs {R : Type} : List Int → Option R → Option R
  | [], k => k
  | a :: l, k => cond (decide (a = a)) (qs l k) none
theorem qs_eq {R : Type} : ∀ (l : List Int) (k : Option R), qs l k = k
  | [], _ => rfl
  | _ :: l, k => by simp [qs, qs_eq l k]
theorem wrap_id (n : Int) (h : -9223372036854775808 ≤ n ∧ n ≤ 9223372036854775807) : IntKind.i64.wrap n = n := by
  simp only [IntKind.wrap, IntKind.bits, IntKind.signed]
  simp
  omega
end Go.Proofs.YtgohnfkidkomhaaDoor

noncomputable section
namespace Go.Proofs.YtgohnfkidkomhaaDoor
open Go.Proofs.YtgohnfkidkomhaaDoor.Ev Go.RowKit

/-! What a byte is. -/
def digitB (c : Int) : Bool := decide (c ≥ 48) && decide (c ≤ 57)
def letterB (c : Int) : Bool := (decide (c ≥ 97) && decide (c ≤ 122)) || decide (c = 95)
def partB (c : Int) : Bool := letterB c || digitB c || decide (c = 46)
def hexB (c : Int) : Bool := digitB c || (decide (c ≥ 97) && decide (c ≤ 102))
def H0 : Hs := ⟨noAsm, fun _ => none, fun _ => noHl⟩
theorem H0_ok {gl : Gl} : H0.OK Tryd.prog gl := ⟨noAsm_ok, (fun _ _ h => by cases h), fun _ _ _ _ _ _ h => by cases h⟩
noncomputable abbrev ev (gl : Gl) (H : Hs) (f : FuncId) (args : List Value) : Option Value := callSK noSy Tryd.prog gl (fun _ => none) H 100 40 40 (.fn f) args LS.start flatR
set_option maxRecDepth 100000 in
theorem r_digit (gl : Gl) (c : Int) : ev gl H0 55 [.int .u8 c] =
 cond (decide (c ≥ 48)) (
  cond (decide (c ≤ 57)) (
   some (.bool true)) (
   some (.bool false))) (
  some (.bool false)) := by kernel_rfl
set_option maxRecDepth 100000 in
theorem r_letter (gl : Gl) (c : Int) : ev gl H0 52 [.int .u8 c] =
 cond (decide (c ≥ 97)) (
  cond (decide (c ≤ 122)) (
   some (.bool true)) (
   cond (c == 95) (
    some (.bool true)) (
    some (.bool false)))) (
  cond (c == 95) (
   some (.bool true)) (
   some (.bool false))) := by kernel_rfl
set_option maxRecDepth 100000 in
theorem r_part (gl : Gl) (c : Int) : ev gl H0 53 [.int .u8 c] =
 cond (decide (c ≥ 97)) (
  cond (decide (c ≤ 122)) (
   some (.bool true)) (
   cond (c == 95) (
    some (.bool true)) (
    cond (decide (c ≥ 48)) (
     cond (decide (c ≤ 57)) (
      some (.bool true)) (
      cond (c == 46) (
       some (.bool true)) (
       some (.bool false)))) (
     cond (c == 46) (
      some (.bool true)) (
      some (.bool false)))))) (
  cond (c == 95) (
   some (.bool true)) (
   cond (decide (c ≥ 48)) (
    cond (decide (c ≤ 57)) (
     some (.bool true)) (
     cond (c == 46) (
      some (.bool true)) (
      some (.bool false)))) (
    cond (c == 46) (
     some (.bool true)) (
     some (.bool false))))) := by kernel_rfl
set_option maxRecDepth 100000 in
theorem r_hex (gl : Gl) (c : Int) : ev gl H0 98 [.int .u8 c] =
 cond (decide (c ≥ 48)) (
  cond (decide (c ≤ 57)) (
   some (.bool true)) (
   cond (decide (c ≥ 97)) (
    cond (decide (c ≤ 102)) (
     some (.bool true)) (
     some (.bool false))) (
    some (.bool false)))) (
  cond (decide (c ≥ 97)) (
   cond (decide (c ≤ 102)) (
    some (.bool true)) (
    some (.bool false))) (
   some (.bool false))) := by kernel_rfl
def afB (p : Int → Bool) : AF := fun args _ => match args with
  | [.int .u8 c] => some (true, .bool (p c))
  | _ => none
theorem fnB {gl : Gl} (hgl : ∀ g k v, gl g k = some v → g < 1000 ∧ lowV 8 v = true) {f : FuncId} {p : Int → Bool} (h : ∀ c, ev gl H0 f [.int .u8 c] = some (.bool (p c))) : FnOK Tryd.prog gl f (afB p) :=
  fn_of noSy_ok goodT hgl tglob H0_ok fun args σ v e => by
    unfold afB at e
    split at e
    · cases e
      exact ⟨rfl, h _⟩
    · cases e
theorem fnDigit {gl : Gl} (hgl : ∀ g k v, gl g k = some v → g < 1000 ∧ lowV 8 v = true) : FnOK Tryd.prog gl 55 (afB digitB) := fnB hgl fun c => by
  rw [r_digit]; unfold digitB
  cases decide (c ≥ 48) <;> cases decide (c ≤ 57) <;> rfl
theorem fnLetter {gl : Gl} (hgl : ∀ g k v, gl g k = some v → g < 1000 ∧ lowV 8 v = true) : FnOK Tryd.prog gl 52 (afB letterB) := fnB hgl fun c => by
  rw [r_letter]; unfold letterB
  rw [show (c == 95) = decide (c = 95) from rfl]
  cases decide (c ≥ 97) <;> cases decide (c ≤ 122) <;> cases decide (c = 95) <;> rfl
theorem fnPart {gl : Gl} (hgl : ∀ g k v, gl g k = some v → g < 1000 ∧ lowV 8 v = true) : FnOK Tryd.prog gl 53 (afB partB) := fnB hgl fun c => by
  rw [r_part]; unfold partB letterB digitB
  rw [show (c == 95) = decide (c = 95) from rfl, show (c == 46) = decide (c = 46) from rfl]
  cases decide (c ≥ 97) <;> cases decide (c ≤ 122) <;> cases decide (c = 95) <;> cases decide (c ≥ 48) <;> cases decide (c ≤ 57) <;> cases decide (c = 46) <;> rfl
theorem fnHex {gl : Gl} (hgl : ∀ g k v, gl g k = some v → g < 1000 ∧ lowV 8 v = true) : FnOK Tryd.prog gl 98 (afB hexB) := fnB hgl fun c => by
  rw [r_hex]; unfold hexB digitB
  cases decide (c ≥ 97) <;> cases decide (c ≤ 102) <;> cases decide (c ≥ 48) <;> cases decide (c ≤ 57) <;> rfl

/-! Where a run of such bytes ends. -/
def runTo (p : Int → Bool) (s : ByteArray) : Nat → Int → Int
  | 0, n => n
  | f + 1, n => cond (decide (n < (s.size : Int)) && p (byteAt s n)) (runTo p s f (n + 1)) n
def runE (p : Int → Bool) (s : ByteArray) (n : Int) : Int := runTo p s ((s.size : Int) - n).toNat n
theorem runE_eq (p : Int → Bool) (s : ByteArray) (n : Int) : runE p s n = cond (decide (n < (s.size : Int)) && p (byteAt s n)) (runE p s (n + 1)) n := by
  unfold runE
  by_cases h : n < (s.size : Int)
  · obtain ⟨m, hm⟩ : ∃ m, ((s.size : Int) - n).toNat = m + 1 := ⟨((s.size : Int) - n).toNat - 1, by omega⟩
    rw [hm, show ((s.size : Int) - (n + 1)).toNat = m from by omega]
    rfl
  · rw [show ((s.size : Int) - n).toNat = 0 from by omega, decide_eq_false h]
    rfl

def afs1 : List (FuncId × AF) := [(55, afB digitB), (52, afB letterB), (53, afB partB), (98, afB hexB)]
def H1 : Hs := hsOf afs1 [] []
theorem afs1_ok {gl : Gl} (hgl : ∀ g k v, gl g k = some v → g < 1000 ∧ lowV 8 v = true) : ∀ p ∈ afs1, FnOK Tryd.prog gl p.1 p.2 := fun p hp => by
  simp only [afs1, List.mem_cons, List.not_mem_nil, or_false] at hp
  rcases hp with rfl | rfl | rfl | rfl
  · exact fnDigit hgl
  · exact fnLetter hgl
  · exact fnPart hgl
  · exact fnHex hgl
theorem H1_ok {gl : Gl} (hgl : ∀ g k v, gl g k = some v → g < 1000 ∧ lowV 8 v = true) : H1.OK Tryd.prog gl := hsOf_ok (afs1_ok hgl) (fun _ h => by cases h) (fun _ h => by cases h)
def runLive : List Nat := [7, 1, 0, 2]
def runOut : List Nat := [1, 7]
def runSt (a : Int) (s : ByteArray) (F : Nat) (n : Int) : LSt := ([.int .i64 n, .int .i64 a, .string s, .func (.func F) #[] #[]], [])
noncomputable abbrev rnd (gl : Gl) (H : Hs) (b : Nat) (f n : Nat) (live out : List Nat) (st : LSt) : Option (LSt ⊕ Out) := roundK noSy Tryd.prog gl (fun _ => none) H 100 40 40 f n live st (rndK Tryd.prog b live out)
set_option maxRecDepth 100000 in
theorem r_run0 (gl : Gl) (s : ByteArray) (a n : Int) : rnd gl H1 1000 51 0 runLive runOut (runSt a s 55 n) =
 cond (decide (n < (↑s.size : Int))) (
  cond (decide (0 ≤ n) && (decide (n < (↑s.size : Int)))) (
   cond (digitB (byteAt s n)) (
    some (.inl ([(.int IntKind.i64 (IntKind.i64.wrap (n + 1))), (.int IntKind.i64 (a)), (.string (s)), (.func (Fn.func 55) #[] #[])], []))) (
    some (.inr (.exit 0, ([(.int IntKind.i64 (a)), (.int IntKind.i64 (n))], []))))) (
   none)) (
  some (.inr (.exit 0, ([(.int IntKind.i64 (a)), (.int IntKind.i64 (n))], [])))) := by kernel_rfl
set_option maxRecDepth 100000 in
theorem r_run1 (gl : Gl) (s : ByteArray) (a n : Int) : rnd gl H1 1000 51 0 runLive runOut (runSt a s 53 n) =
 cond (decide (n < (↑s.size : Int))) (
  cond (decide (0 ≤ n) && (decide (n < (↑s.size : Int)))) (
   cond (partB (byteAt s n)) (
    some (.inl ([(.int IntKind.i64 (IntKind.i64.wrap (n + 1))), (.int IntKind.i64 (a)), (.string (s)), (.func (Fn.func 53) #[] #[])], []))) (
    some (.inr (.exit 0, ([(.int IntKind.i64 (a)), (.int IntKind.i64 (n))], []))))) (
   none)) (
  some (.inr (.exit 0, ([(.int IntKind.i64 (a)), (.int IntKind.i64 (n))], [])))) := by kernel_rfl
set_option maxRecDepth 100000 in
theorem r_run2 (gl : Gl) (s : ByteArray) (a n : Int) : rnd gl H1 1000 51 0 runLive runOut (runSt a s 98 n) =
 cond (decide (n < (↑s.size : Int))) (
  cond (decide (0 ≤ n) && (decide (n < (↑s.size : Int)))) (
   cond (hexB (byteAt s n)) (
    some (.inl ([(.int IntKind.i64 (IntKind.i64.wrap (n + 1))), (.int IntKind.i64 (a)), (.string (s)), (.func (Fn.func 98) #[] #[])], []))) (
    some (.inr (.exit 0, ([(.int IntKind.i64 (a)), (.int IntKind.i64 (n))], []))))) (
   none)) (
  some (.inr (.exit 0, ([(.int IntKind.i64 (a)), (.int IntKind.i64 (n))], [])))) := by kernel_rfl
def predOf (F : Nat) : Option (Int → Bool) := cond (Nat.beq F 55) (some digitB) (cond (Nat.beq F 53) (some partB) (cond (Nat.beq F 98) (some hexB) none))
theorem predOf_cases {F : Nat} {p : Int → Bool} (h : predOf F = some p) : (F = 55 ∧ p = digitB) ∨ (F = 53 ∧ p = partB) ∨ (F = 98 ∧ p = hexB) := by
  unfold predOf at h
  rw [Bool.cond_eq_ite] at h
  split at h
  · rename_i e; cases h; exact .inl ⟨Nat.eq_of_beq_eq_true e, rfl⟩
  · rw [Bool.cond_eq_ite] at h
    split at h
    · rename_i e; cases h; exact .inr (.inl ⟨Nat.eq_of_beq_eq_true e, rfl⟩)
    · rw [Bool.cond_eq_ite] at h
      split at h
      · rename_i e; cases h; exact .inr (.inr ⟨Nat.eq_of_beq_eq_true e, rfl⟩)
      · cases h
def runFin (p : Int → Bool) (a : Int) (s : ByteArray) (n : Int) : Out := (.exit 0, [.int .i64 a, .int .i64 (runE p s n)], [])
def runH : Hd := fun vs rows => match vs, rows with
  | [.int .i64 n, .int .i64 a, .string s, .func (.func F) ⟨[]⟩ ⟨[]⟩], [] => (predOf F).map fun p => .br (decide (0 ≤ n) && decide (s.size ≤ 1000000)) (.ret (runFin p a s n)) .fail
  | _, _ => none
theorem run_round (gl : Gl) {F : Nat} {p : Int → Bool} (hF : predOf F = some p) (s : ByteArray) (a n : Int) (h0 : 0 ≤ n) (hs : s.size ≤ 1000000) :
    rnd gl H1 1000 51 0 runLive runOut (runSt a s F n) = some (cond (decide (n < (s.size : Int)) && p (byteAt s n)) (.inl (runSt a s F (n + 1))) (.inr (.exit 0, [.int .i64 a, .int .i64 n], []))) := by
  have key : ∀ b : Bool, (cond (decide (n < (s.size : Int))) (cond (decide (0 ≤ n) && decide (n < (s.size : Int))) (cond b (some (Sum.inl (([.int .i64 (IntKind.i64.wrap (n + 1)), .int .i64 a, .string s, .func (.func F) #[] #[]], []) : LSt)))
      (some (Sum.inr ((.exit 0, [.int .i64 a, .int .i64 n], []) : Out)))) none) (some (.inr (.exit 0, [.int .i64 a, .int .i64 n], [])))) = some (cond (decide (n < (s.size : Int)) && b) (.inl (runSt a s F (n + 1))) (.inr (.exit 0, [.int .i64 a, .int .i64 n], []))) := by
    intro b
    by_cases h : n < (s.size : Int)
    · have hw : IntKind.i64.wrap (n + 1) = n + 1 := wrap_id _ (by omega)
      simp only [h, h0, decide_true, Bool.and_self, cond_true, Bool.true_and, hw]
      cases b <;> rfl
    · simp only [h, decide_false, cond_false, Bool.false_and]
  rcases predOf_cases hF with ⟨rfl, rfl⟩ | ⟨rfl, rfl⟩ | ⟨rfl, rfl⟩
  · rw [r_run0]; exact key _
  · rw [r_run1]; exact key _
  · rw [r_run2]; exact key _
theorem run_ok {gl : Gl} (hgl : ∀ g k v, gl g k = some v → g < 1000 ∧ lowV 8 v = true) : LpOK Tryd.prog gl 51 0 ⟨runLive, runOut, runH⟩ := loop_of noSy_ok goodT hgl tglob (H1_ok hgl) (L := 100) (G := 40) (d := 40) fun vs rows t r h1 h2 => by
  simp only [runH] at h1
  split at h1
  · rename_i n a s F
    obtain ⟨p, hp, rfl⟩ := Option.map_eq_some_iff.1 h1
    simp only [DT.run, Bool.cond_eq_ite] at h2
    split at h2
    · rename_i hc
      simp only [Bool.and_eq_true, decide_eq_true_eq] at hc
      cases h2
      refine ⟨by decide, {n : Int // 0 ≤ n}, fun n => runSt a s F n.1, fun n => some (runFin p a s n.1), fun n => ((s.size : Int) - n.1).toNat, ⟨n, hc.1⟩, .inl rfl, rfl, fun i o ho => ?_⟩
      obtain ⟨i, hi⟩ := i
      cases ho
      refine ⟨_, run_round gl hp s a i hi hc.2, ?_⟩
      unfold runFin
      rw [runE_eq p s i]
      by_cases h : (decide (i < (s.size : Int)) && p (byteAt s i)) = true
      · rw [h]
        simp only [Bool.and_eq_true, decide_eq_true_eq] at h
        exact ⟨⟨i + 1, by omega⟩, rfl, by simp only; omega, rfl⟩
      · rw [Bool.eq_false_iff.2 h]
        rfl
    · cases h2
  · cases h1
end Go.Proofs.YtgohnfkidkomhaaDoor

noncomputable section
namespace Go.Proofs.YtgohnfkidkomhaaDoor
open Go.Proofs.YtgohnfkidkomhaaDoor.Ev Go.RowKit

/-! Strings, byte by byte. -/
theorem nthB_lt {l : List UInt8} {n : Nat} (h : n < l.length) : nthB l n = some l[n] := by rw [nthB_eq]; exact List.getElem?_eq_getElem h
theorem data_len (s : ByteArray) : s.data.toList.length = s.size := by simp
theorem byteAt_lt {s : ByteArray} {i : Int} (h0 : 0 ≤ i) (h1 : i < (s.size : Int)) : byteAt s i = ((s.data.toList[i.toNat]'(by rw [data_len]; omega)).toNat : Int) := by
  unfold byteAt
  rw [nthB_lt (by rw [data_len]; omega)]
  rfl
theorem ext_bytes {a b : ByteArray} (hs : a.size = b.size) (h : ∀ i : Int, 0 ≤ i → i < (a.size : Int) → byteAt a i = byteAt b i) : a = b := by
  have : a.data.toList = b.data.toList := by
    apply List.ext_getElem (by rw [data_len, data_len, hs])
    intro n h1 h2
    rw [data_len] at h1 h2
    have := h (n : Int) (by omega) (by omega)
    rw [byteAt_lt (by omega) (by omega), byteAt_lt (by omega) (by omega)] at this
    simp only [Int.toNat_natCast] at this
    exact UInt8.toNat_inj.1 (by omega)
  obtain ⟨⟨la⟩⟩ := a
  obtain ⟨⟨lb⟩⟩ := b
  simp only at this
  rw [this]
theorem beqS (a b : ByteArray) : (a.toList == b.toList) = decide (a = b) := by
  rw [ByteArray.toList_eq, ByteArray.toList_eq]
  by_cases h : a = b
  · subst h; simp
  · rw [decide_eq_false h, beq_eq_false_iff_ne]
    intro e
    obtain ⟨⟨la⟩⟩ := a
    obtain ⟨⟨lb⟩⟩ := b
    simp only at e
    exact h (by rw [e])
theorem subS_size {s : ByteArray} {l h : Int} (h0 : 0 ≤ l) (h1 : l ≤ h) (h2 : h ≤ (s.size : Int)) : ((subS s l h).size : Int) = h - l := by
  unfold subS
  rw [ByteArray.size_extract]
  omega
theorem byteAt_subS {s : ByteArray} {l h : Int} (h0 : 0 ≤ l) (h1 : l ≤ h) (h2 : h ≤ (s.size : Int)) {i : Int} (i0 : 0 ≤ i) (i1 : i < h - l) : byteAt (subS s l h) i = byteAt s (l + i) := by
  have hs := subS_size h0 h1 h2
  rw [byteAt_lt i0 (by omega), byteAt_lt (by omega) (by omega)]
  congr 2
  unfold subS
  have e : (s.extract l.toNat h.toNat).data.toList = (s.data.toList.take h.toNat).drop l.toNat := by
    rw [ByteArray.data_extract]
    simp [List.drop_take]
  simp only [e, List.getElem_drop, List.getElem_take]
  congr 1
  omega
theorem runE_bd {p : Int → Bool} {s : ByteArray} : ∀ (f : Nat) (n : Int), ((s.size : Int) - n).toNat = f → n ≤ (s.size : Int) → n ≤ runE p s n ∧ runE p s n ≤ (s.size : Int)
  | 0, n, hf, hn => by
    rw [runE_eq, decide_eq_false (by omega)]
    exact ⟨Int.le_refl _, hn⟩
  | f + 1, n, hf, hn => by
    rw [runE_eq]
    cases decide (n < (s.size : Int)) && p (byteAt s n) with
    | true =>
      have := runE_bd (p := p) (s := s) f (n + 1) (by omega) (by omega)
      exact ⟨by rw [cond_true]; omega, this.2⟩
    | false => exact ⟨Int.le_refl _, hn⟩
theorem runE_le {p : Int → Bool} {s : ByteArray} {n : Int} (hn : n ≤ (s.size : Int)) : n ≤ runE p s n ∧ runE p s n ≤ (s.size : Int) := runE_bd _ n rfl hn
theorem runE_in {p : Int → Bool} {s : ByteArray} : ∀ (f : Nat) (n : Int), ((s.size : Int) - n).toNat = f → n ≤ (s.size : Int) → ∀ i, n ≤ i → i < runE p s n → p (byteAt s i) = true
  | 0, n, hf, hn, i, h1, h2 => by
    have := (runE_le (p := p) hn).2
    omega
  | f + 1, n, hf, hn, i, h1, h2 => by
    rw [runE_eq] at h2
    cases hc : decide (n < (s.size : Int)) && p (byteAt s n) with
    | true =>
      rw [hc, cond_true] at h2
      simp only [Bool.and_eq_true, decide_eq_true_eq] at hc
      rcases Int.lt_or_le n i with hlt | hle
      · exact runE_in f (n + 1) (by omega) (by omega) i (by omega) h2
      · have : i = n := by omega
        subst this
        exact hc.2
    | false => rw [hc, cond_false] at h2; omega
/-- Where all bytes are so, a run goes to the end. -/
theorem runE_top {p : Int → Bool} {s : ByteArray} : ∀ (f : Nat) (n : Int), ((s.size : Int) - n).toNat = f → n ≤ (s.size : Int) → (∀ i, n ≤ i → i < (s.size : Int) → p (byteAt s i) = true) → runE p s n = (s.size : Int)
  | 0, n, hf, hn, _ => by
    rw [runE_eq, decide_eq_false (by omega), Bool.false_and, cond_false]
    omega
  | f + 1, n, hf, hn, h => by
    rw [runE_eq, decide_eq_true (by omega), h n (Int.le_refl _) (by omega), Bool.and_self, cond_true]
    exact runE_top f (n + 1) (by omega) (by omega) fun i h1 h2 => h i (by omega) h2
theorem runE_stop {p : Int → Bool} {s : ByteArray} : ∀ (f : Nat) (n : Int), ((s.size : Int) - n).toNat = f → n ≤ (s.size : Int) → runE p s n < (s.size : Int) → p (byteAt s (runE p s n)) = false
  | 0, n, hf, hn, h => by
    have := (runE_le (p := p) hn).1
    omega
  | f + 1, n, hf, hn, h => by
    rw [runE_eq] at h ⊢
    cases hc : decide (n < (s.size : Int)) && p (byteAt s n) with
    | true =>
      rw [hc, cond_true] at h
      rw [cond_true]
      exact runE_stop f (n + 1) (by omega) (by omega) h
    | false =>
      rw [hc, cond_false] at h
      rw [cond_false]
      rw [decide_eq_true h, Bool.true_and] at hc
      exact hc
end Go.Proofs.YtgohnfkidkomhaaDoor
