/- The document's number and Line answer the same as token.Line, of any text. -/
import Derived.Test.YtgohnfkidkomhaaDoorK4
noncomputable section
noncomputable section
namespace Go.Proofs.YtgohnfkidkomhaaDoor
open Go.Proofs.YtgohnfkidkomhaaDoor.Ev Go.RowKit

/-! The document's answer: what a byte is, a number. -/
set_option maxRecDepth 100000 in
theorem q_digit (gl : Gl) (c : Int) : ev gl H0 60 [.int .u8 c] =
 cond (decide (c ≥ 48)) (
  cond (decide (c ≤ 57)) (
   some (.bool true)) (
   some (.bool false))) (
  some (.bool false)) := by kernel_rfl
set_option maxRecDepth 100000 in
theorem q_letter (gl : Gl) (c : Int) : ev gl H0 57 [.int .u8 c] =
 cond (decide (c ≥ 97)) (
  cond (decide (c ≤ 122)) (
   some (.bool true)) (
   cond (c == 95) (
    some (.bool true)) (
    some (.bool false)))) (
  cond (c == 95) (
   some (.bool true)) (
   some (.bool false))) := by kernel_rfl
set_option maxRecDepth 100000 in
theorem q_part (gl : Gl) (c : Int) : ev gl H0 58 [.int .u8 c] =
 cond (decide (c ≥ 97)) (
  cond (decide (c ≤ 122)) (
   some (.bool true)) (
   cond (c == 95) (
    some (.bool true)) (
    cond (decide (c ≥ 48)) (
     cond (decide (c ≤ 57)) (
      some (.bool true)) (
      cond (c == 46) (
       some (.bool true)) (
       some (.bool false)))) (
     cond (c == 46) (
      some (.bool true)) (
      some (.bool false)))))) (
  cond (c == 95) (
   some (.bool true)) (
   cond (decide (c ≥ 48)) (
    cond (decide (c ≤ 57)) (
     some (.bool true)) (
     cond (c == 46) (
      some (.bool true)) (
      some (.bool false)))) (
    cond (c == 46) (
     some (.bool true)) (
     some (.bool false))))) := by kernel_rfl
set_option maxRecDepth 100000 in
theorem q_hex (gl : Gl) (c : Int) : ev gl H0 99 [.int .u8 c] =
 cond (decide (c ≥ 48)) (
  cond (decide (c ≤ 57)) (
   some (.bool true)) (
   cond (decide (c ≥ 97)) (
    cond (decide (c ≤ 102)) (
     some (.bool true)) (
     some (.bool false))) (
    some (.bool false)))) (
  cond (decide (c ≥ 97)) (
   cond (decide (c ≤ 102)) (
    some (.bool true)) (
    some (.bool false))) (
   some (.bool false))) := by kernel_rfl
set_option maxRecDepth 100000 in
theorem q_value (gl : Gl) (c : Int) : ev gl H0 100 [.int .u8 c] =
 cond (decide (c ≥ 48)) (
  cond (decide (c ≤ 57)) (
   some (.int IntKind.i64 (IntKind.i64.wrap (IntKind.u8.wrap (c - 48))))) (
   some (.int IntKind.i64 (IntKind.i64.wrap (IntKind.i64.wrap (IntKind.u8.wrap (c - 97)) + 10))))) (
  some (.int IntKind.i64 (IntKind.i64.wrap (IntKind.i64.wrap (IntKind.u8.wrap (c - 97)) + 10)))) := by kernel_rfl
theorem fnDigitR {gl : Gl} (hgl : ∀ g k v, gl g k = some v → g < 1000 ∧ lowV 8 v = true) : FnOK Tryd.prog gl 60 (afB digitB) := fnB hgl fun c => by
  rw [q_digit]; unfold digitB
  cases decide (c ≥ 48) <;> cases decide (c ≤ 57) <;> rfl
theorem fnLetterR {gl : Gl} (hgl : ∀ g k v, gl g k = some v → g < 1000 ∧ lowV 8 v = true) : FnOK Tryd.prog gl 57 (afB letterB) := fnB hgl fun c => by
  rw [q_letter]; unfold letterB
  rw [show (c == 95) = decide (c = 95) from rfl]
  cases decide (c ≥ 97) <;> cases decide (c ≤ 122) <;> cases decide (c = 95) <;> rfl
theorem fnPartR {gl : Gl} (hgl : ∀ g k v, gl g k = some v → g < 1000 ∧ lowV 8 v = true) : FnOK Tryd.prog gl 58 (afB partB) := fnB hgl fun c => by
  rw [q_part]; unfold partB letterB digitB
  rw [show (c == 95) = decide (c = 95) from rfl, show (c == 46) = decide (c = 46) from rfl]
  cases decide (c ≥ 97) <;> cases decide (c ≤ 122) <;> cases decide (c = 95) <;> cases decide (c ≥ 48) <;> cases decide (c ≤ 57) <;> cases decide (c = 46) <;> rfl
theorem fnHexR {gl : Gl} (hgl : ∀ g k v, gl g k = some v → g < 1000 ∧ lowV 8 v = true) : FnOK Tryd.prog gl 99 (afB hexB) := fnB hgl fun c => by
  rw [q_hex]; unfold hexB digitB
  cases decide (c ≥ 97) <;> cases decide (c ≤ 102) <;> cases decide (c ≥ 48) <;> cases decide (c ≤ 57) <;> rfl
def afV : AF := fun args _ => match args with
  | [.int .u8 c] => some (hexB c, .int .i64 (dg c))
  | _ => none
theorem fnValueR {gl : Gl} (hgl : ∀ g k v, gl g k = some v → g < 1000 ∧ lowV 8 v = true) : FnOK Tryd.prog gl 100 afV :=
  fn_of noSy_ok goodT hgl tglob H0_ok fun args σ v e => by
    unfold afV at e
    split at e
    · rename_i c
      simp only [Option.some.injEq, Prod.mk.injEq] at e
      obtain ⟨e1, rfl⟩ := e
      refine ⟨rfl, ?_⟩
      have e1 := hexB_iff.1 e1
      refine Eq.trans (q_value gl c) ?_
      unfold dg
      by_cases h : 48 ≤ c ∧ c ≤ 57
      · rw [decide_eq_true (show c ≥ 48 from h.1), decide_eq_true h.2, cond_true, cond_true, if_pos h.2, wrap8_id _ (by omega), wrap_id _ (by omega)]
      · rw [decide_eq_true (show c ≥ 48 by omega), decide_eq_false (show ¬ c ≤ 57 by omega), cond_true, cond_false, if_neg (by omega), wrap8_id _ (by omega), wrap_id (c - 97) (by omega), wrap_id _ (by omega), show c - 97 + 10 = c - 87 by omega]
    · cases e
def afs2 : List (FuncId × AF) := [(60, afB digitB), (57, afB letterB), (58, afB partB), (99, afB hexB), (100, afV)]
def H9 : Hs := hsOf afs2 [] []
theorem afs2_ok {gl : Gl} (hgl : ∀ g k v, gl g k = some v → g < 1000 ∧ lowV 8 v = true) : ∀ p ∈ afs2, FnOK Tryd.prog gl p.1 p.2 := fun p hp => by
  simp only [afs2, List.mem_cons, List.not_mem_nil, or_false] at hp
  rcases hp with rfl | rfl | rfl | rfl | rfl
  · exact fnDigitR hgl
  · exact fnLetterR hgl
  · exact fnPartR hgl
  · exact fnHexR hgl
  · exact fnValueR hgl
theorem H9_ok {gl : Gl} (hgl : ∀ g k v, gl g k = some v → g < 1000 ∧ lowV 8 v = true) : H9.OK Tryd.prog gl := hsOf_ok (afs2_ok hgl) (fun _ h => by cases h) (fun _ h => by cases h)
def rnLive : List Nat := [7, 10, 0, 8, 9, 1, 11]
def rnOut : List Nat := [1, 7, 9, 0, 11, 10]
def rnSt (s : ByteArray) (a b : Int) (i n m : Int) (g : Bool) : LSt := ([.int .i64 i, .int .i64 n, .string s, .int .i64 b, .int .i64 m, .int .i64 a, .bool g], [])
def rnEnd (s : ByteArray) (a : Int) (i n m : Int) (g : Bool) : Out := (.exit 0, [.int .i64 a, .int .i64 i, .int .i64 m, .string s, .bool g, .int .i64 n], [])
set_option maxRecDepth 100000 in
theorem q_num10 (gl : Gl) (s : ByteArray) (a i n m : Int) (g : Bool) : rnd gl H9 1000 61 0 rnLive rnOut (rnSt s a 10 i n m g) =
 cond (decide (i < (↑s.size : Int))) (
  cond (decide (0 ≤ i) && (decide (i < (↑s.size : Int)))) (
   cond (digitB (byteAt s i)) (
    cond (decide (0 ≤ i) && (decide (i < (↑s.size : Int)))) (
     cond (hexB (byteAt s i)) (
      cond (decide (IntKind.i64.wrap (IntKind.i64.wrap (m * 10) + dg (byteAt s i)) > 4294967296)) (
       some (.inl ([(.int IntKind.i64 (IntKind.i64.wrap (i + 1))), (.int IntKind.i64 (IntKind.i64.wrap (n + 1))), (.string (s)), (.int IntKind.i64 10), (.int IntKind.i64 4294967297), (.int IntKind.i64 (a)), (.bool true)], []))) (
       some (.inl ([(.int IntKind.i64 (IntKind.i64.wrap (i + 1))), (.int IntKind.i64 (IntKind.i64.wrap (n + 1))), (.string (s)), (.int IntKind.i64 10), (.int IntKind.i64 (IntKind.i64.wrap (IntKind.i64.wrap (m * 10) + dg (byteAt s i)))), (.int IntKind.i64 (a)), (.bool (g))], [])))) (
      none)) (
     none)) (
    some (.inr (.exit 0, ([(.int IntKind.i64 (a)), (.int IntKind.i64 (i)), (.int IntKind.i64 (m)), (.string (s)), (.bool (g)), (.int IntKind.i64 (n))], []))))) (
   none)) (
  some (.inr (.exit 0, ([(.int IntKind.i64 (a)), (.int IntKind.i64 (i)), (.int IntKind.i64 (m)), (.string (s)), (.bool (g)), (.int IntKind.i64 (n))], [])))) := by kernel_rfl
set_option maxRecDepth 100000 in
theorem q_num16 (gl : Gl) (s : ByteArray) (a i n m : Int) (g : Bool) : rnd gl H9 1000 61 0 rnLive rnOut (rnSt s a 16 i n m g) =
 cond (decide (i < (↑s.size : Int))) (
  cond (decide (0 ≤ i) && (decide (i < (↑s.size : Int)))) (
   cond (digitB (byteAt s i)) (
    cond (decide (0 ≤ i) && (decide (i < (↑s.size : Int)))) (
     cond (hexB (byteAt s i)) (
      cond (decide (IntKind.i64.wrap (IntKind.i64.wrap (m * 16) + dg (byteAt s i)) > 4294967296)) (
       some (.inl ([(.int IntKind.i64 (IntKind.i64.wrap (i + 1))), (.int IntKind.i64 (IntKind.i64.wrap (n + 1))), (.string (s)), (.int IntKind.i64 16), (.int IntKind.i64 4294967297), (.int IntKind.i64 (a)), (.bool true)], []))) (
       some (.inl ([(.int IntKind.i64 (IntKind.i64.wrap (i + 1))), (.int IntKind.i64 (IntKind.i64.wrap (n + 1))), (.string (s)), (.int IntKind.i64 16), (.int IntKind.i64 (IntKind.i64.wrap (IntKind.i64.wrap (m * 16) + dg (byteAt s i)))), (.int IntKind.i64 (a)), (.bool (g))], [])))) (
      none)) (
     none)) (
    cond (decide (0 ≤ i) && (decide (i < (↑s.size : Int)))) (
     cond (hexB (byteAt s i)) (
      cond (decide (0 ≤ i) && (decide (i < (↑s.size : Int)))) (
       cond (hexB (byteAt s i)) (
        cond (decide (IntKind.i64.wrap (IntKind.i64.wrap (m * 16) + dg (byteAt s i)) > 4294967296)) (
         some (.inl ([(.int IntKind.i64 (IntKind.i64.wrap (i + 1))), (.int IntKind.i64 (IntKind.i64.wrap (n + 1))), (.string (s)), (.int IntKind.i64 16), (.int IntKind.i64 4294967297), (.int IntKind.i64 (a)), (.bool true)], []))) (
         some (.inl ([(.int IntKind.i64 (IntKind.i64.wrap (i + 1))), (.int IntKind.i64 (IntKind.i64.wrap (n + 1))), (.string (s)), (.int IntKind.i64 16), (.int IntKind.i64 (IntKind.i64.wrap (IntKind.i64.wrap (m * 16) + dg (byteAt s i)))), (.int IntKind.i64 (a)), (.bool (g))], [])))) (
        none)) (
       none)) (
      some (.inr (.exit 0, ([(.int IntKind.i64 (a)), (.int IntKind.i64 (i)), (.int IntKind.i64 (m)), (.string (s)), (.bool (g)), (.int IntKind.i64 (n))], []))))) (
     none))) (
   none)) (
  some (.inr (.exit 0, ([(.int IntKind.i64 (a)), (.int IntKind.i64 (i)), (.int IntKind.i64 (m)), (.string (s)), (.bool (g)), (.int IntKind.i64 (n))], [])))) := by kernel_rfl
end Go.Proofs.YtgohnfkidkomhaaDoor

noncomputable section
namespace Go.Proofs.YtgohnfkidkomhaaDoor
open Go.Proofs.YtgohnfkidkomhaaDoor.Ev Go.RowKit

/-- The number that is read on: its value, capped; whether it is too big. -/
def rnGo (b : Int) (s : ByteArray) : Nat → Int → Int → Bool → Int × Bool
  | 0, _, v, g => (v, g)
  | f + 1, i, v, g => if i < (s.size : Int) ∧ predB b (byteAt s i) = true then (if v * b + dg (byteAt s i) > 4294967296 then rnGo b s f (i + 1) 4294967297 true else rnGo b s f (i + 1) (v * b + dg (byteAt s i)) g) else (v, g)
theorem rnGo_in {b : Int} {s : ByteArray} {f : Nat} {i v : Int} {g : Bool} (h : i < (s.size : Int) ∧ predB b (byteAt s i) = true) : rnGo b s (f + 1) i v g = if v * b + dg (byteAt s i) > 4294967296 then rnGo b s f (i + 1) 4294967297 true else rnGo b s f (i + 1) (v * b + dg (byteAt s i)) g := if_pos h
theorem rnGo_out {b : Int} {s : ByteArray} : ∀ (f : Nat) {i v : Int} {g : Bool}, ¬ (i < (s.size : Int) ∧ predB b (byteAt s i) = true) → rnGo b s f i v g = (v, g)
  | 0, _, _, _, _ => rfl
  | _ + 1, _, _, _, h => if_neg h
theorem rnGo_big {b : Int} {s : ByteArray} : ∀ (f : Nat) (i v : Int), (rnGo b s f i v true).2 = true
  | 0, _, _ => rfl
  | f + 1, i, v => by
    unfold rnGo
    split
    · split
      · exact rnGo_big f _ _
      · exact rnGo_big f _ _
    · rfl
theorem hex_digit {c : Int} (h : digitB c = true) : hexB c = true := by unfold hexB; rw [h]; rfl
theorem rn_round (gl : Gl) {b : Int} (hb : b = 10 ∨ b = 16) {s : ByteArray} (a : Int) {i k v : Int} (g : Bool) (h0 : 0 ≤ i) (hs : s.size ≤ 1000000) (hk : 0 ≤ k ∧ k ≤ i) (hv : 0 ≤ v ∧ v ≤ 4294967297) :
    rnd gl H9 1000 61 0 rnLive rnOut (rnSt s a b i k v g) = some (if i < (s.size : Int) ∧ predB b (byteAt s i) = true then (if v * b + dg (byteAt s i) > 4294967296 then .inl (rnSt s a b (i + 1) (k + 1) 4294967297 true) else .inl (rnSt s a b (i + 1) (k + 1) (v * b + dg (byteAt s i)) g)) else .inr (rnEnd s a i k v g)) := by
  by_cases h : i < (s.size : Int)
  case neg =>
    rw [if_neg fun q => h q.1]
    rcases hb with rfl | rfl
    · rw [q_num10, decide_eq_false h, cond_false]; rfl
    · rw [q_num16, decide_eq_false h, cond_false]; rfl
  have w1 : IntKind.i64.wrap (i + 1) = i + 1 := wrap_id _ (by omega)
  have w2 : IntKind.i64.wrap (k + 1) = k + 1 := wrap_id _ (by omega)
  rcases hb with rfl | rfl
  · rw [q_num10]
    simp only [h, h0, decide_true, Bool.and_self, cond_true, w1, w2, true_and]
    by_cases hd : digitB (byteAt s i) = true
    · rw [if_pos (show predB 10 (byteAt s i) = true from hd), hd, hex_digit hd, cond_true, cond_true]
      have := digitB_iff.1 hd
      have hd2 : 0 ≤ dg (byteAt s i) ∧ dg (byteAt s i) ≤ 9 := by unfold dg; split <;> omega
      rw [wrap_id (v * 10) (by omega), wrap_id _ (by omega)]
      by_cases hg : v * 10 + dg (byteAt s i) > 4294967296
      · rw [decide_eq_true hg, cond_true, if_pos hg]; rfl
      · rw [decide_eq_false hg, cond_false, if_neg hg]; rfl
    · rw [if_neg (show ¬ predB 10 (byteAt s i) = true from hd), Bool.eq_false_iff.2 hd, cond_false]; rfl
  · rw [q_num16]
    simp only [h, h0, decide_true, Bool.and_self, cond_true, w1, w2, true_and]
    by_cases hx : hexB (byteAt s i) = true
    · rw [if_pos (show predB 16 (byteAt s i) = true from hx), hx]
      have := hexB_iff.1 hx
      have hd2 : 0 ≤ dg (byteAt s i) ∧ dg (byteAt s i) ≤ 15 := by unfold dg; split <;> omega
      rw [wrap_id (v * 16) (by omega), wrap_id _ (by omega)]
      by_cases hg : v * 16 + dg (byteAt s i) > 4294967296
      · rw [decide_eq_true hg, if_pos hg]
        cases digitB (byteAt s i) <;> rfl
      · rw [decide_eq_false hg, if_neg hg]
        cases digitB (byteAt s i) <;> rfl
    · have hd : digitB (byteAt s i) = false := Bool.eq_false_iff.2 fun q => hx (hex_digit q)
      rw [if_neg (show ¬ predB 16 (byteAt s i) = true from hx), Bool.eq_false_iff.2 hx, hd, cond_false, cond_false]; rfl
def rnFin (s : ByteArray) (a b i : Int) (k v : Int) (g : Bool) : Out := rnEnd s a (runE (predB b) s i) (k + (runE (predB b) s i - i)) (rnGo b s ((s.size : Int) - i).toNat i v g).1 (rnGo b s ((s.size : Int) - i).toNat i v g).2
def rnH : Hd := fun vs rows => match vs, rows with
  | [.int .i64 i, .int .i64 k, .string s, .int .i64 b, .int .i64 v, .int .i64 a, .bool g], [] => some (.br (decide (k = 0) && decide (v = 0) && (decide (b = 10) || decide (b = 16)) && !g) (.br (decide (0 ≤ i) && decide (i ≤ (s.size : Int)) && decide (s.size ≤ 1000000)) (.ret (rnFin s a b i 0 0 false)) .fail) .fail)
  | _, _ => none
theorem rnH_ok {gl : Gl} (hgl : ∀ g k v, gl g k = some v → g < 1000 ∧ lowV 8 v = true) : LpOK Tryd.prog gl 61 0 ⟨rnLive, rnOut, rnH⟩ := loop_of noSy_ok goodT hgl tglob (H9_ok hgl) (L := 100) (G := 40) (d := 40) fun vs rows t r h1 h2 => by
  simp only [rnH] at h1
  split at h1
  · rename_i i k s b v a g
    cases h1
    obtain ⟨c1, h3⟩ := brT h2
    obtain ⟨c2, h4⟩ := brT h3
    simp only [Bool.and_eq_true, Bool.or_eq_true, decide_eq_true_eq, Bool.not_eq_true'] at c1 c2
    obtain ⟨⟨⟨rfl, rfl⟩, hb⟩, rfl⟩ := c1
    obtain ⟨⟨c3, c4⟩, c5⟩ := c2
    cases h4
    refine ⟨show 1000 ≤ most by decide, {p : Int × Int × Int × Bool // 0 ≤ p.1 ∧ p.1 ≤ (s.size : Int) ∧ 0 ≤ p.2.1 ∧ p.2.1 ≤ p.1 ∧ 0 ≤ p.2.2.1 ∧ p.2.2.1 ≤ 4294967297}, fun p => rnSt s a b p.1.1 p.1.2.1 p.1.2.2.1 p.1.2.2.2, fun p => some (rnFin s a b p.1.1 p.1.2.1 p.1.2.2.1 p.1.2.2.2), fun p => ((s.size : Int) - p.1.1).toNat, ⟨(i, 0, 0, false), by simp only; omega⟩, .inl rfl, rfl, ?_⟩
    rintro ⟨⟨i, k, v, g⟩, i0, i1, k0, k1, v0, v1⟩ o ho
    simp only at i0 i1 k0 k1 v0 v1 ho
    cases ho
    refine ⟨_, rn_round gl hb a g i0 c5 ⟨k0, k1⟩ ⟨v0, v1⟩, ?_⟩
    unfold rnFin
    rw [runE_eq (predB b) s i]
    by_cases h : i < (s.size : Int) ∧ predB b (byteAt s i) = true
    · rw [if_pos h, decide_eq_true h.1, h.2, Bool.and_self, cond_true]
      obtain ⟨f, hf⟩ : ∃ f, ((s.size : Int) - i).toNat = f + 1 := ⟨((s.size : Int) - i).toNat - 1, by omega⟩
      have hf2 : ((s.size : Int) - (i + 1)).toNat = f := by omega
      have hd := dg_range hb h.2
      have hvb : 0 ≤ v * b := by rcases hb with rfl | rfl <;> omega
      rw [hf, rnGo_in h]
      by_cases hg : v * b + dg (byteAt s i) > 4294967296
      · rw [if_pos hg, if_pos hg]
        refine ⟨⟨(i + 1, k + 1, 4294967297, true), by simp only; omega⟩, rfl, by simp only; omega, ?_⟩
        simp only [hf2]
        rw [show k + 1 + (runE (predB b) s (i + 1) - (i + 1)) = k + (runE (predB b) s (i + 1) - i) by omega]
      · rw [if_neg hg, if_neg hg]
        refine ⟨⟨(i + 1, k + 1, v * b + dg (byteAt s i), g), by simp only; omega⟩, rfl, by simp only; omega, ?_⟩
        simp only [hf2]
        rw [show k + 1 + (runE (predB b) s (i + 1) - (i + 1)) = k + (runE (predB b) s (i + 1) - i) by omega]
    · rw [if_neg h]
      have hc : (decide (i < (s.size : Int)) && predB b (byteAt s i)) = false := by
        rw [Bool.eq_false_iff]
        simpa using h
      rw [hc, cond_false]
      show rnEnd s a i k v g = _
      rw [rnGo_out _ h]
      simp only
      rw [show k + (i - i) = k by omega]
  · cases h1
def H10 : Hs := hsOf afs2 [] [(61, [(0, ⟨rnLive, rnOut, rnH⟩)])]
theorem H10_ok {gl : Gl} (hgl : ∀ g k v, gl g k = some v → g < 1000 ∧ lowV 8 v = true) : H10.OK Tryd.prog gl := hsOf_ok (afs2_ok hgl) (fun _ h => by cases h) (fun p hp q hq => by
    simp only [List.mem_cons, List.not_mem_nil, or_false] at hp
    subst hp
    simp only [List.mem_cons, List.not_mem_nil, or_false] at hq
    subst hq
    exact rnH_ok hgl)
def rnT (s : ByteArray) (a b n2 : Int) : Option Value :=
  cond (decide (0 ≤ n2) && decide (n2 ≤ (s.size : Int)) && decide (s.size ≤ 1000000)) (cond (0 + (runE (predB b) s n2 - n2) == 0) (some (.tuple #[.int .i64 0, .int .i64 0, .int .i64 200]))
    (cond (rnGo b s ((s.size : Int) - n2).toNat n2 0 false).2 (some (.tuple #[.int .i64 0, .int .i64 0, .int .i64 201])) (cond (decide (0 ≤ a) && decide (a < (s.size : Int))) (cond (byteAt s a == 45)
      (some (.tuple #[.int .i64 (IntKind.i64.wrap (0 - (rnGo b s ((s.size : Int) - n2).toNat n2 0 false).1)), .int .i64 (IntKind.i64.wrap (runE (predB b) s n2 - a)), .int .i64 0]))
      (some (.tuple #[.int .i64 (rnGo b s ((s.size : Int) - n2).toNat n2 0 false).1, .int .i64 (IntKind.i64.wrap (runE (predB b) s n2 - a)), .int .i64 0]))) none))) none
def rnW (s : ByteArray) (a n1 : Int) : Option Value :=
  cond (decide (IntKind.i64.wrap (n1 + 1) < (s.size : Int))) (cond (decide (0 ≤ n1) && decide (n1 < (s.size : Int))) (cond (byteAt s n1 == 48) (cond (decide (0 ≤ IntKind.i64.wrap (n1 + 1)) && decide (IntKind.i64.wrap (n1 + 1) < (s.size : Int))) (cond (byteAt s (IntKind.i64.wrap (n1 + 1)) == 120) (rnT s a 16 (IntKind.i64.wrap (n1 + 2))) (rnT s a 10 n1)) none) (rnT s a 10 n1)) none) (rnT s a 10 n1)
set_option maxRecDepth 100000 in
theorem q_number (gl : Gl) (s : ByteArray) (a : Int) : ev gl H10 61 [.string s, .int .i64 a] =
    cond (decide (0 ≤ a) && decide (a < (s.size : Int))) (cond (byteAt s a == 45) (rnW s a (IntKind.i64.wrap (a + 1))) (rnW s a a)) none := by kernel_rfl

/-- The document's number is that of the library's reading. -/
theorem puGo_ge {b cut : Int} (hb : b = 10 ∨ b = 16) {t : ByteArray} (hd : ∀ i, 0 ≤ i → i < (t.size : Int) → predB b (byteAt t i) = true) : ∀ (f : Nat) (i n : Int), 0 ≤ i → 0 ≤ n → (puGo b cut t f i n).1 = true → n ≤ (puGo b cut t f i n).2
  | 0, i, n, h0, h1, _ => Int.le_refl _
  | f + 1, i, n, h0, h1, h => by
    have hnb : n ≤ n * b := by rcases hb with rfl | rfl <;> omega
    unfold puGo at h ⊢
    by_cases hi : i < (t.size : Int)
    · rw [if_pos hi] at h ⊢
      have := dg_range hb (hd i h0 hi)
      by_cases g1 : n ≥ cut
      · rw [if_pos g1] at h; cases h
      · rw [if_neg g1] at h ⊢
        by_cases g2 : n * b + dg (byteAt t i) > puMax
        · rw [if_pos g2] at h; cases h
        · rw [if_neg g2] at h ⊢
          have := puGo_ge hb hd f (i + 1) _ (by omega) (by omega) h
          omega
    · rw [if_neg hi]
      exact Int.le_refl _
theorem rn_pu {b : Int} (hb : b = 10 ∨ b = 16) {s : ByteArray} {n2 : Int} (h0 : 0 ≤ n2) (h1 : n2 ≤ (s.size : Int)) : ∀ (f' : Nat) (i v : Int), n2 ≤ i → i ≤ runE (predB b) s n2 → (runE (predB b) s n2 - i).toNat = f' → 0 ≤ v → v ≤ 4294967296 →
    (if (puGo b (cutOf b) (subS s n2 (runE (predB b) s n2)) f' (i - n2) v).1 = true ∧ (puGo b (cutOf b) (subS s n2 (runE (predB b) s n2)) f' (i - n2) v).2 ≤ 4294967296 then rnGo b s ((s.size : Int) - i).toNat i v false = ((puGo b (cutOf b) (subS s n2 (runE (predB b) s n2)) f' (i - n2) v).2, false) else (rnGo b s ((s.size : Int) - i).toNat i v false).2 = true)
  | 0, i, v, k1, k2, k3, v0, v1 => by
    obtain ⟨r1, r2⟩ := runE_le (p := predB b) h1
    have hi : i = runE (predB b) s n2 := by omega
    rw [if_pos ⟨rfl, v1⟩]
    refine rnGo_out _ fun q => ?_
    have := runE_stop (p := predB b) _ n2 rfl h1 (by omega)
    rw [← hi, q.2] at this
    cases this
  | f + 1, i, v, k1, k2, k3, v0, v1 => by
    obtain ⟨r1, r2⟩ := runE_le (p := predB b) h1
    have hp := runE_in (p := predB b) _ n2 rfl h1 i k1 (by omega)
    have zs := subS_size (s := s) h0 r1 r2
    have hall : ∀ j, 0 ≤ j → j < ((subS s n2 (runE (predB b) s n2)).size : Int) → predB b (byteAt (subS s n2 (runE (predB b) s n2)) j) = true := fun j j0 j1 => by
      rw [byteAt_subS h0 r1 r2 j0 (by omega)]
      exact runE_in _ n2 rfl h1 _ (by omega) (by omega)
    have hby : byteAt (subS s n2 (runE (predB b) s n2)) (i - n2) = byteAt s i := by
      rw [byteAt_subS h0 r1 r2 (by omega) (by omega)]
      congr 1; omega
    obtain ⟨m, hm⟩ : ∃ m, ((s.size : Int) - i).toNat = m + 1 := ⟨((s.size : Int) - i).toNat - 1, by omega⟩
    have hm2 : ((s.size : Int) - (i + 1)).toNat = m := by omega
    have hd := dg_range hb hp
    have hvb : 0 ≤ v * b ∧ v * b ≤ 68719476736 := by rcases hb with rfl | rfl <;> omega
    have hb16 : b ≤ 16 := by rcases hb with rfl | rfl <;> decide
    have hcut : ¬ v ≥ cutOf b := by unfold cutOf; split <;> omega
    have hmax : ¬ v * b + dg (byteAt s i) > puMax := by unfold puMax; omega
    have e : puGo b (cutOf b) (subS s n2 (runE (predB b) s n2)) (f + 1) (i - n2) v = puGo b (cutOf b) (subS s n2 (runE (predB b) s n2)) f (i + 1 - n2) (v * b + dg (byteAt s i)) := by
      show (if i - n2 < _ then _ else _) = _
      rw [if_pos (by omega), if_neg hcut, hby, if_neg hmax, show i - n2 + 1 = i + 1 - n2 by omega]
    rw [e, hm, rnGo_in ⟨by omega, hp⟩]
    by_cases hg : v * b + dg (byteAt s i) > 4294967296
    · rw [if_pos hg, if_neg]
      · exact rnGo_big _ _ _
      · rintro ⟨q1, q2⟩
        have := puGo_ge hb hall f (i + 1 - n2) _ (by omega) (by omega) q1
        omega
    · rw [if_neg hg, ← hm2]
      exact rn_pu hb h0 h1 f (i + 1) _ (by omega) (by omega) (by omega) (by omega) (by omega)
theorem rnT_eq {s : ByteArray} {a b n2 : Int} (hb : b = 10 ∨ b = 16) (h0 : 0 ≤ a) (h1 : a < (s.size : Int)) (hs : s.size ≤ 1000000) (h2 : a ≤ n2) (h3 : n2 ≤ (s.size : Int)) : rnT s a b n2 = some (num3 (numV s a b n2)) := by
  obtain ⟨r1, r2⟩ := runE_le (p := predB b) h3
  have n0 : 0 ≤ n2 := by omega
  have w3 : IntKind.i64.wrap (runE (predB b) s n2 - a) = runE (predB b) s n2 - a := wrap_id _ (by omega)
  have zs := subS_size (s := s) n0 r1 r2
  have key := rn_pu hb n0 h3 _ n2 0 (Int.le_refl _) r1 rfl (Int.le_refl _) (by decide)
  have hall : ∀ j, 0 ≤ j → j < ((subS s n2 (runE (predB b) s n2)).size : Int) → predB b (byteAt (subS s n2 (runE (predB b) s n2)) j) = true := fun j j0 j1 => by
    rw [byteAt_subS n0 r1 r2 j0 (by omega)]
    exact runE_in _ n2 rfl h3 _ (by omega) (by omega)
  have nn := puGo_nn (cut := cutOf b) hb hall (subS s n2 (runE (predB b) s n2)).size 0 0 (Int.le_refl _) (Int.le_refl _)
  rw [show n2 - n2 = 0 by omega, show (runE (predB b) s n2 - n2).toNat = (subS s n2 (runE (predB b) s n2)).size by omega] at key
  unfold rnT numV puAll
  simp only [n0, h3, hs, h0, h1, decide_true, Bool.and_self, cond_true, w3]
  by_cases hz : runE (predB b) s n2 = n2
  · rw [if_pos hz, show (0 + (runE (predB b) s n2 - n2) == 0) = true by rw [beq_iff_eq]; omega, cond_true]
    rfl
  · rw [if_neg hz, show (0 + (runE (predB b) s n2 - n2) == 0) = false by rw [beq_eq_false_iff_ne]; omega, cond_false]
    split at key
    · rename_i hc
      rw [if_pos hc, key, cond_false]
      by_cases h45 : byteAt s a = 45
      · rw [show (byteAt s a == 45) = true by rw [h45]; rfl, cond_true, if_pos h45, wrap_id _ (by simp only; omega), Int.zero_sub]
        rfl
      · rw [show (byteAt s a == 45) = false by simpa using h45, cond_false, if_neg h45]
        rfl
    · rename_i hc
      rw [if_neg hc, key, cond_true]
      rfl
theorem number_eq (gl : Gl) {s : ByteArray} {a : Int} (h0 : 0 ≤ a) (h1 : a < (s.size : Int)) (hs : s.size ≤ 1000000) : ev gl H10 61 [.string s, .int .i64 a] = some (num3 (numC s a)) := by
  rw [q_number]
  have key : ∀ n1 : Int, 0 ≤ n1 → n1 ≤ (s.size : Int) → a ≤ n1 → sgn s a = n1 → rnW s a n1 = some (num3 (numC s a)) := by
    intro n1 k0 k1 k2 hsg
    have w1 : IntKind.i64.wrap (n1 + 1) = n1 + 1 := wrap_id _ (by omega)
    have w2 : IntKind.i64.wrap (n1 + 2) = n1 + 2 := wrap_id _ (by omega)
    have hdec := rnT_eq (b := 10) (.inl rfl) h0 h1 hs k2 k1
    unfold rnW numC
    rw [hsg, w1, w2]
    by_cases g : n1 + 1 < (s.size : Int)
    · have g1 : n1 < (s.size : Int) := by omega
      have g2 : 0 ≤ n1 + 1 := by omega
      have hhex := rnT_eq (b := 16) (.inr rfl) h0 h1 hs (show a ≤ n1 + 2 by omega) (by omega)
      simp only [g, g1, g2, k0, decide_true, Bool.and_self, cond_true, hdec, hhex]
      by_cases hx : byteAt s n1 = 48
      · rw [show (byteAt s n1 == 48) = true by rw [hx]; rfl, cond_true]
        by_cases hy : byteAt s (n1 + 1) = 120
        · rw [if_pos ⟨g, hx, hy⟩, show (byteAt s (n1 + 1) == 120) = true by rw [hy]; rfl, cond_true]
        · rw [if_neg fun q => hy q.2.2, show (byteAt s (n1 + 1) == 120) = false by simpa using hy, cond_false]
      · rw [if_neg fun q => hx q.2.1, show (byteAt s n1 == 48) = false by simpa using hx, cond_false]
    · rw [if_neg fun q => g q.1, decide_eq_false g, cond_false, hdec]
  rw [decide_eq_true h0, decide_eq_true h1, Bool.and_self, cond_true]
  by_cases h45 : byteAt s a = 45
  · rw [show (byteAt s a == 45) = true by rw [h45]; rfl, cond_true]
    have w : IntKind.i64.wrap (a + 1) = a + 1 := wrap_id _ (by omega)
    rw [w]
    exact key (a + 1) (by omega) (by omega) (by omega) (if_pos h45)
  · rw [show (byteAt s a == 45) = false by simpa using h45, cond_false]
    exact key a h0 (by omega) (by omega) (if_neg h45)
end Go.Proofs.YtgohnfkidkomhaaDoor

noncomputable section
namespace Go.Proofs.YtgohnfkidkomhaaDoor
open Go.Proofs.YtgohnfkidkomhaaDoor.Ev Go.RowKit

/-! The document's line: the inner loop, and rounds of the outer. -/
def ilLive : List Nat := [8, 0, 6, 9, 5, 2, 3, 4]
def ilOut : List Nat := [0, 8, 6, 9, 5, 2, 3, 4]
structure TCell where
  z : Int
  e : ByteArray
  y : Int
  x : Int
def tcRow (c : TCell) : Option LObj := some (.row ⟨[.int .u8 c.z, .string c.e, .int .i64 c.y, .int .i64 c.x], 46, (0, 0), 0, false, false⟩)
def ilSt0 (s : ByteArray) (a k : Int) (c : TCell) : LSt := ([.int .i64 k, .string s, .int .i64 a, .pointer (some ⟨1000, 0, none⟩), .slice none 0 0, .slice none 0 0, .int .i64 0, .int .i64 0], [tcRow c])
def ilSt1 (s : ByteArray) (a k : Int) (c : TCell) (cs : List Value) (n : Nat) : LSt := ([.int .i64 k, .string s, .int .i64 a, .pointer (some ⟨1000, 0, none⟩), .slice (some ⟨1001, 0, none⟩) n n, .slice none 0 0, .int .i64 0, .int .i64 0], [tcRow c, tokRow cs])
def ilEnd0 (s : ByteArray) (a k : Int) (c : TCell) : Out := (.exit 3, [.string s, .int .i64 k, .int .i64 a, .pointer (some ⟨1000, 0, none⟩), .slice none 0 0, .slice none 0 0, .int .i64 0, .int .i64 0], [tcRow c])
def ilEnd1 (s : ByteArray) (a k : Int) (c : TCell) (cs : List Value) (n : Nat) : Out := (.exit 3, [.string s, .int .i64 k, .int .i64 a, .pointer (some ⟨1000, 0, none⟩), .slice (some ⟨1001, 0, none⟩) n n, .slice none 0 0, .int .i64 0, .int .i64 0], [tcRow c, tokRow cs])
set_option maxRecDepth 100000 in
theorem q_il0 (gl : Gl) (s : ByteArray) (a k : Int) (c : TCell) : roundK noSy Tryd.prog gl (fun _ => none) H9 100 40 40 26 1 ilLive (ilSt0 s a k c) (rndK Tryd.prog 1001 ilLive ilOut) =
 cond (decide (IntKind.i64.wrap (a + k) < (↑s.size : Int))) (
  cond (decide (0 ≤ IntKind.i64.wrap (a + k)) && (decide (IntKind.i64.wrap (a + k) < (↑s.size : Int)))) (
   cond (partB (byteAt s (IntKind.i64.wrap (a + k)))) (
    some (.inl ([(.int IntKind.i64 (IntKind.i64.wrap (k + 1))), (.string (s)), (.int IntKind.i64 (a)), (.pointer (some ⟨1000, 0, none⟩)), (.slice none 0 0), (.slice none 0 0), (.int IntKind.i64 0), (.int IntKind.i64 0)], [some (.row ⟨[(.int IntKind.u8 (c.z)), (.string (c.e)), (.int IntKind.i64 (c.y)), (.int IntKind.i64 (c.x))], 46, (0, 0), 0, false, false⟩)]))) (
    some (.inr (.exit 3, ([(.string (s)), (.int IntKind.i64 (k)), (.int IntKind.i64 (a)), (.pointer (some ⟨1000, 0, none⟩)), (.slice none 0 0), (.slice none 0 0), (.int IntKind.i64 0), (.int IntKind.i64 0)], [some (.row ⟨[(.int IntKind.u8 (c.z)), (.string (c.e)), (.int IntKind.i64 (c.y)), (.int IntKind.i64 (c.x))], 46, (0, 0), 0, false, false⟩)]))))) (
   none)) (
  some (.inr (.exit 3, ([(.string (s)), (.int IntKind.i64 (k)), (.int IntKind.i64 (a)), (.pointer (some ⟨1000, 0, none⟩)), (.slice none 0 0), (.slice none 0 0), (.int IntKind.i64 0), (.int IntKind.i64 0)], [some (.row ⟨[(.int IntKind.u8 (c.z)), (.string (c.e)), (.int IntKind.i64 (c.y)), (.int IntKind.i64 (c.x))], 46, (0, 0), 0, false, false⟩)])))) := by kernel_rfl
set_option maxRecDepth 100000 in
theorem q_il1 (gl : Gl) (s : ByteArray) (a k : Int) (c : TCell) (cs : List Value) (n : Nat) : roundK noSy Tryd.prog gl (fun _ => none) H9 100 40 40 26 1 ilLive (ilSt1 s a k c cs n) (rndK Tryd.prog 1002 ilLive ilOut) =
 cond (decide (IntKind.i64.wrap (a + k) < (↑s.size : Int))) (
  cond (decide (0 ≤ IntKind.i64.wrap (a + k)) && (decide (IntKind.i64.wrap (a + k) < (↑s.size : Int)))) (
   cond (partB (byteAt s (IntKind.i64.wrap (a + k)))) (
    cond (List.all cs (af 8) && true) (
     some (.inl ([(.int IntKind.i64 (IntKind.i64.wrap (k + 1))), (.string (s)), (.int IntKind.i64 (a)), (.pointer (some ⟨1000, 0, none⟩)), (.slice (some ⟨1001, 0, none⟩) (n) (n)), (.slice none 0 0), (.int IntKind.i64 0), (.int IntKind.i64 0)], [some (.row ⟨[(.int IntKind.u8 (c.z)), (.string (c.e)), (.int IntKind.i64 (c.y)), (.int IntKind.i64 (c.x))], 46, (0, 0), 0, false, false⟩), some (.row ⟨cs, 46, (0, 0), 4, false, false⟩)]))) (
     none)) (
    cond (List.all cs (af 8) && true) (
     some (.inr (.exit 3, ([(.string (s)), (.int IntKind.i64 (k)), (.int IntKind.i64 (a)), (.pointer (some ⟨1000, 0, none⟩)), (.slice (some ⟨1001, 0, none⟩) (n) (n)), (.slice none 0 0), (.int IntKind.i64 0), (.int IntKind.i64 0)], [some (.row ⟨[(.int IntKind.u8 (c.z)), (.string (c.e)), (.int IntKind.i64 (c.y)), (.int IntKind.i64 (c.x))], 46, (0, 0), 0, false, false⟩), some (.row ⟨cs, 46, (0, 0), 4, false, false⟩)])))) (
     none))) (
   none)) (
  cond (List.all cs (af 8) && true) (
   some (.inr (.exit 3, ([(.string (s)), (.int IntKind.i64 (k)), (.int IntKind.i64 (a)), (.pointer (some ⟨1000, 0, none⟩)), (.slice (some ⟨1001, 0, none⟩) (n) (n)), (.slice none 0 0), (.int IntKind.i64 0), (.int IntKind.i64 0)], [some (.row ⟨[(.int IntKind.u8 (c.z)), (.string (c.e)), (.int IntKind.i64 (c.y)), (.int IntKind.i64 (c.x))], 46, (0, 0), 0, false, false⟩), some (.row ⟨cs, 46, (0, 0), 4, false, false⟩)])))) (
   none)) := by kernel_rfl
theorem il_round0 (gl : Gl) {s : ByteArray} {a k : Int} (c : TCell) (ha : 0 ≤ a) (hk : 0 ≤ k) (hak : a + k ≤ (s.size : Int)) (hs : s.size ≤ 200) : roundK noSy Tryd.prog gl (fun _ => none) H9 100 40 40 26 1 ilLive (ilSt0 s a k c) (rndK Tryd.prog 1001 ilLive ilOut) = some (if a + k < (s.size : Int) ∧ partB (byteAt s (a + k)) = true then .inl (ilSt0 s a (k + 1) c) else .inr (ilEnd0 s a k c)) := by
  have w1 : IntKind.i64.wrap (a + k) = a + k := wrap_id _ (by omega)
  have w2 : IntKind.i64.wrap (k + 1) = k + 1 := wrap_id _ (by omega)
  have h0 : 0 ≤ a + k := by omega
  rw [q_il0, w1, w2]
  by_cases h : a + k < (s.size : Int)
  · simp only [h, h0, decide_true, Bool.and_self, cond_true, true_and]
    by_cases hp : partB (byteAt s (a + k)) = true
    · rw [if_pos hp, hp, cond_true]; rfl
    · rw [if_neg hp, Bool.eq_false_iff.2 hp, cond_false]; rfl
  · rw [if_neg fun q => h q.1, decide_eq_false h, cond_false]; rfl
theorem il_round1 (gl : Gl) {s : ByteArray} {a k : Int} (c : TCell) {cs : List Value} (n : Nat) (hcs : cs.all (af 8) = true) (ha : 0 ≤ a) (hk : 0 ≤ k) (hak : a + k ≤ (s.size : Int)) (hs : s.size ≤ 200) : roundK noSy Tryd.prog gl (fun _ => none) H9 100 40 40 26 1 ilLive (ilSt1 s a k c cs n) (rndK Tryd.prog 1002 ilLive ilOut) = some (if a + k < (s.size : Int) ∧ partB (byteAt s (a + k)) = true then .inl (ilSt1 s a (k + 1) c cs n) else .inr (ilEnd1 s a k c cs n)) := by
  have w1 : IntKind.i64.wrap (a + k) = a + k := wrap_id _ (by omega)
  have w2 : IntKind.i64.wrap (k + 1) = k + 1 := wrap_id _ (by omega)
  have h0 : 0 ≤ a + k := by omega
  rw [q_il1, w1, w2, hcs]
  simp only [Bool.and_true, cond_true]
  by_cases h : a + k < (s.size : Int)
  · simp only [h, h0, decide_true, Bool.and_self, cond_true, true_and]
    by_cases hp : partB (byteAt s (a + k)) = true
    · rw [if_pos hp, hp, cond_true]; rfl
    · rw [if_neg hp, Bool.eq_false_iff.2 hp, cond_false]; rfl
  · rw [if_neg fun q => h q.1, decide_eq_false h, cond_false]; rfl
def ilG (s : ByteArray) (a k : Int) : Bool := decide (0 ≤ a) && decide (0 ≤ k) && decide (a + k ≤ (s.size : Int)) && decide (s.size ≤ 200)
def ilN (s : ByteArray) (a k : Int) : Int := runE partB s (a + k) - a
def ilH : Hd := fun vs rows => match vs, rows with
  | [.int .i64 k, .string s, .int .i64 a, .pointer (some ⟨p, q, none⟩), .slice none o c, .slice none o3 c3, .int .i64 w3, .int .i64 w4], [some (.row ⟨[.int .u8 z, .string e, .int .i64 y, .int .i64 x], t1, (g1, g2), e1, false, false⟩)] =>
    some (.br (Nat.beq o3 0 && Nat.beq c3 0 && decide (w3 = 0) && decide (w4 = 0) && Nat.beq p 1000 && Nat.beq q 0 && Nat.beq o 0 && Nat.beq c 0 && Nat.beq t1 46 && Nat.beq g1 0 && Nat.beq g2 0 && Nat.beq e1 0) (.br (ilG s a k) (.ret (ilEnd0 s a (ilN s a k) ⟨z, e, y, x⟩)) .fail) .fail)
  | [.int .i64 k, .string s, .int .i64 a, .pointer (some ⟨p, q, none⟩), .slice (some ⟨p2, q2, none⟩) n n2, .slice none o3 c3, .int .i64 w3, .int .i64 w4], [some (.row ⟨[.int .u8 z, .string e, .int .i64 y, .int .i64 x], t1, (g1, g2), e1, false, false⟩), some (.row ⟨cs, t2, (g3, g4), e2, false, false⟩)] =>
    some (.br (Nat.beq o3 0 && Nat.beq c3 0 && decide (w3 = 0) && decide (w4 = 0) && Nat.beq p 1000 && Nat.beq q 0 && Nat.beq p2 1001 && Nat.beq q2 0 && Nat.beq t1 46 && Nat.beq g1 0 && Nat.beq g2 0 && Nat.beq e1 0 && Nat.beq t2 46 && Nat.beq g3 0 && Nat.beq g4 0 && Nat.beq e2 4) (.br (ilG s a k) (.br (Nat.beq n2 n && cs.all (af 8)) (.ret (ilEnd1 s a (ilN s a k) ⟨z, e, y, x⟩ cs n)) .fail) .fail) .fail)
  | _, _ => none
theorem ilN_eq (s : ByteArray) (a k : Int) : ilN s a k = cond (decide (a + k < (s.size : Int)) && partB (byteAt s (a + k))) (ilN s a (k + 1)) k := by
  unfold ilN
  rw [runE_eq partB s (a + k)]
  cases (decide (a + k < (s.size : Int)) && partB (byteAt s (a + k)))
  · show a + k - a = k; omega
  · rw [cond_true, cond_true, show a + k + 1 = a + (k + 1) by omega]
theorem ilH_ok {gl : Gl} (hgl : ∀ g k v, gl g k = some v → g < 1000 ∧ lowV 8 v = true) : LpOK Tryd.prog gl 26 1 ⟨ilLive, ilOut, ilH⟩ := loop_of noSy_ok goodT hgl tglob (H9_ok hgl) (L := 100) (G := 40) (d := 40) fun vs rows t r h1 h2 => by
  simp only [ilH] at h1
  split at h1
  · rename_i k s a p q o c o3 c3 w3 w4 z e y x t1 g1 g2 e1
    cases h1
    obtain ⟨hg, h3⟩ := brT h2
    obtain ⟨hG, h4⟩ := brT h3
    simp only [ilG, Bool.and_eq_true, decide_eq_true_eq, nbeq] at hg hG
    obtain ⟨⟨⟨⟨⟨⟨⟨⟨⟨⟨⟨rfl, rfl⟩, rfl⟩, rfl⟩, rfl⟩, rfl⟩, rfl⟩, rfl⟩, rfl⟩, rfl⟩, rfl⟩, rfl⟩ := hg
    obtain ⟨⟨⟨ha, hk⟩, hak⟩, hs⟩ := hG
    cases h4
    refine ⟨show 1001 ≤ most by decide, {k : Int // 0 ≤ k ∧ a + k ≤ (s.size : Int)}, fun k => ilSt0 s a k.1 ⟨z, e, y, x⟩, fun k => some (ilEnd0 s a (ilN s a k.1) ⟨z, e, y, x⟩), fun k => ((s.size : Int) - k.1).toNat, ⟨k, hk, hak⟩, .inl rfl, rfl, ?_⟩
    rintro ⟨k, k0, k1⟩ o ho
    simp only at ho
    cases ho
    refine ⟨_, il_round0 gl ⟨z, e, y, x⟩ ha k0 k1 hs, ?_⟩
    rw [ilN_eq]
    by_cases h : a + k < (s.size : Int) ∧ partB (byteAt s (a + k)) = true
    · rw [if_pos h, decide_eq_true h.1, h.2, Bool.and_self, cond_true]
      exact ⟨⟨k + 1, by omega, by omega⟩, rfl, by simp only; omega, rfl⟩
    · rw [if_neg h, show (decide (a + k < (s.size : Int)) && partB (byteAt s (a + k))) = false by rw [Bool.eq_false_iff]; simpa using h, cond_false]
  · rename_i k s a p q p2 q2 n n2 o3 c3 w3 w4 z e y x t1 g1 g2 e1 cs t2 g3 g4 e2
    cases h1
    obtain ⟨hg, h3⟩ := brT h2
    obtain ⟨hG, h4⟩ := brT h3
    obtain ⟨hn, h5⟩ := brT h4
    simp only [ilG, Bool.and_eq_true, decide_eq_true_eq, nbeq] at hg hG hn
    obtain ⟨⟨⟨⟨⟨⟨⟨⟨⟨⟨⟨⟨⟨⟨⟨rfl, rfl⟩, rfl⟩, rfl⟩, rfl⟩, rfl⟩, rfl⟩, rfl⟩, rfl⟩, rfl⟩, rfl⟩, rfl⟩, rfl⟩, rfl⟩, rfl⟩, rfl⟩ := hg
    obtain ⟨⟨⟨ha, hk⟩, hak⟩, hs⟩ := hG
    obtain ⟨rfl, hcs⟩ := hn
    cases h5
    refine ⟨show 1002 ≤ most by decide, {k : Int // 0 ≤ k ∧ a + k ≤ (s.size : Int)}, fun k => ilSt1 s a k.1 ⟨z, e, y, x⟩ cs _, fun k => some (ilEnd1 s a (ilN s a k.1) ⟨z, e, y, x⟩ cs _), fun k => ((s.size : Int) - k.1).toNat, ⟨k, hk, hak⟩, .inl rfl, rfl, ?_⟩
    rintro ⟨k, k0, k1⟩ o ho
    simp only at ho
    cases ho
    refine ⟨_, il_round1 gl ⟨z, e, y, x⟩ _ hcs ha k0 k1 hs, ?_⟩
    rw [ilN_eq]
    by_cases h : a + k < (s.size : Int) ∧ partB (byteAt s (a + k)) = true
    · rw [if_pos h, decide_eq_true h.1, h.2, Bool.and_self, cond_true]
      exact ⟨⟨k + 1, by omega, by omega⟩, rfl, by simp only; omega, rfl⟩
    · rw [if_neg h, show (decide (a + k < (s.size : Int)) && partB (byteAt s (a + k))) = false by rw [Bool.eq_false_iff]; simpa using h, cond_false]
  · cases h1
def H11 (rg : ByteArray → Int) (nm : ByteArray → Int → Int × Int × Int) : Hs := hsOf ((59, afReg rg) :: (61, afNum nm) :: afs2) [] [(26, [(1, ⟨ilLive, ilOut, ilH⟩)])]
def llLive : List Nat := [6, 5, 0, 2, 3, 4]
def llOut : List Nat := [5, 2, 3, 4]
def llSt0 (s : ByteArray) (a : Int) : LSt := ([.int .i64 a, .slice none 0 0, .string s, .slice none 0 0, .int .i64 0, .int .i64 0], [])
def llSt1 (s : ByteArray) (a : Int) (cs : List Value) (n : Nat) : LSt := ([.int .i64 a, .slice (some ⟨1000, 0, none⟩) n n, .string s, .slice none 0 0, .int .i64 0, .int .i64 0], [tokRow cs])
set_option maxRecDepth 100000 in
theorem q_ll0 (gl : Gl) (rg : ByteArray → Int) (nm : ByteArray → Int → Int × Int × Int) (s : ByteArray) (a : Int) : roundK noSy Tryd.prog gl (fun _ => none) (H11 rg nm) 100 40 40 26 0 llLive (llSt0 s a) (rndK Tryd.prog 1000 llLive llOut) =
 cond (decide (a < (↑s.size : Int))) (
  cond (decide (0 ≤ a) && (decide (a < (↑s.size : Int)))) (
   cond (byteAt s a != 35) (
    cond (decide (0 ≤ a) && (decide (a < (↑s.size : Int)))) (
     cond (byteAt s a == 32) (
      some (.inl ([(.int IntKind.i64 (IntKind.i64.wrap (a + 1))), (.slice none 0 0), (.string (s)), (.slice none 0 0), (.int IntKind.i64 0), (.int IntKind.i64 0)], []))) (
      cond (byteAt s a == 9) (
       some (.inl ([(.int IntKind.i64 (IntKind.i64.wrap (a + 1))), (.slice none 0 0), (.string (s)), (.slice none 0 0), (.int IntKind.i64 0), (.int IntKind.i64 0)], []))) (
       cond (byteAt s a == 44) (
        some (.inl ([(.int IntKind.i64 (IntKind.i64.wrap (a + 1))), (.slice (some ⟨1000, 0, none⟩) 1 1), (.string (s)), (.slice none 0 0), (.int IntKind.i64 0), (.int IntKind.i64 0)], [some (.row ⟨[(.int IntKind.u8 4), (.string ((⟨#[]⟩ : ByteArray))), (.int IntKind.i64 0), (.int IntKind.i64 (a))], 46, (0, 0), 4, false, false⟩)]))) (
        cond (byteAt s a == 58) (
         some (.inl ([(.int IntKind.i64 (IntKind.i64.wrap (a + 1))), (.slice (some ⟨1000, 0, none⟩) 1 1), (.string (s)), (.slice none 0 0), (.int IntKind.i64 0), (.int IntKind.i64 0)], [some (.row ⟨[(.int IntKind.u8 5), (.string ((⟨#[]⟩ : ByteArray))), (.int IntKind.i64 0), (.int IntKind.i64 (a))], 46, (0, 0), 4, false, false⟩)]))) (
         cond (letterB (byteAt s a)) (
          cond (ilG s a 1) (
           cond (decide (0 ≤ a) && (decide (a ≤ IntKind.i64.wrap (a + ilN s a 1))) && (decide (IntKind.i64.wrap (a + ilN s a 1) ≤ (↑s.size : Int)))) (
            cond (decide ((subS s a (IntKind.i64.wrap (a + ilN s a 1))).size ≤ 1000000)) (
             cond (decide (rg (subS s a (IntKind.i64.wrap (a + ilN s a 1))) ≥ 0)) (
              cond (decide ((subS s a (IntKind.i64.wrap (a + ilN s a 1))).size ≤ 1000000)) (
               some (.inl ([(.int IntKind.i64 (IntKind.i64.wrap (a + ilN s a 1))), (.slice (some ⟨1000, 0, none⟩) 1 1), (.string (s)), (.slice none 0 0), (.int IntKind.i64 0), (.int IntKind.i64 0)], [some (.row ⟨[(.int IntKind.u8 2), (.string ((⟨#[]⟩ : ByteArray))), (.int IntKind.i64 (rg (subS s a (IntKind.i64.wrap (a + ilN s a 1))))), (.int IntKind.i64 (a))], 46, (0, 0), 4, false, false⟩)]))) (
               none)) (
              some (.inl ([(.int IntKind.i64 (IntKind.i64.wrap (a + ilN s a 1))), (.slice (some ⟨1000, 0, none⟩) 1 1), (.string (s)), (.slice none 0 0), (.int IntKind.i64 0), (.int IntKind.i64 0)], [some (.row ⟨[(.int IntKind.u8 1), (.string (subS s a (IntKind.i64.wrap (a + ilN s a 1)))), (.int IntKind.i64 0), (.int IntKind.i64 (a))], 46, (0, 0), 4, false, false⟩)])))) (
             none)) (
            none)) (
           none)) (
          cond (byteAt s a == 45) (
           cond (decide (0 ≤ a) && (decide (a < (↑s.size : Int))) && (decide (s.size ≤ 1000000))) (
            cond ((nm s a).snd.snd != 0) (
             some (.inr (.ret, ([(.slice none 0 0), (.slice none 0 0), (.int IntKind.i64 (a)), (.int IntKind.i64 ((nm s a).snd.snd))], [])))) (
             some (.inl ([(.int IntKind.i64 (IntKind.i64.wrap (a + (nm s a).snd.fst))), (.slice (some ⟨1000, 0, none⟩) 1 1), (.string (s)), (.slice none 0 0), (.int IntKind.i64 0), (.int IntKind.i64 0)], [some (.row ⟨[(.int IntKind.u8 3), (.string ((⟨#[]⟩ : ByteArray))), (.int IntKind.i64 ((nm s a).fst)), (.int IntKind.i64 (a))], 46, (0, 0), 4, false, false⟩)])))) (
            none)) (
           cond (digitB (byteAt s a)) (
            cond (decide (0 ≤ a) && (decide (a < (↑s.size : Int))) && (decide (s.size ≤ 1000000))) (
             cond ((nm s a).snd.snd != 0) (
              some (.inr (.ret, ([(.slice none 0 0), (.slice none 0 0), (.int IntKind.i64 (a)), (.int IntKind.i64 ((nm s a).snd.snd))], [])))) (
              some (.inl ([(.int IntKind.i64 (IntKind.i64.wrap (a + (nm s a).snd.fst))), (.slice (some ⟨1000, 0, none⟩) 1 1), (.string (s)), (.slice none 0 0), (.int IntKind.i64 0), (.int IntKind.i64 0)], [some (.row ⟨[(.int IntKind.u8 3), (.string ((⟨#[]⟩ : ByteArray))), (.int IntKind.i64 ((nm s a).fst)), (.int IntKind.i64 (a))], 46, (0, 0), 4, false, false⟩)])))) (
             none)) (
            some (.inr (.ret, ([(.slice none 0 0), (.slice none 0 0), (.int IntKind.i64 (a)), (.int IntKind.i64 200)], []))))))))))) (
     none)) (
    some (.inr (.exit 0, ([(.slice none 0 0), (.slice none 0 0), (.int IntKind.i64 0), (.int IntKind.i64 0)], []))))) (
   none)) (
  some (.inr (.exit 0, ([(.slice none 0 0), (.slice none 0 0), (.int IntKind.i64 0), (.int IntKind.i64 0)], [])))) := by kernel_rfl
set_option maxRecDepth 100000 in
theorem q_ll1 (gl : Gl) (rg : ByteArray → Int) (nm : ByteArray → Int → Int × Int × Int) (s : ByteArray) (a : Int) (cs : List Value) (n : Nat) : roundK noSy Tryd.prog gl (fun _ => none) (H11 rg nm) 100 40 40 26 0 llLive (llSt1 s a cs n) (rndK Tryd.prog 1000 llLive llOut) =
 cond (decide (a < (↑s.size : Int))) (
  cond (decide (0 ≤ a) && (decide (a < (↑s.size : Int)))) (
   cond (byteAt s a != 35) (
    cond (decide (0 ≤ a) && (decide (a < (↑s.size : Int)))) (
     cond (byteAt s a == 32) (
      cond (List.all cs (af 8) && true) (
       some (.inl ([(.int IntKind.i64 (IntKind.i64.wrap (a + 1))), (.slice (some ⟨1000, 0, none⟩) (n) (n)), (.string (s)), (.slice none 0 0), (.int IntKind.i64 0), (.int IntKind.i64 0)], [some (.row ⟨cs, 46, (0, 0), 4, false, false⟩)]))) (
       none)) (
      cond (byteAt s a == 9) (
       cond (List.all cs (af 8) && true) (
        some (.inl ([(.int IntKind.i64 (IntKind.i64.wrap (a + 1))), (.slice (some ⟨1000, 0, none⟩) (n) (n)), (.string (s)), (.slice none 0 0), (.int IntKind.i64 0), (.int IntKind.i64 0)], [some (.row ⟨cs, 46, (0, 0), 4, false, false⟩)]))) (
        none)) (
       cond (byteAt s a == 44) (
        cond (n.ble n) (
         cond (((n + 1) * 40).ble 140737488355328 && ((n + 1).ble 1099511627776)) (
          cond ((n * 4).beq cs.length) (
           cond (List.all (cs ++ [(.int IntKind.u8 4), (.string ((⟨#[]⟩ : ByteArray))), (.int IntKind.i64 0), (.int IntKind.i64 (a))]) (af 8) && true) (
            some (.inl ([(.int IntKind.i64 (IntKind.i64.wrap (a + 1))), (.slice (some ⟨1000, 0, none⟩) (n + 1) (n + 1)), (.string (s)), (.slice none 0 0), (.int IntKind.i64 0), (.int IntKind.i64 0)], [some (.row ⟨(cs ++ [(.int IntKind.u8 4), (.string ((⟨#[]⟩ : ByteArray))), (.int IntKind.i64 0), (.int IntKind.i64 (a))]), 46, (0, 0), 4, false, false⟩)]))) (
            none)) (
           none)) (
          none)) (
         none)) (
        cond (byteAt s a == 58) (
         cond (n.ble n) (
          cond (((n + 1) * 40).ble 140737488355328 && ((n + 1).ble 1099511627776)) (
           cond ((n * 4).beq cs.length) (
            cond (List.all (cs ++ [(.int IntKind.u8 5), (.string ((⟨#[]⟩ : ByteArray))), (.int IntKind.i64 0), (.int IntKind.i64 (a))]) (af 8) && true) (
             some (.inl ([(.int IntKind.i64 (IntKind.i64.wrap (a + 1))), (.slice (some ⟨1000, 0, none⟩) (n + 1) (n + 1)), (.string (s)), (.slice none 0 0), (.int IntKind.i64 0), (.int IntKind.i64 0)], [some (.row ⟨(cs ++ [(.int IntKind.u8 5), (.string ((⟨#[]⟩ : ByteArray))), (.int IntKind.i64 0), (.int IntKind.i64 (a))]), 46, (0, 0), 4, false, false⟩)]))) (
             none)) (
            none)) (
           none)) (
          none)) (
         cond (letterB (byteAt s a)) (
          cond (List.all cs (af 8) && true) (
           cond (ilG s a 1) (
            cond (n.beq n && (List.all cs (af 8))) (
             cond (List.all cs (af 8) && true) (
              cond (decide (0 ≤ a) && (decide (a ≤ IntKind.i64.wrap (a + ilN s a 1))) && (decide (IntKind.i64.wrap (a + ilN s a 1) ≤ (↑s.size : Int)))) (
               cond (decide ((subS s a (IntKind.i64.wrap (a + ilN s a 1))).size ≤ 1000000)) (
                cond (decide (rg (subS s a (IntKind.i64.wrap (a + ilN s a 1))) ≥ 0)) (
                 cond (decide ((subS s a (IntKind.i64.wrap (a + ilN s a 1))).size ≤ 1000000)) (
                  cond (n.ble n) (
                   cond (((n + 1) * 40).ble 140737488355328 && ((n + 1).ble 1099511627776)) (
                    cond ((n * 4).beq cs.length) (
                     cond (List.all (cs ++ [(.int IntKind.u8 2), (.string ((⟨#[]⟩ : ByteArray))), (.int IntKind.i64 (rg (subS s a (IntKind.i64.wrap (a + ilN s a 1))))), (.int IntKind.i64 (a))]) (af 8) && true) (
                      some (.inl ([(.int IntKind.i64 (IntKind.i64.wrap (a + ilN s a 1))), (.slice (some ⟨1000, 0, none⟩) (n + 1) (n + 1)), (.string (s)), (.slice none 0 0), (.int IntKind.i64 0), (.int IntKind.i64 0)], [some (.row ⟨(cs ++ [(.int IntKind.u8 2), (.string ((⟨#[]⟩ : ByteArray))), (.int IntKind.i64 (rg (subS s a (IntKind.i64.wrap (a + ilN s a 1))))), (.int IntKind.i64 (a))]), 46, (0, 0), 4, false, false⟩)]))) (
                      none)) (
                     none)) (
                    none)) (
                   none)) (
                  none)) (
                 cond (n.ble n) (
                  cond (((n + 1) * 40).ble 140737488355328 && ((n + 1).ble 1099511627776)) (
                   cond ((n * 4).beq cs.length) (
                    cond (List.all (cs ++ [(.int IntKind.u8 1), (.string (subS s a (IntKind.i64.wrap (a + ilN s a 1)))), (.int IntKind.i64 0), (.int IntKind.i64 (a))]) (af 8) && true) (
                     some (.inl ([(.int IntKind.i64 (IntKind.i64.wrap (a + ilN s a 1))), (.slice (some ⟨1000, 0, none⟩) (n + 1) (n + 1)), (.string (s)), (.slice none 0 0), (.int IntKind.i64 0), (.int IntKind.i64 0)], [some (.row ⟨(cs ++ [(.int IntKind.u8 1), (.string (subS s a (IntKind.i64.wrap (a + ilN s a 1)))), (.int IntKind.i64 0), (.int IntKind.i64 (a))]), 46, (0, 0), 4, false, false⟩)]))) (
                     none)) (
                    none)) (
                   none)) (
                  none))) (
                none)) (
               none)) (
              none)) (
             none)) (
            none)) (
           none)) (
          cond (byteAt s a == 45) (
           cond (decide (0 ≤ a) && (decide (a < (↑s.size : Int))) && (decide (s.size ≤ 1000000))) (
            cond ((nm s a).snd.snd != 0) (
             cond (List.all cs (af 8) && true) (
              some (.inr (.ret, ([(.slice (some ⟨1000, 0, none⟩) (n) (n)), (.slice none 0 0), (.int IntKind.i64 (a)), (.int IntKind.i64 ((nm s a).snd.snd))], [some (.row ⟨cs, 46, (0, 0), 4, false, false⟩)])))) (
              none)) (
             cond (n.ble n) (
              cond (((n + 1) * 40).ble 140737488355328 && ((n + 1).ble 1099511627776)) (
               cond ((n * 4).beq cs.length) (
                cond (List.all (cs ++ [(.int IntKind.u8 3), (.string ((⟨#[]⟩ : ByteArray))), (.int IntKind.i64 ((nm s a).fst)), (.int IntKind.i64 (a))]) (af 8) && true) (
                 some (.inl ([(.int IntKind.i64 (IntKind.i64.wrap (a + (nm s a).snd.fst))), (.slice (some ⟨1000, 0, none⟩) (n + 1) (n + 1)), (.string (s)), (.slice none 0 0), (.int IntKind.i64 0), (.int IntKind.i64 0)], [some (.row ⟨(cs ++ [(.int IntKind.u8 3), (.string ((⟨#[]⟩ : ByteArray))), (.int IntKind.i64 ((nm s a).fst)), (.int IntKind.i64 (a))]), 46, (0, 0), 4, false, false⟩)]))) (
                 none)) (
                none)) (
               none)) (
              none))) (
            none)) (
           cond (digitB (byteAt s a)) (
            cond (decide (0 ≤ a) && (decide (a < (↑s.size : Int))) && (decide (s.size ≤ 1000000))) (
             cond ((nm s a).snd.snd != 0) (
              cond (List.all cs (af 8) && true) (
               some (.inr (.ret, ([(.slice (some ⟨1000, 0, none⟩) (n) (n)), (.slice none 0 0), (.int IntKind.i64 (a)), (.int IntKind.i64 ((nm s a).snd.snd))], [some (.row ⟨cs, 46, (0, 0), 4, false, false⟩)])))) (
               none)) (
              cond (n.ble n) (
               cond (((n + 1) * 40).ble 140737488355328 && ((n + 1).ble 1099511627776)) (
                cond ((n * 4).beq cs.length) (
                 cond (List.all (cs ++ [(.int IntKind.u8 3), (.string ((⟨#[]⟩ : ByteArray))), (.int IntKind.i64 ((nm s a).fst)), (.int IntKind.i64 (a))]) (af 8) && true) (
                  some (.inl ([(.int IntKind.i64 (IntKind.i64.wrap (a + (nm s a).snd.fst))), (.slice (some ⟨1000, 0, none⟩) (n + 1) (n + 1)), (.string (s)), (.slice none 0 0), (.int IntKind.i64 0), (.int IntKind.i64 0)], [some (.row ⟨(cs ++ [(.int IntKind.u8 3), (.string ((⟨#[]⟩ : ByteArray))), (.int IntKind.i64 ((nm s a).fst)), (.int IntKind.i64 (a))]), 46, (0, 0), 4, false, false⟩)]))) (
                  none)) (
                 none)) (
                none)) (
               none))) (
             none)) (
            cond (List.all cs (af 8) && true) (
             some (.inr (.ret, ([(.slice (some ⟨1000, 0, none⟩) (n) (n)), (.slice none 0 0), (.int IntKind.i64 (a)), (.int IntKind.i64 200)], [some (.row ⟨cs, 46, (0, 0), 4, false, false⟩)])))) (
             none))))))))) (
     none)) (
    cond (List.all cs (af 8) && true) (
     some (.inr (.exit 0, ([(.slice (some ⟨1000, 0, none⟩) (n) (n)), (.slice none 0 0), (.int IntKind.i64 0), (.int IntKind.i64 0)], [some (.row ⟨cs, 46, (0, 0), 4, false, false⟩)])))) (
     none))) (
   none)) (
  cond (List.all cs (af 8) && true) (
   some (.inr (.exit 0, ([(.slice (some ⟨1000, 0, none⟩) (n) (n)), (.slice none 0 0), (.int IntKind.i64 0), (.int IntKind.i64 0)], [some (.row ⟨cs, 46, (0, 0), 4, false, false⟩)])))) (
   none)) := by kernel_rfl
end Go.Proofs.YtgohnfkidkomhaaDoor

noncomputable section
namespace Go.Proofs.YtgohnfkidkomhaaDoor
open Go.Proofs.YtgohnfkidkomhaaDoor.Ev Go.RowKit

/-! The document's line: rounds. -/
def llSt (s : ByteArray) (a : Int) (l : List Tok) : LSt := match l with
  | [] => llSt0 s a
  | _ :: _ => llSt1 s a (toksC l) l.length
def llEnd (x : Ex) (l : List Tok) (b e : Int) : Out := match l with
  | [] => (x, [.slice none 0 0, .slice none 0 0, .int .i64 b, .int .i64 e], [])
  | _ :: _ => (x, [.slice (some ⟨1000, 0, none⟩) l.length l.length, .slice none 0 0, .int .i64 b, .int .i64 e], [tokRow (toksC l)])
def llRes (s : ByteArray) (a : Int) (l : List Tok) : TS → LSt ⊕ Out
  | .stop => .inr (llEnd (.exit 0) l 0 0)
  | .skip => .inl (llSt s (a + 1) l)
  | .tok t k => .inl (llSt s (a + k) (l ++ [t]))
  | .err e => .inr (llEnd .ret l a e)
theorem llRes_tok {s : ByteArray} {a k b : Int} {l : List Tok} {t : Tok} (h : a + k = b) : llRes s a l (.tok t k) = .inl (llSt s b (l ++ [t])) := by
  subst h; rfl
theorem il_run {s : ByteArray} {a : Int} (h : a < (s.size : Int)) (hl : letterB (byteAt s a) = true) : a + ilN s a 1 = runE partB s a := by
  have e := runE_eq partB s a
  rw [decide_eq_true h, Bool.true_and, show partB (byteAt s a) = true by unfold partB; rw [hl]; rfl, cond_true] at e
  unfold ilN
  omega
theorem ll_round0 (gl : Gl) {s : ByteArray} {a : Int} (h0 : 0 ≤ a) (hs : s.size ≤ 200) : roundK noSy Tryd.prog gl (fun _ => none) (H11 regC numC) 100 40 40 26 0 llLive (llSt s a []) (rndK Tryd.prog 1000 llLive llOut) = some (llRes s a [] (tokS s a)) := by
  show roundK noSy Tryd.prog gl (fun _ => none) (H11 regC numC) 100 40 40 26 0 llLive (llSt0 s a) (rndK Tryd.prog 1000 llLive llOut) = _
  rw [q_ll0]
  unfold tokS
  have hs6 : s.size ≤ 1000000 := by omega
  by_cases h : a < (s.size : Int)
  case neg =>
    rw [decide_eq_false h, cond_false, if_neg h]
    rfl
  obtain ⟨r1, r2⟩ := runE_le (p := partB) (show a ≤ (s.size : Int) by omega)
  have w1 : IntKind.i64.wrap (a + 1) = a + 1 := wrap_id _ (by omega)
  have w3 : a + (runE partB s a - a) = runE partB s a := by omega
  have w4 : IntKind.i64.wrap (runE partB s a) = runE partB s a := wrap_id _ (by omega)
  have z := subS_size (s := s) h0 r1 r2
  have z1 : (subS s a (runE partB s a)).size ≤ 1000000 := by omega
  have hG : ilG s a 1 = true := by simp only [ilG, Bool.and_eq_true, decide_eq_true_eq]; omega
  simp only [h, h0, hs6, decide_true, Bool.and_self, cond_true, w1, if_true, hG]
  by_cases c1 : byteAt s a = 35
  · rw [show (byteAt s a != 35) = false by simpa using c1, cond_false, if_pos c1]; rfl
  rw [show (byteAt s a != 35) = true by simpa using c1, cond_true, if_neg c1]
  by_cases c2 : byteAt s a = 32
  · rw [show (byteAt s a == 32) = true by simpa using c2, cond_true, if_pos (.inl c2)]; rfl
  rw [show (byteAt s a == 32) = false by simpa using c2, cond_false]
  by_cases c3 : byteAt s a = 9
  · rw [show (byteAt s a == 9) = true by simpa using c3, cond_true, if_pos (.inr c3)]; rfl
  rw [show (byteAt s a == 9) = false by simpa using c3, cond_false, if_neg (by simp [c2, c3])]
  by_cases c4 : byteAt s a = 44
  · rw [show (byteAt s a == 44) = true by simpa using c4, cond_true, if_pos c4]; rfl
  rw [show (byteAt s a == 44) = false by simpa using c4, cond_false, if_neg c4]
  by_cases c5 : byteAt s a = 58
  · rw [show (byteAt s a == 58) = true by simpa using c5, cond_true, if_pos c5]; rfl
  rw [show (byteAt s a == 58) = false by simpa using c5, cond_false, if_neg c5]
  by_cases c6 : letterB (byteAt s a) = true
  · rw [c6, cond_true, if_pos rfl]
    simp only [il_run h c6, w4, r1, r2, decide_true, Bool.and_self, cond_true, z1]
    by_cases c7 : 0 ≤ regC (subS s a (runE partB s a))
    · rw [decide_eq_true (show regC (subS s a (runE partB s a)) ≥ 0 from c7), cond_true, if_pos c7]
      rw [llRes_tok w3]
      rfl
    · rw [decide_eq_false (show ¬ regC (subS s a (runE partB s a)) ≥ 0 from c7), cond_false, if_neg c7]
      rw [llRes_tok w3]
      rfl
  rw [Bool.eq_false_iff.2 c6, cond_false, if_neg (by decide)]
  obtain ⟨k1, k2, k3⟩ := numC_bd h0 h
  have w5 : IntKind.i64.wrap (a + (numC s a).2.1) = a + (numC s a).2.1 := wrap_id _ (by omega)
  rw [w5]
  have fin : (cond ((numC s a).2.2 != 0) (some (.inr (llEnd .ret [] a (numC s a).2.2))) (some (.inl (llSt s (a + (numC s a).2.1) [⟨3, ⟨#[]⟩, (numC s a).1, a⟩]))) : Option (LSt ⊕ Out)) = some (llRes s a [] (if (numC s a).2.2 = 0 then .tok ⟨3, ⟨#[]⟩, (numC s a).1, a⟩ (numC s a).2.1 else .err (numC s a).2.2)) := by
    by_cases c8 : (numC s a).2.2 = 0
    · rw [show ((numC s a).2.2 != 0) = false by simp [c8], cond_false, if_pos c8]; rfl
    · rw [show ((numC s a).2.2 != 0) = true by simpa using c8, cond_true, if_neg c8]; rfl
  by_cases c7 : byteAt s a = 45
  · rw [show (byteAt s a == 45) = true by simpa using c7, cond_true, if_pos (.inl c7)]
    exact fin
  rw [show (byteAt s a == 45) = false by simpa using c7, cond_false]
  by_cases c8 : digitB (byteAt s a) = true
  · rw [c8, cond_true, if_pos (.inr rfl)]
    exact fin
  · rw [Bool.eq_false_iff.2 c8, cond_false, if_neg (by simp [c7])]
    rfl
theorem ll_round1 (gl : Gl) {s : ByteArray} {a : Int} (h0 : 0 ≤ a) (hs : s.size ≤ 200) {l : List Tok} (hl : l.length ≤ 1000) (hne : l ≠ []) : roundK noSy Tryd.prog gl (fun _ => none) (H11 regC numC) 100 40 40 26 0 llLive (llSt s a l) (rndK Tryd.prog 1000 llLive llOut) = some (llRes s a l (tokS s a)) := by
  have e1 : ∀ b : Int, llSt s b l = llSt1 s b (toksC l) l.length := fun b => by
    cases l with
    | nil => exact (hne rfl).elim
    | cons t l => rfl
  have e2 : ∀ (b : Int) (t : Tok), llSt s b (l ++ [t]) = llSt1 s b (toksC l ++ tokC t) (l.length + 1) := fun b t => by
    rw [toksC_snoc]
    cases l with
    | nil => exact (hne rfl).elim
    | cons u l =>
      show llSt1 s b (toksC (u :: l ++ [t])) (u :: l ++ [t]).length = _
      rw [List.length_append]
      rfl
  have e3 : ∀ (x : Ex) (b e : Int), llEnd x l b e = (x, [.slice (some ⟨1000, 0, none⟩) l.length l.length, .slice none 0 0, .int .i64 b, .int .i64 e], [tokRow (toksC l)]) := fun x b e => by
    cases l with
    | nil => exact (hne rfl).elim
    | cons t l => rfl
  rw [e1, q_ll1]
  have hall : ∀ t : Tok, (toksC l ++ ([.int .u8 t.kind, .string t.text, .int .i64 t.n, .int .i64 t.at_] : List Value)).all (af 8) = true := fun t => by
    rw [List.all_append, toksC_all]
    rfl
  have b0 : Nat.beq l.length l.length = true := Nat.beq_refl _
  have b1 : Nat.ble l.length l.length = true := ble_self _
  have b2 : Nat.ble ((l.length + 1) * 40) 140737488355328 = true := Nat.ble_eq_true_of_le (by omega)
  have b3 : Nat.ble (l.length + 1) 1099511627776 = true := Nat.ble_eq_true_of_le (by omega)
  have b4 : Nat.beq (l.length * 4) (toksC l).length = true := by rw [toksC_len]; exact Nat.beq_refl _
  have a1 := hall ⟨4, ⟨#[]⟩, 0, a⟩
  have a2 := hall ⟨5, ⟨#[]⟩, 0, a⟩
  have a3 := hall ⟨2, ⟨#[]⟩, regC (subS s a (runE partB s a)), a⟩
  have a4 := hall ⟨1, subS s a (runE partB s a), 0, a⟩
  have a5 := hall ⟨3, ⟨#[]⟩, (numC s a).1, a⟩
  simp only at a1 a2 a3 a4 a5
  unfold tokS
  have hs6 : s.size ≤ 1000000 := by omega
  by_cases h : a < (s.size : Int)
  case neg =>
    rw [decide_eq_false h, cond_false, if_neg h]
    simp only [toksC_all, Bool.and_true, cond_true]
    unfold llRes
    rw [e3]
    rfl
  obtain ⟨r1, r2⟩ := runE_le (p := partB) (show a ≤ (s.size : Int) by omega)
  have w1 : IntKind.i64.wrap (a + 1) = a + 1 := wrap_id _ (by omega)
  have w3 : a + (runE partB s a - a) = runE partB s a := by omega
  have w4 : IntKind.i64.wrap (runE partB s a) = runE partB s a := wrap_id _ (by omega)
  have z := subS_size (s := s) h0 r1 r2
  have z1 : (subS s a (runE partB s a)).size ≤ 1000000 := by omega
  have hG : ilG s a 1 = true := by simp only [ilG, Bool.and_eq_true, decide_eq_true_eq]; omega
  obtain ⟨k1, k2, k3⟩ := numC_bd h0 h
  have w5 : IntKind.i64.wrap (a + (numC s a).2.1) = a + (numC s a).2.1 := wrap_id _ (by omega)
  simp only [h, h0, hs6, decide_true, Bool.and_self, cond_true, w1, w5, if_true, hG, b0, b1, b2, b3, b4, toksC_all, a1, a2, a5, Bool.and_true]
  by_cases c1 : byteAt s a = 35
  · rw [show (byteAt s a != 35) = false by simpa using c1, cond_false, if_pos c1]
    unfold llRes
    rw [e3]; rfl
  rw [show (byteAt s a != 35) = true by simpa using c1, cond_true, if_neg c1]
  by_cases c2 : byteAt s a = 32
  · rw [show (byteAt s a == 32) = true by simpa using c2, cond_true, if_pos (.inl c2)]
    unfold llRes
    rw [e1]
    rfl
  rw [show (byteAt s a == 32) = false by simpa using c2, cond_false]
  by_cases c3 : byteAt s a = 9
  · rw [show (byteAt s a == 9) = true by simpa using c3, cond_true, if_pos (.inr c3)]
    unfold llRes
    rw [e1]
    rfl
  rw [show (byteAt s a == 9) = false by simpa using c3, cond_false, if_neg (by simp [c2, c3])]
  by_cases c4 : byteAt s a = 44
  · rw [show (byteAt s a == 44) = true by simpa using c4, cond_true, if_pos c4, llRes_tok rfl, e2]; rfl
  rw [show (byteAt s a == 44) = false by simpa using c4, cond_false, if_neg c4]
  by_cases c5 : byteAt s a = 58
  · rw [show (byteAt s a == 58) = true by simpa using c5, cond_true, if_pos c5, llRes_tok rfl, e2]; rfl
  rw [show (byteAt s a == 58) = false by simpa using c5, cond_false, if_neg c5]
  by_cases c6 : letterB (byteAt s a) = true
  · rw [c6, cond_true, if_pos rfl]
    simp only [il_run h c6, w4, r1, r2, decide_true, Bool.and_self, cond_true, z1, a3, a4]
    by_cases c7 : 0 ≤ regC (subS s a (runE partB s a))
    · rw [decide_eq_true (show regC (subS s a (runE partB s a)) ≥ 0 from c7), cond_true, if_pos c7, llRes_tok w3, e2]
      rfl
    · rw [decide_eq_false (show ¬ regC (subS s a (runE partB s a)) ≥ 0 from c7), cond_false, if_neg c7, llRes_tok w3, e2]
      rfl
  rw [Bool.eq_false_iff.2 c6, cond_false, if_neg (by decide)]
  have fin : (cond ((numC s a).2.2 != 0) (some (.inr (llEnd .ret l a (numC s a).2.2))) (some (.inl (llSt s (a + (numC s a).2.1) (l ++ [⟨3, ⟨#[]⟩, (numC s a).1, a⟩])))) : Option (LSt ⊕ Out)) = some (llRes s a l (if (numC s a).2.2 = 0 then .tok ⟨3, ⟨#[]⟩, (numC s a).1, a⟩ (numC s a).2.1 else .err (numC s a).2.2)) := by
    by_cases c8 : (numC s a).2.2 = 0
    · rw [show ((numC s a).2.2 != 0) = false by simp [c8], cond_false, if_pos c8]; rfl
    · rw [show ((numC s a).2.2 != 0) = true by simpa using c8, cond_true, if_neg c8]; rfl
  rw [e2, e3] at fin
  by_cases c7 : byteAt s a = 45
  · rw [show (byteAt s a == 45) = true by simpa using c7, cond_true, if_pos (.inl c7)]
    exact fin
  rw [show (byteAt s a == 45) = false by simpa using c7, cond_false]
  by_cases c8 : digitB (byteAt s a) = true
  · rw [c8, cond_true, if_pos (.inr rfl)]
    exact fin
  · rw [Bool.eq_false_iff.2 c8, cond_false, if_neg (by simp [c7])]
    show _ = some (Sum.inr (llEnd .ret l a 200))
    rw [e3]
    rfl
end Go.Proofs.YtgohnfkidkomhaaDoor

noncomputable section
namespace Go.Proofs.YtgohnfkidkomhaaDoor
open Go.Proofs.YtgohnfkidkomhaaDoor.Ev Go.RowKit

/-! The document's line: its answer. -/
def llFin (r : List Tok × Int × Int) : Out := if r.2.2 = 0 then llEnd (.exit 0) r.1 0 0 else llEnd .ret r.1 r.2.1 r.2.2
def llOut1 (x : Ex) (r : List Tok × Int × Int) (b e : Int) : Out := (x, [.slice (some ⟨1000, 0, none⟩) r.1.length r.1.length, .slice none 0 0, .int .i64 b, .int .i64 e], [tokRow (toksC r.1)])
def llT (g : Bool) (s : ByteArray) : DT Out := .br g (.br (decide (s.size ≤ 200)) (.br (lineC s).1.isEmpty
  (.br (decide ((lineC s).2.2 = 0)) (.ret (llEnd (.exit 0) [] 0 0)) (.ret (llEnd .ret [] (lineC s).2.1 (lineC s).2.2)))
  (.br (decide ((lineC s).2.2 = 0)) (.ret (llOut1 (.exit 0) (lineC s) 0 0)) (.ret (llOut1 .ret (lineC s) (lineC s).2.1 (lineC s).2.2)))) .fail) .fail
def llH : Hd := fun vs rows => match vs, rows with
  | [.int .i64 a, .slice none o c, .string s, .slice none o2 c2, .int .i64 x, .int .i64 y], [] => some (llT (decide (a = 0) && Nat.beq o 0 && Nat.beq c 0 && Nat.beq o2 0 && Nat.beq c2 0 && decide (x = 0) && decide (y = 0)) s)
  | _, _ => none
theorem fnRegR {gl : Gl} (hgl : ∀ g k v, gl g k = some v → g < 1000 ∧ lowV 8 v = true) : FnOK Tryd.prog gl 59 (afReg regC) := fn_of noSy_ok goodT hgl tglob H0_ok (L := 100) (G := 40) (d := 40) fun args σ v e => by
  unfold afReg at e
  split at e
  · simp only [Option.some.injEq, Prod.mk.injEq] at e
    obtain ⟨_, rfl⟩ := e
    exact ⟨rfl, Reg_eq gl _⟩
  · cases e
theorem fnNumR {gl : Gl} (hgl : ∀ g k v, gl g k = some v → g < 1000 ∧ lowV 8 v = true) : FnOK Tryd.prog gl 61 (afNum numC) := fn_of noSy_ok goodT hgl tglob (H10_ok hgl) (L := 100) (G := 40) (d := 40) fun args σ v e => by
  unfold afNum at e
  split at e
  · simp only [Option.some.injEq, Prod.mk.injEq, Bool.and_eq_true, decide_eq_true_eq] at e
    obtain ⟨⟨⟨h1, h2⟩, h3⟩, rfl⟩ := e
    exact ⟨rfl, number_eq gl h1 h2 h3⟩
  · cases e
theorem H11_ok {gl : Gl} (hgl : ∀ g k v, gl g k = some v → g < 1000 ∧ lowV 8 v = true) : (H11 regC numC).OK Tryd.prog gl := hsOf_ok (fun p hp => by
    rcases List.mem_cons.1 hp with rfl | hp
    · exact fnRegR hgl
    · rcases List.mem_cons.1 hp with rfl | hp
      · exact fnNumR hgl
      · exact afs2_ok hgl p hp) (fun _ h => by cases h) (fun p hp q hq => by
    simp only [List.mem_cons, List.not_mem_nil, or_false] at hp
    subst hp
    simp only [List.mem_cons, List.not_mem_nil, or_false] at hq
    subst hq
    exact ilH_ok hgl)
theorem ll_ok {gl : Gl} (hgl : ∀ g k v, gl g k = some v → g < 1000 ∧ lowV 8 v = true) : LpOK Tryd.prog gl 26 0 ⟨llLive, llOut, llH⟩ := loop_of noSy_ok goodT hgl tglob (H11_ok hgl) (L := 100) (G := 40) (d := 40) fun vs rows t r h1 h2 => by
  simp only [llH] at h1
  split at h1
  · rename_i a o c s o2 c2 x y
    cases h1
    obtain ⟨hg, h3⟩ := brT h2
    obtain ⟨hs, h4⟩ := brT h3
    simp only [Bool.and_eq_true, decide_eq_true_eq, nbeq] at hg hs
    obtain ⟨⟨⟨⟨⟨⟨rfl, rfl⟩, rfl⟩, rfl⟩, rfl⟩, rfl⟩, rfl⟩ := hg
    have hr : r = llFin (lineC s) := by
      unfold llFin
      rcases brC h4 with ⟨k1, k2⟩ | ⟨k1, k2⟩
      · have k1 : (lineC s).1 = [] := by simpa using k1
        rcases brC k2 with ⟨m1, m2⟩ | ⟨m1, m2⟩
        · rw [if_pos (of_decide_eq_true m1), k1]; cases m2; rfl
        · rw [if_neg (of_decide_eq_false m1), k1]; cases m2; rfl
      · obtain ⟨t, l, k1⟩ : ∃ t l, (lineC s).1 = t :: l := by
          cases hq : (lineC s).1 with
          | nil => rw [hq] at k1; cases k1
          | cons t l => exact ⟨t, l, rfl⟩
        rcases brC k2 with ⟨m1, m2⟩ | ⟨m1, m2⟩
        · rw [if_pos (of_decide_eq_true m1)]; cases m2; unfold llOut1; rw [k1]; rfl
        · rw [if_neg (of_decide_eq_false m1)]; cases m2; unfold llOut1; rw [k1]; rfl
    refine ⟨show 1000 ≤ most by decide, {p : Int × List Tok // 0 ≤ p.1 ∧ p.1 ≤ (s.size : Int) ∧ (p.2.length : Int) ≤ p.1}, fun p => llSt s p.1.1 p.1.2, fun p => some (llFin (tokGo s (((s.size : Int) - p.1.1).toNat + 1) p.1.1 p.1.2)), fun p => ((s.size : Int) - p.1.1).toNat, ⟨(0, []), by simp, by simp, by simp⟩, .inl rfl, ?_, ?_⟩
    · rw [hr]
      unfold lineC
      simp only [Int.sub_zero, Int.toNat_natCast]
    · rintro ⟨⟨a, l⟩, ha, hb, hc⟩ o ho
      simp only at ha hb hc ho
      have hround : roundK noSy Tryd.prog gl (fun _ => none) (H11 regC numC) 100 40 40 26 0 llLive (llSt s a l) (rndK Tryd.prog 1000 llLive llOut) = some (llRes s a l (tokS s a)) := by
        cases l with
        | nil => exact ll_round0 gl ha hs
        | cons t l => exact ll_round1 gl ha hs (by omega) (by simp)
      refine ⟨_, hround, ?_⟩
      have hadv := tokS_adv (s := s) ha
      unfold tokGo at ho
      cases hq : tokS s a with
      | stop => rw [hq] at ho; cases ho; rfl
      | err e =>
        rw [hq] at ho hadv
        cases ho
        unfold llFin llRes
        rw [if_neg hadv.1]
      | skip =>
        rw [hq] at ho hadv
        have hadv : a + 1 ≤ (s.size : Int) := hadv
        refine ⟨⟨(a + 1, l), by simp only; omega, hadv, by simp only; omega⟩, rfl, by simp only; omega, ?_⟩
        rw [← ho]
        simp only
        rw [tokGo_cut _ (((s.size : Int) - a).toNat) (a + 1) l (by omega) (by omega) (by omega)]
      | tok t k =>
        rw [hq] at ho hadv
        have hadv : 1 ≤ k ∧ a + k ≤ (s.size : Int) := hadv
        refine ⟨⟨(a + k, l ++ [t]), by simp only; omega, hadv.2, by simp only [List.length_append, List.length_cons, List.length_nil]; omega⟩, rfl, by simp only; omega, ?_⟩
        rw [← ho]
        simp only
        rw [tokGo_cut _ (((s.size : Int) - a).toNat) (a + k) (l ++ [t]) (by omega) (by omega) (by omega)]
  · cases h1
def H12 : Hs := hsOf [] [] [(26, [(0, ⟨llLive, llOut, llH⟩)])]
theorem H12_ok {gl : Gl} (hgl : ∀ g k v, gl g k = some v → g < 1000 ∧ lowV 8 v = true) : H12.OK Tryd.prog gl := hsOf_ok (fun _ h => by cases h) (fun _ h => by cases h) (fun p hp q hq => by
    simp only [List.mem_cons, List.not_mem_nil, or_false] at hp
    subst hp
    simp only [List.mem_cons, List.not_mem_nil, or_false] at hq
    subst hq
    exact ll_ok hgl)
set_option maxRecDepth 100000 in
theorem q_tokLine (gl : Gl) (s : ByteArray) : callSK noSy Tryd.prog gl (fun _ => none) H12 100 40 40 (.fn 26) [.string s] (rowsOf []) (exitK Tryd.prog 1000) =
 cond (decide ((↑s.size : Int) > 200)) (
  some (.normal, ([(.tuple #[(.slice none 0 0), (.int IntKind.i64 0), (.int IntKind.i64 3)])], []))) (
  cond (decide (s.size ≤ 200)) (
   cond ((lineC s).fst.isEmpty) (
    cond (decide ((lineC s).snd.snd = 0)) (
     some (.normal, ([(.tuple #[(.slice none 0 0), (.int IntKind.i64 0), (.int IntKind.i64 0)])], []))) (
     some (.normal, ([(.tuple #[(.slice none 0 0), (.int IntKind.i64 ((lineC s).snd.fst)), (.int IntKind.i64 ((lineC s).snd.snd))])], [])))) (
    cond (decide ((lineC s).snd.snd = 0)) (
     cond (List.all (toksC (lineC s).fst) (af 8) && true) (
      cond (List.all (toksC (lineC s).fst) (af 8) && true) (
       some (.normal, ([(.tuple #[(.slice (some ⟨1000, 0, none⟩) ((lineC s).fst.length) ((lineC s).fst.length)), (.int IntKind.i64 0), (.int IntKind.i64 0)])], [some (.row ⟨(toksC (lineC s).fst), 46, (0, 0), 4, false, false⟩)]))) (
       none)) (
      none)) (
     cond (List.all (toksC (lineC s).fst) (af 8) && true) (
      some (.normal, ([(.tuple #[(.slice none 0 0), (.int IntKind.i64 ((lineC s).snd.fst)), (.int IntKind.i64 ((lineC s).snd.snd))])], []))) (
      none)))) (
   none)) := by kernel_rfl
theorem lineR_sub {gl : Gl} (hgl : ∀ g k v, gl g k = some v → g < 1000 ∧ lowV 8 v = true) : SubOK Tryd.prog gl 26 lnHd := by
  refine sub_of noSy_ok goodT hgl tglob (H12_ok hgl) (L := 100) (G := 40) (d := 40) fun vs rows t r h1 h2 => ?_
  unfold lnHd at h1
  split at h1
  · rename_i s
    cases h1
    refine ⟨by decide, ?_⟩
    refine Eq.trans (q_tokLine gl s) ?_
    rw [← h2]
    unfold lnT
    simp only [DT.run, toksC_all, Bool.and_true, cond_true]
    by_cases hs : (s.size : Int) > 200
    · rw [decide_eq_true hs, cond_true, cond_true]
    · rw [decide_eq_false hs, cond_false, cond_false, decide_eq_true (show s.size ≤ 200 by omega), cond_true]
      rfl
  · cases h1
end Go.Proofs.YtgohnfkidkomhaaDoor
