/- Blanks and remarks around a line, tokens told and read again. No condition but those of the texts. -/
import Derived.Test.YtgohnfkidkomhaaDoorK6
import Derived.Lib.ItoaMem
noncomputable section
noncomputable section
namespace Go.Proofs.YtgohnfkidkomhaaDoor
open Go.Proofs.YtgohnfkidkomhaaDoor.Ev Go.RowKit

/-! Blanks ahead of a line, a remark behind it: the same tokens. -/
structure LExt (S s : ByteArray) (n : Int) : Prop where
  n0 : 0 ≤ n
  size : n + (s.size : Int) + 2 ≤ (S.size : Int)
  mid : ∀ i, 0 ≤ i → i < (s.size : Int) → byteAt S (i + n) = byteAt s i
  pre : ∀ i, 0 ≤ i → i < n → byteAt S i = 32
  tab : byteAt S ((s.size : Int) + n) = 9
  hash : byteAt S ((s.size : Int) + n + 1) = 35

section
variable {S s : ByteArray} {n : Int}
theorem ext_run (h : LExt S s n) {p : Int → Bool} (hp : p 9 = false) : ∀ (f : Nat) (a : Int), ((s.size : Int) - a).toNat = f → 0 ≤ a → a ≤ (s.size : Int) → runE p S (a + n) = runE p s a + n
  | 0, a, hf, h0, h1 => by
    have e : a = (s.size : Int) := by omega
    subst e
    rw [runE_eq p S, runE_eq p s, h.tab, hp, Bool.and_false, cond_false, decide_eq_false (by omega), Bool.false_and, cond_false]
  | f + 1, a, hf, h0, h1 => by
    have := h.size
    rw [runE_eq p S, runE_eq p s, h.mid a h0 (by omega), decide_eq_true (show a + n < (S.size : Int) by omega), decide_eq_true (show a < (s.size : Int) by omega)]
    cases p (byteAt s a) with
    | true =>
      rw [Bool.and_self, cond_true, cond_true, show a + n + 1 = a + 1 + n by omega]
      exact ext_run h hp f (a + 1) (by omega) (by omega) (by omega)
    | false => rfl
theorem ext_sub (h : LExt S s n) {a b : Int} (h0 : 0 ≤ a) (h1 : a ≤ b) (h2 : b ≤ (s.size : Int)) : subS S (a + n) (b + n) = subS s a b := by
  have := h.size
  have := h.n0
  have z1 := subS_size (s := S) (l := a + n) (h := b + n) (by omega) (by omega) (by omega)
  have z2 := subS_size (s := s) h0 h1 h2
  refine ext_bytes (by omega) fun i i0 i1 => ?_
  rw [byteAt_subS (by omega) (by omega) (by omega) i0 (by omega), byteAt_subS h0 h1 h2 i0 (by omega), ← h.mid (a + i) (by omega) (by omega)]
  congr 1; omega
theorem predB9 {b : Int} (hb : b = 10 ∨ b = 16) : predB b 9 = false := by rcases hb with rfl | rfl <;> rfl
theorem ext_numV (h : LExt S s n) {a b n2 : Int} (hb : b = 10 ∨ b = 16) (h0 : 0 ≤ a) (h1 : a < (s.size : Int)) (h2 : a ≤ n2) (h3 : n2 ≤ (s.size : Int)) : numV S (a + n) b (n2 + n) = numV s a b n2 := by
  obtain ⟨r1, r2⟩ := runE_le (p := predB b) h3
  have e := ext_run h (predB9 hb) _ n2 rfl (by omega) h3
  unfold numV
  rw [e, ext_sub h (by omega) r1 r2, h.mid a h0 h1, show runE (predB b) s n2 + n - (a + n) = runE (predB b) s n2 - a by omega]
  by_cases hz : runE (predB b) s n2 = n2
  · rw [if_pos hz, if_pos (by omega)]
  · rw [if_neg hz, if_neg (by omega)]
theorem ext_num (h : LExt S s n) {a : Int} (h0 : 0 ≤ a) (h1 : a < (s.size : Int)) : numC S (a + n) = numC s a := by
  have hs : sgn S (a + n) = sgn s a + n := by
    unfold sgn
    rw [h.mid a h0 h1]
    split <;> omega
  have hk : a ≤ sgn s a ∧ sgn s a ≤ (s.size : Int) := by unfold sgn; split <;> omega
  generalize hq : sgn s a = k at hs hk
  have hx : isHex S (k + n) ↔ isHex s k := by
    unfold isHex
    have := h.size
    constructor
    · rintro ⟨x1, x2, x3⟩
      have g : k < (s.size : Int) := by
        rcases Int.lt_or_le k (s.size : Int) with g | g
        · exact g
        · have : k = (s.size : Int) := by omega
          subst this
          rw [h.tab] at x2; cases x2
      have g2 : k + 1 < (s.size : Int) := by
        rcases Int.lt_or_le (k + 1) (s.size : Int) with g | g
        · exact g
        · have : k + n + 1 = (s.size : Int) + n := by omega
          rw [this, h.tab] at x3; cases x3
      rw [h.mid k (by omega) g] at x2
      rw [show k + n + 1 = k + 1 + n by omega, h.mid (k + 1) (by omega) g2] at x3
      exact ⟨g2, x2, x3⟩
    · rintro ⟨x1, x2, x3⟩
      refine ⟨by omega, ?_, ?_⟩
      · rw [h.mid k (by omega) (by omega)]; exact x2
      · rw [show k + n + 1 = k + 1 + n by omega, h.mid (k + 1) (by omega) x1]; exact x3
  unfold numC
  rw [hs, hq]
  by_cases g : isHex s k
  · rw [if_pos g, if_pos (hx.2 g), show k + n + 2 = k + 2 + n by omega]
    exact ext_numV h (.inr rfl) h0 h1 (by omega) (by have := g.1; omega)
  · rw [if_neg g, if_neg (fun q => g (hx.1 q))]
    exact ext_numV h (.inl rfl) h0 h1 (by omega) (by omega)
def shT (n : Int) (t : Tok) : Tok := ⟨t.kind, t.text, t.n, t.at_ + n⟩
def shS (n : Int) : TS → TS
  | .tok t k => .tok (shT n t) k
  | x => x
theorem shS_if (n : Int) (c : Prop) [Decidable c] (x y : TS) : shS n (if c then x else y) = if c then shS n x else shS n y := by split <;> rfl
theorem ext_tok (h : LExt S s n) {a : Int} (h0 : 0 ≤ a) (h1 : a < (s.size : Int)) : tokS S (a + n) = shS n (tokS s a) := by
  have := h.size
  have e := ext_run h (p := partB) rfl _ a rfl h0 (by omega)
  obtain ⟨r1, r2⟩ := runE_le (p := partB) (show a ≤ (s.size : Int) by omega)
  unfold tokS
  rw [if_pos (show a + n < (S.size : Int) by omega), if_pos h1, h.mid a h0 h1, e, ext_sub h h0 r1 r2, ext_num h h0 h1, show runE partB s a + n - (a + n) = runE partB s a - a by omega]
  simp only [shS_if]
  rfl
theorem ext_go (h : LExt S s n) : ∀ (g f : Nat) (a : Int) (l : List Tok), 0 ≤ a → a ≤ (s.size : Int) → ((s.size : Int) - a).toNat < g → ((S.size : Int) - (a + n)).toNat < f →
    (tokGo S f (a + n) (l.map (shT n))).1 = (tokGo s g a l).1.map (shT n) ∧ (tokGo S f (a + n) (l.map (shT n))).2.2 = (tokGo s g a l).2.2 ∧ ((tokGo s g a l).2.2 ≠ 0 → (tokGo S f (a + n) (l.map (shT n))).2.1 = (tokGo s g a l).2.1 + n)
  | 0, _, _, _, _, _, hg, _ => by omega
  | _ + 1, 0, _, _, _, _, _, hf => by omega
  | g + 1, f + 1, a, l, h0, h1, hg, hf => by
    have hz := h.size
    rcases Int.lt_or_le a (s.size : Int) with hlt | hge
    · have hadv := tokS_adv (s := s) h0
      have e := ext_tok h h0 hlt
      unfold tokGo
      rw [e]
      cases hq : tokS s a with
      | stop => exact ⟨rfl, rfl, fun q => (q rfl).elim⟩
      | err x => exact ⟨rfl, rfl, fun _ => rfl⟩
      | skip =>
        rw [hq] at hadv
        have hadv : a + 1 ≤ (s.size : Int) := hadv
        simp only [shS]
        rw [show a + n + 1 = a + 1 + n by omega]
        exact ext_go h g f (a + 1) l (by omega) (by omega) (by omega) (by omega)
      | tok t k =>
        rw [hq] at hadv
        have hadv : 1 ≤ k ∧ a + k ≤ (s.size : Int) := hadv
        simp only [shS]
        rw [show a + n + k = a + k + n by omega, show l.map (shT n) ++ [shT n t] = (l ++ [t]).map (shT n) by simp]
        exact ext_go h g f (a + k) (l ++ [t]) (by omega) (by omega) (by omega) (by omega)
    · have e : a = (s.size : Int) := by omega
      subst e
      have t0 : tokS s (s.size : Int) = .stop := by unfold tokS; rw [if_neg (by omega)]
      have t1 : tokS S ((s.size : Int) + n) = .skip := by
        unfold tokS
        rw [if_pos (by omega), h.tab]
        rfl
      have t2 : tokS S ((s.size : Int) + n + 1) = .stop := by
        unfold tokS
        rw [if_pos (by omega), h.hash]
        rfl
      obtain ⟨f', rfl⟩ : ∃ f', f = f' + 1 := ⟨f - 1, by omega⟩
      simp only [tokGo, t0, t1, t2]
      exact ⟨trivial, trivial, fun q => (q rfl).elim⟩
theorem ext_pre (h : LExt S s n) (f : Nat) : ∀ (k : Nat), (k : Int) ≤ n → tokGo S (k + f) (n - k) [] = tokGo S f n []
  | 0, _ => by rw [Nat.zero_add]; congr 1; simp
  | k + 1, hk => by
    have := h.size
    have t1 : tokS S (n - ((k + 1 : Nat) : Int)) = .skip := by
      unfold tokS
      rw [if_pos (by omega), h.pre _ (by omega) (by omega)]
      rfl
    rw [show k + 1 + f = (k + f) + 1 by omega, tokGo, t1]
    simp only
    rw [show n - ((k + 1 : Nat) : Int) + 1 = n - (k : Int) by omega]
    exact ext_pre h f k (by omega)
theorem ext_line (h : LExt S s n) : (lineC S).1 = (lineC s).1.map (shT n) ∧ (lineC S).2.2 = (lineC s).2.2 ∧ ((lineC s).2.2 ≠ 0 → (lineC S).2.1 = (lineC s).2.1 + n) := by
  have hz := h.size
  have h0 := h.n0
  have e : lineC S = tokGo S (S.size + 1 - n.toNat) n [] := by
    have := ext_pre h (S.size + 1 - n.toNat) n.toNat (by omega)
    rw [show n.toNat + (S.size + 1 - n.toNat) = S.size + 1 by omega, show n - (n.toNat : Int) = 0 by omega] at this
    exact this
  have := ext_go h (s.size + 1) (S.size + 1 - n.toNat) 0 [] (Int.le_refl _) (by omega) (by omega) (by omega)
  rw [Int.zero_add] at this
  rw [e]
  exact this
end
end Go.Proofs.YtgohnfkidkomhaaDoor

noncomputable section
namespace Go.Proofs.YtgohnfkidkomhaaDoor
open Go.Proofs.YtgohnfkidkomhaaDoor.Ev Go.RowKit

/-! Strings put together, byte by byte. -/
theorem app_size (a b : ByteArray) : ((a ++ b).size : Int) = a.size + b.size := by rw [ByteArray.size_append]; omega
theorem byteAt_l {a b : ByteArray} {i : Int} (h0 : 0 ≤ i) (h1 : i < (a.size : Int)) : byteAt (a ++ b) i = byteAt a i := by
  have := app_size a b
  rw [byteAt_lt h0 (by omega), byteAt_lt h0 h1]
  have e : (a ++ b).data.toList = a.data.toList ++ b.data.toList := by simp [ByteArray.data_append]
  simp only [e]
  rw [List.getElem_append_left (by rw [data_len]; omega)]
theorem byteAt_r {a b : ByteArray} {i : Int} (h0 : (a.size : Int) ≤ i) (h1 : i < (a.size : Int) + b.size) : byteAt (a ++ b) i = byteAt b (i - a.size) := by
  have := app_size a b
  rw [byteAt_lt (by omega) (by omega), byteAt_lt (by omega) (by omega)]
  have e : (a ++ b).data.toList = a.data.toList ++ b.data.toList := by simp [ByteArray.data_append]
  simp only [e]
  rw [List.getElem_append_right (by rw [data_len]; omega)]
  have e2 : i.toNat - a.data.toList.length = (i - (a.size : Int)).toNat := by rw [data_len]; omega
  simp only [e2]
theorem byteAt_rng (s : ByteArray) (i : Int) : 0 ≤ byteAt s i ∧ byteAt s i < 256 := by
  unfold byteAt byteI
  split
  · rename_i b _
    have := b.toNat_lt
    omega
  · omega

/-! A text that stands at a place. -/
structure AtS (S : ByteArray) (a : Int) (t : ByteArray) : Prop where
  a0 : 0 ≤ a
  le : a + t.size ≤ (S.size : Int)
  eq : ∀ i, 0 ≤ i → i < (t.size : Int) → byteAt S (a + i) = byteAt t i
theorem AtS.l {S : ByteArray} {a : Int} {t u : ByteArray} (h : AtS S a (t ++ u)) : AtS S a t := by
  have := app_size t u
  have := h.le
  exact ⟨h.a0, by omega, fun i i0 i1 => by rw [h.eq i i0 (by omega), byteAt_l i0 i1]⟩
theorem AtS.r {S : ByteArray} {a : Int} {t u : ByteArray} (h : AtS S a (t ++ u)) : AtS S (a + t.size) u := by
  have e := app_size t u
  have := h.le
  have := h.a0
  refine ⟨by omega, by omega, fun i i0 i1 => ?_⟩
  rw [show a + (t.size : Int) + i = a + ((t.size : Int) + i) by omega, h.eq _ (by omega) (by omega), byteAt_r (by omega) (by omega)]
  congr 1; omega
theorem AtS.sub {S : ByteArray} {a : Int} {t : ByteArray} (h : AtS S a t) : subS S a (a + t.size) = t := by
  have := h.le
  have := h.a0
  have z := subS_size (s := S) h.a0 (show a ≤ a + (t.size : Int) by omega) h.le
  refine ext_bytes (by omega) fun i i0 i1 => ?_
  rw [byteAt_subS h.a0 (by omega) h.le i0 (by omega), h.eq i i0 (by omega)]
theorem AtS.self (t : ByteArray) : AtS t 0 t := ⟨Int.le_refl _, by omega, fun i _ _ => by rw [Int.zero_add]⟩
theorem run_at {p : Int → Bool} {S : ByteArray} {e : Int} (he : e = (S.size : Int) ∨ (e < (S.size : Int) ∧ p (byteAt S e) = false)) : ∀ (f : Nat) (a : Int), (e - a).toNat = f → a ≤ e → (∀ i, a ≤ i → i < e → p (byteAt S i) = true) → runE p S a = e
  | 0, a, hf, h1, _ => by
    have : a = e := by omega
    subst this
    rw [runE_eq]
    rcases he with h | ⟨h, h2⟩
    · rw [decide_eq_false (by omega), Bool.false_and, cond_false]
    · rw [h2, Bool.and_false, cond_false]
  | f + 1, a, hf, h1, hp => by
    have he' : e ≤ (S.size : Int) := by omega
    rw [runE_eq, decide_eq_true (by omega), hp a (Int.le_refl _) (by omega), Bool.and_self, cond_true]
    exact run_at he f (a + 1) (by omega) (by omega) fun i i0 i1 => hp i (by omega) i1

/-! Numbers told and read. -/
def itoaB (n : Int) : ByteArray := ⟨(Lib.itoa n).toArray⟩
def decB (m : Nat) : ByteArray := ⟨(Lib.decDigits m).toArray⟩
theorem dec_digit : ∀ (m : Nat) (c : UInt8), c ∈ Lib.decDigits m → 48 ≤ c.toNat ∧ c.toNat ≤ 57 := by
  intro m
  induction m using Nat.strongRecOn with
  | _ m ih =>
    intro c hc
    by_cases h : m < 10
    · rw [Lib.decDigits, dif_pos h] at hc
      simp only [List.mem_cons, List.not_mem_nil, or_false] at hc
      subst hc
      simp only [UInt8.toNat_ofNat']
      omega
    · rw [Lib.decDigits, dif_neg h] at hc
      simp only [List.mem_append, List.mem_cons, List.not_mem_nil, or_false] at hc
      rcases hc with hc | rfl
      · exact ih (m / 10) (by omega) c hc
      · simp only [UInt8.toNat_ofNat']
        omega
theorem decFrom_app : ∀ (l r : List UInt8) (acc : Nat), Lib.decFrom acc (l ++ r) = (Lib.decFrom acc l).bind fun n => Lib.decFrom n r
  | [], r, acc => rfl
  | b :: l, r, acc => by
    simp only [List.cons_append, Lib.decFrom]
    cases Lib.digitVal b with
    | none => rfl
    | some d => exact decFrom_app l r _
theorem digitVal_of {k : Nat} (h : k < 10) : Lib.digitVal (UInt8.ofNat (48 + k)) = some k := by
  unfold Lib.digitVal
  have e : (UInt8.ofNat (48 + k)).toNat = 48 + k := by simp only [UInt8.toNat_ofNat']; omega
  rw [e, if_pos (by omega)]
  congr 1; omega
theorem dec_dec (m : Nat) : Lib.decFrom 0 (Lib.decDigits m) = some m := by
  induction m using Nat.strongRecOn with
  | _ m ih =>
    by_cases h : m < 10
    · rw [Lib.decDigits, dif_pos h]
      simp only [Lib.decFrom, digitVal_of h]
      congr 1; omega
    · rw [Lib.decDigits, dif_neg h, decFrom_app, ih (m / 10) (by omega)]
      simp only [Option.bind_some, Lib.decFrom, digitVal_of (show m % 10 < 10 by omega)]
      congr 1; omega
theorem dec_len (m : Nat) : 1 ≤ (Lib.decDigits m).length := by rw [Lib.decDigits_length]; exact Lib.nDigits_pos m
theorem byteAt_list {s : ByteArray} {i : Nat} {x : UInt8} (h : s.data.toList[i]? = some x) : byteAt s (i : Int) = x.toNat := by
  unfold byteAt
  rw [nthB_eq, Int.toNat_natCast, h]
  rfl
theorem pu_dec {s : ByteArray} {m : Nat} (hm : m ≤ 4294967296) : ∀ (f i acc : Nat), s.size - i = f → i ≤ s.size → Lib.decFrom acc (s.data.toList.drop i) = some m → puGo 10 (cutOf 10) s f (i : Int) (acc : Int) = (true, (m : Int))
  | 0, i, acc, hf, hi, h => by
    have : s.data.toList.drop i = [] := List.drop_eq_nil_of_le (by rw [data_len]; omega)
    rw [this] at h
    simp only [Lib.decFrom, Option.some.injEq] at h
    subst h
    rfl
  | f + 1, i, acc, hf, hi, h => by
    have hl : i < s.data.toList.length := by rw [data_len]; omega
    rw [List.drop_eq_getElem_cons hl] at h
    simp only [Lib.decFrom] at h
    cases hd : Lib.digitVal s.data.toList[i] with
    | none => rw [hd] at h; cases h
    | some d =>
      rw [hd] at h
      simp only at h
      have hb : byteAt s (i : Int) = (s.data.toList[i]).toNat := byteAt_list (List.getElem?_eq_getElem hl)
      unfold Lib.digitVal at hd
      split at hd
      case isFalse => cases hd
      rename_i hr
      cases hd
      have hge : acc * 10 + ((s.data.toList[i]).toNat - 48) ≤ m := by
        have : ∀ (l : List UInt8) (a n : Nat), Lib.decFrom a l = some n → a ≤ n := by
          intro l
          induction l with
          | nil => intro a n h; simp only [Lib.decFrom, Option.some.injEq] at h; omega
          | cons b l ih =>
            intro a n h
            simp only [Lib.decFrom] at h
            cases hq : Lib.digitVal b with
            | none => rw [hq] at h; cases h
            | some d => rw [hq] at h; have := ih _ _ h; omega
        exact this _ _ _ h
      have hdg : dg (byteAt s (i : Int)) = (s.data.toList[i]).toNat - 48 := by
        unfold dg
        rw [hb, if_pos (by omega)]
      unfold puGo
      rw [if_pos (by omega), if_neg (by unfold cutOf; rw [if_neg (by decide)]; omega), if_neg (by rw [hdg]; unfold puMax; omega), hdg]
      have ih := pu_dec hm f (i + 1) (acc * 10 + ((s.data.toList[i]).toNat - 48)) (by omega) (by omega) h
      rw [show (i : Int) + 1 = ((i + 1 : Nat) : Int) by omega, show (acc : Int) * 10 + (((s.data.toList[i]).toNat : Int) - 48) = ((acc * 10 + ((s.data.toList[i]).toNat - 48) : Nat) : Int) by omega]
      exact ih
theorem puAll_dec {m : Nat} (hm : m ≤ 4294967296) : puAll 10 (cutOf 10) (decB m) = (true, (m : Int)) := by
  have := pu_dec (s := decB m) hm (decB m).size 0 0 (by omega) (by omega) (by show Lib.decFrom 0 (Lib.decDigits m) = _; exact dec_dec m)
  exact this
theorem decB_size (m : Nat) : 1 ≤ ((decB m).size : Int) := by
  have := dec_len m
  have : (decB m).size = (Lib.decDigits m).length := by show (Lib.decDigits m).toArray.size = _; simp
  omega
theorem decB_digit {m : Nat} {i : Int} (h0 : 0 ≤ i) (h1 : i < ((decB m).size : Int)) : digitB (byteAt (decB m) i) = true := by
  rw [byteAt_lt h0 h1]
  have := dec_digit m ((decB m).data.toList[i.toNat]'(by rw [data_len]; omega)) (by exact List.getElem_mem _)
  exact digitB_iff.2 (by omega)
theorem itoaB_pos {n : Int} (h : 0 ≤ n) : itoaB n = decB n.toNat := by
  unfold itoaB decB Lib.itoa
  rw [if_neg (by omega)]
theorem itoaB_neg {n : Int} (h : n < 0) : itoaB n = (⟨#[45]⟩ : ByteArray) ++ decB n.natAbs := by
  unfold itoaB decB Lib.itoa
  rw [if_pos h]
  apply ByteArray.ext
  simp

/-! What stands behind a token. -/
def Delim (S : ByteArray) (e : Int) : Prop := e = (S.size : Int) ∨ (e < (S.size : Int) ∧ (byteAt S e = 32 ∨ byteAt S e = 44 ∨ byteAt S e = 58))
theorem Delim.no {S : ByteArray} {e : Int} (h : Delim S e) {p : Int → Bool} (h1 : p 32 = false) (h2 : p 44 = false) (h3 : p 58 = false) : e = (S.size : Int) ∨ (e < (S.size : Int) ∧ p (byteAt S e) = false) := by
  rcases h with h | ⟨h, k | k | k⟩
  · exact .inl h
  · exact .inr ⟨h, by rw [k]; exact h1⟩
  · exact .inr ⟨h, by rw [k]; exact h2⟩
  · exact .inr ⟨h, by rw [k]; exact h3⟩
theorem num_at {S : ByteArray} {a n : Int} (h : AtS S a (itoaB n)) (hd : Delim S (a + (itoaB n).size)) (hn : -4294967296 ≤ n ∧ n ≤ 4294967296) :
    numC S a = (n, ((itoaB n).size : Int), 0) ∧ (byteAt S a = 45 ∨ digitB (byteAt S a) = true) ∧ 1 ≤ ((itoaB n).size : Int) := by
  have key : ∀ (m : Nat) (k : Int), m ≤ 4294967296 → AtS S k (decB m) → Delim S (k + (decB m).size) → sgn S a = k → a ≤ k →
      numC S a = ((if byteAt S a = 45 then -(m : Int) else m), k + (decB m).size - a, 0) := by
    intro m k hm hk hdk hs hak
    have z := decB_size m
    have hle := hk.le
    have hall : ∀ i, k ≤ i → i < k + (decB m).size → digitB (byteAt S i) = true := fun i i0 i1 => by
      rw [show i = k + (i - k) by omega, hk.eq (i - k) (by omega) (by omega)]
      exact decB_digit (by omega) (by omega)
    have hrun : runE digitB S k = k + (decB m).size := run_at (hdk.no rfl rfl rfl) _ k rfl (by omega) hall
    have hnx : ¬ isHex S k := by
      rintro ⟨x1, x2, x3⟩
      rcases Int.lt_or_le 1 ((decB m).size : Int) with g | g
      · have := hall (k + 1) (by omega) (by omega)
        rw [x3] at this; cases this
      · have e : k + ((decB m).size : Int) = k + 1 := by omega
        rw [e] at hdk
        rcases hdk with q | ⟨q, y | y | y⟩
        · omega
        · rw [y] at x3; cases x3
        · rw [y] at x3; cases x3
        · rw [y] at x3; cases x3
    have hp : puAll 10 (cutOf 10) (subS S k (k + (decB m).size)) = (true, (m : Int)) := by rw [hk.sub]; exact puAll_dec hm
    unfold numC
    rw [hs, if_neg hnx]
    unfold numV
    have hrun' : runE (predB 10) S k = k + (decB m).size := hrun
    rw [hrun', if_neg (by omega), hp, if_pos ⟨rfl, by simp only; omega⟩]
  have h0 := h.a0
  have hle := h.le
  rcases Int.lt_or_le n 0 with hneg | hpos
  · have e := itoaB_neg hneg
    rw [e] at h hd ⊢
    have z := app_size (⟨#[45]⟩ : ByteArray) (decB n.natAbs)
    have z1 : (((⟨#[45]⟩ : ByteArray).size : Nat) : Int) = 1 := rfl
    have z2 := decB_size n.natAbs
    have b0 : byteAt S a = 45 := by
      have := h.eq 0 (Int.le_refl _) (by omega)
      rw [Int.add_zero, byteAt_l (by omega) (by omega)] at this
      exact this
    have hr := h.r
    rw [z1] at hr
    have hk := key n.natAbs (a + 1) (by omega) hr (by rw [show a + 1 + ((decB n.natAbs).size : Int) = a + (((⟨#[45]⟩ : ByteArray) ++ decB n.natAbs).size : Int) by omega]; exact hd) (by unfold sgn; rw [if_pos b0]) (by omega)
    refine ⟨?_, .inl b0, by omega⟩
    rw [hk, if_pos b0]
    refine Prod.ext (by simp only; omega) (Prod.ext (by simp only; omega) rfl)
  · have e := itoaB_pos hpos
    rw [e] at h hd ⊢
    have z2 := decB_size n.toNat
    have b0 : digitB (byteAt S a) = true := by
      have := h.eq 0 (Int.le_refl _) (by omega)
      rw [Int.add_zero] at this
      rw [this]
      exact decB_digit (Int.le_refl _) (by omega)
    have b1 : ¬ byteAt S a = 45 := fun q => by rw [q] at b0; cases b0
    have hk := key n.toNat a (by omega) h hd (by unfold sgn; rw [if_neg b1]) (Int.le_refl _)
    refine ⟨?_, .inr b0, by omega⟩
    rw [hk, if_neg b1]
    refine Prod.ext (by simp only; omega) (Prod.ext (by simp only; omega) rfl)

/-! Tokens told. -/
def okT (t : Tok) : Prop :=
  (t.kind = 1 ∧ 1 ≤ t.text.size ∧ letterB (byteAt t.text 0) = true ∧ runE partB t.text 0 = (t.text.size : Int) ∧ regC t.text < 0 ∧ t.n = 0) ∨
  (t.kind = 2 ∧ 0 ≤ t.n ∧ t.n < 16 ∧ t.text = ⟨#[]⟩) ∨
  (t.kind = 3 ∧ -4294967296 ≤ t.n ∧ t.n ≤ 4294967296 ∧ t.text = ⟨#[]⟩) ∨
  (t.kind = 4 ∧ t.n = 0 ∧ t.text = ⟨#[]⟩) ∨
  (t.kind = 5 ∧ t.n = 0 ∧ t.text = ⟨#[]⟩)
def tokTx (t : Tok) : ByteArray := if t.kind = 1 then t.text else if t.kind = 2 then (⟨#[114]⟩ : ByteArray) ++ itoaB t.n else if t.kind = 3 then itoaB t.n else if t.kind = 4 then ⟨#[44]⟩ else ⟨#[58]⟩
theorem reg_told {n : Int} (h0 : 0 ≤ n) (h1 : n < 16) : regC ((⟨#[114]⟩ : ByteArray) ++ itoaB n) = n ∧ (∀ i, 0 ≤ i → i < (((⟨#[114]⟩ : ByteArray) ++ itoaB n).size : Int) → partB (byteAt ((⟨#[114]⟩ : ByteArray) ++ itoaB n) i) = true) ∧ byteAt ((⟨#[114]⟩ : ByteArray) ++ itoaB n) 0 = 114 ∧ 1 ≤ (((⟨#[114]⟩ : ByteArray) ++ itoaB n).size : Int) := by
  have z := app_size (⟨#[114]⟩ : ByteArray) (itoaB n)
  have z1 : (((⟨#[114]⟩ : ByteArray).size : Nat) : Int) = 1 := rfl
  have hb0 : byteAt ((⟨#[114]⟩ : ByteArray) ++ itoaB n) 0 = 114 := by rw [byteAt_l (by omega) (by omega)]; rfl
  have hp : ∀ i, 0 ≤ i → i < (((⟨#[114]⟩ : ByteArray) ++ itoaB n).size : Int) → partB (byteAt ((⟨#[114]⟩ : ByteArray) ++ itoaB n) i) = true := fun i i0 i1 => by
    rcases Int.lt_or_le i 1 with h | h
    · rw [show i = 0 by omega, hb0]; rfl
    · rw [byteAt_r (by omega) (by omega), z1, itoaB_pos h0]
      have e : ((itoaB n).size : Int) = (decB n.toNat).size := by rw [itoaB_pos h0]
      unfold partB
      rw [decB_digit (by omega) (by omega)]
      simp
  refine ⟨?_, hp, hb0, by omega⟩
  have e := itoaB_pos h0
  rcases Int.lt_or_le n 10 with h | h
  · have e2 : itoaB n = (⟨#[UInt8.ofNat (48 + n.toNat)]⟩ : ByteArray) := by rw [e]; unfold decB; rw [Lib.decDigits_one (by omega)]
    have z2 : ((itoaB n).size : Int) = 1 := by rw [e2]; rfl
    have hb1 : byteAt ((⟨#[114]⟩ : ByteArray) ++ itoaB n) 1 = 48 + n := by
      rw [byteAt_r (by omega) (by omega), z1, e2]
      show ((UInt8.ofNat (48 + n.toNat)).toNat : Int) = _
      simp only [UInt8.toNat_ofNat']
      omega
    unfold regC
    rw [hb0, hb1, if_pos (by omega)]
    omega
  · have e2 : itoaB n = (⟨#[UInt8.ofNat (48 + n.toNat / 10), UInt8.ofNat (48 + n.toNat % 10)]⟩ : ByteArray) := by rw [e]; unfold decB; rw [Lib.decDigits_two (by omega) (by omega)]
    have z2 : ((itoaB n).size : Int) = 2 := by rw [e2]; rfl
    have hb1 : byteAt ((⟨#[114]⟩ : ByteArray) ++ itoaB n) 1 = 49 := by
      rw [byteAt_r (by omega) (by omega), z1, e2]
      show ((UInt8.ofNat (48 + n.toNat / 10)).toNat : Int) = _
      simp only [UInt8.toNat_ofNat']
      omega
    have hb2 : byteAt ((⟨#[114]⟩ : ByteArray) ++ itoaB n) 2 = 38 + n := by
      rw [byteAt_r (by omega) (by omega), z1, e2]
      show ((UInt8.ofNat (48 + n.toNat % 10)).toNat : Int) = _
      simp only [UInt8.toNat_ofNat']
      omega
    unfold regC
    rw [hb0, hb1, hb2, if_neg (by omega), if_pos (by omega)]
    omega
theorem letter_not {c : Int} (h : letterB c = true) : c ≠ 35 ∧ c ≠ 32 ∧ c ≠ 9 ∧ c ≠ 44 ∧ c ≠ 58 := by
  refine ⟨?_, ?_, ?_, ?_, ?_⟩ <;> (rintro rfl; cases h)
theorem numst_not {c : Int} (h : c = 45 ∨ digitB c = true) : c ≠ 35 ∧ c ≠ 32 ∧ c ≠ 9 ∧ c ≠ 44 ∧ c ≠ 58 ∧ letterB c = false := by
  rcases h with rfl | h
  · decide
  · have := digitB_iff.1 h
    refine ⟨by omega, by omega, by omega, by omega, by omega, ?_⟩
    unfold letterB
    rw [decide_eq_false (by omega), decide_eq_false (show ¬ c = 95 by omega)]
    rfl
theorem tok_at {S : ByteArray} {a : Int} {t : Tok} (ht : okT t) (h : AtS S a (tokTx t)) (hd : Delim S (a + (tokTx t).size)) : tokS S a = .tok ⟨t.kind, t.text, t.n, a⟩ (tokTx t).size ∧ 1 ≤ ((tokTx t).size : Int) := by
  have h0 := h.a0
  have hle := h.le
  obtain ⟨k, x, n, at_⟩ := t
  have name : ∀ {y : ByteArray}, AtS S a y → Delim S (a + y.size) → 1 ≤ (y.size : Int) → letterB (byteAt y 0) = true → (∀ i, 0 ≤ i → i < (y.size : Int) → partB (byteAt y i) = true) →
      tokS S a = if 0 ≤ regC y then .tok ⟨2, ⟨#[]⟩, regC y, a⟩ y.size else .tok ⟨1, y, 0, a⟩ y.size := by
    intro y hy hdy z hl hp
    have hley := hy.le
    have hb : byteAt S a = byteAt y 0 := by have := hy.eq 0 (Int.le_refl _) (by omega); rwa [Int.add_zero] at this
    obtain ⟨n1, n2, n3, n4, n5⟩ := letter_not hl
    have hrun : runE partB S a = a + y.size := run_at (hdy.no rfl rfl rfl) _ a rfl (by omega) fun i i0 i1 => by
      rw [show i = a + (i - a) by omega, hy.eq (i - a) (by omega) (by omega)]
      exact hp _ (by omega) (by omega)
    unfold tokS
    rw [if_pos (by omega), hb, if_neg n1, if_neg (by simp [n2, n3]), if_neg n4, if_neg n5, if_pos hl, hrun, hy.sub, show a + (y.size : Int) - a = y.size by omega]
  rcases ht with ⟨rfl, h1, h2, h3, h4, rfl⟩ | ⟨rfl, h1, h2, rfl⟩ | ⟨rfl, h1, h2, rfl⟩ | ⟨rfl, rfl, rfl⟩ | ⟨rfl, rfl, rfl⟩
  · have e : tokTx ⟨1, x, 0, at_⟩ = x := if_pos rfl
    rw [e] at h hd ⊢
    simp only at h1 h2 h3 h4
    refine ⟨?_, by omega⟩
    rw [name h hd (by omega) h2 fun i i0 i1 => runE_all _ 0 rfl (by omega) h3 i i0 i1, if_neg (by omega)]
  · simp only at h1 h2
    have e : tokTx ⟨2, ⟨#[]⟩, n, at_⟩ = (⟨#[114]⟩ : ByteArray) ++ itoaB n := rfl
    rw [e] at h hd ⊢
    obtain ⟨r1, r2, r3, r4⟩ := reg_told h1 h2
    refine ⟨?_, r4⟩
    rw [name h hd r4 (by rw [r3]; rfl) r2, r1, if_pos h1]
  · simp only at h1 h2
    have e : tokTx ⟨3, ⟨#[]⟩, n, at_⟩ = itoaB n := rfl
    rw [e] at h hd ⊢
    obtain ⟨r1, r2, r3⟩ := num_at h hd ⟨h1, h2⟩
    obtain ⟨n1, n2, n3, n4, n5, n6⟩ := numst_not r2
    refine ⟨?_, r3⟩
    unfold tokS
    have hle : a + ((itoaB n).size : Int) ≤ (S.size : Int) := h.le
    rw [if_pos (by omega), if_neg n1, if_neg (by simp [n2, n3]), if_neg n4, if_neg n5, if_neg (by rw [n6]; decide), if_pos r2, r1, if_pos rfl]
  · have e : tokTx ⟨4, ⟨#[]⟩, 0, at_⟩ = ⟨#[44]⟩ := rfl
    rw [e] at h hd hle ⊢
    have z1 : (((⟨#[44]⟩ : ByteArray).size : Nat) : Int) = 1 := rfl
    have hb : byteAt S a = 44 := by have := h.eq 0 (Int.le_refl _) (by omega); rwa [Int.add_zero] at this
    refine ⟨?_, by omega⟩
    unfold tokS
    rw [if_pos (by omega), hb]
    rfl
  · have e : tokTx ⟨5, ⟨#[]⟩, 0, at_⟩ = ⟨#[58]⟩ := rfl
    rw [e] at h hd hle ⊢
    have z1 : (((⟨#[58]⟩ : ByteArray).size : Nat) : Int) = 1 := rfl
    have hb : byteAt S a = 58 := by have := h.eq 0 (Int.le_refl _) (by omega); rwa [Int.add_zero] at this
    refine ⟨?_, by omega⟩
    unfold tokS
    rw [if_pos (by omega), hb]
    rfl

def sepT (first : Bool) (t : Tok) : ByteArray := cond first ⟨#[]⟩ (if t.kind = 4 ∨ t.kind = 5 then ⟨#[]⟩ else ⟨#[32]⟩)
def textGo : Bool → List Tok → ByteArray
  | _, [] => ⟨#[]⟩
  | first, t :: l => sepT first t ++ (tokTx t ++ textGo false l)
def posGo : Int → Bool → List Tok → List Tok
  | _, _, [] => []
  | a, first, t :: l => ⟨t.kind, t.text, t.n, a + (sepT first t).size⟩ :: posGo (a + (sepT first t).size + (tokTx t).size) false l
theorem tokTx_sep {t : Tok} (ht : okT t) : (t.kind = 4 ∧ tokTx t = ⟨#[44]⟩) ∨ (t.kind = 5 ∧ tokTx t = ⟨#[58]⟩) ∨ (¬ (t.kind = 4 ∨ t.kind = 5)) := by
  rcases ht with ⟨h, _⟩ | ⟨h, _⟩ | ⟨h, _⟩ | ⟨h, _⟩ | ⟨h, _⟩
  · exact .inr (.inr (by omega))
  · exact .inr (.inr (by omega))
  · exact .inr (.inr (by omega))
  · exact .inl ⟨h, by unfold tokTx; rw [h]; rfl⟩
  · exact .inr (.inl ⟨h, by unfold tokTx; rw [h]; rfl⟩)
theorem delim_of {S : ByteArray} {e : Int} {l : List Tok} (hl : ∀ t ∈ l, okT t) (h : AtS S e (textGo false l)) (hend : e + (textGo false l).size = (S.size : Int)) : Delim S e := by
  have h0 := h.a0
  have hle := h.le
  cases l with
  | nil =>
    have : ((textGo false []).size : Int) = 0 := rfl
    exact .inl (by omega)
  | cons t l =>
    have ht := hl t (List.mem_cons_self ..)
    have first : ∀ (x y : ByteArray) (c : UInt8), x = ⟨#[c]⟩ → AtS S e (x ++ y) → e < (S.size : Int) ∧ byteAt S e = c.toNat := by
      rintro x y c rfl hx
      have hx := hx.l
      have z : (((⟨#[c]⟩ : ByteArray).size : Nat) : Int) = 1 := rfl
      have := hx.le
      have hb := hx.eq 0 (Int.le_refl _) (by omega)
      rw [Int.add_zero] at hb
      exact ⟨by omega, hb⟩
    rcases tokTx_sep ht with ⟨k, e1⟩ | ⟨k, e1⟩ | k
    · have hs : sepT false t = ⟨#[]⟩ := if_pos (.inl k)
      have : textGo false (t :: l) = tokTx t ++ textGo false l := by show sepT false t ++ _ = _; rw [hs]; exact ByteArray.empty_append
      rw [this] at h
      obtain ⟨q1, q2⟩ := first _ _ _ e1 h
      exact .inr ⟨q1, .inr (.inl q2)⟩
    · have hs : sepT false t = ⟨#[]⟩ := if_pos (.inr k)
      have : textGo false (t :: l) = tokTx t ++ textGo false l := by show sepT false t ++ _ = _; rw [hs]; exact ByteArray.empty_append
      rw [this] at h
      obtain ⟨q1, q2⟩ := first _ _ _ e1 h
      exact .inr ⟨q1, .inr (.inr q2)⟩
    · have hs : sepT false t = ⟨#[32]⟩ := if_neg k
      obtain ⟨q1, q2⟩ := first _ _ _ hs h
      exact .inr ⟨q1, .inl q2⟩
theorem text_go {S : ByteArray} : ∀ (l : List Tok) (first : Bool) (a : Int) (acc : List Tok) (f : Nat), (∀ t ∈ l, okT t) → AtS S a (textGo first l) → a + (textGo first l).size = (S.size : Int) → ((S.size : Int) - a).toNat < f →
    (tokGo S f a acc).1 = acc ++ posGo a first l ∧ (tokGo S f a acc).2.2 = 0
  | _, _, _, _, 0, _, _, _, hf => by omega
  | [], first, a, acc, f + 1, _, h, hend, hf => by
    have z : ((textGo first []).size : Int) = 0 := rfl
    have t0 : tokS S a = .stop := by unfold tokS; rw [if_neg (by omega)]
    simp only [tokGo, t0, posGo, List.append_nil]
    exact ⟨trivial, trivial⟩
  | t :: l, first, a, acc, f + 1, hl, h, hend, hf => by
    have ht := hl t (List.mem_cons_self ..)
    have hl' := fun u hu => hl u (List.mem_cons_of_mem _ hu)
    have h : AtS S a (sepT first t ++ (tokTx t ++ textGo false l)) := h
    have e1 := app_size (sepT first t) (tokTx t ++ textGo false l)
    have e2 := app_size (tokTx t) (textGo false l)
    have hend : a + ((sepT first t ++ (tokTx t ++ textGo false l)).size : Int) = (S.size : Int) := hend
    have key : ∀ (g : Nat) (a' : Int), AtS S a' (tokTx t ++ textGo false l) → a' + ((tokTx t ++ textGo false l).size : Int) = (S.size : Int) → ((S.size : Int) - a').toNat < g →
        (tokGo S g a' acc).1 = acc ++ (⟨t.kind, t.text, t.n, a'⟩ :: posGo (a' + (tokTx t).size) false l) ∧ (tokGo S g a' acc).2.2 = 0 := by
      intro g a' h' hend' hg
      obtain ⟨g, rfl⟩ : ∃ g', g = g' + 1 := ⟨g - 1, by omega⟩
      have hd : Delim S (a' + (tokTx t).size) := delim_of hl' h'.r (by omega)
      obtain ⟨q1, q2⟩ := tok_at ht h'.l hd
      have ih := text_go l false (a' + (tokTx t).size) (acc ++ [⟨t.kind, t.text, t.n, a'⟩]) g hl' h'.r (by omega) (by have := h'.le; omega)
      simp only [tokGo, q1]
      rw [ih.1, ih.2]
      exact ⟨by simp, rfl⟩
    have a0 := h.a0
    by_cases hs : sepT first t = ⟨#[32]⟩
    · have z : ((sepT first t).size : Int) = 1 := by rw [hs]; rfl
      have hb : byteAt S a = 32 := by
        have := h.l.eq 0 (Int.le_refl _) (by omega)
        rw [Int.add_zero, hs] at this
        exact this
      have t0 : tokS S a = .skip := by
        unfold tokS
        rw [if_pos (by omega), hb]
        rfl
      have hr := h.r
      rw [z] at hr
      have k := key f (a + 1) hr (by omega) (by omega)
      simp only [tokGo, t0]
      rw [k.1, k.2]
      refine ⟨?_, rfl⟩
      show _ = acc ++ ((⟨t.kind, t.text, t.n, a + (sepT first t).size⟩ : Tok) :: posGo (a + (sepT first t).size + (tokTx t).size) false l)
      rw [z]
    · have hs : sepT first t = ⟨#[]⟩ := by
        unfold sepT at hs ⊢
        cases first
        · simp only [cond_false] at hs ⊢
          split
          · rfl
          · rename_i q; rw [if_neg q] at hs; exact (hs rfl).elim
        · rfl
      have z : ((sepT first t).size : Int) = 0 := by rw [hs]; rfl
      have hr := h.r
      rw [z, Int.add_zero] at hr
      have k := key (f + 1) a hr (by omega) (by omega)
      rw [k.1, k.2]
      refine ⟨?_, rfl⟩
      show _ = acc ++ ((⟨t.kind, t.text, t.n, a + (sepT first t).size⟩ : Tok) :: posGo (a + (sepT first t).size + (tokTx t).size) false l)
      rw [z, Int.add_zero]
theorem text_line {l : List Tok} (hl : ∀ t ∈ l, okT t) : (lineC (textGo true l)).1 = posGo 0 true l ∧ (lineC (textGo true l)).2.2 = 0 := by
  have := text_go (S := textGo true l) l true 0 [] ((textGo true l).size + 1) hl (AtS.self _) (by omega) (by omega)
  unfold lineC
  simpa using this
end Go.Proofs.YtgohnfkidkomhaaDoor
