/- What is made of a text: words of instructions, or an error that is somewhere in it. -/
import Derived.Test.YtgohbcbdgakjeaaGreatDoorA4
noncomputable section
noncomputable section
namespace Go.Proofs.YtgohbcbdgakjeaaGreatDoor
open Go.Proofs.YtgohbcbdgakjeaaGreatDoor.Ev Go.RowKit
theorem xCt : XkOK Tryz.prog 24 (.flat Extern.BytealgCount.count) := ⟨Tryz.f24, Tryz.func24, by kernel_rfl, by kernel_rfl, (show Extern.find Tryz.f24 = some Extern.BytealgCount.count by kernel_rfl)⟩
theorem xIb : XkOK Tryz.prog 102 (.flat Extern.BytealgIndexByte.indexByte) := ⟨Tryz.f102, Tryz.func102, by kernel_rfl, by kernel_rfl, (show Extern.find Tryz.f102 = some Extern.BytealgIndexByte.indexByte by kernel_rfl)⟩
end Go.Proofs.YtgohbcbdgakjeaaGreatDoor
noncomputable section
namespace Go.Proofs.YtgohbcbdgakjeaaGreatDoor
open Go.Proofs.YtgohbcbdgakjeaaGreatDoor.Ev Go.RowKit
def mkN (g : GS) (x y e : Int) : Hd := gH g (.normal, [.tuple #[slN, .agg #[.int .i64 x, .int .i64 y], .int .i64 e]], [])
def mkK (g : GS) (ws : List Value) (n : Nat) : Hd := gH g (.normal, [.tuple #[slK0 1000 n, .agg #[.int .i64 0, .int .i64 0], .int .i64 0]], [wdRow ws])
end Go.Proofs.YtgohbcbdgakjeaaGreatDoor
noncomputable section
namespace Go.Proofs.YtgohbcbdgakjeaaGreatDoor
open Go.Proofs.YtgohbcbdgakjeaaGreatDoor.Ev Go.RowKit
theorem word_dec {op a b c n : Int} (h : cmay op a b c n = true) : oN (wordN op a b c n) = op ∧ fA (wordN op a b c n) = a ∧ fB (wordN op a b c n) = b ∧ fC (wordN op a b c n) = c ∧ fN (wordN op a b c n) = n := by
 have h2 := h
 unfold cmay at h2
 simp only [Bool.and_eq_true, decide_eq_true_eq] at h2
 obtain ⟨⟨h0, h1⟩, h2⟩ := h2
 obtain ⟨_, _, a0, a1, b0, b1, c0, c1, hn⟩ := cmay_f h
 have ho : oN (wordN op a b c n) = op := by
  unfold oN wordN
  split <;> (try split) <;> omega
 have hw : ∃ x : Int, wordN op a b c n = (((op * 16 + a) * 16 + b) * 16 + c) * 16384 + x ∧ ((0 ≤ n ∧ x = n) ∨ (n < 0 ∧ formN op = 2 ∧ x = n + 16384) ∨ (n < 0 ∧ formN op ≠ 2 ∧ x = n + 4194304)) := by
  unfold wordN
  by_cases hn0 : n < 0
  ·rw [if_pos hn0]
   by_cases h2f : formN op = 2
   ·rw [if_pos h2f]; exact ⟨_, rfl, .inr (.inl ⟨hn0, h2f, rfl⟩)⟩
   ·rw [if_neg h2f]; exact ⟨_, rfl, .inr (.inr ⟨hn0, h2f, rfl⟩)⟩
  ·rw [if_neg hn0]; exact ⟨_, rfl, .inl ⟨by omega, rfl⟩⟩
 obtain ⟨x, hx, hc⟩ := hw
 unfold fA fB fC fN
 rw [ho, hx]
 refine ⟨rfl, ?_⟩
 have sgE : ∀ m h : Int, sg m h = if m ≥ h then m - 2 * h else m := fun m h => by unfold sg; rw [Bool.cond_decide]
 rcases form_cases h0 h1 with e | e | e | e | e | e | e <;> rw [e] at h2 hc hn ⊢ <;> simp only [Bool.and_eq_true, decide_eq_true_eq, sgE] at h2 ⊢
 ·omega
 ·refine ⟨?_, ?_, ?_, ?_⟩ <;> omega
 ·refine ⟨?_, ?_, ?_, ?_⟩
  ·omega
  ·omega
  ·omega
  ·split <;> omega
 ·refine ⟨?_, ?_, ?_, ?_⟩
  ·omega
  ·omega
  ·omega
  ·split <;> omega
 ·refine ⟨?_, ?_, ?_, ?_⟩
  ·omega
  ·omega
  ·omega
  ·split <;> omega
 ·refine ⟨?_, ?_, ?_, ?_⟩ <;> omega
 ·refine ⟨?_, ?_, ?_, ?_⟩ <;> omega
theorem okW_word {op a b c n : Int} (h : cmay op a b c n = true) : okW (wordN op a b c n) = true := by
 obtain ⟨e1, e2, e3, e4, e5⟩ := word_dec h
 unfold okW
 rw [e1, e2, e3, e4, e5, h, decide_eq_true rfl]
 rfl
def TkOk (t : Tok) : Prop := 0 ≤ t.at_ ∧ (t.kind = 2 → 0 ≤ t.n ∧ t.n < 16) ∧ (t.kind = 1 → t.text ≠ ⟨#[]⟩)
theorem regC_lt (s : ByteArray) : regC s < 16 := by
 unfold regC
 split
 ·rename_i h; omega
 ·split
  ·rename_i h; omega
  ·decide
theorem tokS_ok {s : ByteArray} {a : Int} (h0 : 0 ≤ a) {t : Tok} {k : Int} (h : tokS s a = .tok t k) : TkOk t := by
 unfold tokS at h
 split at h
 case isFalse => cases h
 rename_i ha
 split at h
 ·cases h
 split at h
 ·cases h
 split at h
 ·cases h; exact ⟨h0, (fun h => by cases h), (fun h => by cases h)⟩
 split at h
 ·cases h; exact ⟨h0, (fun h => by cases h), (fun h => by cases h)⟩
 split at h
 ·rename_i hl
  split at h
  ·rename_i hr
   cases h
   exact ⟨h0, (fun _ => ⟨hr, regC_lt _⟩), (fun h => by cases h)⟩
  ·cases h
   refine ⟨h0, (fun h => by cases h), fun _ e => ?_⟩
   have h1 : a + 1 ≤ runE partB s a := by
    rw [runE_eq, decide_eq_true ha, Bool.true_and, show partB (byteAt s a) = true by unfold partB; rw [hl]; rfl, cond_true]
    exact (runE_le (p := partB) (show a + 1 ≤ (s.size : Int) by omega)).1
   obtain ⟨r1, r2⟩ := runE_le (p := partB) (show a ≤ (s.size : Int) by omega)
   have z := subS_size (s := s) h0 r1 r2
   simp only at e
   rw [e] at z
   have z0 : (⟨#[]⟩ : ByteArray).size = 0 := rfl
   rw [z0] at z
   omega
 split at h
 ·split at h
  ·cases h; exact ⟨h0, (fun h => by cases h), (fun h => by cases h)⟩
  ·cases h
 ·cases h
theorem tokGo_ok {s : ByteArray} : ∀ (f : Nat) (a : Int) (l : List Tok), 0 ≤ a → (∀ t ∈ l, TkOk t) → ∀ t ∈ (tokGo s f a l).1, TkOk t
 | 0, a, l, h0, hl => hl
 | f + 1, a, l, h0, hl => by
  have hadv := tokS_adv (s := s) h0
  unfold tokGo
  cases hq : tokS s a with
  | stop => exact hl
  | err e => exact hl
  | skip => exact tokGo_ok f (a + 1) l (by omega) hl
  | tok t k =>
   rw [hq] at hadv
   have hadv : 1 ≤ k ∧ a + k ≤ (s.size : Int) := hadv
   refine tokGo_ok f (a + k) (l ++ [t]) (by omega) fun x hx => ?_
   rcases List.mem_append.1 hx with hx | hx
   ·exact hl x hx
   ·rw [List.mem_singleton] at hx
    subst hx
    exact tokS_ok h0 hq
theorem lnTok_ok (s : ByteArray) : ∀ t ∈ (lnTok s).1, TkOk t := by
 unfold lnTok
 cases decide ((s.size : Int) > 200) with
 | true => exact fun t h => by cases h
 | false => exact tokGo_ok _ _ _ (Int.le_refl _) fun t h => by cases h
theorem lnTok_at (s : ByteArray) : 0 ≤ (lnTok s).2.1 := by
 unfold lnTok
 cases decide ((s.size : Int) > 200) with
 | true => exact Int.le_refl _
 | false => exact (tokGo_len (s := s) (s.size + 1) 0 [] (Int.le_refl _) (by omega) (by simp)).2.1
theorem tk_ok2 {l : List Tok} (h : ∀ t ∈ l, TkOk t) {i : Nat} (hi : i < l.length) : TkOk (tk l i) := by
 have : tk l i ∈ l := by
  unfold tk
  rw [List.getElem?_eq_getElem hi]
  exact List.getElem_mem hi
 exact h _ this
theorem wantOne_inr {l : List Tok} {num w : Int} {j r : Nat} {t t2 : Told} {k : Nat → Told → LiR} (h : wantOne l num w j r t k = .inr t2) : j < l.length ∧
  ((w = 0 ∧ (tk l j).kind = 2 ∧ k (r + 1) (t.put r (tk l j).n) = .inr t2) ∨
   (w ≠ 0 ∧ (tk l j).kind = 3 ∧ k r { t with n := (tk l j).n, line := num, at_ := (tk l j).at_ } = .inr t2) ∨
   (w = 2 ∧ (tk l j).kind = 1 ∧ k r { t with label := (tk l j).text, line := num, at_ := (tk l j).at_ } = .inr t2)) := by
 unfold wantOne at h
 by_cases hj : l.length ≤ j
 ·rw [decide_eq_true hj] at h; cases h
 rw [decide_eq_false hj, cond_false] at h
 refine ⟨by omega, ?_⟩
 by_cases hw : w = 0
 ·rw [decide_eq_true hw, cond_true] at h
  by_cases hk : (tk l j).kind = 2
  ·rw [decide_eq_true hk, cond_true] at h; exact .inl ⟨hw, hk, h⟩
  ·rw [decide_eq_false hk] at h; cases h
 ·rw [decide_eq_false hw, cond_false] at h
  by_cases hk : (tk l j).kind = 3
  ·rw [decide_eq_true hk, cond_true] at h; exact .inr (.inl ⟨hw, hk, h⟩)
  ·rw [decide_eq_false hk, cond_false] at h
   cases h3 : decide (w = 2) && decide ((tk l j).kind = 1) with
   | true =>
    rw [h3, cond_true] at h
    simp only [Bool.and_eq_true, decide_eq_true_eq] at h3
    exact .inr (.inr ⟨h3.1, h3.2, h⟩)
   | false => rw [h3] at h; cases h
theorem wantGo_nil {l : List Tok} {num : Int} {b : Bool} {i r : Nat} {t t2 : Told} (h : wantGo l num [] b i r t = .inr t2) : t2 = t := by
 rw [wantGo] at h
 cases h0 : decide (l.length ≤ i + 1) with
 | true => rw [h0] at h; cases h; rfl
 | false => rw [h0] at h; cases h
theorem wantGo_more {l : List Tok} {num w : Int} {ws : List Int} {i r : Nat} {t t2 : Told} (h : wantGo l num (w :: ws) false i r t = .inr t2) : wantOne l num w (i + 1 + 1) r t (fun r t => wantGo l num ws false (i + 1 + 1) r t) = .inr t2 := by
 rw [wantGo] at h
 cases h0 : decide (l.length ≤ i + 1) with
 | true => rw [h0] at h; cases h
 | false =>
  rw [h0, cond_false] at h
  cases h2 : decide ((tk l (i + 1)).kind = 4) with
  | true => rw [h2, cond_true] at h; exact h
  | false => rw [h2] at h; cases h
def TI (N : Int) (t : Told) : Prop := (1 ≤ t.line ∧ t.line ≤ N ∧ 0 ≤ t.at_) ∨ (t.label = ⟨#[]⟩ ∧ cmay t.op t.a t.b t.c t.n = true)
theorem last_inr {l : List Tok} (hl : ∀ t ∈ l, TkOk t) {num w : Int} (hw : w ≠ 0) {j r : Nat} {t t2 : Told} {b : Bool} {i : Nat} (h : wantOne l num w j r t (fun r t => wantGo l num [] b i r t) = .inr t2) : t2.line = num ∧ 0 ≤ t2.at_ := by
 obtain ⟨hj, h⟩ := wantOne_inr h
 have ha := (tk_ok2 hl hj).1
 rcases h with ⟨e, _, _⟩ | ⟨_, _, h⟩ | ⟨_, _, h⟩
 ·exact absurd e hw
 ·rw [wantGo_nil h]; exact ⟨rfl, ha⟩
 ·rw [wantGo_nil h]; exact ⟨rfl, ha⟩
theorem reg_inr {l : List Tok} (hl : ∀ t ∈ l, TkOk t) {num : Int} {j r : Nat} {t t2 : Told} {k : Nat → Told → LiR} (h : wantOne l num 0 j r t k = .inr t2) : ∃ x : Int, 0 ≤ x ∧ x < 16 ∧ k (r + 1) (t.put r x) = .inr t2 := by
 obtain ⟨hj, h⟩ := wantOne_inr h
 rcases h with ⟨_, hk, h⟩ | ⟨e, _, _⟩ | ⟨e, _, _⟩
 ·obtain ⟨x0, x1⟩ := (tk_ok2 hl hj).2.1 hk
  exact ⟨_, x0, x1, h⟩
 ·exact absurd rfl e
 ·exact absurd e (by decide)
theorem ops_form {op : Int} (h0 : 0 ≤ op) (h1 : op < 22) : (wantsOf op = [] → formN op = 0) ∧ (wantsOf op = [0, 0, 0] → formN op = 1) ∧ (wantsOf op = [0] → formN op = 6) := by
 rcases op_cases h0 h1 with rfl | rfl | rfl | rfl | rfl | rfl | rfl | rfl | rfl | rfl | rfl | rfl | rfl | rfl | rfl | rfl | rfl | rfl | rfl | rfl | rfl | rfl <;> decide
theorem want_TI {l : List Tok} (hl : ∀ t ∈ l, TkOk t) {num N : Int} (hn1 : 1 ≤ num) (hn2 : num ≤ N) {op : Int} (h0 : 0 ≤ op) (h1 : op < 22) {i : Nat} {t2 : Told} (h : wantGo l num (wantsOf op) true i 0 (toldNil op) = .inr t2) : TI N t2 := by
 obtain ⟨f0, f1, f6⟩ := ops_form h0 h1
 have fin : ∀ t : Told, t.line = num ∧ 0 ≤ t.at_ → TI N t := fun t ⟨e1, e2⟩ => .inl ⟨by omega, by omega, e2⟩
 rcases wants_cases h0 h1 with e | e | e | e | e | e | e | e
 ·rw [e] at h
  rw [wantGo_nil h]
  refine .inr ⟨rfl, ?_⟩
  show cmay op 0 0 0 0 = true
  unfold cmay
  rw [f0 e, decide_eq_true h0, decide_eq_true h1]
  decide
 ·rw [e, wantGo] at h
  obtain ⟨x, x0, x1, h⟩ := reg_inr hl h
  obtain ⟨y, y0, y1, h⟩ := reg_inr hl (wantGo_more h)
  obtain ⟨z, z0, z1, h⟩ := reg_inr hl (wantGo_more h)
  rw [wantGo_nil h]
  refine .inr ⟨rfl, ?_⟩
  show cmay op x y z 0 = true
  unfold cmay
  rw [f1 e, decide_eq_true h0, decide_eq_true h1]
  simp only [Bool.and_self, Bool.true_and, Bool.and_eq_true, decide_eq_true_eq]
  exact ⟨x0, x1, y0, y1, z0, z1, trivial⟩
 ·rw [e, wantGo] at h
  obtain ⟨x, _, _, h⟩ := reg_inr hl h
  obtain ⟨y, _, _, h⟩ := reg_inr hl (wantGo_more h)
  exact fin _ (last_inr hl (by decide) (wantGo_more h))
 ·rw [e, wantGo] at h
  obtain ⟨x, _, _, h⟩ := reg_inr hl h
  obtain ⟨y, _, _, h⟩ := reg_inr hl (wantGo_more h)
  exact fin _ (last_inr hl (by decide) (wantGo_more h))
 ·rw [e, wantGo] at h
  obtain ⟨x, _, _, h⟩ := reg_inr hl h
  exact fin _ (last_inr hl (by decide) (wantGo_more h))
 ·rw [e, wantGo] at h
  exact fin _ (last_inr hl (by decide) h)
 ·rw [e, wantGo] at h
  exact fin _ (last_inr hl (by decide) h)
 ·rw [e, wantGo] at h
  obtain ⟨x, x0, x1, h⟩ := reg_inr hl h
  rw [wantGo_nil h]
  refine .inr ⟨rfl, ?_⟩
  show cmay op x 0 0 0 = true
  unfold cmay
  rw [f6 e, decide_eq_true h0, decide_eq_true h1]
  simp only [Bool.and_self, Bool.true_and, Bool.and_eq_true, decide_eq_true_eq]
  exact ⟨x0, x1, trivial⟩
theorem liEnd_inr {l : List Tok} {num : Int} {td : List Told} {r : Nat × Lb × Bool} {t : Told} (h : liEnd l num td r = .inl (.inr t)) : wantGo l num (wantsOf (mapI opsE (tk l r.1).text)) true r.1 0 (toldNil (mapI opsE (tk l r.1).text)) = .inr t := by
 unfold liEnd at h
 cases h1 : r.2.2 with
 | true => rw [h1] at h; cases h
 | false =>
  rw [h1, cond_false] at h
  by_cases h2 : r.1 = l.length
  ·rw [decide_eq_true h2] at h; cases h
  rw [decide_eq_false h2, cond_false] at h
  have h : liRes l num opsE (wantsOf (mapI opsE (tk l r.1).text)) td.length r.1 = .inr t := Sum.inl.inj h
  unfold liRes at h
  cases h3 : mapHas opsE (tk l r.1).text with
  | false => rw [h3] at h; cases h
  | true =>
   rw [h3, cond_true] at h
   cases h4 : decide ((tk l r.1).kind = 1) with
   | false => rw [h4] at h; cases h
   | true =>
    rw [h4, cond_true] at h
    cases h5 : decide (td.length = 1024) with
    | true => rw [h5] at h; cases h
    | false => rw [h5, cond_false] at h; exact h
theorem lnStep_TI {s : ByteArray} {num N : Int} (h1 : 1 ≤ num) (h2 : num ≤ N) {lb : Lb} {td : List Told} (h : ∀ t ∈ td, TI N t) : (∀ t ∈ (lnStep s num lb td).td, TI N t) ∧ ∀ x, (lnStep s num lb td).er = some x → 0 ≤ x.1 ∧ x.2 ≠ 0 := by
 have hl := lnTok_ok s
 unfold lnStep
 split
 ·rename_i he
  exact ⟨h, fun x hx => by cases hx; exact ⟨lnTok_at s, he⟩⟩
 split
 ·exact ⟨h, (fun x hx => by cases hx)⟩
 rename_i hz
 have hl1 : 1 ≤ (lnTok s).1.length := by
  cases hq : (lnTok s).1 with
  | nil => exact absurd hq hz
  | cons t l => simp
 split
 ·exact ⟨h, (fun x hx => by cases hx)⟩
 ·rename_i x hx
  obtain ⟨x0, x1, x2⟩ := liEnd_bd hl1 (lbGo_le _ _ _ (Nat.zero_le _)) (lbGo_tw _ _ _ (Nat.zero_le _)) hx
  refine ⟨h, fun y hy => ?_⟩
  cases hy
  exact ⟨(tk_ok2 hl (by omega)).1, x2⟩
 ·rename_i t ht
  refine ⟨fun x hx => ?_, (fun x hx => by cases hx)⟩
  rcases List.mem_append.1 hx with hx | hx
  ·exact h x hx
  ·rw [List.mem_singleton] at hx
   subst hx
   obtain ⟨o0, o1⟩ := ops_has (tk (lnTok s).1 (lbGo (lnTok s).1 td.length ((lnTok s).1.length + 1) 0 lb).1).text
   exact want_TI hl h1 h2 o0 o1 (liEnd_inr ht)
theorem mkGo_TI : ∀ (ss : List ByteArray) (n : Nat) (lb : Lb) (td : List Told) (N : Int), ((n + ss.length : Nat) : Int) ≤ N → (∀ t ∈ td, TI N t) → (∀ t ∈ (mkGo ss n lb td).2.1, TI N t) ∧ ∀ x, (mkGo ss n lb td).2.2 = some x → 1 ≤ x.1 ∧ x.1 ≤ N ∧ 0 ≤ x.2.1 ∧ x.2.2 ≠ 0
 | [], n, lb, td, N, hN, h => ⟨h, (fun x hx => by cases hx)⟩
 | s :: ss, n, lb, td, N, hN, h => by
  rw [List.length_cons] at hN
  obtain ⟨a, b⟩ := lnStep_TI (s := s) (num := ((n + 1 : Nat) : Int)) (N := N) (lb := lb) (by omega) (by omega) h
  rw [mkGo]
  cases hq : lnStep s ((n + 1 : Nat) : Int) lb td with
  | mk lb' td' er =>
   rw [hq] at a b
   cases er with
   | some x =>
    obtain ⟨b1, b2⟩ := b x rfl
    exact ⟨a, fun y hy => by cases hy; exact ⟨by simp only; omega, by simp only; omega, b1, b2⟩⟩
   | none => exact mkGo_TI ss (n + 1) lb' td' N (by omega) a
theorem wdGo_TI {lb : Lb} {N : Int} : ∀ (td : List Told) (i : Nat) (ws : List Int), (∀ t ∈ td, TI N t) → (∀ w ∈ ws, okW w = true ∧ 0 ≤ w ∧ w < 4294967296) →
  (∀ w ∈ (wdGoM lb td i ws).1, okW w = true ∧ 0 ≤ w ∧ w < 4294967296) ∧ ∀ x, (wdGoM lb td i ws).2 = some x → 1 ≤ x.1 ∧ x.1 ≤ N ∧ 0 ≤ x.2.1 ∧ x.2.2 ≠ 0
 | [], i, ws, h, hw => ⟨hw, (fun x hx => by cases hx)⟩
 | t :: td, i, ws, h, hw => by
  have ht := h t (List.mem_cons_self ..)
  rw [wdGoM]
  cases hq : tdW lb i t with
  | inl w =>
   refine wdGo_TI td (i + 1) (ws ++ [w]) (fun x hx => h x (List.mem_cons_of_mem _ hx)) fun x hx => ?_
   rcases List.mem_append.1 hx with hx | hx
   ·exact hw x hx
   ·rw [List.mem_singleton] at hx
    subst hx
    unfold tdW at hq
    cases h1 : decide (t.label = ⟨#[]⟩) || lbHas lb t.label with
    | false => rw [h1] at hq; cases hq
    | true =>
     rw [h1, cond_true] at hq
     cases h2 : cmay t.op t.a t.b t.c (tdN lb i t) with
     | false => rw [h2] at hq; cases hq
     | true =>
      rw [h2, cond_true] at hq
      have e : putN t.op t.a t.b t.c (tdN lb i t) = x := Sum.inl.inj hq
      rw [← e]
      unfold putN
      rw [h2, cond_true]
      have := word_lt h2
      exact ⟨okW_word h2, this.1, this.2⟩
  | inr e =>
   refine ⟨hw, fun x hx => ?_⟩
   cases hx
   have key : (e = 212 ∧ t.label ≠ ⟨#[]⟩) ∨ (e = 5 ∧ cmay t.op t.a t.b t.c (tdN lb i t) = false) := by
    unfold tdW at hq
    cases h1 : decide (t.label = ⟨#[]⟩) || lbHas lb t.label with
    | false =>
     rw [h1] at hq
     cases hq
     simp only [Bool.or_eq_false_iff, decide_eq_false_iff_not] at h1
     exact .inl ⟨rfl, h1.1⟩
    | true =>
     rw [h1, cond_true] at hq
     cases h2 : cmay t.op t.a t.b t.c (tdN lb i t) with
     | false => rw [h2] at hq; cases hq; exact .inr ⟨rfl, rfl⟩
     | true => rw [h2] at hq; cases hq
   rcases ht with ⟨l1, l2, l3⟩ | ⟨l1, l2⟩
   ·refine ⟨l1, l2, l3, ?_⟩
    rcases key with ⟨e, _⟩ | ⟨e, _⟩ <;> (simp only; omega)
   ·rcases key with ⟨_, h⟩ | ⟨_, h⟩
    ·exact absurd l1 h
    ·unfold tdN at h
     rw [decide_eq_true l1, cond_true, l2] at h
     cases h
theorem mkA_cases (s : ByteArray) : ((mkA s).ws = [] ∧ (mkA s).er ≠ 0 ∧ 1 ≤ (mkA s).line ∧ (mkA s).line ≤ (s.data.toList.count 10 : Int) + 1 ∧ 0 ≤ (mkA s).at_) ∨
  ((mkA s).er = 0 ∧ (mkA s).line = 0 ∧ (mkA s).at_ = 0 ∧ (mkA s).ws.length ≤ 1024 ∧ ∀ w ∈ (mkA s).ws, okW w = true ∧ 0 ≤ w ∧ w < 4294967296) := by
 have hN : (((splB s nlB).length : Nat) : Int) = (s.data.toList.count 10 : Int) + 1 := by
  have := splB_count s 10
  show (((splB s ⟨#[10]⟩).length : Nat) : Int) = _
  omega
 obtain ⟨a, b⟩ := mkGo_TI (splB s nlB) 0 [] [] (((splB s nlB).length : Nat) : Int) (by omega) (fun t h => by cases h)
 have ok := mkGo_ok (splB s nlB) 0 [] [] (fun t h => by cases h) (Nat.zero_le _)
 unfold mkA
 cases hq : mkGo (splB s nlB) 0 [] [] with
 | mk lb q =>
 obtain ⟨td, er⟩ := q
 rw [hq] at a b ok
 cases er with
 | some x =>
  obtain ⟨b1, b2, b3, b4⟩ := b x rfl
  exact .inl ⟨rfl, b4, b1, by show x.1 ≤ _; omega, b3⟩
 | none =>
  obtain ⟨c, d⟩ := wdGo_TI (lb := lb) td 0 [] a (fun w h => by cases h)
  show ((mkW lb td).ws = [] ∧ (mkW lb td).er ≠ 0 ∧ 1 ≤ (mkW lb td).line ∧ (mkW lb td).line ≤ (s.data.toList.count 10 : Int) + 1 ∧ 0 ≤ (mkW lb td).at_) ∨ ((mkW lb td).er = 0 ∧ (mkW lb td).line = 0 ∧ (mkW lb td).at_ = 0 ∧ (mkW lb td).ws.length ≤ 1024 ∧ ∀ w ∈ (mkW lb td).ws, okW w = true ∧ 0 ≤ w ∧ w < 4294967296)
  unfold mkW
  cases hw : wdGoM lb td 0 [] with
  | mk ws er =>
  rw [hw] at c d
  cases er with
  | some x =>
   obtain ⟨b1, b2, b3, b4⟩ := d x rfl
   exact .inl ⟨rfl, b4, b1, by show x.1 ≤ _; omega, b3⟩
  | none =>
   have hl := wdGoM_ne td 0 [] ws hw
   have hok : td.length ≤ 1024 := ok.2
   exact .inr ⟨rfl, rfl, rfl, by show ws.length ≤ 1024; simp at hl; omega, c⟩
end Go.Proofs.YtgohbcbdgakjeaaGreatDoor
noncomputable section
namespace Go.Proofs.YtgohbcbdgakjeaaGreatDoor
open Go.Proofs.YtgohbcbdgakjeaaGreatDoor.Ev Go.RowKit
theorem makeN_at {gl : Gl} {m : Int} {u0 o0 u1 o1 : Nat} (hS : ∀ g k v, glS u0 o0 u1 o1 g k = some v → gl g k = some v) (hF : GlF gl) (hgl : Low gl) (hm : gl 0 0 = some (.int .i64 m)) {s : ByteArray} (hs : s.size ≤ 900000) (h : (mkA s).ws = []) : SubOK Tryz.prog gl 14 (mkN (atS [.string s] []) (mkA s).line (mkA s).at_ (mkA s).er) := by
 have := make_at hS hF hgl hm hs
 unfold mkAns at this
 rw [h] at this
 exact this
theorem makeK_at {gl : Gl} {m : Int} {u0 o0 u1 o1 : Nat} (hS : ∀ g k v, glS u0 o0 u1 o1 g k = some v → gl g k = some v) (hF : GlF gl) (hgl : Low gl) (hm : gl 0 0 = some (.int .i64 m)) {s : ByteArray} (hs : s.size ≤ 900000) (h : (mkA s).ws ≠ []) : SubOK Tryz.prog gl 14 (mkK (atS [.string s] []) (wC (mkA s).ws) (mkA s).ws.length) := by
 have hc := mkA_cases s
 have hk := make_at hS hF hgl hm hs
 unfold mkAns at hk
 rcases hc with ⟨e, _⟩ | ⟨e1, e2, e3, _⟩
 ·exact absurd e h
 ·cases hq : (mkA s).ws with
  | nil => exact absurd hq h
  | cons w ws =>
   rw [hq] at hk
   unfold mkT at hk
   rw [e1, e2, e3] at hk
   exact hk
end Go.Proofs.YtgohbcbdgakjeaaGreatDoor
noncomputable section
namespace Go.Proofs.YtgohbcbdgakjeaaGreatDoor
open Go.Proofs.YtgohbcbdgakjeaaGreatDoor.Ev Go.RowKit
theorem size_app (a b : ByteArray) : (a ++ b).size = a.size + b.size := by
 rw [← data_len, ← data_len a, ← data_len b, app_data, List.length_append]
end Go.Proofs.YtgohbcbdgakjeaaGreatDoor
noncomputable section
namespace Go.Proofs.YtgohbcbdgakjeaaGreatDoor
open Go.Proofs.YtgohbcbdgakjeaaGreatDoor.Ev Go.RowKit
def mkX (s : ByteArray) : Int := (mkA s).line
def mkY (s : ByteArray) : Int := (mkA s).at_
def mkE (s : ByteArray) : Int := (mkA s).er
def mkVs (s : ByteArray) : List Value := wC (mkA s).ws
def mkLn (s : ByteArray) : Nat := (mkA s).ws.length
def gNil (s : ByteArray) : Bool := decide (s.size ≤ 900000) && cl ((mkA s).ws = [])
def gNot (s : ByteArray) : Bool := decide (s.size ≤ 900000) && cl ((mkA s).ws ≠ [])
end Go.Proofs.YtgohbcbdgakjeaaGreatDoor
noncomputable section
namespace Go.Proofs.YtgohbcbdgakjeaaGreatDoor
open Go.Proofs.YtgohbcbdgakjeaaGreatDoor.Ev Go.RowKit
def z9B : ByteArray := ⟨#[122, 57]⟩
end Go.Proofs.YtgohbcbdgakjeaaGreatDoor
noncomputable section
namespace Go.Proofs.YtgohbcbdgakjeaaGreatDoor
open Go.Proofs.YtgohbcbdgakjeaaGreatDoor.Ev Go.RowKit
theorem baq {x y : ByteArray} : (x == y) = true ↔ x = y := by
 cases x with
 | mk a =>
 cases y with
 | mk b =>
 show (a == b) = true ↔ _
 rw [beq_iff_eq, ByteArray.mk.injEq]
def rn (nm x : ByteArray) : ByteArray := if x = z9B then nm else x
def rnL (nm : ByteArray) (lb : Lb) : Lb := lb.map fun p => (rn nm p.1, p.2)
def rnTo (nm : ByteArray) (t : Told) : Told := { t with label := rn nm t.label }
def ren (nm : ByteArray) (m : MkS) : MkS := ⟨rnL nm m.lb, m.td.map (rnTo nm), m.er⟩
end Go.Proofs.YtgohbcbdgakjeaaGreatDoor
