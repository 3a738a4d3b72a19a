/- What is made of a text: words of instructions, or an error that is somewhere in it; lines of remarks ahead of a text. AsmRemarks answers true, of any two texts and any number, where the listed variables stand as the program's text lays them. -/
import Derived.Test.YtgohnfkidkomhaaDoorA4
noncomputable section
noncomputable section
namespace Go.Proofs.YtgohnfkidkomhaaDoor
open Go.Proofs.YtgohnfkidkomhaaDoor.Ev Go.RowKit

/-! The listed variables of the laws on texts that are made. -/
def glA (m : Int) (u0 o0 u1 o1 : Nat) : Gl := glOf [(4, [.iface u0 (.pointer (some ⟨900, o0, none⟩))]), (3, [.iface u1 (.pointer (some ⟨901, o1, none⟩))]), (2, pow10L.map (.int .u64)), (0, formsL.map (.int .i64)), (1, [.int .i64 m])]
theorem glA_low (m : Int) (u0 o0 u1 o1 : Nat) : Low (glA m u0 o0 u1 o1) := lowTabs (by rfl)
theorem glA_S {m : Int} {u0 o0 u1 o1 : Nat} : ∀ g k v, glS u0 o0 u1 o1 g k = some v → glA m u0 o0 u1 o1 g k = some v := by
  intro g k v h
  unfold glS at h
  unfold glA
  simp only [glOf] at h ⊢
  cases h1 : Nat.beq g 4 with
  | true => rw [h1] at h; exact h
  | false =>
    rw [h1, cond_false] at h
    rw [cond_false]
    cases h2 : Nat.beq g 3 with
    | true => rw [h2] at h; exact h
    | false => rw [h2] at h; cases h
theorem glA_F (m : Int) (u0 o0 u1 o1 : Nat) : GlF (glA m u0 o0 u1 o1) := fun i z h => by
  show (formsL.map (Value.int .i64))[i]? = _
  rw [List.getElem?_map, h]
  rfl
theorem glA_m (m : Int) (u0 o0 u1 o1 : Nat) : glA m u0 o0 u1 o1 1 0 = some (.int .i64 m) := rfl
def exW : Ext := extOf [(116, .same), (81, .flat Extern.BytealgCount.count), (146, .flat Extern.BytealgIndexByte.indexByte)]
theorem xCt : XkOK Tryd.prog 81 (.flat Extern.BytealgCount.count) := ⟨Tryd.f81, Tryd.func81, by kernel_rfl, by kernel_rfl, (show Extern.find Tryd.f81 = some Extern.BytealgCount.count by kernel_rfl)⟩
theorem xIb : XkOK Tryd.prog 146 (.flat Extern.BytealgIndexByte.indexByte) := ⟨Tryd.f146, Tryd.func146, by kernel_rfl, by kernel_rfl, (show Extern.find Tryd.f146 = some Extern.BytealgIndexByte.indexByte by kernel_rfl)⟩
theorem goodW : Go.Proofs.YtgohnfkidkomhaaDoor.Ev.Good Tryd.prog exW := good_of (by kernel_rfl) (by kernel_rfl) (by
  intro x hx
  simp only [List.mem_cons, List.not_mem_nil, or_false] at hx
  rcases hx with rfl | rfl | rfl
  · exact xNE
  · exact xCt
  · exact xIb)
set_option maxRecDepth 100000 in
theorem works21_0 (m : Int) (u0 o0 u1 o1 : Nat) : isT (callF Tryd.prog (glA m u0 o0 u1 o1) exW [] 5000 100 40 (.fn 37) [] LS.start) = true := by kernel_rfl
theorem memo21 (m : Int) (u0 o0 u1 o1 : Nat) : MemoOK Tryd.prog (glA m u0 o0 u1 o1) 37 := memoM_ok goodW (glA_low m u0 o0 u1 o1) tglob (fun f hf => by cases hf) (works21_0 m u0 o0 u1 o1)
end Go.Proofs.YtgohnfkidkomhaaDoor

noncomputable section
namespace Go.Proofs.YtgohnfkidkomhaaDoor
open Go.Proofs.YtgohnfkidkomhaaDoor.Ev Go.RowKit

/-! AsmTakes: residuals. -/
def mkN (g : GS) (x y e : Int) : Hd := gH g (.normal, [.tuple #[slN, .agg #[.int .i64 x, .int .i64 y], .int .i64 e]], [])
def mkK (g : GS) (ws : List Value) (n : Nat) : Hd := gH g (.normal, [.tuple #[slK0 1000 n, .agg #[.int .i64 0, .int .i64 0], .int .i64 0]], [wdRow ws])
end Go.Proofs.YtgohnfkidkomhaaDoor

noncomputable section
namespace Go.Proofs.YtgohnfkidkomhaaDoor
open Go.Proofs.YtgohnfkidkomhaaDoor.Ev Go.RowKit

/-! What is made of a text: words of instructions; errors that are somewhere. -/
theorem word_dec {op a b c n : Int} (h : cmay op a b c n = true) : oN (wordN op a b c n) = op ∧ fA (wordN op a b c n) = a ∧ fB (wordN op a b c n) = b ∧ fC (wordN op a b c n) = c ∧ fN (wordN op a b c n) = n := by
  have h2 := h
  unfold cmay at h2
  simp only [Bool.and_eq_true, decide_eq_true_eq] at h2
  obtain ⟨⟨h0, h1⟩, h2⟩ := h2
  obtain ⟨_, _, a0, a1, b0, b1, c0, c1, hn⟩ := cmay_f h
  have ho : oN (wordN op a b c n) = op := by
    unfold oN wordN
    split <;> (try split) <;> omega
  have hw : ∃ x : Int, wordN op a b c n = (((op * 16 + a) * 16 + b) * 16 + c) * 16384 + x ∧ ((0 ≤ n ∧ x = n) ∨ (n < 0 ∧ formN op = 2 ∧ x = n + 16384) ∨ (n < 0 ∧ formN op ≠ 2 ∧ x = n + 4194304)) := by
    unfold wordN
    by_cases hn0 : n < 0
    · rw [if_pos hn0]
      by_cases h2f : formN op = 2
      · rw [if_pos h2f]; exact ⟨_, rfl, .inr (.inl ⟨hn0, h2f, rfl⟩)⟩
      · rw [if_neg h2f]; exact ⟨_, rfl, .inr (.inr ⟨hn0, h2f, rfl⟩)⟩
    · rw [if_neg hn0]; exact ⟨_, rfl, .inl ⟨by omega, rfl⟩⟩
  obtain ⟨x, hx, hc⟩ := hw
  unfold fA fB fC fN
  rw [ho, hx]
  refine ⟨rfl, ?_⟩
  have sgE : ∀ m h : Int, sg m h = if m ≥ h then m - 2 * h else m := fun m h => by unfold sg; rw [Bool.cond_decide]
  rcases form_cases h0 h1 with e | e | e | e | e | e | e <;> rw [e] at h2 hc hn ⊢ <;> simp only [Bool.and_eq_true, decide_eq_true_eq, sgE] at h2 ⊢
  · omega
  · refine ⟨?_, ?_, ?_, ?_⟩ <;> omega
  · refine ⟨?_, ?_, ?_, ?_⟩
    · omega
    · omega
    · omega
    · split <;> omega
  · refine ⟨?_, ?_, ?_, ?_⟩
    · omega
    · omega
    · omega
    · split <;> omega
  · refine ⟨?_, ?_, ?_, ?_⟩
    · omega
    · omega
    · omega
    · split <;> omega
  · refine ⟨?_, ?_, ?_, ?_⟩ <;> omega
  · refine ⟨?_, ?_, ?_, ?_⟩ <;> omega
theorem okW_word {op a b c n : Int} (h : cmay op a b c n = true) : okW (wordN op a b c n) = true := by
  obtain ⟨e1, e2, e3, e4, e5⟩ := word_dec h
  unfold okW
  rw [e1, e2, e3, e4, e5, h, decide_eq_true rfl]
  rfl
/-! Tokens. -/
def TkOk (t : Tok) : Prop := 0 ≤ t.at_ ∧ (t.kind = 2 → 0 ≤ t.n ∧ t.n < 16) ∧ (t.kind = 1 → t.text ≠ ⟨#[]⟩)
theorem regC_lt (s : ByteArray) : regC s < 16 := by
  unfold regC
  split
  · rename_i h; omega
  · split
    · rename_i h; omega
    · decide
theorem tokS_ok {s : ByteArray} {a : Int} (h0 : 0 ≤ a) {t : Tok} {k : Int} (h : tokS s a = .tok t k) : TkOk t := by
  unfold tokS at h
  split at h
  case isFalse => cases h
  rename_i ha
  split at h
  · cases h
  split at h
  · cases h
  split at h
  · cases h; exact ⟨h0, (fun h => by cases h), (fun h => by cases h)⟩
  split at h
  · cases h; exact ⟨h0, (fun h => by cases h), (fun h => by cases h)⟩
  split at h
  · rename_i hl
    split at h
    · rename_i hr
      cases h
      exact ⟨h0, (fun _ => ⟨hr, regC_lt _⟩), (fun h => by cases h)⟩
    · cases h
      refine ⟨h0, (fun h => by cases h), fun _ e => ?_⟩
      have h1 : a + 1 ≤ runE partB s a := by
        rw [runE_eq, decide_eq_true ha, Bool.true_and, show partB (byteAt s a) = true by unfold partB; rw [hl]; rfl, cond_true]
        exact (runE_le (p := partB) (show a + 1 ≤ (s.size : Int) by omega)).1
      obtain ⟨r1, r2⟩ := runE_le (p := partB) (show a ≤ (s.size : Int) by omega)
      have z := subS_size (s := s) h0 r1 r2
      simp only at e
      rw [e] at z
      have z0 : (⟨#[]⟩ : ByteArray).size = 0 := rfl
      rw [z0] at z
      omega
  split at h
  · split at h
    · cases h; exact ⟨h0, (fun h => by cases h), (fun h => by cases h)⟩
    · cases h
  · cases h
theorem tokGo_ok {s : ByteArray} : ∀ (f : Nat) (a : Int) (l : List Tok), 0 ≤ a → (∀ t ∈ l, TkOk t) → ∀ t ∈ (tokGo s f a l).1, TkOk t
  | 0, a, l, h0, hl => hl
  | f + 1, a, l, h0, hl => by
    have hadv := tokS_adv (s := s) h0
    unfold tokGo
    cases hq : tokS s a with
    | stop => exact hl
    | err e => exact hl
    | skip => exact tokGo_ok f (a + 1) l (by omega) hl
    | tok t k =>
      rw [hq] at hadv
      have hadv : 1 ≤ k ∧ a + k ≤ (s.size : Int) := hadv
      refine tokGo_ok f (a + k) (l ++ [t]) (by omega) fun x hx => ?_
      rcases List.mem_append.1 hx with hx | hx
      · exact hl x hx
      · rw [List.mem_singleton] at hx
        subst hx
        exact tokS_ok h0 hq
theorem lnTok_ok (s : ByteArray) : ∀ t ∈ (lnTok s).1, TkOk t := by
  unfold lnTok
  cases decide ((s.size : Int) > 200) with
  | true => exact fun t h => by cases h
  | false => exact tokGo_ok _ _ _ (Int.le_refl _) fun t h => by cases h
theorem lnTok_at (s : ByteArray) : 0 ≤ (lnTok s).2.1 := by
  unfold lnTok
  cases decide ((s.size : Int) > 200) with
  | true => exact Int.le_refl _
  | false => exact (tokGo_len (s := s) (s.size + 1) 0 [] (Int.le_refl _) (by omega) (by simp)).2.1
theorem tk_ok2 {l : List Tok} (h : ∀ t ∈ l, TkOk t) {i : Nat} (hi : i < l.length) : TkOk (tk l i) := by
  have : tk l i ∈ l := by
    unfold tk
    rw [List.getElem?_eq_getElem hi]
    exact List.getElem_mem hi
  exact h _ this
/-! An instruction that is read. -/
theorem wantOne_inr {l : List Tok} {num w : Int} {j r : Nat} {t t2 : Told} {k : Nat → Told → LiR} (h : wantOne l num w j r t k = .inr t2) : j < l.length ∧
    ((w = 0 ∧ (tk l j).kind = 2 ∧ k (r + 1) (t.put r (tk l j).n) = .inr t2) ∨
     (w ≠ 0 ∧ (tk l j).kind = 3 ∧ k r { t with n := (tk l j).n, line := num, at_ := (tk l j).at_ } = .inr t2) ∨
     (w = 2 ∧ (tk l j).kind = 1 ∧ k r { t with label := (tk l j).text, line := num, at_ := (tk l j).at_ } = .inr t2)) := by
  unfold wantOne at h
  by_cases hj : l.length ≤ j
  · rw [decide_eq_true hj] at h; cases h
  rw [decide_eq_false hj, cond_false] at h
  refine ⟨by omega, ?_⟩
  by_cases hw : w = 0
  · rw [decide_eq_true hw, cond_true] at h
    by_cases hk : (tk l j).kind = 2
    · rw [decide_eq_true hk, cond_true] at h; exact .inl ⟨hw, hk, h⟩
    · rw [decide_eq_false hk] at h; cases h
  · rw [decide_eq_false hw, cond_false] at h
    by_cases hk : (tk l j).kind = 3
    · rw [decide_eq_true hk, cond_true] at h; exact .inr (.inl ⟨hw, hk, h⟩)
    · rw [decide_eq_false hk, cond_false] at h
      cases h3 : decide (w = 2) && decide ((tk l j).kind = 1) with
      | true =>
        rw [h3, cond_true] at h
        simp only [Bool.and_eq_true, decide_eq_true_eq] at h3
        exact .inr (.inr ⟨h3.1, h3.2, h⟩)
      | false => rw [h3] at h; cases h
theorem wantGo_nil {l : List Tok} {num : Int} {b : Bool} {i r : Nat} {t t2 : Told} (h : wantGo l num [] b i r t = .inr t2) : t2 = t := by
  rw [wantGo] at h
  cases h0 : decide (l.length ≤ i + 1) with
  | true => rw [h0] at h; cases h; rfl
  | false => rw [h0] at h; cases h
theorem wantGo_more {l : List Tok} {num w : Int} {ws : List Int} {i r : Nat} {t t2 : Told} (h : wantGo l num (w :: ws) false i r t = .inr t2) : wantOne l num w (i + 1 + 1) r t (fun r t => wantGo l num ws false (i + 1 + 1) r t) = .inr t2 := by
  rw [wantGo] at h
  cases h0 : decide (l.length ≤ i + 1) with
  | true => rw [h0] at h; cases h
  | false =>
    rw [h0, cond_false] at h
    cases h2 : decide ((tk l (i + 1)).kind = 4) with
    | true => rw [h2, cond_true] at h; exact h
    | false => rw [h2] at h; cases h
/-- Where a number or a label stands is known; or there is none, and the instruction may be. -/
def TI (N : Int) (t : Told) : Prop := (1 ≤ t.line ∧ t.line ≤ N ∧ 0 ≤ t.at_) ∨ (t.label = ⟨#[]⟩ ∧ cmay t.op t.a t.b t.c t.n = true)
theorem last_inr {l : List Tok} (hl : ∀ t ∈ l, TkOk t) {num w : Int} (hw : w ≠ 0) {j r : Nat} {t t2 : Told} {b : Bool} {i : Nat} (h : wantOne l num w j r t (fun r t => wantGo l num [] b i r t) = .inr t2) : t2.line = num ∧ 0 ≤ t2.at_ := by
  obtain ⟨hj, h⟩ := wantOne_inr h
  have ha := (tk_ok2 hl hj).1
  rcases h with ⟨e, _, _⟩ | ⟨_, _, h⟩ | ⟨_, _, h⟩
  · exact absurd e hw
  · rw [wantGo_nil h]; exact ⟨rfl, ha⟩
  · rw [wantGo_nil h]; exact ⟨rfl, ha⟩
theorem reg_inr {l : List Tok} (hl : ∀ t ∈ l, TkOk t) {num : Int} {j r : Nat} {t t2 : Told} {k : Nat → Told → LiR} (h : wantOne l num 0 j r t k = .inr t2) : ∃ x : Int, 0 ≤ x ∧ x < 16 ∧ k (r + 1) (t.put r x) = .inr t2 := by
  obtain ⟨hj, h⟩ := wantOne_inr h
  rcases h with ⟨_, hk, h⟩ | ⟨e, _, _⟩ | ⟨e, _, _⟩
  · obtain ⟨x0, x1⟩ := (tk_ok2 hl hj).2.1 hk
    exact ⟨_, x0, x1, h⟩
  · exact absurd rfl e
  · exact absurd e (by decide)
theorem ops_form {op : Int} (h0 : 0 ≤ op) (h1 : op < 22) : (wantsOf op = [] → formN op = 0) ∧ (wantsOf op = [0, 0, 0] → formN op = 1) ∧ (wantsOf op = [0] → formN op = 6) := by
  rcases op_cases h0 h1 with rfl | rfl | rfl | rfl | rfl | rfl | rfl | rfl | rfl | rfl | rfl | rfl | rfl | rfl | rfl | rfl | rfl | rfl | rfl | rfl | rfl | rfl <;> decide
theorem want_TI {l : List Tok} (hl : ∀ t ∈ l, TkOk t) {num N : Int} (hn1 : 1 ≤ num) (hn2 : num ≤ N) {op : Int} (h0 : 0 ≤ op) (h1 : op < 22) {i : Nat} {t2 : Told} (h : wantGo l num (wantsOf op) true i 0 (toldNil op) = .inr t2) : TI N t2 := by
  obtain ⟨f0, f1, f6⟩ := ops_form h0 h1
  have fin : ∀ t : Told, t.line = num ∧ 0 ≤ t.at_ → TI N t := fun t ⟨e1, e2⟩ => .inl ⟨by omega, by omega, e2⟩
  rcases wants_cases h0 h1 with e | e | e | e | e | e | e | e
  · rw [e] at h
    rw [wantGo_nil h]
    refine .inr ⟨rfl, ?_⟩
    show cmay op 0 0 0 0 = true
    unfold cmay
    rw [f0 e, decide_eq_true h0, decide_eq_true h1]
    decide
  · rw [e, wantGo] at h
    obtain ⟨x, x0, x1, h⟩ := reg_inr hl h
    obtain ⟨y, y0, y1, h⟩ := reg_inr hl (wantGo_more h)
    obtain ⟨z, z0, z1, h⟩ := reg_inr hl (wantGo_more h)
    rw [wantGo_nil h]
    refine .inr ⟨rfl, ?_⟩
    show cmay op x y z 0 = true
    unfold cmay
    rw [f1 e, decide_eq_true h0, decide_eq_true h1]
    simp only [Bool.and_self, Bool.true_and, Bool.and_eq_true, decide_eq_true_eq]
    exact ⟨x0, x1, y0, y1, z0, z1, trivial⟩
  · rw [e, wantGo] at h
    obtain ⟨x, _, _, h⟩ := reg_inr hl h
    obtain ⟨y, _, _, h⟩ := reg_inr hl (wantGo_more h)
    exact fin _ (last_inr hl (by decide) (wantGo_more h))
  · rw [e, wantGo] at h
    obtain ⟨x, _, _, h⟩ := reg_inr hl h
    obtain ⟨y, _, _, h⟩ := reg_inr hl (wantGo_more h)
    exact fin _ (last_inr hl (by decide) (wantGo_more h))
  · rw [e, wantGo] at h
    obtain ⟨x, _, _, h⟩ := reg_inr hl h
    exact fin _ (last_inr hl (by decide) (wantGo_more h))
  · rw [e, wantGo] at h
    exact fin _ (last_inr hl (by decide) h)
  · rw [e, wantGo] at h
    exact fin _ (last_inr hl (by decide) h)
  · rw [e, wantGo] at h
    obtain ⟨x, x0, x1, h⟩ := reg_inr hl h
    rw [wantGo_nil h]
    refine .inr ⟨rfl, ?_⟩
    show cmay op x 0 0 0 = true
    unfold cmay
    rw [f6 e, decide_eq_true h0, decide_eq_true h1]
    simp only [Bool.and_self, Bool.true_and, Bool.and_eq_true, decide_eq_true_eq]
    exact ⟨x0, x1, trivial⟩
theorem liEnd_inr {l : List Tok} {num : Int} {td : List Told} {r : Nat × Lb × Bool} {t : Told} (h : liEnd l num td r = .inl (.inr t)) : wantGo l num (wantsOf (mapI opsE (tk l r.1).text)) true r.1 0 (toldNil (mapI opsE (tk l r.1).text)) = .inr t := by
  unfold liEnd at h
  cases h1 : r.2.2 with
  | true => rw [h1] at h; cases h
  | false =>
    rw [h1, cond_false] at h
    by_cases h2 : r.1 = l.length
    · rw [decide_eq_true h2] at h; cases h
    rw [decide_eq_false h2, cond_false] at h
    have h : liRes l num opsE (wantsOf (mapI opsE (tk l r.1).text)) td.length r.1 = .inr t := Sum.inl.inj h
    unfold liRes at h
    cases h3 : mapHas opsE (tk l r.1).text with
    | false => rw [h3] at h; cases h
    | true =>
      rw [h3, cond_true] at h
      cases h4 : decide ((tk l r.1).kind = 1) with
      | false => rw [h4] at h; cases h
      | true =>
        rw [h4, cond_true] at h
        cases h5 : decide (td.length = 1024) with
        | true => rw [h5] at h; cases h
        | false => rw [h5, cond_false] at h; exact h
/-- A step's error is somewhere; its instruction, too. -/
theorem lnStep_TI {s : ByteArray} {num N : Int} (h1 : 1 ≤ num) (h2 : num ≤ N) {lb : Lb} {td : List Told} (h : ∀ t ∈ td, TI N t) : (∀ t ∈ (lnStep s num lb td).td, TI N t) ∧ ∀ x, (lnStep s num lb td).er = some x → 0 ≤ x.1 ∧ x.2 ≠ 0 := by
  have hl := lnTok_ok s
  unfold lnStep
  split
  · rename_i he
    exact ⟨h, fun x hx => by cases hx; exact ⟨lnTok_at s, he⟩⟩
  split
  · exact ⟨h, (fun x hx => by cases hx)⟩
  rename_i hz
  have hl1 : 1 ≤ (lnTok s).1.length := by
    cases hq : (lnTok s).1 with
    | nil => exact absurd hq hz
    | cons t l => simp
  split
  · exact ⟨h, (fun x hx => by cases hx)⟩
  · rename_i x hx
    obtain ⟨x0, x1, x2⟩ := liEnd_bd hl1 (lbGo_le _ _ _ (Nat.zero_le _)) (lbGo_tw _ _ _ (Nat.zero_le _)) hx
    refine ⟨h, fun y hy => ?_⟩
    cases hy
    exact ⟨(tk_ok2 hl (by omega)).1, x2⟩
  · rename_i t ht
    refine ⟨fun x hx => ?_, (fun x hx => by cases hx)⟩
    rcases List.mem_append.1 hx with hx | hx
    · exact h x hx
    · rw [List.mem_singleton] at hx
      subst hx
      obtain ⟨o0, o1⟩ := ops_has (tk (lnTok s).1 (lbGo (lnTok s).1 td.length ((lnTok s).1.length + 1) 0 lb).1).text
      exact want_TI hl h1 h2 o0 o1 (liEnd_inr ht)
theorem mkGo_TI : ∀ (ss : List ByteArray) (n : Nat) (lb : Lb) (td : List Told) (N : Int), ((n + ss.length : Nat) : Int) ≤ N → (∀ t ∈ td, TI N t) → (∀ t ∈ (mkGo ss n lb td).2.1, TI N t) ∧ ∀ x, (mkGo ss n lb td).2.2 = some x → 1 ≤ x.1 ∧ x.1 ≤ N ∧ 0 ≤ x.2.1 ∧ x.2.2 ≠ 0
  | [], n, lb, td, N, hN, h => ⟨h, (fun x hx => by cases hx)⟩
  | s :: ss, n, lb, td, N, hN, h => by
    rw [List.length_cons] at hN
    obtain ⟨a, b⟩ := lnStep_TI (s := s) (num := ((n + 1 : Nat) : Int)) (N := N) (lb := lb) (by omega) (by omega) h
    rw [mkGo]
    cases hq : lnStep s ((n + 1 : Nat) : Int) lb td with
    | mk lb' td' er =>
      rw [hq] at a b
      cases er with
      | some x =>
        obtain ⟨b1, b2⟩ := b x rfl
        exact ⟨a, fun y hy => by cases hy; exact ⟨by simp only; omega, by simp only; omega, b1, b2⟩⟩
      | none => exact mkGo_TI ss (n + 1) lb' td' N (by omega) a
theorem wdGo_TI {lb : Lb} {N : Int} : ∀ (td : List Told) (i : Nat) (ws : List Int), (∀ t ∈ td, TI N t) → (∀ w ∈ ws, okW w = true ∧ 0 ≤ w ∧ w < 4294967296) →
    (∀ w ∈ (wdGoM lb td i ws).1, okW w = true ∧ 0 ≤ w ∧ w < 4294967296) ∧ ∀ x, (wdGoM lb td i ws).2 = some x → 1 ≤ x.1 ∧ x.1 ≤ N ∧ 0 ≤ x.2.1 ∧ x.2.2 ≠ 0
  | [], i, ws, h, hw => ⟨hw, (fun x hx => by cases hx)⟩
  | t :: td, i, ws, h, hw => by
    have ht := h t (List.mem_cons_self ..)
    rw [wdGoM]
    cases hq : tdW lb i t with
    | inl w =>
      refine wdGo_TI td (i + 1) (ws ++ [w]) (fun x hx => h x (List.mem_cons_of_mem _ hx)) fun x hx => ?_
      rcases List.mem_append.1 hx with hx | hx
      · exact hw x hx
      · rw [List.mem_singleton] at hx
        subst hx
        unfold tdW at hq
        cases h1 : decide (t.label = ⟨#[]⟩) || lbHas lb t.label with
        | false => rw [h1] at hq; cases hq
        | true =>
          rw [h1, cond_true] at hq
          cases h2 : cmay t.op t.a t.b t.c (tdN lb i t) with
          | false => rw [h2] at hq; cases hq
          | true =>
            rw [h2, cond_true] at hq
            have e : putN t.op t.a t.b t.c (tdN lb i t) = x := Sum.inl.inj hq
            rw [← e]
            unfold putN
            rw [h2, cond_true]
            have := word_lt h2
            exact ⟨okW_word h2, this.1, this.2⟩
    | inr e =>
      refine ⟨hw, fun x hx => ?_⟩
      cases hx
      have key : (e = 212 ∧ t.label ≠ ⟨#[]⟩) ∨ (e = 5 ∧ cmay t.op t.a t.b t.c (tdN lb i t) = false) := by
        unfold tdW at hq
        cases h1 : decide (t.label = ⟨#[]⟩) || lbHas lb t.label with
        | false =>
          rw [h1] at hq
          cases hq
          simp only [Bool.or_eq_false_iff, decide_eq_false_iff_not] at h1
          exact .inl ⟨rfl, h1.1⟩
        | true =>
          rw [h1, cond_true] at hq
          cases h2 : cmay t.op t.a t.b t.c (tdN lb i t) with
          | false => rw [h2] at hq; cases hq; exact .inr ⟨rfl, rfl⟩
          | true => rw [h2] at hq; cases hq
      rcases ht with ⟨l1, l2, l3⟩ | ⟨l1, l2⟩
      · refine ⟨l1, l2, l3, ?_⟩
        rcases key with ⟨e, _⟩ | ⟨e, _⟩ <;> (simp only; omega)
      · rcases key with ⟨_, h⟩ | ⟨_, h⟩
        · exact absurd l1 h
        · unfold tdN at h
          rw [decide_eq_true l1, cond_true, l2] at h
          cases h
/-- What a text comes to: an error that is somewhere in it; or words of instructions, at most 1024. -/
theorem mkA_cases (s : ByteArray) : ((mkA s).ws = [] ∧ (mkA s).er ≠ 0 ∧ 1 ≤ (mkA s).line ∧ (mkA s).line ≤ (s.data.toList.count 10 : Int) + 1 ∧ 0 ≤ (mkA s).at_) ∨
    ((mkA s).er = 0 ∧ (mkA s).line = 0 ∧ (mkA s).at_ = 0 ∧ (mkA s).ws.length ≤ 1024 ∧ ∀ w ∈ (mkA s).ws, okW w = true ∧ 0 ≤ w ∧ w < 4294967296) := by
  have hN : (((splB s nlB).length : Nat) : Int) = (s.data.toList.count 10 : Int) + 1 := by
    have := splB_count s 10
    show (((splB s ⟨#[10]⟩).length : Nat) : Int) = _
    omega
  obtain ⟨a, b⟩ := mkGo_TI (splB s nlB) 0 [] [] (((splB s nlB).length : Nat) : Int) (by omega) (fun t h => by cases h)
  have ok := mkGo_ok (splB s nlB) 0 [] [] (fun t h => by cases h) (Nat.zero_le _)
  unfold mkA
  cases hq : mkGo (splB s nlB) 0 [] [] with
  | mk lb q =>
  obtain ⟨td, er⟩ := q
  rw [hq] at a b ok
  cases er with
  | some x =>
    obtain ⟨b1, b2, b3, b4⟩ := b x rfl
    exact .inl ⟨rfl, b4, b1, by show x.1 ≤ _; omega, b3⟩
  | none =>
    obtain ⟨c, d⟩ := wdGo_TI (lb := lb) td 0 [] a (fun w h => by cases h)
    show ((mkW lb td).ws = [] ∧ (mkW lb td).er ≠ 0 ∧ 1 ≤ (mkW lb td).line ∧ (mkW lb td).line ≤ (s.data.toList.count 10 : Int) + 1 ∧ 0 ≤ (mkW lb td).at_) ∨ ((mkW lb td).er = 0 ∧ (mkW lb td).line = 0 ∧ (mkW lb td).at_ = 0 ∧ (mkW lb td).ws.length ≤ 1024 ∧ ∀ w ∈ (mkW lb td).ws, okW w = true ∧ 0 ≤ w ∧ w < 4294967296)
    unfold mkW
    cases hw : wdGoM lb td 0 [] with
    | mk ws er =>
    rw [hw] at c d
    cases er with
    | some x =>
      obtain ⟨b1, b2, b3, b4⟩ := d x rfl
      exact .inl ⟨rfl, b4, b1, by show x.1 ≤ _; omega, b3⟩
    | none =>
      have hl := wdGoM_ne td 0 [] ws hw
      have hok : td.length ≤ 1024 := ok.2
      exact .inr ⟨rfl, rfl, rfl, by show ws.length ≤ 1024; simp at hl; omega, c⟩
end Go.Proofs.YtgohnfkidkomhaaDoor

noncomputable section
namespace Go.Proofs.YtgohnfkidkomhaaDoor
open Go.Proofs.YtgohnfkidkomhaaDoor.Ev Go.RowKit

/-! AsmTakes: true, of any text. -/
def cntI (s : ByteArray) : Int := (s.data.toList.count 10 : Int)
theorem wsF {ws : List Int} {i : Nat} (h : i < ws.length) : (symOf (wC ws)).okI .u32 (0 + i * 1) = true ∧ (symOf (wC ws)).int .u32 (0 + i * 1) = ws[i] := by
  have g : (wC ws)[0 + i * 1]? = some (.int .u32 ws[i]) := by
    unfold wC
    rw [Nat.zero_add, Nat.mul_one, List.getElem?_map, List.getElem?_eq_getElem h]
    rfl
  constructor
  · show cellIsI .u32 _ = true; rw [g]; rfl
  · show cellI _ = _; rw [g]; rfl
theorem makeN_at {gl : Gl} {m : Int} {u0 o0 u1 o1 : Nat} (hS : ∀ g k v, glS u0 o0 u1 o1 g k = some v → gl g k = some v) (hF : GlF gl) (hgl : Low gl) (hm : gl 1 0 = some (.int .i64 m)) {s : ByteArray} (hs : s.size ≤ 900000) (h : (mkA s).ws = []) : SubOK Tryd.prog gl 38 (mkN (atS [.string s] []) (mkA s).line (mkA s).at_ (mkA s).er) := by
  have := make_at hS hF hgl hm hs
  unfold mkAns at this
  rw [h] at this
  exact this
theorem makeK_at {gl : Gl} {m : Int} {u0 o0 u1 o1 : Nat} (hS : ∀ g k v, glS u0 o0 u1 o1 g k = some v → gl g k = some v) (hF : GlF gl) (hgl : Low gl) (hm : gl 1 0 = some (.int .i64 m)) {s : ByteArray} (hs : s.size ≤ 900000) (h : (mkA s).ws ≠ []) : SubOK Tryd.prog gl 38 (mkK (atS [.string s] []) (wC (mkA s).ws) (mkA s).ws.length) := by
  have hc := mkA_cases s
  have hk := make_at hS hF hgl hm hs
  unfold mkAns at hk
  rcases hc with ⟨e, _⟩ | ⟨e1, e2, e3, _⟩
  · exact absurd e h
  · cases hq : (mkA s).ws with
    | nil => exact absurd hq h
    | cons w ws =>
      rw [hq] at hk
      unfold mkT at hk
      rw [e1, e2, e3] at hk
      exact hk
theorem fn_w21 {gl : Gl} {m : Int} {u0 o0 u1 o1 : Nat} (hgl : Low gl) (h : ∀ g k v, glA m u0 o0 u1 o1 g k = some v → gl g k = some v) : FnOK Tryd.prog gl 37 afW := fn_memo hgl (memo_mono h (memo21 m u0 o0 u1 o1))
theorem cnt_le (s : ByteArray) : 0 ≤ cntI s ∧ cntI s ≤ (s.size : Int) := by
  have h2 := List.count_le_length (a := (10 : UInt8)) (l := s.data.toList)
  rw [data_len] at h2
  unfold cntI
  omega
end Go.Proofs.YtgohnfkidkomhaaDoor

noncomputable section
namespace Go.Proofs.YtgohnfkidkomhaaDoor
open Go.Proofs.YtgohnfkidkomhaaDoor.Ev Go.RowKit

/-! AsmRemarks: residuals. -/
def afHas (hs : ByteArray → Bool) : AF := fun args _ => match args with
  | [.string s, .string sep] => some (cl (sep = nlB), .bool (hs s))
  | _ => none
def mkFN (g : ByteArray → Bool) (x y e : ByteArray → Int) : Hd := fun vs rows => match vs, rows with
  | [.string s], [] => some (.br (g s) (.ret (.normal, [.tuple #[slN, .agg #[.int .i64 (x s), .int .i64 (y s)], .int .i64 (e s)]], [])) .fail)
  | _, _ => none
def mkFK (g : ByteArray → Bool) (ws : ByteArray → List Value) (n : ByteArray → Nat) : Hd := fun vs rows => match vs, rows with
  | [.string s], [] => some (.br (g s) (.ret (.normal, [.tuple #[slK0 1000 (n s), .agg #[.int .i64 0, .int .i64 0], .int .i64 0]], [wdRow (ws s)])) .fail)
  | _, _ => none
def HRm (mk : Hd) (hs : ByteArray → Bool) (lp : List (FuncId × List (Nat × LoopH))) : Hs := hsOf [(36, afHas hs), (37, afW)] [(38, mk)] lp
def rmLive : List Nat := [32, 1, 7, 2, 0, 31]
def rmOut : List Nat := [2, 0, 7]
def rmSt (r s : ByteArray) (k n i : Int) (t : ByteArray) : LSt := ([.int .u8 i, .string r, .string t, .int .u8 k, .string s, .int .u8 n], [])
def rmO (s : ByteArray) (k : Int) (t : ByteArray) : Out := (.exit 0, [.int .u8 k, .string s, .string t], [])
set_option maxRecDepth 100000 in
theorem r_rmL (gl : Gl) (r s : ByteArray) (k n i : Int) (t : ByteArray) : roundK noSy Tryd.prog gl exB HB0 100 40 40 11 0 rmLive (rmSt r s k n i t) (rndK Tryd.prog 1000 rmLive rmOut) =
 cond (decide (i < n)) (
 cond ((3 + r.size).ble 9223372036854775807) (
 cond ((((⟨#[32, 32, 35]⟩ : ByteArray) ++ r).size + 1).ble 9223372036854775807) (
 cond ((t.size + ((⟨#[32, 32, 35]⟩ : ByteArray) ++ r ++ (⟨#[10]⟩ : ByteArray)).size).ble 9223372036854775807) (
 some (.inl ([(.int IntKind.u8 (IntKind.u8.wrap (i + 1))), (.string (r)), (.string (t ++ ((⟨#[32, 32, 35]⟩ : ByteArray) ++ r ++ (⟨#[10]⟩ : ByteArray)))), (.int IntKind.u8 (k)), (.string (s)), (.int IntKind.u8 (n))], []))) (
 none)) (
 none)) (
 none)) (
 some (.inr (.exit 0, ([(.int IntKind.u8 (k)), (.string (s)), (.string (t))], [])))) := by kernel_rfl
def eqWLive : List Nat := [13, 1, 0, 12, 4]
def eqWSt (i : Int) (cs : List Value) (n : Nat) : LSt := ([.int .i64 i, slK0 1000 n, slK0 1001 n, .int .i64 (n : Int), .bool false], [wdRow cs, wdRow cs])
def eqWO (cs : List Value) : Out := (.exit 0, [.bool false], [wdRow cs, wdRow cs])
set_option maxRecDepth 100000 in
theorem r_eqW (gl : Gl) (i : Int) (cs : List Value) (n : Nat) : roundK (syE cs) Tryd.prog gl exB HB0 100 40 40 39 0 eqWLive (eqWSt i cs n) (rndK Tryd.prog 1002 eqWLive [4]) =
 cond (decide (i < (↑n : Int))) (
 cond (decide (0 ≤ i) && (decide (i < (↑n : Int))) && (n.ble n)) (
 cond (sameL cs cs) (
 cond ((symOf cs).okI IntKind.u32 (0 + i.toNat * 1)) (
 cond (decide (0 ≤ i) && (decide (i < (↑n : Int))) && (n.ble n)) (
 cond (sameL cs cs) (
 cond ((symOf cs).okI IntKind.u32 (0 + i.toNat * 1)) (
 cond ((symOf cs).int IntKind.u32 (0 + i.toNat * 1) != (symOf cs).int IntKind.u32 (0 + i.toNat * 1)) (
 cond (sameL cs cs) (
 cond ((symOf cs).okI IntKind.u32 (0 + i.toNat * 1)) (
 qs [(symOf cs).int IntKind.u32 (0 + i.toNat * 1)] (
 cond (sameL cs cs) (
 cond ((symOf cs).okI IntKind.u32 (0 + i.toNat * 1)) (
 qs [(symOf cs).int IntKind.u32 (0 + i.toNat * 1)] (
 cond (List.all cs (af 8) && (List.all cs (af 8) && true)) (
 some (.inr (.ret, ([(.bool false)], [some (.row ⟨cs, 29, (0, 0), 1, false, false⟩), some (.row ⟨cs, 29, (0, 0), 1, false, false⟩)])))) (
 none))) (
 none)) (
 none))) (
 none)) (
 none)) (
 cond (sameL cs cs) (
 cond ((symOf cs).okI IntKind.u32 (0 + i.toNat * 1)) (
 qs [(symOf cs).int IntKind.u32 (0 + i.toNat * 1)] (
 cond (sameL cs cs) (
 cond ((symOf cs).okI IntKind.u32 (0 + i.toNat * 1)) (
 qs [(symOf cs).int IntKind.u32 (0 + i.toNat * 1)] (
 cond (List.all cs (af 8) && (List.all cs (af 8) && true)) (
 some (.inl ([(.int IntKind.i64 (IntKind.i64.wrap (i + 1))), (.slice (some ⟨1000, 0, none⟩) (n) (n)), (.slice (some ⟨1001, 0, none⟩) (n) (n)), (.int IntKind.i64 ((↑n : Int))), (.bool false)], [some (.row ⟨cs, 29, (0, 0), 1, false, false⟩), some (.row ⟨cs, 29, (0, 0), 1, false, false⟩)]))) (
 none))) (
 none)) (
 none))) (
 none)) (
 none))) (
 none)) (
 none)) (
 none)) (
 none)) (
 none)) (
 none)) (
 cond (List.all cs (af 8) && (List.all cs (af 8) && true)) (
 some (.inr (.exit 0, ([(.bool false)], [some (.row ⟨cs, 29, (0, 0), 1, false, false⟩), some (.row ⟨cs, 29, (0, 0), 1, false, false⟩)])))) (
 none)) := by kernel_rfl
set_option maxRecDepth 100000 in
theorem r_rmN (gl : Gl) (hs : ByteArray → Bool) (g : ByteArray → Bool) (x y e : ByteArray → Int) (g2 : GS) (s r t : ByteArray) (k : Int) : callSK noSy Tryd.prog gl exB (HRm (mkFN g x y e) hs [(11, [(0, ⟨rmLive, rmOut, gH g2 (rmO s k t)⟩)])]) 100 40 40 (.fn 11) [.string s, .string r, .int .u8 k] LS.start flatR =
 cond (decide (IntKind.i64.wrap ((↑s.size : Int) + (↑r.size : Int)) > 30000)) (
 some (.bool true)) (
 cond (cl ((⟨#[10]⟩ : ByteArray) = nlB)) (
 cond (hs r) (
 some (.bool true)) (
 cond (decide ((↑r.size : Int) > 100)) (
 some (.bool true)) (
 cond (g2   [Value.int IntKind.u8 0, Value.string r, Value.string (⟨#[]⟩ : ByteArray), Value.int IntKind.u8 k, Value.string s,     Value.int IntKind.u8 (k.tmod 8)]   []) (
 cond (g s) (
 cond ((t.size + s.size).ble 9223372036854775807) (
 cond (g (t ++ s)) (
 cond (e s != 0) (
 cond (IntKind.i64.wrap (x s + IntKind.i64.wrap (k.tmod 8)) == x (t ++ s) && (y s == y (t ++ s) && true)) (
 cond (e s == e (t ++ s)) (
 some (.bool true)) (
 some (.bool false))) (
 some (.bool false))) (
 cond (x s == x (t ++ s) && (y s == y (t ++ s) && true)) (
 cond (e s == e (t ++ s)) (
 some (.bool true)) (
 some (.bool false))) (
 some (.bool false)))) (
 none)) (
 none)) (
 none)) (
 none)))) (
 none)) := by kernel_rfl
set_option maxRecDepth 100000 in
theorem r_rmK (gl : Gl) (hs : ByteArray → Bool) (g : ByteArray → Bool) (ws : ByteArray → List Value) (n : ByteArray → Nat) (g2 g3 : GS) (s r t : ByteArray) (k : Int) : callSK noSy Tryd.prog gl exB (HRm (mkFK g ws n) hs [(11, [(0, ⟨rmLive, rmOut, gH g2 (rmO s k t)⟩)]), (39, [(0, ⟨eqWLive, [4], gH g3 (eqWO (ws s))⟩)])]) 100 40 40 (.fn 11) [.string s, .string r, .int .u8 k] LS.start flatR =
 cond (decide (IntKind.i64.wrap ((↑s.size : Int) + (↑r.size : Int)) > 30000)) (
 some (.bool true)) (
 cond (cl ((⟨#[10]⟩ : ByteArray) = nlB)) (
 cond (hs r) (
 some (.bool true)) (
 cond (decide ((↑r.size : Int) > 100)) (
 some (.bool true)) (
 cond (g2   [Value.int IntKind.u8 0, Value.string r, Value.string (⟨#[]⟩ : ByteArray), Value.int IntKind.u8 k, Value.string s,     Value.int IntKind.u8 (k.tmod 8)]   []) (
 cond (g s) (
 cond (List.all (ws s) (af 8) && true) (
 cond ((t.size + s.size).ble 9223372036854775807) (
 cond (g (t ++ s)) (
 cond (List.all (ws (t ++ s)) (af 8) && true) (
 cond ((↑(n s) : Int) != (↑(n (t ++ s)) : Int)) (
 some (.bool false)) (
 cond (List.all (ws (t ++ s)) (af 8) && (List.all (ws s) (af 8) && true)) (
 cond (g3   [Value.int IntKind.i64 0, Value.slice (some (⟨1000, 0, none⟩ : Addr)) (n (t ++ s)) (n (t ++ s)),     Value.slice (some (⟨1001, 0, none⟩ : Addr)) (n s) (n s), goInt (↑(n s) : Int), Value.bool false]   [some (LObj.row { cells := ws (t ++ s), elem := 29, fz := (0, 0), esz := 1, ro := false, tail := false }),     some (LObj.row { cells := ws s, elem := 29, fz := (0, 0), esz := 1, ro := false, tail := false })]) (
 cond (List.all (ws s) (af 8) && (List.all (ws s) (af 8) && true)) (
 some (.bool true)) (
 none)) (
 none)) (
 none))) (
 none)) (
 none)) (
 none)) (
 none)) (
 none)) (
 none)))) (
 none)) := by kernel_rfl
end Go.Proofs.YtgohnfkidkomhaaDoor

noncomputable section
namespace Go.Proofs.YtgohnfkidkomhaaDoor
open Go.Proofs.YtgohnfkidkomhaaDoor.Ev Go.RowKit

/-! Lines of remarks ahead of a text. -/
def hashB : ByteArray := ⟨#[32, 32, 35]⟩
def rmLn (r : ByteArray) : ByteArray := hashB ++ r
def rmA (r : ByteArray) : Nat → ByteArray
  | 0 => ⟨#[]⟩
  | n + 1 => rmA r n ++ (rmLn r ++ nlB)
theorem app_asc (a b c : ByteArray) : (a ++ b) ++ c = a ++ (b ++ c) := ba_ext (by simp only [app_data, List.append_assoc])
theorem nil_app (a : ByteArray) : (⟨#[]⟩ : ByteArray) ++ a = a := ba_ext (by rw [app_data]; rfl)
theorem size_app (a b : ByteArray) : (a ++ b).size = a.size + b.size := by
  rw [← data_len, ← data_len a, ← data_len b, app_data, List.length_append]
theorem rmA_size (r : ByteArray) : ∀ n, (rmA r n).size = n * (r.size + 4)
  | 0 => by show 0 = _; omega
  | n + 1 => by
    show (rmA r n ++ (hashB ++ r ++ nlB)).size = _
    rw [size_app, size_app, size_app, rmA_size r n, Nat.succ_mul]
    show _ + (3 + r.size + 1) = _
    omega
theorem rmLn_no {r : ByteArray} (h : NoB 10 r) : NoB 10 (rmLn r) := by
  unfold NoB rmLn at *
  rw [app_data]
  intro e
  rcases List.mem_append.1 e with e | e
  · revert e
    show ¬ ((10 : UInt8) ∈ [(32 : UInt8), 32, 35])
    decide
  · exact h e
theorem rmA_split {r : ByteArray} (h : NoB 10 r) : ∀ (n : Nat) (s : ByteArray), splB (rmA r n ++ s) nlB = List.replicate n (rmLn r) ++ splB s nlB
  | 0, s => by
    show splB ((⟨#[]⟩ : ByteArray) ++ s) nlB = _
    rw [nil_app]
    rfl
  | n + 1, s => by
    show splB ((rmA r n ++ (rmLn r ++ nlB)) ++ s) nlB = _
    rw [app_asc, rmA_split h n, app_asc]
    show _ ++ splB (rmLn r ++ ((⟨#[10]⟩ : ByteArray) ++ s)) ⟨#[10]⟩ = _
    rw [splB_app s (rmLn_no h), List.replicate_succ', List.append_assoc]
    rfl
theorem rmLn_tok {r : ByteArray} (h : r.size ≤ 100) : (lnTok (rmLn r)).1 = [] ∧ (lnTok (rmLn r)).2.2 = 0 := by
  have hs : (rmLn r).size = 3 + r.size := by unfold rmLn; rw [size_app]; rfl
  have b : ∀ i : Int, 0 ≤ i → i < 3 → byteAt (rmLn r) i = byteAt hashB i := fun i h0 h1 => byteAt_l h0 (by show i < 3; exact h1)
  have t0 : tokS (rmLn r) 0 = .skip := by
    unfold tokS
    rw [if_pos (by rw [hs]; omega), b 0 (by decide) (by decide)]
    rfl
  have t1 : tokS (rmLn r) 1 = .skip := by
    unfold tokS
    rw [if_pos (by rw [hs]; omega), b 1 (by decide) (by decide)]
    rfl
  have t2 : tokS (rmLn r) 2 = .stop := by
    unfold tokS
    rw [if_pos (by rw [hs]; omega), b 2 (by decide) (by decide)]
    rfl
  have e : lnTok (rmLn r) = ([], 2, 0) := by
    unfold lnTok
    rw [decide_eq_false (by omega), cond_false]
    unfold lineC
    rw [hs, show 3 + r.size + 1 = (r.size + 1) + 1 + 1 + 1 by omega]
    rw [tokGo, t0]
    show tokGo _ _ (0 + 1) [] = _
    rw [tokGo, show (0 : Int) + 1 = 1 from rfl, t1]
    show tokGo _ _ (1 + 1) [] = _
    rw [tokGo, show (1 : Int) + 1 = 2 from rfl, t2]
  rw [e]
  exact ⟨rfl, rfl⟩
theorem rmLn_step {r : ByteArray} (h : r.size ≤ 100) (num : Int) (lb : Lb) (td : List Told) : lnStep (rmLn r) num lb td = ⟨lb, td, none⟩ := by
  obtain ⟨e1, e2⟩ := rmLn_tok h
  unfold lnStep
  rw [if_neg (by rw [e2]; exact fun h => h rfl), if_pos e1]
theorem rm_go {r : ByteArray} (h : r.size ≤ 100) : ∀ (k : Nat) (ss : List ByteArray) (n : Nat) (lb : Lb) (td : List Told), mkGo (List.replicate k (rmLn r) ++ ss) n lb td = mkGo ss (n + k) lb td
  | 0, ss, n, lb, td => rfl
  | k + 1, ss, n, lb, td => by
    rw [List.replicate_succ, List.cons_append, mkGo, rmLn_step h]
    show mkGo _ (n + 1) lb td = _
    rw [rm_go h k ss (n + 1) lb td, show n + 1 + k = n + (k + 1) by omega]
/-! Lines' numbers, shifted. -/
/-- The same instruction, its line's number k more, or in no line in both. -/
def Sh (k : Int) (t u : Told) : Prop := u = { t with line := u.line } ∧ (u.line = t.line + k ∨ (t.line = 0 ∧ u.line = 0))
inductive ShL (k : Int) : List Told → List Told → Prop
  | nil : ShL k [] []
  | cons {t u l m} : Sh k t u → ShL k l m → ShL k (t :: l) (u :: m)
theorem ShL.len {k : Int} {l m : List Told} (h : ShL k l m) : m.length = l.length := by
  induction h with
  | nil => rfl
  | cons _ _ ih => rw [List.length_cons, List.length_cons, ih]
theorem ShL.snoc {k : Int} {l m : List Told} (h : ShL k l m) {t u : Told} (ht : Sh k t u) : ShL k (l ++ [t]) (m ++ [u]) := by
  induction h with
  | nil => exact .cons ht .nil
  | cons h1 _ ih => exact .cons h1 ih
/-- The same error, or the same instruction. -/
def ShR (k : Int) (a b : LiR) : Prop := (∃ x, a = .inl x ∧ b = .inl x) ∨ ∃ t u, a = .inr t ∧ b = .inr u ∧ Sh k t u
theorem Sh.put {k : Int} {t u : Told} (h : Sh k t u) (r : Nat) (x : Int) : Sh k (t.put r x) (u.put r x) := by
  obtain ⟨h1, h2⟩ := h
  unfold Told.put
  split
  · exact ⟨by rw [h1], h2⟩
  · exact ⟨by rw [h1], h2⟩
  · exact ⟨by rw [h1], h2⟩
theorem shR_e {k : Int} (x : Int × Int) : ShR k (.inl x) (.inl x) := .inl ⟨x, rfl, rfl⟩
theorem shR_c {k : Int} {b : Bool} {a a' c c' : LiR} (h1 : ShR k a a') (h2 : ShR k c c') : ShR k (cond b a c) (cond b a' c') := by cases b <;> assumption
theorem wantOne_sh {k : Int} {l : List Tok} {num w : Int} {j r : Nat} {t u : Told} (h : Sh k t u) {f g : Nat → Told → LiR} (hf : ∀ r t u, Sh k t u → ShR k (f r t) (g r u)) : ShR k (wantOne l num w j r t f) (wantOne l (num + k) w j r u g) := by
  have h1 := h.1
  unfold wantOne
  refine shR_c (shR_e _) (shR_c (shR_c (hf _ _ _ (h.put _ _)) (shR_e _)) (shR_c (hf _ _ _ ?_) (shR_c (hf _ _ _ ?_) (shR_e _))))
  · exact ⟨by rw [h1], .inl rfl⟩
  · exact ⟨by rw [h1], .inl rfl⟩
theorem wantGo_sh {k : Int} {l : List Tok} {num : Int} : ∀ (ws : List Int) (b : Bool) (i r : Nat) (t u : Told), Sh k t u → ShR k (wantGo l num ws b i r t) (wantGo l (num + k) ws b i r u)
  | [], b, i, r, t, u, h => by
    rw [wantGo, wantGo]
    exact shR_c (.inr ⟨t, u, rfl, rfl, h⟩) (shR_e _)
  | w :: ws, true, i, r, t, u, h => by
    rw [wantGo, wantGo]
    exact wantOne_sh h fun r t u h => wantGo_sh ws false (i + 1) r t u h
  | w :: ws, false, i, r, t, u, h => by
    rw [wantGo, wantGo]
    exact shR_c (shR_e _) (shR_c (wantOne_sh h fun r t u h => wantGo_sh ws false (i + 1 + 1) r t u h) (shR_e _))
theorem liRes_sh (k : Int) (l : List Tok) (num : Int) (es : MEs) (ws : List Int) (n i : Nat) : ShR k (liRes l num es ws n i) (liRes l (num + k) es ws n i) := by
  unfold liRes
  exact shR_c (shR_c (shR_c (shR_e _) (wantGo_sh _ _ _ _ _ _ ⟨rfl, .inr ⟨rfl, rfl⟩⟩)) (shR_e _)) (shR_e _)
theorem liEnd_sh (k : Int) (l : List Tok) (num : Int) {td td' : List Told} (h : ShL k td td') (r : Nat × Lb × Bool) : (liEnd l num td r = .inr () ∧ liEnd l (num + k) td' r = .inr ()) ∨ ∃ a b, liEnd l num td r = .inl a ∧ liEnd l (num + k) td' r = .inl b ∧ ShR k a b := by
  unfold liEnd
  cases r.2.2 with
  | true => exact .inr ⟨_, _, rfl, rfl, shR_e _⟩
  | false =>
    rw [cond_false, cond_false]
    cases decide (r.1 = l.length) with
    | true => exact .inl ⟨rfl, rfl⟩
    | false =>
      refine .inr ⟨_, _, rfl, rfl, ?_⟩
      rw [h.len]
      exact liRes_sh k l num _ _ _ _
theorem lnStep_sh (k : Int) (s : ByteArray) (num : Int) (lb : Lb) {td td' : List Told} (h : ShL k td td') : (lnStep s (num + k) lb td').lb = (lnStep s num lb td).lb ∧ (lnStep s (num + k) lb td').er = (lnStep s num lb td).er ∧ ShL k (lnStep s num lb td).td (lnStep s (num + k) lb td').td := by
  unfold lnStep
  rw [h.len]
  by_cases h1 : (lnTok s).2.2 ≠ 0
  · rw [if_pos h1, if_pos h1]
    exact ⟨rfl, rfl, h⟩
  rw [if_neg h1, if_neg h1]
  by_cases h2 : (lnTok s).1 = []
  · rw [if_pos h2, if_pos h2]
    exact ⟨rfl, rfl, h⟩
  rw [if_neg h2, if_neg h2]
  rcases liEnd_sh k (lnTok s).1 num h (lbGo (lnTok s).1 td.length ((lnTok s).1.length + 1) 0 lb) with ⟨e1, e2⟩ | ⟨a, b, e1, e2, ⟨x, rfl, rfl⟩ | ⟨t, u, rfl, rfl, hs⟩⟩
  · rw [e1, e2]; exact ⟨rfl, rfl, h⟩
  · rw [e1, e2]; exact ⟨rfl, rfl, h⟩
  · rw [e1, e2]; exact ⟨rfl, rfl, h.snoc hs⟩
theorem mkGo_sh (k : Nat) : ∀ (ss : List ByteArray) (n : Nat) (lb : Lb) (td td' : List Told), ShL (k : Int) td td' →
    (mkGo ss (n + k) lb td').1 = (mkGo ss n lb td).1 ∧ ShL (k : Int) (mkGo ss n lb td).2.1 (mkGo ss (n + k) lb td').2.1 ∧ (mkGo ss (n + k) lb td').2.2 = (mkGo ss n lb td).2.2.map fun x => (x.1 + (k : Int), x.2)
  | [], n, lb, td, td', h => ⟨rfl, h, rfl⟩
  | s :: ss, n, lb, td, td', h => by
    have hs := lnStep_sh (k : Int) s ((n + 1 : Nat) : Int) lb h
    rw [mkGo, mkGo, show ((n + k + 1 : Nat) : Int) = ((n + 1 : Nat) : Int) + (k : Int) by omega]
    cases hq : lnStep s ((n + 1 : Nat) : Int) lb td with
    | mk lb1 td1 er =>
    rw [hq] at hs
    obtain ⟨h1, h2, h3⟩ := hs
    cases hq2 : lnStep s (((n + 1 : Nat) : Int) + (k : Int)) lb td' with
    | mk lb2 td2 er2 =>
    rw [hq2] at h1 h2 h3
    simp only at h1 h2 h3
    subst h1 h2
    cases er2 with
    | some x => exact ⟨rfl, h3, rfl⟩
    | none =>
      have := mkGo_sh k ss (n + 1) lb2 td1 td2 h3
      rw [show n + 1 + k = n + k + 1 by omega] at this
      exact this
theorem tdW_sh {k : Int} {lb : Lb} {i : Nat} {t u : Told} (h : Sh k t u) : tdW lb i u = tdW lb i t := by
  rw [h.1]
  rfl
theorem tdW_TI {N : Int} {lb : Lb} {i : Nat} {t : Told} (ht : TI N t) {e : Int} (h : tdW lb i t = .inr e) : 1 ≤ t.line := by
  rcases ht with ⟨h1, _⟩ | ⟨l1, l2⟩
  · exact h1
  · unfold tdW at h
    rw [decide_eq_true l1, Bool.true_or, cond_true] at h
    unfold tdN at h
    rw [decide_eq_true l1, cond_true, l2] at h
    cases h
theorem wdGo_sh {k : Int} {N : Int} {lb : Lb} {td td' : List Told} (h : ShL k td td') : ∀ (i : Nat) (ws : List Int), (∀ t ∈ td, TI N t) → wdGoM lb td' i ws = ((wdGoM lb td i ws).1, (wdGoM lb td i ws).2.map fun x => (x.1 + k, x.2)) := by
  induction h with
  | nil => intro i ws _; rfl
  | @cons t u l m h1 _ ih =>
    intro i ws ht
    rw [wdGoM, wdGoM, tdW_sh h1]
    cases hq : tdW lb i t with
    | inl w => exact ih (i + 1) (ws ++ [w]) fun x hx => ht x (List.mem_cons_of_mem _ hx)
    | inr e =>
      have h2 := tdW_TI (ht t (List.mem_cons_self ..)) hq
      have h3 : u.line = t.line + k := by
        rcases h1.2 with h | ⟨h, _⟩
        · exact h
        · omega
      have h4 : u.at_ = t.at_ := by rw [h1.1]
      show (ws, some (u.line, u.at_, e)) = (ws, some (t.line + k, t.at_, e))
      rw [h3, h4]
/-- Behind k lines of remarks the same words are made; an error is k lines further on. -/
theorem rm_mkA {r : ByteArray} (hn : NoB 10 r) (hr : r.size ≤ 100) (k : Nat) (s : ByteArray) : mkA (rmA r k ++ s) = { mkA s with line := if (mkA s).er ≠ 0 then (mkA s).line + (k : Int) else (mkA s).line } := by
  obtain ⟨a, b⟩ := mkGo_TI (splB s nlB) 0 [] [] (((splB s nlB).length : Nat) : Int) (by omega) (fun t h => by cases h)
  have c := mkGo_sh k (splB s nlB) 0 [] [] [] .nil
  have e : mkGo (splB (rmA r k ++ s) nlB) 0 [] [] = mkGo (splB s nlB) (0 + k) [] [] := by rw [rmA_split hn, rm_go hr]
  have hc := mkA_cases s
  unfold mkA at hc ⊢
  rw [e]
  cases hq : mkGo (splB s nlB) 0 [] [] with
  | mk lb q =>
  obtain ⟨td, er⟩ := q
  cases hq2 : mkGo (splB s nlB) (0 + k) [] [] with
  | mk lb2 q =>
  obtain ⟨td2, er2⟩ := q
  rw [hq] at a b c hc
  rw [hq2] at c
  obtain ⟨c1, c2, c3⟩ := c
  simp only at a b c1 c2 c3 hc ⊢
  subst c1 c3
  cases er with
  | some x =>
    obtain ⟨_, _, _, b4⟩ := b x rfl
    show (⟨[], x.1 + (k : Int), x.2.1, x.2.2⟩ : MkA) = ⟨[], if x.2.2 ≠ 0 then x.1 + (k : Int) else x.1, x.2.1, x.2.2⟩
    rw [if_pos b4]
  | none =>
    show mkW lb2 td2 = { mkW lb2 td with line := if (mkW lb2 td).er ≠ 0 then (mkW lb2 td).line + (k : Int) else (mkW lb2 td).line }
    have w := wdGo_sh (lb := lb2) c2 0 [] a
    have d := (wdGo_TI (lb := lb2) td 0 [] a (fun w h => by cases h)).2
    unfold mkW
    rw [w]
    cases hw : wdGoM lb2 td 0 [] with
    | mk ws er =>
    rw [hw] at d
    cases er with
    | none => rfl
    | some x =>
      obtain ⟨_, _, _, d4⟩ := d x rfl
      show (⟨[], x.1 + (k : Int), x.2.1, x.2.2⟩ : MkA) = ⟨[], if x.2.2 ≠ 0 then x.1 + (k : Int) else x.1, x.2.1, x.2.2⟩
      rw [if_pos d4]
end Go.Proofs.YtgohnfkidkomhaaDoor

noncomputable section
namespace Go.Proofs.YtgohnfkidkomhaaDoor
open Go.Proofs.YtgohnfkidkomhaaDoor.Ev Go.RowKit

/-! AsmRemarks: true, of any two texts and any number. -/
def hasN (s : ByteArray) : Bool := decide (0 ≤ Lib.indexByte s.data.toList 10)
theorem hasN_no {s : ByteArray} (h : hasN s = false) : NoB 10 s := by
  have h1 := of_decide_eq_false h
  have h2 := Lib.indexByte_ge s.data.toList 10
  intro e
  obtain ⟨k, hk⟩ := List.getElem?_of_mem e
  exact Lib.indexByte_none (show Lib.indexByte s.data.toList 10 = -1 by omega) k hk
theorem fn_has {gl : Gl} (hgl : Low gl) : FnOK Tryd.prog gl 36 (afHas hasN) := FnOK.flat hgl tglob fun args σ v h => by
  unfold afHas at h
  split at h
  · rename_i s sep
    simp only [Option.some.injEq, Prod.mk.injEq] at h
    obtain ⟨h1, rfl⟩ := h
    have e := of_cl h1
    subst e
    refine ⟨rfl, rfl, fun w _ => Calls.mono (Tryd.strings_Contains_one s 10 w) ?_⟩
    rintro e w' ⟨rfl, rfl⟩
    exact ⟨rfl, Below.refl _ _⟩
  · cases h
def mkX (s : ByteArray) : Int := (mkA s).line
def mkY (s : ByteArray) : Int := (mkA s).at_
def mkE (s : ByteArray) : Int := (mkA s).er
def mkVs (s : ByteArray) : List Value := wC (mkA s).ws
def mkLn (s : ByteArray) : Nat := (mkA s).ws.length
def gNil (s : ByteArray) : Bool := decide (s.size ≤ 900000) && cl ((mkA s).ws = [])
def gNot (s : ByteArray) : Bool := decide (s.size ≤ 900000) && cl ((mkA s).ws ≠ [])
theorem mkFN_ok {gl : Gl} {m : Int} {u0 o0 u1 o1 : Nat} (hS : ∀ g k v, glS u0 o0 u1 o1 g k = some v → gl g k = some v) (hF : GlF gl) (hgl : Low gl) (hm : gl 1 0 = some (.int .i64 m)) : SubOK Tryd.prog gl 38 (mkFN gNil mkX mkY mkE) := by
  intro vs rows t e v rows' h1 h2
  unfold mkFN at h1
  split at h1
  · rename_i s
    cases h1
    obtain ⟨c, h3⟩ := brT h2
    have hg := c
    unfold gNil at c
    simp only [Bool.and_eq_true, decide_eq_true_eq] at c
    exact makeN_at hS hF hgl hm c.1 (of_cl c.2) _ _ _ e v rows' rfl (show cond (atS [.string s] [] [.string s] []) _ _ = _ by rw [atS_self, cond_true]; exact h3)
  · cases h1
theorem mkFK_ok {gl : Gl} {m : Int} {u0 o0 u1 o1 : Nat} (hS : ∀ g k v, glS u0 o0 u1 o1 g k = some v → gl g k = some v) (hF : GlF gl) (hgl : Low gl) (hm : gl 1 0 = some (.int .i64 m)) : SubOK Tryd.prog gl 38 (mkFK gNot mkVs mkLn) := by
  intro vs rows t e v rows' h1 h2
  unfold mkFK at h1
  split at h1
  · rename_i s
    cases h1
    obtain ⟨c, h3⟩ := brT h2
    have hg := c
    unfold gNot at c
    simp only [Bool.and_eq_true, decide_eq_true_eq] at c
    exact makeK_at hS hF hgl hm c.1 (of_cl c.2) _ _ _ e v rows' rfl (show cond (atS [.string s] [] [.string s] []) _ _ = _ by rw [atS_self, cond_true]; exact h3)
  · cases h1
theorem rm_loop {gl : Gl} (hgl : Low gl) {r s : ByteArray} {k : Int} {n : Nat} (hr : r.size ≤ 100) (hn : n ≤ 8) :
    LpOK Tryd.prog gl 11 0 ⟨rmLive, rmOut, gH (atS (rmSt r s k (n : Int) 0 ⟨#[]⟩).1 (rmSt r s k (n : Int) 0 ⟨#[]⟩).2) (rmO s k (rmA r n))⟩ :=
  loop_here goodB hgl tglob (by show 1000 ≤ most; decide) ⟨{i : Nat // i ≤ n}, fun i => rmSt r s k (n : Int) ((i.1 : Nat) : Int) (rmA r i.1), fun _ => some (rmO s k (rmA r n)), fun i => n - i.1, ⟨0, Nat.zero_le _⟩, rfl, rfl, by
    rintro ⟨i, hi⟩ o ho
    simp only at hi ho
    cases ho
    by_cases h : i = n
    · subst h
      refine ⟨noSy, HB0, 100, 40, 40, .inr (rmO s k (rmA r i)), noSy_ok, HB0_ok, ?_, rfl⟩
      exact (r_rmL gl r s k (i : Int) (i : Int) (rmA r i)).trans (condE (decide_eq_false (by omega)) rfl)
    · refine ⟨noSy, HB0, 100, 40, 40, .inl (rmSt r s k (n : Int) ((i + 1 : Nat) : Int) (rmA r (i + 1))), noSy_ok, HB0_ok, ?_, ⟨i + 1, by omega⟩, rfl, (by show n - (i + 1) < n - i; omega), rfl⟩
      have w : IntKind.u8.wrap ((i : Int) + 1) = ((i + 1 : Nat) : Int) := by rw [wrap_u8 (by omega) (by omega)]; omega
      have z := rmA_size r i
      have z2 : i * (r.size + 4) ≤ 8 * 104 := Nat.mul_le_mul (by omega) (by omega)
      refine (r_rmL gl r s k (n : Int) (i : Int) (rmA r i)).trans (condI (decide_eq_true (by omega)) (condI (nble (by omega)) (condI (nble ?_) (condI (nble ?_) ?_))))
      · rw [size_app]; show 3 + r.size + 1 ≤ _; omega
      · rw [size_app, size_app]; show (rmA r i).size + (3 + r.size + 1) ≤ _; omega
      · rw [w]; rfl⟩
theorem eqW_loop {gl : Gl} (hgl : Low gl) {ws : List Int} (hl : ws.length ≤ 1024) :
    LpOK Tryd.prog gl 39 0 ⟨eqWLive, [4], gH (atS (eqWSt 0 (wC ws) ws.length).1 (eqWSt 0 (wC ws) ws.length).2) (eqWO (wC ws))⟩ :=
  loop_here goodB hgl tglob (by show 1002 ≤ most; decide) ⟨{i : Nat // i ≤ ws.length}, fun i => eqWSt ((i.1 : Nat) : Int) (wC ws) ws.length, fun _ => some (eqWO (wC ws)), fun i => ws.length - i.1, ⟨0, Nat.zero_le _⟩, rfl, rfl, by
    rintro ⟨i, hi⟩ o ho
    simp only at hi ho
    cases ho
    have al := andI (wC_all ws) (andI (wC_all ws) (show true = true from rfl))
    by_cases h : i = ws.length
    · subst h
      refine ⟨syE (wC ws), HB0, 100, 40, 40, .inr (eqWO (wC ws)), syE_ok _, HB0_ok, ?_, rfl⟩
      exact (r_eqW gl ((ws.length : Nat) : Int) (wC ws) ws.length).trans (condE (decide_eq_false (by omega)) (condI al rfl))
    · have hi2 : i < ws.length := by omega
      refine ⟨syE (wC ws), HB0, 100, 40, 40, .inl (eqWSt ((i + 1 : Nat) : Int) (wC ws) ws.length), syE_ok _, HB0_ok, ?_, ⟨i + 1, by omega⟩, rfl, (by show ws.length - (i + 1) < ws.length - i; omega), rfl⟩
      obtain ⟨o, v⟩ := wsF hi2
      have w : IntKind.i64.wrap ((i : Int) + 1) = ((i + 1 : Nat) : Int) := wrapS (by omega)
      have b : (decide (0 ≤ (i : Int)) && decide ((i : Int) < (ws.length : Int)) && ws.length.ble ws.length) = true := by rw [d0N, decide_eq_true (show (i : Int) < (ws.length : Int) by omega), nble (Nat.le_refl _)]; rfl
      refine (r_eqW gl (i : Int) (wC ws) ws.length).trans ?_
      simp only [Int.toNat_natCast, w, qs_eq]
      exact condI (decide_eq_true (by omega)) (condI b (condI (sameL_self _) (condI o (condI b (condI (sameL_self _) (condI o (condE (by simp) (condI (sameL_self _) (condI o (condI (sameL_self _) (condI o (condI al rfl))))))))))))⟩
theorem HRm_ok (m : Int) (u0 o0 u1 o1 : Nat) {mk : Hd} {lp : List (FuncId × List (Nat × LoopH))} (h1 : SubOK Tryd.prog (glA m u0 o0 u1 o1) 38 mk) (h2 : ∀ p ∈ lp, ∀ q ∈ p.2, LpOK Tryd.prog (glA m u0 o0 u1 o1) p.1 q.1 q.2) : (HRm mk hasN lp).OK Tryd.prog (glA m u0 o0 u1 o1) := hsOf_ok (fun p h => by
    simp only [List.mem_cons, List.not_mem_nil, or_false] at h
    rcases h with rfl | rfl
    · exact fn_has (glA_low m u0 o0 u1 o1)
    · exact fn_w21 (glA_low m u0 o0 u1 o1) fun g k v h => h) (fun p h => by
    simp only [List.mem_cons, List.not_mem_nil, or_false] at h
    subst h
    exact h1) h2
theorem wrapSz {a b : Nat} (ha : a ≤ 140737488351232) (hb : b ≤ 140737488351232) : IntKind.i64.wrap ((a : Int) + (b : Int)) = (a : Int) + (b : Int) := wrap_64 (by omega) (by omega)
theorem asmRemarks_calls (m : Int) (u0 o0 u1 o1 : Nat) (s r : ByteArray) {k : Int} (hs : s.size ≤ 140737488351232) (hr : r.size ≤ 140737488351232) (hk : (Lit.int .u8 k).wf = true) {W : World} (hw : Ready Tryd.prog (glA m u0 o0 u1 o1) W) : Calls Tryd.prog 11 #[.string s, .string r, .int .u8 k] W (fun e W' => e = .returned (.bool true) ∧ Below W.heap.size W W') := by
  have hgl := glA_low m u0 o0 u1 o1
  have hS := glA_S (m := m) (u0 := u0) (o0 := o0) (u1 := u1) (o1 := o1)
  have hF := glA_F m u0 o0 u1 o1
  have hm := glA_m m u0 o0 u1 o1
  obtain ⟨k0, k1⟩ := u8_bounds hk
  have ht : 0 ≤ k.tmod 8 ∧ k.tmod 8 < 8 := ⟨Int.tmod_nonneg 8 k0, Int.tmod_lt_of_pos k (by decide)⟩
  obtain ⟨n, hn⟩ : ∃ n : Nat, k.tmod 8 = (n : Int) := ⟨(k.tmod 8).toNat, by omega⟩
  have n8 : n ≤ 8 := by omega
  have wz := wrapSz hs hr
  by_cases hd : (decide (IntKind.i64.wrap ((s.size : Int) + (r.size : Int)) > 30000) || (hasN r || decide ((r.size : Int) > 100))) = true
  · refine flatS noSy_ok goodB hgl tglob (HRm_ok m u0 o0 u1 o1 (lp := [(11, [(0, ⟨rmLive, rmOut, gH (fun _ _ => false) (rmO s k s)⟩)])]) (mkFN_ok hS hF hgl hm) (fun p hp q hq => ?_)) rfl ((r_rmN _ _ gNil mkX mkY mkE (fun _ _ => false) s r s k).trans ?_) hw
    · simp only [List.mem_cons, List.not_mem_nil, or_false] at hp
      subst hp
      simp only [List.mem_cons, List.not_mem_nil, or_false] at hq
      subst hq
      exact loop_ofT goodB hgl tglob fun vs rows t o h1 h2 => by
        cases h1
        obtain ⟨c, _⟩ := brT h2
        cases c
    · cases c1 : decide (IntKind.i64.wrap ((s.size : Int) + (r.size : Int)) > 30000) with
      | true => rfl
      | false =>
        rw [cond_false]
        refine condI (cl_t rfl) ?_
        cases c2 : hasN r with
        | true => rfl
        | false =>
          rw [c1, c2] at hd
          exact condE rfl (condI (by simpa using hd) rfl)
  simp only [Bool.not_eq_true, Bool.or_eq_false_iff] at hd
  obtain ⟨c1, c2, c3⟩ := hd
  have hr2 : r.size ≤ 100 := by have := of_decide_eq_false c3; omega
  have hs2 : s.size ≤ 30000 := by
    rw [wz] at c1
    have := of_decide_eq_false c1
    omega
  have hz : (rmA r n ++ s).size ≤ 900000 := by
    have z := rmA_size r n
    have z2 : n * (r.size + 4) ≤ 8 * 104 := Nat.mul_le_mul n8 (by omega)
    rw [size_app]; omega
  have hz2 : (rmA r n).size + s.size ≤ 9223372036854775807 := by rw [← size_app]; omega
  have q := rm_mkA (hasN_no c2) hr2 n s
  have qw : (mkA (rmA r n ++ s)).ws = (mkA s).ws := by rw [q]
  have qv : mkVs (rmA r n ++ s) = mkVs s := by unfold mkVs; rw [qw]
  have ql : mkLn (rmA r n ++ s) = mkLn s := by unfold mkLn; rw [qw]
  have qe : mkE (rmA r n ++ s) = mkE s := by unfold mkE; rw [q]
  have qy : mkY (rmA r n ++ s) = mkY s := by unfold mkY; rw [q]
  have qx : mkX (rmA r n ++ s) = if mkE s ≠ 0 then mkX s + (n : Int) else mkX s := by unfold mkX; rw [q]; rfl
  have a0 : atS (rmSt r s k (n : Int) 0 ⟨#[]⟩).1 (rmSt r s k (n : Int) 0 ⟨#[]⟩).2 [Value.int IntKind.u8 0, Value.string r, Value.string (⟨#[]⟩ : ByteArray), Value.int IntKind.u8 k, Value.string s, Value.int IntKind.u8 (k.tmod 8)] [] = true := by rw [hn]; exact atS_self _ _
  by_cases hN : (mkA s).ws = []
  · have g1 : gNil s = true := by unfold gNil; rw [decide_eq_true (by omega), cl_t hN]; rfl
    have g2 : gNil (rmA r n ++ s) = true := by unfold gNil; rw [decide_eq_true hz, cl_t (qw.trans hN)]; rfl
    refine flatS noSy_ok goodB hgl tglob (HRm_ok m u0 o0 u1 o1 (lp := [(11, [(0, ⟨rmLive, rmOut, gH (atS (rmSt r s k (n : Int) 0 ⟨#[]⟩).1 (rmSt r s k (n : Int) 0 ⟨#[]⟩).2) (rmO s k (rmA r n))⟩)])]) (mkFN_ok hS hF hgl hm) (fun p hp q hq => ?_)) rfl ((r_rmN _ _ gNil mkX mkY mkE _ s r (rmA r n) k).trans (condE c1 (condI (cl_t rfl) (condE c2 (condE c3 (condI a0 (condI g1 (condI (nble hz2) (condI g2 ?_)))))))) ) hw
    · simp only [List.mem_cons, List.not_mem_nil, or_false] at hp
      subst hp
      simp only [List.mem_cons, List.not_mem_nil, or_false] at hq
      subst hq
      exact rm_loop hgl hr2 n8
    · rw [qe, qy, qx]
      by_cases he : mkE s = 0
      · rw [if_neg (fun h => h he), he]
        simp
      · rw [if_pos he]
        have hx : 1 ≤ mkX s ∧ mkX s ≤ 30001 := by
          obtain ⟨d0, d1⟩ := cnt_le s
          unfold cntI at d0 d1
          rcases mkA_cases s with ⟨_, _, l1, l2, _⟩ | ⟨e, _⟩
          · exact ⟨l1, by unfold mkX; omega⟩
          · exact absurd e he
        have w1 : IntKind.i64.wrap (k.tmod 8) = (n : Int) := by rw [hn]; exact wrap_64 (by omega) (by omega)
        have w2 : IntKind.i64.wrap (mkX s + (n : Int)) = mkX s + (n : Int) := wrap_64 (by omega) (by omega)
        rw [w1, w2]
        exact condI (by simpa using he) (condI (by simp) (condI (by simp) rfl))
  · have hc : (mkA s).ws.length ≤ 1024 := by
      rcases mkA_cases s with ⟨e, _⟩ | ⟨_, _, _, h1, _⟩
      · exact absurd e hN
      · exact h1
    have g1 : gNot s = true := by unfold gNot; rw [decide_eq_true (by omega), cl_t hN]; rfl
    have g2 : gNot (rmA r n ++ s) = true := by unfold gNot; rw [decide_eq_true hz, cl_t (by rw [qw]; exact hN)]; rfl
    have al : (mkVs s).all (af 8) = true := wC_all _
    refine flatS noSy_ok goodB hgl tglob (HRm_ok m u0 o0 u1 o1 (lp := [(11, [(0, ⟨rmLive, rmOut, gH (atS (rmSt r s k (n : Int) 0 ⟨#[]⟩).1 (rmSt r s k (n : Int) 0 ⟨#[]⟩).2) (rmO s k (rmA r n))⟩)]), (39, [(0, ⟨eqWLive, [4], gH (atS (eqWSt 0 (mkVs s) (mkLn s)).1 (eqWSt 0 (mkVs s) (mkLn s)).2) (eqWO (mkVs s))⟩)])]) (mkFK_ok hS hF hgl hm) (fun p hp q hq => ?_)) rfl ((r_rmK _ _ gNot mkVs mkLn _ _ s r (rmA r n) k).trans (condE c1 (condI (cl_t rfl) (condE c2 (condE c3 (condI a0 (condI g1 (condI (andI al rfl) (condI (nble hz2) (condI g2 ?_)))))))))) hw
    · simp only [List.mem_cons, List.not_mem_nil, or_false] at hp
      rcases hp with rfl | rfl
      · simp only [List.mem_cons, List.not_mem_nil, or_false] at hq
        subst hq
        exact rm_loop hgl hr2 n8
      · simp only [List.mem_cons, List.not_mem_nil, or_false] at hq
        subst hq
        exact eqW_loop hgl hc
    · rw [qv, ql]
      exact condI (andI al rfl) (condE (by simp) (condI (andI al (andI al rfl)) (condI (atS_self _ _) (condI (andI al (andI al rfl)) rfl))))
end Go.Proofs.YtgohnfkidkomhaaDoor
