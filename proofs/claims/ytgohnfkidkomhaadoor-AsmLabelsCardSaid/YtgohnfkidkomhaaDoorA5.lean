/- What is made of a text: words of instructions, or an error that is somewhere in it; what a label is called. AsmLabels answers true, of any two texts and any number, where the listed variables stand as the program's text lays them. -/
import Derived.Test.YtgohnfkidkomhaaDoorA4
noncomputable section
noncomputable section
namespace Go.Proofs.YtgohnfkidkomhaaDoor
open Go.Proofs.YtgohnfkidkomhaaDoor.Ev Go.RowKit

/-! The listed variables of the laws on texts that are made. -/
def glA (m : Int) (u0 o0 u1 o1 : Nat) : Gl := glOf [(4, [.iface u0 (.pointer (some ⟨900, o0, none⟩))]), (3, [.iface u1 (.pointer (some ⟨901, o1, none⟩))]), (2, pow10L.map (.int .u64)), (0, formsL.map (.int .i64)), (1, [.int .i64 m])]
theorem glA_low (m : Int) (u0 o0 u1 o1 : Nat) : Low (glA m u0 o0 u1 o1) := lowTabs (by rfl)
theorem glA_S {m : Int} {u0 o0 u1 o1 : Nat} : ∀ g k v, glS u0 o0 u1 o1 g k = some v → glA m u0 o0 u1 o1 g k = some v := by
  intro g k v h
  unfold glS at h
  unfold glA
  simp only [glOf] at h ⊢
  cases h1 : Nat.beq g 4 with
  | true => rw [h1] at h; exact h
  | false =>
    rw [h1, cond_false] at h
    rw [cond_false]
    cases h2 : Nat.beq g 3 with
    | true => rw [h2] at h; exact h
    | false => rw [h2] at h; cases h
theorem glA_F (m : Int) (u0 o0 u1 o1 : Nat) : GlF (glA m u0 o0 u1 o1) := fun i z h => by
  show (formsL.map (Value.int .i64))[i]? = _
  rw [List.getElem?_map, h]
  rfl
theorem glA_m (m : Int) (u0 o0 u1 o1 : Nat) : glA m u0 o0 u1 o1 1 0 = some (.int .i64 m) := rfl
def exW : Ext := extOf [(116, .same), (81, .flat Extern.BytealgCount.count), (146, .flat Extern.BytealgIndexByte.indexByte)]
theorem xCt : XkOK Tryd.prog 81 (.flat Extern.BytealgCount.count) := ⟨Tryd.f81, Tryd.func81, by kernel_rfl, by kernel_rfl, (show Extern.find Tryd.f81 = some Extern.BytealgCount.count by kernel_rfl)⟩
theorem xIb : XkOK Tryd.prog 146 (.flat Extern.BytealgIndexByte.indexByte) := ⟨Tryd.f146, Tryd.func146, by kernel_rfl, by kernel_rfl, (show Extern.find Tryd.f146 = some Extern.BytealgIndexByte.indexByte by kernel_rfl)⟩
theorem goodW : Go.Proofs.YtgohnfkidkomhaaDoor.Ev.Good Tryd.prog exW := good_of (by kernel_rfl) (by kernel_rfl) (by
  intro x hx
  simp only [List.mem_cons, List.not_mem_nil, or_false] at hx
  rcases hx with rfl | rfl | rfl
  · exact xNE
  · exact xCt
  · exact xIb)
set_option maxRecDepth 100000 in
theorem works21_0 (m : Int) (u0 o0 u1 o1 : Nat) : isT (callF Tryd.prog (glA m u0 o0 u1 o1) exW [] 5000 100 40 (.fn 37) [] LS.start) = true := by kernel_rfl
theorem memo21 (m : Int) (u0 o0 u1 o1 : Nat) : MemoOK Tryd.prog (glA m u0 o0 u1 o1) 37 := memoM_ok goodW (glA_low m u0 o0 u1 o1) tglob (fun f hf => by cases hf) (works21_0 m u0 o0 u1 o1)
end Go.Proofs.YtgohnfkidkomhaaDoor

noncomputable section
namespace Go.Proofs.YtgohnfkidkomhaaDoor
open Go.Proofs.YtgohnfkidkomhaaDoor.Ev Go.RowKit

/-! AsmTakes: residuals. -/
def mkN (g : GS) (x y e : Int) : Hd := gH g (.normal, [.tuple #[slN, .agg #[.int .i64 x, .int .i64 y], .int .i64 e]], [])
def mkK (g : GS) (ws : List Value) (n : Nat) : Hd := gH g (.normal, [.tuple #[slK0 1000 n, .agg #[.int .i64 0, .int .i64 0], .int .i64 0]], [wdRow ws])
end Go.Proofs.YtgohnfkidkomhaaDoor

noncomputable section
namespace Go.Proofs.YtgohnfkidkomhaaDoor
open Go.Proofs.YtgohnfkidkomhaaDoor.Ev Go.RowKit

/-! What is made of a text: words of instructions; errors that are somewhere. -/
theorem word_dec {op a b c n : Int} (h : cmay op a b c n = true) : oN (wordN op a b c n) = op ∧ fA (wordN op a b c n) = a ∧ fB (wordN op a b c n) = b ∧ fC (wordN op a b c n) = c ∧ fN (wordN op a b c n) = n := by
  have h2 := h
  unfold cmay at h2
  simp only [Bool.and_eq_true, decide_eq_true_eq] at h2
  obtain ⟨⟨h0, h1⟩, h2⟩ := h2
  obtain ⟨_, _, a0, a1, b0, b1, c0, c1, hn⟩ := cmay_f h
  have ho : oN (wordN op a b c n) = op := by
    unfold oN wordN
    split <;> (try split) <;> omega
  have hw : ∃ x : Int, wordN op a b c n = (((op * 16 + a) * 16 + b) * 16 + c) * 16384 + x ∧ ((0 ≤ n ∧ x = n) ∨ (n < 0 ∧ formN op = 2 ∧ x = n + 16384) ∨ (n < 0 ∧ formN op ≠ 2 ∧ x = n + 4194304)) := by
    unfold wordN
    by_cases hn0 : n < 0
    · rw [if_pos hn0]
      by_cases h2f : formN op = 2
      · rw [if_pos h2f]; exact ⟨_, rfl, .inr (.inl ⟨hn0, h2f, rfl⟩)⟩
      · rw [if_neg h2f]; exact ⟨_, rfl, .inr (.inr ⟨hn0, h2f, rfl⟩)⟩
    · rw [if_neg hn0]; exact ⟨_, rfl, .inl ⟨by omega, rfl⟩⟩
  obtain ⟨x, hx, hc⟩ := hw
  unfold fA fB fC fN
  rw [ho, hx]
  refine ⟨rfl, ?_⟩
  have sgE : ∀ m h : Int, sg m h = if m ≥ h then m - 2 * h else m := fun m h => by unfold sg; rw [Bool.cond_decide]
  rcases form_cases h0 h1 with e | e | e | e | e | e | e <;> rw [e] at h2 hc hn ⊢ <;> simp only [Bool.and_eq_true, decide_eq_true_eq, sgE] at h2 ⊢
  · omega
  · refine ⟨?_, ?_, ?_, ?_⟩ <;> omega
  · refine ⟨?_, ?_, ?_, ?_⟩
    · omega
    · omega
    · omega
    · split <;> omega
  · refine ⟨?_, ?_, ?_, ?_⟩
    · omega
    · omega
    · omega
    · split <;> omega
  · refine ⟨?_, ?_, ?_, ?_⟩
    · omega
    · omega
    · omega
    · split <;> omega
  · refine ⟨?_, ?_, ?_, ?_⟩ <;> omega
  · refine ⟨?_, ?_, ?_, ?_⟩ <;> omega
theorem okW_word {op a b c n : Int} (h : cmay op a b c n = true) : okW (wordN op a b c n) = true := by
  obtain ⟨e1, e2, e3, e4, e5⟩ := word_dec h
  unfold okW
  rw [e1, e2, e3, e4, e5, h, decide_eq_true rfl]
  rfl
/-! Tokens. -/
def TkOk (t : Tok) : Prop := 0 ≤ t.at_ ∧ (t.kind = 2 → 0 ≤ t.n ∧ t.n < 16) ∧ (t.kind = 1 → t.text ≠ ⟨#[]⟩)
theorem regC_lt (s : ByteArray) : regC s < 16 := by
  unfold regC
  split
  · rename_i h; omega
  · split
    · rename_i h; omega
    · decide
theorem tokS_ok {s : ByteArray} {a : Int} (h0 : 0 ≤ a) {t : Tok} {k : Int} (h : tokS s a = .tok t k) : TkOk t := by
  unfold tokS at h
  split at h
  case isFalse => cases h
  rename_i ha
  split at h
  · cases h
  split at h
  · cases h
  split at h
  · cases h; exact ⟨h0, (fun h => by cases h), (fun h => by cases h)⟩
  split at h
  · cases h; exact ⟨h0, (fun h => by cases h), (fun h => by cases h)⟩
  split at h
  · rename_i hl
    split at h
    · rename_i hr
      cases h
      exact ⟨h0, (fun _ => ⟨hr, regC_lt _⟩), (fun h => by cases h)⟩
    · cases h
      refine ⟨h0, (fun h => by cases h), fun _ e => ?_⟩
      have h1 : a + 1 ≤ runE partB s a := by
        rw [runE_eq, decide_eq_true ha, Bool.true_and, show partB (byteAt s a) = true by unfold partB; rw [hl]; rfl, cond_true]
        exact (runE_le (p := partB) (show a + 1 ≤ (s.size : Int) by omega)).1
      obtain ⟨r1, r2⟩ := runE_le (p := partB) (show a ≤ (s.size : Int) by omega)
      have z := subS_size (s := s) h0 r1 r2
      simp only at e
      rw [e] at z
      have z0 : (⟨#[]⟩ : ByteArray).size = 0 := rfl
      rw [z0] at z
      omega
  split at h
  · split at h
    · cases h; exact ⟨h0, (fun h => by cases h), (fun h => by cases h)⟩
    · cases h
  · cases h
theorem tokGo_ok {s : ByteArray} : ∀ (f : Nat) (a : Int) (l : List Tok), 0 ≤ a → (∀ t ∈ l, TkOk t) → ∀ t ∈ (tokGo s f a l).1, TkOk t
  | 0, a, l, h0, hl => hl
  | f + 1, a, l, h0, hl => by
    have hadv := tokS_adv (s := s) h0
    unfold tokGo
    cases hq : tokS s a with
    | stop => exact hl
    | err e => exact hl
    | skip => exact tokGo_ok f (a + 1) l (by omega) hl
    | tok t k =>
      rw [hq] at hadv
      have hadv : 1 ≤ k ∧ a + k ≤ (s.size : Int) := hadv
      refine tokGo_ok f (a + k) (l ++ [t]) (by omega) fun x hx => ?_
      rcases List.mem_append.1 hx with hx | hx
      · exact hl x hx
      · rw [List.mem_singleton] at hx
        subst hx
        exact tokS_ok h0 hq
theorem lnTok_ok (s : ByteArray) : ∀ t ∈ (lnTok s).1, TkOk t := by
  unfold lnTok
  cases decide ((s.size : Int) > 200) with
  | true => exact fun t h => by cases h
  | false => exact tokGo_ok _ _ _ (Int.le_refl _) fun t h => by cases h
theorem lnTok_at (s : ByteArray) : 0 ≤ (lnTok s).2.1 := by
  unfold lnTok
  cases decide ((s.size : Int) > 200) with
  | true => exact Int.le_refl _
  | false => exact (tokGo_len (s := s) (s.size + 1) 0 [] (Int.le_refl _) (by omega) (by simp)).2.1
theorem tk_ok2 {l : List Tok} (h : ∀ t ∈ l, TkOk t) {i : Nat} (hi : i < l.length) : TkOk (tk l i) := by
  have : tk l i ∈ l := by
    unfold tk
    rw [List.getElem?_eq_getElem hi]
    exact List.getElem_mem hi
  exact h _ this
/-! An instruction that is read. -/
theorem wantOne_inr {l : List Tok} {num w : Int} {j r : Nat} {t t2 : Told} {k : Nat → Told → LiR} (h : wantOne l num w j r t k = .inr t2) : j < l.length ∧
    ((w = 0 ∧ (tk l j).kind = 2 ∧ k (r + 1) (t.put r (tk l j).n) = .inr t2) ∨
     (w ≠ 0 ∧ (tk l j).kind = 3 ∧ k r { t with n := (tk l j).n, line := num, at_ := (tk l j).at_ } = .inr t2) ∨
     (w = 2 ∧ (tk l j).kind = 1 ∧ k r { t with label := (tk l j).text, line := num, at_ := (tk l j).at_ } = .inr t2)) := by
  unfold wantOne at h
  by_cases hj : l.length ≤ j
  · rw [decide_eq_true hj] at h; cases h
  rw [decide_eq_false hj, cond_false] at h
  refine ⟨by omega, ?_⟩
  by_cases hw : w = 0
  · rw [decide_eq_true hw, cond_true] at h
    by_cases hk : (tk l j).kind = 2
    · rw [decide_eq_true hk, cond_true] at h; exact .inl ⟨hw, hk, h⟩
    · rw [decide_eq_false hk] at h; cases h
  · rw [decide_eq_false hw, cond_false] at h
    by_cases hk : (tk l j).kind = 3
    · rw [decide_eq_true hk, cond_true] at h; exact .inr (.inl ⟨hw, hk, h⟩)
    · rw [decide_eq_false hk, cond_false] at h
      cases h3 : decide (w = 2) && decide ((tk l j).kind = 1) with
      | true =>
        rw [h3, cond_true] at h
        simp only [Bool.and_eq_true, decide_eq_true_eq] at h3
        exact .inr (.inr ⟨h3.1, h3.2, h⟩)
      | false => rw [h3] at h; cases h
theorem wantGo_nil {l : List Tok} {num : Int} {b : Bool} {i r : Nat} {t t2 : Told} (h : wantGo l num [] b i r t = .inr t2) : t2 = t := by
  rw [wantGo] at h
  cases h0 : decide (l.length ≤ i + 1) with
  | true => rw [h0] at h; cases h; rfl
  | false => rw [h0] at h; cases h
theorem wantGo_more {l : List Tok} {num w : Int} {ws : List Int} {i r : Nat} {t t2 : Told} (h : wantGo l num (w :: ws) false i r t = .inr t2) : wantOne l num w (i + 1 + 1) r t (fun r t => wantGo l num ws false (i + 1 + 1) r t) = .inr t2 := by
  rw [wantGo] at h
  cases h0 : decide (l.length ≤ i + 1) with
  | true => rw [h0] at h; cases h
  | false =>
    rw [h0, cond_false] at h
    cases h2 : decide ((tk l (i + 1)).kind = 4) with
    | true => rw [h2, cond_true] at h; exact h
    | false => rw [h2] at h; cases h
/-- Where a number or a label stands is known; or there is none, and the instruction may be. -/
def TI (N : Int) (t : Told) : Prop := (1 ≤ t.line ∧ t.line ≤ N ∧ 0 ≤ t.at_) ∨ (t.label = ⟨#[]⟩ ∧ cmay t.op t.a t.b t.c t.n = true)
theorem last_inr {l : List Tok} (hl : ∀ t ∈ l, TkOk t) {num w : Int} (hw : w ≠ 0) {j r : Nat} {t t2 : Told} {b : Bool} {i : Nat} (h : wantOne l num w j r t (fun r t => wantGo l num [] b i r t) = .inr t2) : t2.line = num ∧ 0 ≤ t2.at_ := by
  obtain ⟨hj, h⟩ := wantOne_inr h
  have ha := (tk_ok2 hl hj).1
  rcases h with ⟨e, _, _⟩ | ⟨_, _, h⟩ | ⟨_, _, h⟩
  · exact absurd e hw
  · rw [wantGo_nil h]; exact ⟨rfl, ha⟩
  · rw [wantGo_nil h]; exact ⟨rfl, ha⟩
theorem reg_inr {l : List Tok} (hl : ∀ t ∈ l, TkOk t) {num : Int} {j r : Nat} {t t2 : Told} {k : Nat → Told → LiR} (h : wantOne l num 0 j r t k = .inr t2) : ∃ x : Int, 0 ≤ x ∧ x < 16 ∧ k (r + 1) (t.put r x) = .inr t2 := by
  obtain ⟨hj, h⟩ := wantOne_inr h
  rcases h with ⟨_, hk, h⟩ | ⟨e, _, _⟩ | ⟨e, _, _⟩
  · obtain ⟨x0, x1⟩ := (tk_ok2 hl hj).2.1 hk
    exact ⟨_, x0, x1, h⟩
  · exact absurd rfl e
  · exact absurd e (by decide)
theorem ops_form {op : Int} (h0 : 0 ≤ op) (h1 : op < 22) : (wantsOf op = [] → formN op = 0) ∧ (wantsOf op = [0, 0, 0] → formN op = 1) ∧ (wantsOf op = [0] → formN op = 6) := by
  rcases op_cases h0 h1 with rfl | rfl | rfl | rfl | rfl | rfl | rfl | rfl | rfl | rfl | rfl | rfl | rfl | rfl | rfl | rfl | rfl | rfl | rfl | rfl | rfl | rfl <;> decide
theorem want_TI {l : List Tok} (hl : ∀ t ∈ l, TkOk t) {num N : Int} (hn1 : 1 ≤ num) (hn2 : num ≤ N) {op : Int} (h0 : 0 ≤ op) (h1 : op < 22) {i : Nat} {t2 : Told} (h : wantGo l num (wantsOf op) true i 0 (toldNil op) = .inr t2) : TI N t2 := by
  obtain ⟨f0, f1, f6⟩ := ops_form h0 h1
  have fin : ∀ t : Told, t.line = num ∧ 0 ≤ t.at_ → TI N t := fun t ⟨e1, e2⟩ => .inl ⟨by omega, by omega, e2⟩
  rcases wants_cases h0 h1 with e | e | e | e | e | e | e | e
  · rw [e] at h
    rw [wantGo_nil h]
    refine .inr ⟨rfl, ?_⟩
    show cmay op 0 0 0 0 = true
    unfold cmay
    rw [f0 e, decide_eq_true h0, decide_eq_true h1]
    decide
  · rw [e, wantGo] at h
    obtain ⟨x, x0, x1, h⟩ := reg_inr hl h
    obtain ⟨y, y0, y1, h⟩ := reg_inr hl (wantGo_more h)
    obtain ⟨z, z0, z1, h⟩ := reg_inr hl (wantGo_more h)
    rw [wantGo_nil h]
    refine .inr ⟨rfl, ?_⟩
    show cmay op x y z 0 = true
    unfold cmay
    rw [f1 e, decide_eq_true h0, decide_eq_true h1]
    simp only [Bool.and_self, Bool.true_and, Bool.and_eq_true, decide_eq_true_eq]
    exact ⟨x0, x1, y0, y1, z0, z1, trivial⟩
  · rw [e, wantGo] at h
    obtain ⟨x, _, _, h⟩ := reg_inr hl h
    obtain ⟨y, _, _, h⟩ := reg_inr hl (wantGo_more h)
    exact fin _ (last_inr hl (by decide) (wantGo_more h))
  · rw [e, wantGo] at h
    obtain ⟨x, _, _, h⟩ := reg_inr hl h
    obtain ⟨y, _, _, h⟩ := reg_inr hl (wantGo_more h)
    exact fin _ (last_inr hl (by decide) (wantGo_more h))
  · rw [e, wantGo] at h
    obtain ⟨x, _, _, h⟩ := reg_inr hl h
    exact fin _ (last_inr hl (by decide) (wantGo_more h))
  · rw [e, wantGo] at h
    exact fin _ (last_inr hl (by decide) h)
  · rw [e, wantGo] at h
    exact fin _ (last_inr hl (by decide) h)
  · rw [e, wantGo] at h
    obtain ⟨x, x0, x1, h⟩ := reg_inr hl h
    rw [wantGo_nil h]
    refine .inr ⟨rfl, ?_⟩
    show cmay op x 0 0 0 = true
    unfold cmay
    rw [f6 e, decide_eq_true h0, decide_eq_true h1]
    simp only [Bool.and_self, Bool.true_and, Bool.and_eq_true, decide_eq_true_eq]
    exact ⟨x0, x1, trivial⟩
theorem liEnd_inr {l : List Tok} {num : Int} {td : List Told} {r : Nat × Lb × Bool} {t : Told} (h : liEnd l num td r = .inl (.inr t)) : wantGo l num (wantsOf (mapI opsE (tk l r.1).text)) true r.1 0 (toldNil (mapI opsE (tk l r.1).text)) = .inr t := by
  unfold liEnd at h
  cases h1 : r.2.2 with
  | true => rw [h1] at h; cases h
  | false =>
    rw [h1, cond_false] at h
    by_cases h2 : r.1 = l.length
    · rw [decide_eq_true h2] at h; cases h
    rw [decide_eq_false h2, cond_false] at h
    have h : liRes l num opsE (wantsOf (mapI opsE (tk l r.1).text)) td.length r.1 = .inr t := Sum.inl.inj h
    unfold liRes at h
    cases h3 : mapHas opsE (tk l r.1).text with
    | false => rw [h3] at h; cases h
    | true =>
      rw [h3, cond_true] at h
      cases h4 : decide ((tk l r.1).kind = 1) with
      | false => rw [h4] at h; cases h
      | true =>
        rw [h4, cond_true] at h
        cases h5 : decide (td.length = 1024) with
        | true => rw [h5] at h; cases h
        | false => rw [h5, cond_false] at h; exact h
/-- A step's error is somewhere; its instruction, too. -/
theorem lnStep_TI {s : ByteArray} {num N : Int} (h1 : 1 ≤ num) (h2 : num ≤ N) {lb : Lb} {td : List Told} (h : ∀ t ∈ td, TI N t) : (∀ t ∈ (lnStep s num lb td).td, TI N t) ∧ ∀ x, (lnStep s num lb td).er = some x → 0 ≤ x.1 ∧ x.2 ≠ 0 := by
  have hl := lnTok_ok s
  unfold lnStep
  split
  · rename_i he
    exact ⟨h, fun x hx => by cases hx; exact ⟨lnTok_at s, he⟩⟩
  split
  · exact ⟨h, (fun x hx => by cases hx)⟩
  rename_i hz
  have hl1 : 1 ≤ (lnTok s).1.length := by
    cases hq : (lnTok s).1 with
    | nil => exact absurd hq hz
    | cons t l => simp
  split
  · exact ⟨h, (fun x hx => by cases hx)⟩
  · rename_i x hx
    obtain ⟨x0, x1, x2⟩ := liEnd_bd hl1 (lbGo_le _ _ _ (Nat.zero_le _)) (lbGo_tw _ _ _ (Nat.zero_le _)) hx
    refine ⟨h, fun y hy => ?_⟩
    cases hy
    exact ⟨(tk_ok2 hl (by omega)).1, x2⟩
  · rename_i t ht
    refine ⟨fun x hx => ?_, (fun x hx => by cases hx)⟩
    rcases List.mem_append.1 hx with hx | hx
    · exact h x hx
    · rw [List.mem_singleton] at hx
      subst hx
      obtain ⟨o0, o1⟩ := ops_has (tk (lnTok s).1 (lbGo (lnTok s).1 td.length ((lnTok s).1.length + 1) 0 lb).1).text
      exact want_TI hl h1 h2 o0 o1 (liEnd_inr ht)
theorem mkGo_TI : ∀ (ss : List ByteArray) (n : Nat) (lb : Lb) (td : List Told) (N : Int), ((n + ss.length : Nat) : Int) ≤ N → (∀ t ∈ td, TI N t) → (∀ t ∈ (mkGo ss n lb td).2.1, TI N t) ∧ ∀ x, (mkGo ss n lb td).2.2 = some x → 1 ≤ x.1 ∧ x.1 ≤ N ∧ 0 ≤ x.2.1 ∧ x.2.2 ≠ 0
  | [], n, lb, td, N, hN, h => ⟨h, (fun x hx => by cases hx)⟩
  | s :: ss, n, lb, td, N, hN, h => by
    rw [List.length_cons] at hN
    obtain ⟨a, b⟩ := lnStep_TI (s := s) (num := ((n + 1 : Nat) : Int)) (N := N) (lb := lb) (by omega) (by omega) h
    rw [mkGo]
    cases hq : lnStep s ((n + 1 : Nat) : Int) lb td with
    | mk lb' td' er =>
      rw [hq] at a b
      cases er with
      | some x =>
        obtain ⟨b1, b2⟩ := b x rfl
        exact ⟨a, fun y hy => by cases hy; exact ⟨by simp only; omega, by simp only; omega, b1, b2⟩⟩
      | none => exact mkGo_TI ss (n + 1) lb' td' N (by omega) a
theorem wdGo_TI {lb : Lb} {N : Int} : ∀ (td : List Told) (i : Nat) (ws : List Int), (∀ t ∈ td, TI N t) → (∀ w ∈ ws, okW w = true ∧ 0 ≤ w ∧ w < 4294967296) →
    (∀ w ∈ (wdGoM lb td i ws).1, okW w = true ∧ 0 ≤ w ∧ w < 4294967296) ∧ ∀ x, (wdGoM lb td i ws).2 = some x → 1 ≤ x.1 ∧ x.1 ≤ N ∧ 0 ≤ x.2.1 ∧ x.2.2 ≠ 0
  | [], i, ws, h, hw => ⟨hw, (fun x hx => by cases hx)⟩
  | t :: td, i, ws, h, hw => by
    have ht := h t (List.mem_cons_self ..)
    rw [wdGoM]
    cases hq : tdW lb i t with
    | inl w =>
      refine wdGo_TI td (i + 1) (ws ++ [w]) (fun x hx => h x (List.mem_cons_of_mem _ hx)) fun x hx => ?_
      rcases List.mem_append.1 hx with hx | hx
      · exact hw x hx
      · rw [List.mem_singleton] at hx
        subst hx
        unfold tdW at hq
        cases h1 : decide (t.label = ⟨#[]⟩) || lbHas lb t.label with
        | false => rw [h1] at hq; cases hq
        | true =>
          rw [h1, cond_true] at hq
          cases h2 : cmay t.op t.a t.b t.c (tdN lb i t) with
          | false => rw [h2] at hq; cases hq
          | true =>
            rw [h2, cond_true] at hq
            have e : putN t.op t.a t.b t.c (tdN lb i t) = x := Sum.inl.inj hq
            rw [← e]
            unfold putN
            rw [h2, cond_true]
            have := word_lt h2
            exact ⟨okW_word h2, this.1, this.2⟩
    | inr e =>
      refine ⟨hw, fun x hx => ?_⟩
      cases hx
      have key : (e = 212 ∧ t.label ≠ ⟨#[]⟩) ∨ (e = 5 ∧ cmay t.op t.a t.b t.c (tdN lb i t) = false) := by
        unfold tdW at hq
        cases h1 : decide (t.label = ⟨#[]⟩) || lbHas lb t.label with
        | false =>
          rw [h1] at hq
          cases hq
          simp only [Bool.or_eq_false_iff, decide_eq_false_iff_not] at h1
          exact .inl ⟨rfl, h1.1⟩
        | true =>
          rw [h1, cond_true] at hq
          cases h2 : cmay t.op t.a t.b t.c (tdN lb i t) with
          | false => rw [h2] at hq; cases hq; exact .inr ⟨rfl, rfl⟩
          | true => rw [h2] at hq; cases hq
      rcases ht with ⟨l1, l2, l3⟩ | ⟨l1, l2⟩
      · refine ⟨l1, l2, l3, ?_⟩
        rcases key with ⟨e, _⟩ | ⟨e, _⟩ <;> (simp only; omega)
      · rcases key with ⟨_, h⟩ | ⟨_, h⟩
        · exact absurd l1 h
        · unfold tdN at h
          rw [decide_eq_true l1, cond_true, l2] at h
          cases h
/-- What a text comes to: an error that is somewhere in it; or words of instructions, at most 1024. -/
theorem mkA_cases (s : ByteArray) : ((mkA s).ws = [] ∧ (mkA s).er ≠ 0 ∧ 1 ≤ (mkA s).line ∧ (mkA s).line ≤ (s.data.toList.count 10 : Int) + 1 ∧ 0 ≤ (mkA s).at_) ∨
    ((mkA s).er = 0 ∧ (mkA s).line = 0 ∧ (mkA s).at_ = 0 ∧ (mkA s).ws.length ≤ 1024 ∧ ∀ w ∈ (mkA s).ws, okW w = true ∧ 0 ≤ w ∧ w < 4294967296) := by
  have hN : (((splB s nlB).length : Nat) : Int) = (s.data.toList.count 10 : Int) + 1 := by
    have := splB_count s 10
    show (((splB s ⟨#[10]⟩).length : Nat) : Int) = _
    omega
  obtain ⟨a, b⟩ := mkGo_TI (splB s nlB) 0 [] [] (((splB s nlB).length : Nat) : Int) (by omega) (fun t h => by cases h)
  have ok := mkGo_ok (splB s nlB) 0 [] [] (fun t h => by cases h) (Nat.zero_le _)
  unfold mkA
  cases hq : mkGo (splB s nlB) 0 [] [] with
  | mk lb q =>
  obtain ⟨td, er⟩ := q
  rw [hq] at a b ok
  cases er with
  | some x =>
    obtain ⟨b1, b2, b3, b4⟩ := b x rfl
    exact .inl ⟨rfl, b4, b1, by show x.1 ≤ _; omega, b3⟩
  | none =>
    obtain ⟨c, d⟩ := wdGo_TI (lb := lb) td 0 [] a (fun w h => by cases h)
    show ((mkW lb td).ws = [] ∧ (mkW lb td).er ≠ 0 ∧ 1 ≤ (mkW lb td).line ∧ (mkW lb td).line ≤ (s.data.toList.count 10 : Int) + 1 ∧ 0 ≤ (mkW lb td).at_) ∨ ((mkW lb td).er = 0 ∧ (mkW lb td).line = 0 ∧ (mkW lb td).at_ = 0 ∧ (mkW lb td).ws.length ≤ 1024 ∧ ∀ w ∈ (mkW lb td).ws, okW w = true ∧ 0 ≤ w ∧ w < 4294967296)
    unfold mkW
    cases hw : wdGoM lb td 0 [] with
    | mk ws er =>
    rw [hw] at c d
    cases er with
    | some x =>
      obtain ⟨b1, b2, b3, b4⟩ := d x rfl
      exact .inl ⟨rfl, b4, b1, by show x.1 ≤ _; omega, b3⟩
    | none =>
      have hl := wdGoM_ne td 0 [] ws hw
      have hok : td.length ≤ 1024 := ok.2
      exact .inr ⟨rfl, rfl, rfl, by show ws.length ≤ 1024; simp at hl; omega, c⟩
end Go.Proofs.YtgohnfkidkomhaaDoor

noncomputable section
namespace Go.Proofs.YtgohnfkidkomhaaDoor
open Go.Proofs.YtgohnfkidkomhaaDoor.Ev Go.RowKit

/-! AsmTakes: true, of any text. -/
theorem wsF {ws : List Int} {i : Nat} (h : i < ws.length) : (symOf (wC ws)).okI .u32 (0 + i * 1) = true ∧ (symOf (wC ws)).int .u32 (0 + i * 1) = ws[i] := by
  have g : (wC ws)[0 + i * 1]? = some (.int .u32 ws[i]) := by
    unfold wC
    rw [Nat.zero_add, Nat.mul_one, List.getElem?_map, List.getElem?_eq_getElem h]
    rfl
  constructor
  · show cellIsI .u32 _ = true; rw [g]; rfl
  · show cellI _ = _; rw [g]; rfl
theorem makeN_at {gl : Gl} {m : Int} {u0 o0 u1 o1 : Nat} (hS : ∀ g k v, glS u0 o0 u1 o1 g k = some v → gl g k = some v) (hF : GlF gl) (hgl : Low gl) (hm : gl 1 0 = some (.int .i64 m)) {s : ByteArray} (hs : s.size ≤ 900000) (h : (mkA s).ws = []) : SubOK Tryd.prog gl 38 (mkN (atS [.string s] []) (mkA s).line (mkA s).at_ (mkA s).er) := by
  have := make_at hS hF hgl hm hs
  unfold mkAns at this
  rw [h] at this
  exact this
theorem makeK_at {gl : Gl} {m : Int} {u0 o0 u1 o1 : Nat} (hS : ∀ g k v, glS u0 o0 u1 o1 g k = some v → gl g k = some v) (hF : GlF gl) (hgl : Low gl) (hm : gl 1 0 = some (.int .i64 m)) {s : ByteArray} (hs : s.size ≤ 900000) (h : (mkA s).ws ≠ []) : SubOK Tryd.prog gl 38 (mkK (atS [.string s] []) (wC (mkA s).ws) (mkA s).ws.length) := by
  have hc := mkA_cases s
  have hk := make_at hS hF hgl hm hs
  unfold mkAns at hk
  rcases hc with ⟨e, _⟩ | ⟨e1, e2, e3, _⟩
  · exact absurd e h
  · cases hq : (mkA s).ws with
    | nil => exact absurd hq h
    | cons w ws =>
      rw [hq] at hk
      unfold mkT at hk
      rw [e1, e2, e3] at hk
      exact hk
theorem fn_w21 {gl : Gl} {m : Int} {u0 o0 u1 o1 : Nat} (hgl : Low gl) (h : ∀ g k v, glA m u0 o0 u1 o1 g k = some v → gl g k = some v) : FnOK Tryd.prog gl 37 afW := fn_memo hgl (memo_mono h (memo21 m u0 o0 u1 o1))
end Go.Proofs.YtgohnfkidkomhaaDoor

noncomputable section
namespace Go.Proofs.YtgohnfkidkomhaaDoor
open Go.Proofs.YtgohnfkidkomhaaDoor.Ev Go.RowKit

/-! AsmRemarks: residuals. -/
def mkFN (g : ByteArray → Bool) (x y e : ByteArray → Int) : Hd := fun vs rows => match vs, rows with
  | [.string s], [] => some (.br (g s) (.ret (.normal, [.tuple #[slN, .agg #[.int .i64 (x s), .int .i64 (y s)], .int .i64 (e s)]], [])) .fail)
  | _, _ => none
def mkFK (g : ByteArray → Bool) (ws : ByteArray → List Value) (n : ByteArray → Nat) : Hd := fun vs rows => match vs, rows with
  | [.string s], [] => some (.br (g s) (.ret (.normal, [.tuple #[slK0 1000 (n s), .agg #[.int .i64 0, .int .i64 0], .int .i64 0]], [wdRow (ws s)])) .fail)
  | _, _ => none
def eqWLive : List Nat := [13, 1, 0, 12, 4]
def eqWSt (i : Int) (cs : List Value) (n : Nat) : LSt := ([.int .i64 i, slK0 1000 n, slK0 1001 n, .int .i64 (n : Int), .bool false], [wdRow cs, wdRow cs])
def eqWO (cs : List Value) : Out := (.exit 0, [.bool false], [wdRow cs, wdRow cs])
set_option maxRecDepth 100000 in
theorem r_eqW (gl : Gl) (i : Int) (cs : List Value) (n : Nat) : roundK (syE cs) Tryd.prog gl exB HB0 100 40 40 39 0 eqWLive (eqWSt i cs n) (rndK Tryd.prog 1002 eqWLive [4]) =
 cond (decide (i < (↑n : Int))) (
 cond (decide (0 ≤ i) && (decide (i < (↑n : Int))) && (n.ble n)) (
 cond (sameL cs cs) (
 cond ((symOf cs).okI .u32 (0 + i.toNat * 1)) (
 cond (decide (0 ≤ i) && (decide (i < (↑n : Int))) && (n.ble n)) (
 cond (sameL cs cs) (
 cond ((symOf cs).okI .u32 (0 + i.toNat * 1)) (
 cond ((symOf cs).int .u32 (0 + i.toNat * 1) != (symOf cs).int .u32 (0 + i.toNat * 1)) (
 cond (sameL cs cs) (
 cond ((symOf cs).okI .u32 (0 + i.toNat * 1)) (
 qs [(symOf cs).int .u32 (0 + i.toNat * 1)] (
 cond (sameL cs cs) (
 cond ((symOf cs).okI .u32 (0 + i.toNat * 1)) (
 qs [(symOf cs).int .u32 (0 + i.toNat * 1)] (
 cond (List.all cs (af 8) && (List.all cs (af 8) && true)) (
 some (.inr (.ret, ([(.bool false)], [some (.row ⟨cs, 29, (0, 0), 1, false, false⟩), some (.row ⟨cs, 29, (0, 0), 1, false, false⟩)])))) (
 none))) (
 none)) (
 none))) (
 none)) (
 none)) (
 cond (sameL cs cs) (
 cond ((symOf cs).okI .u32 (0 + i.toNat * 1)) (
 qs [(symOf cs).int .u32 (0 + i.toNat * 1)] (
 cond (sameL cs cs) (
 cond ((symOf cs).okI .u32 (0 + i.toNat * 1)) (
 qs [(symOf cs).int .u32 (0 + i.toNat * 1)] (
 cond (List.all cs (af 8) && (List.all cs (af 8) && true)) (
 some (.inl ([(.int .i64 (IntKind.i64.wrap (i + 1))), (.slice (some ⟨1000, 0, none⟩) (n) (n)), (.slice (some ⟨1001, 0, none⟩) (n) (n)), (.int .i64 ((↑n : Int))), (.bool false)], [some (.row ⟨cs, 29, (0, 0), 1, false, false⟩), some (.row ⟨cs, 29, (0, 0), 1, false, false⟩)]))) (
 none))) (
 none)) (
 none))) (
 none)) (
 none))) (
 none)) (
 none)) (
 none)) (
 none)) (
 none)) (
 none)) (
 cond (List.all cs (af 8) && (List.all cs (af 8) && true)) (
 some (.inr (.exit 0, ([(.bool false)], [some (.row ⟨cs, 29, (0, 0), 1, false, false⟩), some (.row ⟨cs, 29, (0, 0), 1, false, false⟩)])))) (
 none)) := by kernel_rfl
end Go.Proofs.YtgohnfkidkomhaaDoor

noncomputable section
namespace Go.Proofs.YtgohnfkidkomhaaDoor
open Go.Proofs.YtgohnfkidkomhaaDoor.Ev Go.RowKit

/-! Lines of remarks ahead of a text. -/
theorem size_app (a b : ByteArray) : (a ++ b).size = a.size + b.size := by
  rw [← data_len, ← data_len a, ← data_len b, app_data, List.length_append]
/-! Lines' numbers, shifted. -/
end Go.Proofs.YtgohnfkidkomhaaDoor

noncomputable section
namespace Go.Proofs.YtgohnfkidkomhaaDoor
open Go.Proofs.YtgohnfkidkomhaaDoor.Ev Go.RowKit

/-! AsmRemarks: true, of any two texts and any number. -/
def mkX (s : ByteArray) : Int := (mkA s).line
def mkY (s : ByteArray) : Int := (mkA s).at_
def mkE (s : ByteArray) : Int := (mkA s).er
def mkVs (s : ByteArray) : List Value := wC (mkA s).ws
def mkLn (s : ByteArray) : Nat := (mkA s).ws.length
def gNil (s : ByteArray) : Bool := decide (s.size ≤ 900000) && cl ((mkA s).ws = [])
def gNot (s : ByteArray) : Bool := decide (s.size ≤ 900000) && cl ((mkA s).ws ≠ [])
theorem mkFN_ok {gl : Gl} {m : Int} {u0 o0 u1 o1 : Nat} (hS : ∀ g k v, glS u0 o0 u1 o1 g k = some v → gl g k = some v) (hF : GlF gl) (hgl : Low gl) (hm : gl 1 0 = some (.int .i64 m)) : SubOK Tryd.prog gl 38 (mkFN gNil mkX mkY mkE) := by
  intro vs rows t e v rows' h1 h2
  unfold mkFN at h1
  split at h1
  · rename_i s
    cases h1
    obtain ⟨c, h3⟩ := brT h2
    have hg := c
    unfold gNil at c
    simp only [Bool.and_eq_true, decide_eq_true_eq] at c
    exact makeN_at hS hF hgl hm c.1 (of_cl c.2) _ _ _ e v rows' rfl (show cond (atS [.string s] [] [.string s] []) _ _ = _ by rw [atS_self, cond_true]; exact h3)
  · cases h1
theorem mkFK_ok {gl : Gl} {m : Int} {u0 o0 u1 o1 : Nat} (hS : ∀ g k v, glS u0 o0 u1 o1 g k = some v → gl g k = some v) (hF : GlF gl) (hgl : Low gl) (hm : gl 1 0 = some (.int .i64 m)) : SubOK Tryd.prog gl 38 (mkFK gNot mkVs mkLn) := by
  intro vs rows t e v rows' h1 h2
  unfold mkFK at h1
  split at h1
  · rename_i s
    cases h1
    obtain ⟨c, h3⟩ := brT h2
    have hg := c
    unfold gNot at c
    simp only [Bool.and_eq_true, decide_eq_true_eq] at c
    exact makeK_at hS hF hgl hm c.1 (of_cl c.2) _ _ _ e v rows' rfl (show cond (atS [.string s] [] [.string s] []) _ _ = _ by rw [atS_self, cond_true]; exact h3)
  · cases h1
theorem eqW_loop {gl : Gl} (hgl : Low gl) {ws : List Int} (hl : ws.length ≤ 1024) :
    LpOK Tryd.prog gl 39 0 ⟨eqWLive, [4], gH (atS (eqWSt 0 (wC ws) ws.length).1 (eqWSt 0 (wC ws) ws.length).2) (eqWO (wC ws))⟩ :=
  loop_here goodB hgl tglob (by show 1002 ≤ most; decide) ⟨{i : Nat // i ≤ ws.length}, fun i => eqWSt ((i.1 : Nat) : Int) (wC ws) ws.length, fun _ => some (eqWO (wC ws)), fun i => ws.length - i.1, ⟨0, Nat.zero_le _⟩, rfl, rfl, by
    rintro ⟨i, hi⟩ o ho
    simp only at hi ho
    cases ho
    have al := andI (wC_all ws) (andI (wC_all ws) (show true = true from rfl))
    by_cases h : i = ws.length
    · subst h
      refine ⟨syE (wC ws), HB0, 100, 40, 40, .inr (eqWO (wC ws)), syE_ok _, HB0_ok, ?_, rfl⟩
      exact (r_eqW gl ((ws.length : Nat) : Int) (wC ws) ws.length).trans (condE (decide_eq_false (by omega)) (condI al rfl))
    · have hi2 : i < ws.length := by omega
      refine ⟨syE (wC ws), HB0, 100, 40, 40, .inl (eqWSt ((i + 1 : Nat) : Int) (wC ws) ws.length), syE_ok _, HB0_ok, ?_, ⟨i + 1, by omega⟩, rfl, (by show ws.length - (i + 1) < ws.length - i; omega), rfl⟩
      obtain ⟨o, v⟩ := wsF hi2
      have w : IntKind.i64.wrap ((i : Int) + 1) = ((i + 1 : Nat) : Int) := wrapS (by omega)
      have b : (decide (0 ≤ (i : Int)) && decide ((i : Int) < (ws.length : Int)) && ws.length.ble ws.length) = true := by rw [d0N, decide_eq_true (show (i : Int) < (ws.length : Int) by omega), nble (Nat.le_refl _)]; rfl
      refine (r_eqW gl (i : Int) (wC ws) ws.length).trans ?_
      simp only [Int.toNat_natCast, w, qs_eq]
      exact condI (decide_eq_true (by omega)) (condI b (condI (sameL_self _) (condI o (condI b (condI (sameL_self _) (condI o (condE (by simp) (condI (sameL_self _) (condI o (condI (sameL_self _) (condI o (condI al rfl))))))))))))⟩
theorem wrapSz {a b : Nat} (ha : a ≤ 140737488351232) (hb : b ≤ 140737488351232) : IntKind.i64.wrap ((a : Int) + (b : Int)) = (a : Int) + (b : Int) := wrap_64 (by omega) (by omega)
end Go.Proofs.YtgohnfkidkomhaaDoor

noncomputable section
namespace Go.Proofs.YtgohnfkidkomhaaDoor
open Go.Proofs.YtgohnfkidkomhaaDoor.Ev Go.RowKit

/-! AsmLabels: residuals. -/
def z9B : ByteArray := ⟨#[122, 57]⟩
def xB : ByteArray := ⟨#[120]⟩
def afHz (hz : ByteArray → Bool) : AF := fun args _ => match args with
  | [.string s, .string sep] => some (decide (s.size ≤ 1000000) && cl (sep = z9B), .bool (hz s))
  | _ => none
def afRep (rp : Int → ByteArray) : AF := fun args _ => match args with
  | [.string s, .int .i64 c] => some (cl (s = xB) && (decide (0 ≤ c) && decide (c ≤ 100)), .string (rp c))
  | _ => none
def HLb (mk : Hd) (hz : ByteArray → Bool) (rp : Int → ByteArray) (lp : List (FuncId × List (Nat × LoopH))) : Hs := hsOf [(36, afHz hz), (42, afRep rp), (37, afW)] [(38, mk)] lp
set_option maxRecDepth 100000 in
theorem r_alN (gl : Gl) (hz : ByteArray → Bool) (rp : Int → ByteArray) (g : ByteArray → Bool) (x y e : ByteArray → Int) (a b : ByteArray) (k : Int) : callSK noSy Tryd.prog gl exB (HLb (mkFN g x y e) hz rp []) 100 40 40 (.fn 13) [.string a, .string b, .int .u8 k] LS.start flatR =
 cond (decide (IntKind.i64.wrap ((↑a.size : Int) + (↑b.size : Int)) > 20000)) (
 some (.bool true)) (
 cond ((a.size + b.size).ble 9223372036854775807) (
 cond (decide ((a ++ b).size ≤ 1000000) && (cl ((⟨#[122, 57]⟩ : ByteArray) = z9B))) (
 cond (hz (a ++ b)) (
 some (.bool true)) (
 cond (cl ((⟨#[120]⟩ : ByteArray) = xB) && (decide (0 ≤ IntKind.i64.wrap (k.tmod 20)) && (decide (IntKind.i64.wrap (k.tmod 20) ≤ 100)))) (
 cond ((2 + (rp (IntKind.i64.wrap (k.tmod 20))).size).ble 9223372036854775807) (
 cond ((8 + a.size).ble 9223372036854775807) (
 cond ((((⟨#[106, 117, 109, 112, 32, 122, 57, 10]⟩ : ByteArray) ++ a).size + 13).ble 9223372036854775807) (
 cond ((((⟨#[106, 117, 109, 112, 32, 122, 57, 10]⟩ : ByteArray) ++ a ++ (⟨#[10, 122, 57, 58, 10, 106, 117, 109, 112, 32, 122, 57, 10]⟩ : ByteArray)).size + b.size).ble 9223372036854775807) (
 cond (g ((⟨#[106, 117, 109, 112, 32, 122, 57, 10]⟩ : ByteArray) ++ a ++ (⟨#[10, 122, 57, 58, 10, 106, 117, 109, 112, 32, 122, 57, 10]⟩ : ByteArray) ++ b)) (
 cond ((5 + ((⟨#[122, 57]⟩ : ByteArray) ++ rp (IntKind.i64.wrap (k.tmod 20))).size).ble 9223372036854775807) (
 cond ((((⟨#[106, 117, 109, 112, 32]⟩ : ByteArray) ++ ((⟨#[122, 57]⟩ : ByteArray) ++ rp (IntKind.i64.wrap (k.tmod 20)))).size + 1).ble 9223372036854775807) (
 cond ((((⟨#[106, 117, 109, 112, 32]⟩ : ByteArray) ++ ((⟨#[122, 57]⟩ : ByteArray) ++ rp (IntKind.i64.wrap (k.tmod 20))) ++ (⟨#[10]⟩ : ByteArray)).size + a.size).ble 9223372036854775807) (
 cond ((((⟨#[106, 117, 109, 112, 32]⟩ : ByteArray) ++ ((⟨#[122, 57]⟩ : ByteArray) ++ rp (IntKind.i64.wrap (k.tmod 20))) ++ (⟨#[10]⟩ : ByteArray) ++ a).size + 1).ble 9223372036854775807) (
 cond ((((⟨#[106, 117, 109, 112, 32]⟩ : ByteArray) ++ ((⟨#[122, 57]⟩ : ByteArray) ++ rp (IntKind.i64.wrap (k.tmod 20))) ++ (⟨#[10]⟩ : ByteArray) ++ a ++ (⟨#[10]⟩ : ByteArray)).size + ((⟨#[122, 57]⟩ : ByteArray) ++ rp (IntKind.i64.wrap (k.tmod 20))).size).ble 9223372036854775807) (
 cond ((((⟨#[106, 117, 109, 112, 32]⟩ : ByteArray) ++ ((⟨#[122, 57]⟩ : ByteArray) ++ rp (IntKind.i64.wrap (k.tmod 20))) ++ (⟨#[10]⟩ : ByteArray) ++ a ++ (⟨#[10]⟩ : ByteArray) ++ ((⟨#[122, 57]⟩ : ByteArray) ++ rp (IntKind.i64.wrap (k.tmod 20)))).size + 7).ble 9223372036854775807) (
 cond ((((⟨#[106, 117, 109, 112, 32]⟩ : ByteArray) ++ ((⟨#[122, 57]⟩ : ByteArray) ++ rp (IntKind.i64.wrap (k.tmod 20))) ++ (⟨#[10]⟩ : ByteArray) ++ a ++ (⟨#[10]⟩ : ByteArray) ++ ((⟨#[122, 57]⟩ : ByteArray) ++ rp (IntKind.i64.wrap (k.tmod 20))) ++ (⟨#[58, 10, 106, 117, 109, 112, 32]⟩ : ByteArray)).size + ((⟨#[122, 57]⟩ : ByteArray) ++ rp (IntKind.i64.wrap (k.tmod 20))).size).ble 9223372036854775807) (
 cond ((((⟨#[106, 117, 109, 112, 32]⟩ : ByteArray) ++ ((⟨#[122, 57]⟩ : ByteArray) ++ rp (IntKind.i64.wrap (k.tmod 20))) ++ (⟨#[10]⟩ : ByteArray) ++ a ++ (⟨#[10]⟩ : ByteArray) ++ ((⟨#[122, 57]⟩ : ByteArray) ++ rp (IntKind.i64.wrap (k.tmod 20))) ++ (⟨#[58, 10, 106, 117, 109, 112, 32]⟩ : ByteArray) ++ ((⟨#[122, 57]⟩ : ByteArray) ++ rp (IntKind.i64.wrap (k.tmod 20)))).size + 1).ble 9223372036854775807) (
 cond ((((⟨#[106, 117, 109, 112, 32]⟩ : ByteArray) ++ ((⟨#[122, 57]⟩ : ByteArray) ++ rp (IntKind.i64.wrap (k.tmod 20))) ++ (⟨#[10]⟩ : ByteArray) ++ a ++ (⟨#[10]⟩ : ByteArray) ++ ((⟨#[122, 57]⟩ : ByteArray) ++ rp (IntKind.i64.wrap (k.tmod 20))) ++ (⟨#[58, 10, 106, 117, 109, 112, 32]⟩ : ByteArray) ++ ((⟨#[122, 57]⟩ : ByteArray) ++ rp (IntKind.i64.wrap (k.tmod 20))) ++ (⟨#[10]⟩ : ByteArray)).size + b.size).ble 9223372036854775807) (
 cond (g ((⟨#[106, 117, 109, 112, 32]⟩ : ByteArray) ++ ((⟨#[122, 57]⟩ : ByteArray) ++ rp (IntKind.i64.wrap (k.tmod 20))) ++ (⟨#[10]⟩ : ByteArray) ++ a ++ (⟨#[10]⟩ : ByteArray) ++ ((⟨#[122, 57]⟩ : ByteArray) ++ rp (IntKind.i64.wrap (k.tmod 20))) ++ (⟨#[58, 10, 106, 117, 109, 112, 32]⟩ : ByteArray) ++ ((⟨#[122, 57]⟩ : ByteArray) ++ rp (IntKind.i64.wrap (k.tmod 20))) ++ (⟨#[10]⟩ : ByteArray) ++ b)) (
 cond (e ((⟨#[106, 117, 109, 112, 32, 122, 57, 10]⟩ : ByteArray) ++ a ++ (⟨#[10, 122, 57, 58, 10, 106, 117, 109, 112, 32, 122, 57, 10]⟩ : ByteArray) ++ b) == e ((⟨#[106, 117, 109, 112, 32]⟩ : ByteArray) ++ ((⟨#[122, 57]⟩ : ByteArray) ++ rp (IntKind.i64.wrap (k.tmod 20))) ++ (⟨#[10]⟩ : ByteArray) ++ a ++ (⟨#[10]⟩ : ByteArray) ++ ((⟨#[122, 57]⟩ : ByteArray) ++ rp (IntKind.i64.wrap (k.tmod 20))) ++ (⟨#[58, 10, 106, 117, 109, 112, 32]⟩ : ByteArray) ++ ((⟨#[122, 57]⟩ : ByteArray) ++ rp (IntKind.i64.wrap (k.tmod 20))) ++ (⟨#[10]⟩ : ByteArray) ++ b)) (
 some (.bool true)) (
 some (.bool false))) (
 none)) (
 none)) (
 none)) (
 none)) (
 none)) (
 none)) (
 none)) (
 none)) (
 none)) (
 none)) (
 none)) (
 none)) (
 none)) (
 none)) (
 none)) (
 none))) (
 none)) (
 none)) := by kernel_rfl
set_option maxRecDepth 100000 in
theorem r_alK (gl : Gl) (hz : ByteArray → Bool) (rp : Int → ByteArray) (g : ByteArray → Bool) (ws : ByteArray → List Value) (n : ByteArray → Nat) (g3 : GS) (cs : List Value) (a b : ByteArray) (k : Int) : callSK noSy Tryd.prog gl exB (HLb (mkFK g ws n) hz rp [(39, [(0, ⟨eqWLive, [4], gH g3 (eqWO cs)⟩)])]) 100 40 40 (.fn 13) [.string a, .string b, .int .u8 k] LS.start flatR =
 cond (decide (IntKind.i64.wrap ((↑a.size : Int) + (↑b.size : Int)) > 20000)) (
 some (.bool true)) (
 cond ((a.size + b.size).ble 9223372036854775807) (
 cond (decide ((a ++ b).size ≤ 1000000) && (cl ((⟨#[122, 57]⟩ : ByteArray) = z9B))) (
 cond (hz (a ++ b)) (
 some (.bool true)) (
 cond (cl ((⟨#[120]⟩ : ByteArray) = xB) && (decide (0 ≤ IntKind.i64.wrap (k.tmod 20)) && (decide (IntKind.i64.wrap (k.tmod 20) ≤ 100)))) (
 cond ((2 + (rp (IntKind.i64.wrap (k.tmod 20))).size).ble 9223372036854775807) (
 cond ((8 + a.size).ble 9223372036854775807) (
 cond ((((⟨#[106, 117, 109, 112, 32, 122, 57, 10]⟩ : ByteArray) ++ a).size + 13).ble 9223372036854775807) (
 cond ((((⟨#[106, 117, 109, 112, 32, 122, 57, 10]⟩ : ByteArray) ++ a ++ (⟨#[10, 122, 57, 58, 10, 106, 117, 109, 112, 32, 122, 57, 10]⟩ : ByteArray)).size + b.size).ble 9223372036854775807) (
 cond (g ((⟨#[106, 117, 109, 112, 32, 122, 57, 10]⟩ : ByteArray) ++ a ++ (⟨#[10, 122, 57, 58, 10, 106, 117, 109, 112, 32, 122, 57, 10]⟩ : ByteArray) ++ b)) (
 cond (List.all (ws ((⟨#[106, 117, 109, 112, 32, 122, 57, 10]⟩ : ByteArray) ++ a ++ (⟨#[10, 122, 57, 58, 10, 106, 117, 109, 112, 32, 122, 57, 10]⟩ : ByteArray) ++ b)) (af 8) && true) (
 cond ((5 + ((⟨#[122, 57]⟩ : ByteArray) ++ rp (IntKind.i64.wrap (k.tmod 20))).size).ble 9223372036854775807) (
 cond ((((⟨#[106, 117, 109, 112, 32]⟩ : ByteArray) ++ ((⟨#[122, 57]⟩ : ByteArray) ++ rp (IntKind.i64.wrap (k.tmod 20)))).size + 1).ble 9223372036854775807) (
 cond ((((⟨#[106, 117, 109, 112, 32]⟩ : ByteArray) ++ ((⟨#[122, 57]⟩ : ByteArray) ++ rp (IntKind.i64.wrap (k.tmod 20))) ++ (⟨#[10]⟩ : ByteArray)).size + a.size).ble 9223372036854775807) (
 cond ((((⟨#[106, 117, 109, 112, 32]⟩ : ByteArray) ++ ((⟨#[122, 57]⟩ : ByteArray) ++ rp (IntKind.i64.wrap (k.tmod 20))) ++ (⟨#[10]⟩ : ByteArray) ++ a).size + 1).ble 9223372036854775807) (
 cond ((((⟨#[106, 117, 109, 112, 32]⟩ : ByteArray) ++ ((⟨#[122, 57]⟩ : ByteArray) ++ rp (IntKind.i64.wrap (k.tmod 20))) ++ (⟨#[10]⟩ : ByteArray) ++ a ++ (⟨#[10]⟩ : ByteArray)).size + ((⟨#[122, 57]⟩ : ByteArray) ++ rp (IntKind.i64.wrap (k.tmod 20))).size).ble 9223372036854775807) (
 cond ((((⟨#[106, 117, 109, 112, 32]⟩ : ByteArray) ++ ((⟨#[122, 57]⟩ : ByteArray) ++ rp (IntKind.i64.wrap (k.tmod 20))) ++ (⟨#[10]⟩ : ByteArray) ++ a ++ (⟨#[10]⟩ : ByteArray) ++ ((⟨#[122, 57]⟩ : ByteArray) ++ rp (IntKind.i64.wrap (k.tmod 20)))).size + 7).ble 9223372036854775807) (
 cond ((((⟨#[106, 117, 109, 112, 32]⟩ : ByteArray) ++ ((⟨#[122, 57]⟩ : ByteArray) ++ rp (IntKind.i64.wrap (k.tmod 20))) ++ (⟨#[10]⟩ : ByteArray) ++ a ++ (⟨#[10]⟩ : ByteArray) ++ ((⟨#[122, 57]⟩ : ByteArray) ++ rp (IntKind.i64.wrap (k.tmod 20))) ++ (⟨#[58, 10, 106, 117, 109, 112, 32]⟩ : ByteArray)).size + ((⟨#[122, 57]⟩ : ByteArray) ++ rp (IntKind.i64.wrap (k.tmod 20))).size).ble 9223372036854775807) (
 cond ((((⟨#[106, 117, 109, 112, 32]⟩ : ByteArray) ++ ((⟨#[122, 57]⟩ : ByteArray) ++ rp (IntKind.i64.wrap (k.tmod 20))) ++ (⟨#[10]⟩ : ByteArray) ++ a ++ (⟨#[10]⟩ : ByteArray) ++ ((⟨#[122, 57]⟩ : ByteArray) ++ rp (IntKind.i64.wrap (k.tmod 20))) ++ (⟨#[58, 10, 106, 117, 109, 112, 32]⟩ : ByteArray) ++ ((⟨#[122, 57]⟩ : ByteArray) ++ rp (IntKind.i64.wrap (k.tmod 20)))).size + 1).ble 9223372036854775807) (
 cond ((((⟨#[106, 117, 109, 112, 32]⟩ : ByteArray) ++ ((⟨#[122, 57]⟩ : ByteArray) ++ rp (IntKind.i64.wrap (k.tmod 20))) ++ (⟨#[10]⟩ : ByteArray) ++ a ++ (⟨#[10]⟩ : ByteArray) ++ ((⟨#[122, 57]⟩ : ByteArray) ++ rp (IntKind.i64.wrap (k.tmod 20))) ++ (⟨#[58, 10, 106, 117, 109, 112, 32]⟩ : ByteArray) ++ ((⟨#[122, 57]⟩ : ByteArray) ++ rp (IntKind.i64.wrap (k.tmod 20))) ++ (⟨#[10]⟩ : ByteArray)).size + b.size).ble 9223372036854775807) (
 cond (g ((⟨#[106, 117, 109, 112, 32]⟩ : ByteArray) ++ ((⟨#[122, 57]⟩ : ByteArray) ++ rp (IntKind.i64.wrap (k.tmod 20))) ++ (⟨#[10]⟩ : ByteArray) ++ a ++ (⟨#[10]⟩ : ByteArray) ++ ((⟨#[122, 57]⟩ : ByteArray) ++ rp (IntKind.i64.wrap (k.tmod 20))) ++ (⟨#[58, 10, 106, 117, 109, 112, 32]⟩ : ByteArray) ++ ((⟨#[122, 57]⟩ : ByteArray) ++ rp (IntKind.i64.wrap (k.tmod 20))) ++ (⟨#[10]⟩ : ByteArray) ++ b)) (
 cond (List.all (ws ((⟨#[106, 117, 109, 112, 32]⟩ : ByteArray) ++ ((⟨#[122, 57]⟩ : ByteArray) ++ rp (IntKind.i64.wrap (k.tmod 20))) ++ (⟨#[10]⟩ : ByteArray) ++ a ++ (⟨#[10]⟩ : ByteArray) ++ ((⟨#[122, 57]⟩ : ByteArray) ++ rp (IntKind.i64.wrap (k.tmod 20))) ++ (⟨#[58, 10, 106, 117, 109, 112, 32]⟩ : ByteArray) ++ ((⟨#[122, 57]⟩ : ByteArray) ++ rp (IntKind.i64.wrap (k.tmod 20))) ++ (⟨#[10]⟩ : ByteArray) ++ b)) (af 8) && true) (
 cond ((↑(n ((⟨#[106, 117, 109, 112, 32, 122, 57, 10]⟩ : ByteArray) ++ a ++ (⟨#[10, 122, 57, 58, 10, 106, 117, 109, 112, 32, 122, 57, 10]⟩ : ByteArray) ++ b)) : Int) != (↑(n ((⟨#[106, 117, 109, 112, 32]⟩ : ByteArray) ++ ((⟨#[122, 57]⟩ : ByteArray) ++ rp (IntKind.i64.wrap (k.tmod 20))) ++ (⟨#[10]⟩ : ByteArray) ++ a ++ (⟨#[10]⟩ : ByteArray) ++ ((⟨#[122, 57]⟩ : ByteArray) ++ rp (IntKind.i64.wrap (k.tmod 20))) ++ (⟨#[58, 10, 106, 117, 109, 112, 32]⟩ : ByteArray) ++ ((⟨#[122, 57]⟩ : ByteArray) ++ rp (IntKind.i64.wrap (k.tmod 20))) ++ (⟨#[10]⟩ : ByteArray) ++ b)) : Int)) (
 some (.bool false)) (
 cond (List.all (ws ((⟨#[106, 117, 109, 112, 32]⟩ : ByteArray) ++ ((⟨#[122, 57]⟩ : ByteArray) ++ rp (IntKind.i64.wrap (k.tmod 20))) ++ (⟨#[10]⟩ : ByteArray) ++ a ++ (⟨#[10]⟩ : ByteArray) ++ ((⟨#[122, 57]⟩ : ByteArray) ++ rp (IntKind.i64.wrap (k.tmod 20))) ++ (⟨#[58, 10, 106, 117, 109, 112, 32]⟩ : ByteArray) ++ ((⟨#[122, 57]⟩ : ByteArray) ++ rp (IntKind.i64.wrap (k.tmod 20))) ++ (⟨#[10]⟩ : ByteArray) ++ b)) (af 8) && (List.all (ws ((⟨#[106, 117, 109, 112, 32, 122, 57, 10]⟩ : ByteArray) ++ a ++ (⟨#[10, 122, 57, 58, 10, 106, 117, 109, 112, 32, 122, 57, 10]⟩ : ByteArray) ++ b)) (af 8) && true)) (
 cond (g3 [.int .i64 0, .slice (some ⟨1000, 0, none⟩) (n ((⟨#[106, 117, 109, 112, 32]⟩ : ByteArray) ++ ((⟨#[122, 57]⟩ : ByteArray) ++ rp (IntKind.i64.wrap (k.tmod 20))) ++ (⟨#[10]⟩ : ByteArray) ++ a ++ (⟨#[10]⟩ : ByteArray) ++ ((⟨#[122, 57]⟩ : ByteArray) ++ rp (IntKind.i64.wrap (k.tmod 20))) ++ (⟨#[58, 10, 106, 117, 109, 112, 32]⟩ : ByteArray) ++ ((⟨#[122, 57]⟩ : ByteArray) ++ rp (IntKind.i64.wrap (k.tmod 20))) ++ (⟨#[10]⟩ : ByteArray) ++ b)) (n ((⟨#[106, 117, 109, 112, 32]⟩ : ByteArray) ++ ((⟨#[122, 57]⟩ : ByteArray) ++ rp (IntKind.i64.wrap (k.tmod 20))) ++ (⟨#[10]⟩ : ByteArray) ++ a ++ (⟨#[10]⟩ : ByteArray) ++ ((⟨#[122, 57]⟩ : ByteArray) ++ rp (IntKind.i64.wrap (k.tmod 20))) ++ (⟨#[58, 10, 106, 117, 109, 112, 32]⟩ : ByteArray) ++ ((⟨#[122, 57]⟩ : ByteArray) ++ rp (IntKind.i64.wrap (k.tmod 20))) ++ (⟨#[10]⟩ : ByteArray) ++ b)), .slice (some ⟨1001, 0, none⟩) (n ((⟨#[106, 117, 109, 112, 32, 122, 57, 10]⟩ : ByteArray) ++ a ++ (⟨#[10, 122, 57, 58, 10, 106, 117, 109, 112, 32, 122, 57, 10]⟩ : ByteArray) ++ b)) (n ((⟨#[106, 117, 109, 112, 32, 122, 57, 10]⟩ : ByteArray) ++ a ++ (⟨#[10, 122, 57, 58, 10, 106, 117, 109, 112, 32, 122, 57, 10]⟩ : ByteArray) ++ b)), goInt (↑(n ((⟨#[106, 117, 109, 112, 32, 122, 57, 10]⟩ : ByteArray) ++ a ++ (⟨#[10, 122, 57, 58, 10, 106, 117, 109, 112, 32, 122, 57, 10]⟩ : ByteArray) ++ b)) : Int), .bool false] [some (.row ⟨ws ((⟨#[106, 117, 109, 112, 32]⟩ : ByteArray) ++ ((⟨#[122, 57]⟩ : ByteArray) ++ rp (IntKind.i64.wrap (k.tmod 20))) ++ (⟨#[10]⟩ : ByteArray) ++ a ++ (⟨#[10]⟩ : ByteArray) ++ ((⟨#[122, 57]⟩ : ByteArray) ++ rp (IntKind.i64.wrap (k.tmod 20))) ++ (⟨#[58, 10, 106, 117, 109, 112, 32]⟩ : ByteArray) ++ ((⟨#[122, 57]⟩ : ByteArray) ++ rp (IntKind.i64.wrap (k.tmod 20))) ++ (⟨#[10]⟩ : ByteArray) ++ b), 29, (0, 0), 1, false, false⟩), some (.row ⟨ws ((⟨#[106, 117, 109, 112, 32, 122, 57, 10]⟩ : ByteArray) ++ a ++ (⟨#[10, 122, 57, 58, 10, 106, 117, 109, 112, 32, 122, 57, 10]⟩ : ByteArray) ++ b), 29, (0, 0), 1, false, false⟩)]) (
 cond (List.all cs (af 8) && (List.all cs (af 8) && true)) (
 some (.bool true)) (
 none)) (
 none)) (
 none))) (
 none)) (
 none)) (
 none)) (
 none)) (
 none)) (
 none)) (
 none)) (
 none)) (
 none)) (
 none)) (
 none)) (
 none)) (
 none)) (
 none)) (
 none)) (
 none)) (
 none)) (
 none))) (
 none)) (
 none)) := by kernel_rfl
end Go.Proofs.YtgohnfkidkomhaaDoor

noncomputable section
namespace Go.Proofs.YtgohnfkidkomhaaDoor
open Go.Proofs.YtgohnfkidkomhaaDoor.Ev Go.RowKit

/-! What a label is called. -/
/-- A text in which no 'z9' stands. -/
def NoZ (s : ByteArray) : Prop := ¬ ([122, 57] : List UInt8) <:+: s.data.toList
theorem NoZ.of {s t : ByteArray} (h : NoZ s) (ht : t.data.toList <:+: s.data.toList) : NoZ t := fun e => h (e.trans ht)
theorem noZ_nil : NoZ ⟨#[]⟩ := fun e => by
  have := e.length_le
  simp at this
theorem NoZ.sub {s : ByteArray} (h : NoZ s) (a b : Int) : NoZ (subS s a b) := h.of (by
  unfold subS
  rw [ByteArray.data_extract, Array.toList_extract]
  exact ((List.take_prefix _ _).isInfix).trans (List.drop_suffix _ _).isInfix)
theorem NoZ.l {a b : ByteArray} (h : NoZ (a ++ b)) : NoZ a := h.of (by rw [app_data]; exact (List.prefix_append _ _).isInfix)
theorem NoZ.r {a b : ByteArray} (h : NoZ (a ++ b)) : NoZ b := h.of (by rw [app_data]; exact (List.suffix_append _ _).isInfix)
theorem cutL_head {c : UInt8} : ∀ {l p : List UInt8} {ps : List (List UInt8)}, cutL c l = p :: ps → p <+: l
  | [], p, ps, h => by
    rw [show cutL c [] = [[]] from rfl] at h
    cases h
    exact List.nil_prefix
  | b :: l, p, ps, h => by
    rw [cutL] at h
    split at h
    · cases h; exact List.nil_prefix
    · split at h
      · rename_i hn
        exact absurd hn (cutL_ne c l)
      · rename_i p0 ps0 hp
        cases h
        exact List.cons_prefix_cons.2 ⟨rfl, cutL_head hp⟩
theorem cutL_in {c : UInt8} : ∀ {l p : List UInt8}, p ∈ cutL c l → p <:+: l
  | [], p, h => by
    rw [show cutL c [] = [[]] from rfl, List.mem_singleton] at h
    subst h
    exact List.infix_rfl
  | b :: l, p, h => by
    have up : ∀ {q : List UInt8}, q <:+: l → q <:+: b :: l := fun h => h.trans (List.suffix_cons b l).isInfix
    rw [cutL] at h
    split at h
    · rcases List.mem_cons.1 h with rfl | h
      · exact List.nil_infix
      · exact up (cutL_in h)
    · split at h
      · rename_i hn
        exact absurd hn (cutL_ne c l)
      · rename_i p0 ps hp
        rcases List.mem_cons.1 h with rfl | h
        · exact (List.cons_prefix_cons.2 ⟨rfl, cutL_head hp⟩).isInfix
        · exact up (cutL_in (by rw [hp]; exact List.mem_cons_of_mem _ h))
theorem NoZ.split {s p : ByteArray} (h : NoZ s) (hp : p ∈ splB s nlB) : NoZ p := by
  have hp : p ∈ splB s ⟨#[10]⟩ := hp
  rw [splB_cut] at hp
  obtain ⟨l, hl, rfl⟩ := List.mem_map.1 hp
  exact h.of (by simpa using cutL_in hl)
theorem index_no {sub : List UInt8} : ∀ {l : List UInt8}, Lib.index l sub = -1 → ∀ p q, p ++ (sub ++ q) ≠ l
  | [], h, p, q, e => by
    have e1 : sub = [] := by
      rcases List.append_eq_nil_iff.1 e with ⟨_, e⟩
      exact (List.append_eq_nil_iff.1 e).1
    subst e1
    rw [Lib.index_empty] at h
    cases h
  | b :: l, h, p, q, e => by
    unfold Lib.index at h
    split at h
    · cases h
    · rename_i hb
      cases p with
      | nil =>
        rw [List.nil_append] at e
        rw [← e] at hb
        exact hb (by simp)
      | cons x p =>
        cases e
        split at h
        · rename_i hl
          exact index_no (beq_iff_eq.1 hl) p q rfl
        · rename_i hl
          have h2 := Lib.index_ge (p ++ (sub ++ q)) sub
          exact absurd h (show ¬ (Lib.index (p ++ (sub ++ q)) sub + 1 = -1) by
            have : Lib.index (p ++ (sub ++ q)) sub ≠ -1 := fun e => hl (beq_iff_eq.2 e)
            omega)
def hasZ (s : ByteArray) : Bool := Lib.contains s.data.toList z9B.data.toList
theorem hasZ_no {s : ByteArray} (h : hasZ s = false) : NoZ s := by
  unfold hasZ Lib.contains at h
  have h1 := of_decide_eq_false h
  have h2 := Lib.index_ge s.data.toList z9B.data.toList
  rintro ⟨p, q, e⟩
  exact index_no (sub := z9B.data.toList) (show Lib.index s.data.toList z9B.data.toList = -1 by omega) p q (by rw [← List.append_assoc]; exact e)
theorem tokS_noZ {s : ByteArray} (h : NoZ s) {a : Int} {t : Tok} {k : Int} (hq : tokS s a = .tok t k) : NoZ t.text := by
  unfold tokS at hq
  repeat' split at hq
  all_goals first
    | (cases hq; done)
    | (cases hq; exact noZ_nil)
    | (cases hq; exact h.sub _ _)
theorem tokGo_noZ {s : ByteArray} (h : NoZ s) : ∀ (f : Nat) (a : Int) (l : List Tok), (∀ t ∈ l, NoZ t.text) → ∀ t ∈ (tokGo s f a l).1, NoZ t.text
  | 0, a, l, hl => hl
  | f + 1, a, l, hl => by
    unfold tokGo
    cases hq : tokS s a with
    | stop => exact hl
    | err e => exact hl
    | skip => exact tokGo_noZ h f (a + 1) l hl
    | tok t k =>
      refine tokGo_noZ h f (a + k) (l ++ [t]) fun x hx => ?_
      rcases List.mem_append.1 hx with hx | hx
      · exact hl x hx
      · rw [List.mem_singleton] at hx
        subst hx
        exact tokS_noZ h hq
theorem lnTok_noZ {s : ByteArray} (h : NoZ s) : ∀ t ∈ (lnTok s).1, NoZ t.text := by
  unfold lnTok
  cases decide ((s.size : Int) > 200) with
  | true => exact fun t h => by cases h
  | false => exact tokGo_noZ h _ _ _ fun t h => by cases h
theorem tk_noZ {l : List Tok} (h : ∀ t ∈ l, NoZ t.text) (i : Nat) : NoZ (tk l i).text := by
  unfold tk
  cases hq : l[i]? with
  | none => exact noZ_nil
  | some t => exact h t (List.mem_of_getElem? hq)
/-! Names changed. -/
theorem baq {x y : ByteArray} : (x == y) = true ↔ x = y := by
  cases x with
  | mk a =>
  cases y with
  | mk b =>
  show (a == b) = true ↔ _
  rw [beq_iff_eq, ByteArray.mk.injEq]
def rn (nm x : ByteArray) : ByteArray := if x = z9B then nm else x
def rnL (nm : ByteArray) (lb : Lb) : Lb := lb.map fun p => (rn nm p.1, p.2)
def rnTo (nm : ByteArray) (t : Told) : Told := { t with label := rn nm t.label }
def Fine (x : ByteArray) : Prop := x = z9B ∨ NoZ x
def FL (lb : Lb) : Prop := ∀ p ∈ lb, Fine p.1
def FT (td : List Told) : Prop := ∀ t ∈ td, Fine t.label
theorem z9_has : ¬ NoZ z9B := fun h => h List.infix_rfl
theorem rn_no {nm x : ByteArray} (h : NoZ x) : rn nm x = x := if_neg fun e => z9_has (by rw [← e]; exact h)
section
variable {nm : ByteArray} (hn : ¬ NoZ nm)
include hn
theorem rn_beq {x y : ByteArray} (h : NoZ x) : (x == rn nm y) = (x == y) := by
  have h1 : x ≠ nm := fun e => hn (by rw [← e]; exact h)
  have h2 : x ≠ z9B := fun e => z9_has (by rw [← e]; exact h)
  unfold rn
  split
  · rename_i e
    subst e
    rw [Bool.eq_iff_iff]
    simp only [baq]
    exact ⟨fun e => absurd e h1, fun e => absurd e h2⟩
  · rfl
theorem rn_beq9 {y : ByteArray} (h : Fine y) : (nm == rn nm y) = (z9B == y) := by
  rcases h with rfl | h
  · rw [show rn nm z9B = nm from if_pos rfl, baq.2 rfl, baq.2 rfl]
  · rw [rn_no h, Bool.eq_iff_iff]
    simp only [baq]
    exact ⟨fun e => absurd (e ▸ h) hn, fun e => absurd (e ▸ h) z9_has⟩
theorem rnL_has {x : ByteArray} (h : NoZ x) : ∀ lb : Lb, lbHas (rnL nm lb) x = lbHas lb x
  | [] => rfl
  | p :: lb => by
    show cond (x == rn nm p.1) true (lbHas (rnL nm lb) x) = cond (x == p.1) true (lbHas lb x)
    rw [rn_beq hn h, rnL_has h lb]
theorem rnL_at {x : ByteArray} (h : NoZ x) : ∀ lb : Lb, lbAt (rnL nm lb) x = lbAt lb x
  | [] => rfl
  | p :: lb => by
    show cond (x == rn nm p.1) p.2 (lbAt (rnL nm lb) x) = cond (x == p.1) p.2 (lbAt lb x)
    rw [rn_beq hn h, rnL_at h lb]
theorem rnL_has9 : ∀ {lb : Lb}, FL lb → lbHas (rnL nm lb) nm = lbHas lb z9B
  | [], _ => rfl
  | p :: lb, h => by
    show cond (nm == rn nm p.1) true (lbHas (rnL nm lb) nm) = cond (z9B == p.1) true (lbHas lb z9B)
    rw [rn_beq9 hn (h p (List.mem_cons_self ..)), rnL_has9 fun q hq => h q (List.mem_cons_of_mem _ hq)]
theorem rnL_at9 : ∀ {lb : Lb}, FL lb → lbAt (rnL nm lb) nm = lbAt lb z9B
  | [], _ => rfl
  | p :: lb, h => by
    show cond (nm == rn nm p.1) p.2 (lbAt (rnL nm lb) nm) = cond (z9B == p.1) p.2 (lbAt lb z9B)
    rw [rn_beq9 hn (h p (List.mem_cons_self ..)), rnL_at9 fun q hq => h q (List.mem_cons_of_mem _ hq)]
theorem rn_tdW {lb : Lb} (hl : FL lb) (i : Nat) {t : Told} (ht : Fine t.label) : tdW (rnL nm lb) i (rnTo nm t) = tdW lb i t := by
  have e : decide (rn nm t.label = ⟨#[]⟩) = decide (t.label = ⟨#[]⟩) ∧ lbHas (rnL nm lb) (rn nm t.label) = lbHas lb t.label ∧ lbAt (rnL nm lb) (rn nm t.label) = lbAt lb t.label := by
    rcases ht with h | h
    · rw [h, show rn nm z9B = nm from if_pos rfl]
      refine ⟨?_, rnL_has9 hn hl, rnL_at9 hn hl⟩
      rw [decide_eq_false fun e => hn (by rw [e]; exact noZ_nil), decide_eq_false fun e => z9_has (by rw [e]; exact noZ_nil)]
    · rw [rn_no h]
      exact ⟨rfl, rnL_has hn h lb, rnL_at hn h lb⟩
  obtain ⟨e1, e2, e3⟩ := e
  unfold tdW tdN
  show cond (decide (rn nm t.label = ⟨#[]⟩) || lbHas (rnL nm lb) (rn nm t.label)) _ _ = _
  rw [show (rnTo nm t).label = rn nm t.label from rfl, e1, e2, e3]
  rfl
theorem rn_wdGo {lb : Lb} (hl : FL lb) : ∀ (td : List Told) (i : Nat) (ws : List Int), FT td → wdGoM (rnL nm lb) (td.map (rnTo nm)) i ws = wdGoM lb td i ws
  | [], i, ws, _ => rfl
  | t :: td, i, ws, h => by
    rw [List.map_cons, wdGoM, wdGoM, rn_tdW hn hl i (h t (List.mem_cons_self ..))]
    cases tdW lb i t with
    | inl w => exact rn_wdGo hl td (i + 1) (ws ++ [w]) fun x hx => h x (List.mem_cons_of_mem _ hx)
    | inr e => rfl
theorem rn_lbGo {l : List Tok} (ht : ∀ t ∈ l, NoZ t.text) {n : Int} : ∀ (f i : Nat) (lb : Lb), lbGo l n f i (rnL nm lb) = ((lbGo l n f i lb).1, rnL nm (lbGo l n f i lb).2.1, (lbGo l n f i lb).2.2)
  | 0, i, lb => rfl
  | f + 1, i, lb => by
    rw [lbGo, lbGo]
    cases lbIs l i with
    | false => rfl
    | true =>
      rw [cond_true, cond_true, rnL_has hn (tk_noZ ht i)]
      cases lbHas lb (tk l i).text with
      | true => rfl
      | false =>
        rw [cond_false, cond_false]
        have e : rnL nm lb ++ [((tk l i).text, n)] = rnL nm (lb ++ [((tk l i).text, n)]) := by
          unfold rnL
          rw [List.map_append, List.map_singleton, rn_no (tk_noZ ht i)]
        rw [e]
        exact rn_lbGo ht f (i + 2) _
end
theorem lbGo_fine {l : List Tok} (ht : ∀ t ∈ l, NoZ t.text) {n : Int} : ∀ (f i : Nat) {lb : Lb}, FL lb → FL (lbGo l n f i lb).2.1
  | 0, i, lb, h => h
  | f + 1, i, lb, h => by
    rw [lbGo]
    cases lbIs l i with
    | false => exact h
    | true =>
      rw [cond_true]
      cases lbHas lb (tk l i).text with
      | true => exact h
      | false =>
        rw [cond_false]
        refine lbGo_fine ht f (i + 2) fun p hp => ?_
        rcases List.mem_append.1 hp with hp | hp
        · exact h p hp
        · rw [List.mem_singleton] at hp
          subst hp
          exact .inr (tk_noZ ht i)
theorem wantOne_lab {l : List Tok} (ht : ∀ t ∈ l, NoZ t.text) {num w : Int} {j r : Nat} {t : Told} {k : Nat → Told → LiR} (hk : ∀ r t' t2, NoZ t'.label → k r t' = .inr t2 → NoZ t2.label) (h0 : NoZ t.label) {t2 : Told} (h : wantOne l num w j r t k = .inr t2) : NoZ t2.label := by
  obtain ⟨_, h⟩ := wantOne_inr h
  rcases h with ⟨_, _, h⟩ | ⟨_, _, h⟩ | ⟨_, _, h⟩
  · refine hk _ _ _ ?_ h
    unfold Told.put
    split <;> exact h0
  · exact hk _ _ _ (show NoZ ({ t with n := (tk l j).n, line := num, at_ := (tk l j).at_ } : Told).label from h0) h
  · exact hk _ _ _ (show NoZ ({ t with label := (tk l j).text, line := num, at_ := (tk l j).at_ } : Told).label from tk_noZ ht j) h
theorem wantGo_lab {l : List Tok} (ht : ∀ t ∈ l, NoZ t.text) {num : Int} : ∀ (ws : List Int) (b : Bool) (i r : Nat) (t t2 : Told), NoZ t.label → wantGo l num ws b i r t = .inr t2 → NoZ t2.label
  | [], b, i, r, t, t2, h0, h => by rw [wantGo_nil h]; exact h0
  | w :: ws, true, i, r, t, t2, h0, h => by
    rw [wantGo] at h
    exact wantOne_lab ht (fun r t' t2 e h => wantGo_lab ht ws false (i + 1) r t' t2 e h) h0 h
  | w :: ws, false, i, r, t, t2, h0, h => wantOne_lab ht (fun r t' t2 e h => wantGo_lab ht ws false (i + 1 + 1) r t' t2 e h) h0 (wantGo_more h)
/-! A line and its like. -/
def ren (nm : ByteArray) (m : MkS) : MkS := ⟨rnL nm m.lb, m.td.map (rnTo nm), m.er⟩
def LnOK (nm s s' : ByteArray) : Prop := ∀ (num : Int) (lb : Lb) (td : List Told), FL lb → FT td → lnStep s' num (rnL nm lb) (td.map (rnTo nm)) = ren nm (lnStep s num lb td) ∧ FL (lnStep s num lb td).lb ∧ FT (lnStep s num lb td).td
theorem ln_noZ {nm s : ByteArray} (hn : ¬ NoZ nm) (h : NoZ s) : LnOK nm s s := by
  intro num lb td hl ht
  have hz := lnTok_noZ h
  unfold lnStep
  rw [List.length_map]
  by_cases h1 : (lnTok s).2.2 ≠ 0
  · rw [if_pos h1, if_pos h1]; exact ⟨rfl, hl, ht⟩
  rw [if_neg h1, if_neg h1]
  by_cases h2 : (lnTok s).1 = []
  · rw [if_pos h2, if_pos h2]; exact ⟨rfl, hl, ht⟩
  rw [if_neg h2, if_neg h2, rn_lbGo hn hz]
  have hf := lbGo_fine hz (n := (td.length : Int)) ((lnTok s).1.length + 1) 0 hl
  generalize hR : lbGo (lnTok s).1 (td.length : Int) ((lnTok s).1.length + 1) 0 lb = R at hf
  have e : liEnd (lnTok s).1 num (td.map (rnTo nm)) (R.1, rnL nm R.2.1, R.2.2) = liEnd (lnTok s).1 num td R := by
    unfold liEnd
    rw [List.length_map]
  rw [e]
  cases hq : liEnd (lnTok s).1 num td R with
  | inr u => exact ⟨rfl, hf, ht⟩
  | inl q =>
    cases q with
    | inl x => exact ⟨rfl, hf, ht⟩
    | inr t =>
      have hz2 : NoZ t.label := wantGo_lab hz _ _ _ _ _ _ (show NoZ (toldNil _).label from noZ_nil) (liEnd_inr hq)
      refine ⟨?_, hf, fun x hx => ?_⟩
      · show (⟨rnL nm R.2.1, td.map (rnTo nm) ++ [t], none⟩ : MkS) = ⟨rnL nm R.2.1, (td ++ [t]).map (rnTo nm), none⟩
        rw [List.map_append, List.map_singleton, show rnTo nm t = t by unfold rnTo; rw [rn_no hz2]]
      · rcases List.mem_append.1 hx with hx | hx
        · exact ht x hx
        · rw [List.mem_singleton] at hx
          subst hx
          exact .inr hz2
inductive LnsOK (nm : ByteArray) : List ByteArray → List ByteArray → Prop
  | nil : LnsOK nm [] []
  | cons {s s' l l'} : LnOK nm s s' → LnsOK nm l l' → LnsOK nm (s :: l) (s' :: l')
theorem LnsOK.append {nm : ByteArray} {a a' b b' : List ByteArray} (h : LnsOK nm a a') (k : LnsOK nm b b') : LnsOK nm (a ++ b) (a' ++ b') := by
  induction h with
  | nil => exact k
  | cons h1 _ ih => exact .cons h1 ih
theorem lns_noZ {nm : ByteArray} (hn : ¬ NoZ nm) : ∀ {l : List ByteArray}, (∀ s ∈ l, NoZ s) → LnsOK nm l l
  | [], _ => .nil
  | s :: l, h => .cons (ln_noZ hn (h s (List.mem_cons_self ..))) (lns_noZ hn fun x hx => h x (List.mem_cons_of_mem _ hx))
theorem mkGo_rn {nm : ByteArray} {ss ss' : List ByteArray} (h : LnsOK nm ss ss') : ∀ (n : Nat) (lb : Lb) (td : List Told), FL lb → FT td →
    mkGo ss' n (rnL nm lb) (td.map (rnTo nm)) = (rnL nm (mkGo ss n lb td).1, (mkGo ss n lb td).2.1.map (rnTo nm), (mkGo ss n lb td).2.2) ∧ FL (mkGo ss n lb td).1 ∧ FT (mkGo ss n lb td).2.1 := by
  induction h with
  | nil => intro n lb td hl ht; exact ⟨rfl, hl, ht⟩
  | @cons s s' l l' h1 _ ih =>
    intro n lb td hl ht
    obtain ⟨e, f1, f2⟩ := h1 ((n + 1 : Nat) : Int) lb td hl ht
    rw [mkGo, mkGo, e]
    cases hq : lnStep s ((n + 1 : Nat) : Int) lb td with
    | mk lb1 td1 er =>
    rw [hq] at f1 f2
    cases er with
    | some x => exact ⟨rfl, f1, f2⟩
    | none => exact ih (n + 1) lb1 td1 f1 f2
theorem mkA_rn {nm s s' : ByteArray} (hn : ¬ NoZ nm) (h : LnsOK nm (splB s nlB) (splB s' nlB)) : mkA s' = mkA s := by
  obtain ⟨e, f1, f2⟩ := mkGo_rn h 0 [] [] (fun p h => by cases h) (fun p h => by cases h)
  have e : mkGo (splB s' nlB) 0 [] [] = _ := e
  unfold mkA
  rw [e]
  cases hq : mkGo (splB s nlB) 0 [] [] with
  | mk lb q =>
  obtain ⟨td, er⟩ := q
  rw [hq] at f1 f2
  cases er with
  | some x => rfl
  | none =>
    show mkW (rnL nm lb) (td.map (rnTo nm)) = mkW lb td
    unfold mkW
    rw [rn_wdGo hn f1 td 0 [] f2]
end Go.Proofs.YtgohnfkidkomhaaDoor

noncomputable section
namespace Go.Proofs.YtgohnfkidkomhaaDoor
open Go.Proofs.YtgohnfkidkomhaaDoor.Ev Go.RowKit

/-! A jump to a label; a label: whatever it is called. -/
def jumpW : ByteArray := ⟨#[106, 117, 109, 112]⟩
def jmpB : ByteArray := ⟨#[106, 117, 109, 112, 32]⟩
def colB : ByteArray := ⟨#[58]⟩
def wordTk (x : ByteArray) : Tok := ⟨1, x, 0, 0⟩
def wordB (x : ByteArray) : Bool := decide (1 ≤ x.size) && (letterB (byteAt x 0) && (decide (runE partB x 0 = (x.size : Int)) && (decide (regC x < 0) && decide (x.size ≤ 100))))
theorem wordB_ok {x : ByteArray} (h : wordB x = true) : okT (wordTk x) ∧ x.size ≤ 100 := by
  unfold wordB at h
  simp only [Bool.and_eq_true, decide_eq_true_eq] at h
  obtain ⟨h1, h2, h3, h4, h5⟩ := h
  exact ⟨.inl ⟨rfl, h1, h2, h3, h4, rfl⟩, h5⟩
theorem lnTok_of {s : ByteArray} {l : List Tok} (h : s.size ≤ 200) (hl : ∀ t ∈ l, okT t) (e : textGo true l = s) : (lnTok s).1 = posGo 0 true l ∧ (lnTok s).2.2 = 0 := by
  subst e
  unfold lnTok
  rw [decide_eq_false (by omega), cond_false]
  exact text_line hl
theorem jump_ok : okT (wordTk jumpW) := (wordB_ok (by decide +kernel)).1
theorem tok_jump {nm : ByteArray} (h : wordB nm = true) : (lnTok (jmpB ++ nm)).1 = [⟨1, jumpW, 0, 0⟩, ⟨1, nm, 0, 5⟩] ∧ (lnTok (jmpB ++ nm)).2.2 = 0 := by
  obtain ⟨h1, h2⟩ := wordB_ok h
  obtain ⟨e1, e2⟩ := lnTok_of (s := jmpB ++ nm) (l := [wordTk jumpW, wordTk nm]) (by rw [size_app]; show 5 + nm.size ≤ 200; omega) (fun t ht => by
    simp only [List.mem_cons, List.not_mem_nil, or_false] at ht
    rcases ht with rfl | rfl
    · exact jump_ok
    · exact h1) (by
    show (⟨#[]⟩ : ByteArray) ++ (jumpW ++ ((⟨#[32]⟩ : ByteArray) ++ (nm ++ (⟨#[]⟩ : ByteArray)))) = jmpB ++ nm
    apply ba_ext
    simp only [app_data]
    show [] ++ ([106, 117, 109, 112] ++ ([32] ++ (nm.data.toList ++ []))) = [106, 117, 109, 112, 32] ++ nm.data.toList
    simp)
  exact ⟨e1, e2⟩
theorem tok_lab {nm : ByteArray} (h : wordB nm = true) : (lnTok (nm ++ colB)).1 = [⟨1, nm, 0, 0⟩, ⟨5, ⟨#[]⟩, 0, 0 + (0 : Nat) + nm.size + (0 : Nat)⟩] ∧ (lnTok (nm ++ colB)).2.2 = 0 := by
  obtain ⟨h1, h2⟩ := wordB_ok h
  obtain ⟨e1, e2⟩ := lnTok_of (s := nm ++ colB) (l := [wordTk nm, ⟨5, ⟨#[]⟩, 0, 0⟩]) (by rw [size_app]; show nm.size + 1 ≤ 200; omega) (fun t ht => by
    simp only [List.mem_cons, List.not_mem_nil, or_false] at ht
    rcases ht with rfl | rfl
    · exact h1
    · exact .inr (.inr (.inr (.inr ⟨rfl, rfl, rfl⟩)))) (by
    show (⟨#[]⟩ : ByteArray) ++ (nm ++ ((⟨#[]⟩ : ByteArray) ++ ((⟨#[58]⟩ : ByteArray) ++ (⟨#[]⟩ : ByteArray)))) = nm ++ colB
    apply ba_ext
    simp only [app_data]
    show [] ++ (nm.data.toList ++ ([] ++ ([58] ++ []))) = nm.data.toList ++ [58]
    simp)
  exact ⟨e1, e2⟩
theorem ops_jump : mapHas opsE jumpW = true ∧ mapI opsE jumpW = 16 := by decide +kernel
theorem step_jump {nm : ByteArray} (h : wordB nm = true) (num : Int) (lb : Lb) (td : List Told) : lnStep (jmpB ++ nm) num lb td = if td.length = 1024 then ⟨lb, td, some (0, 7)⟩ else ⟨lb, td ++ [⟨16, 0, 0, 0, 0, num, 5, nm⟩], none⟩ := by
  obtain ⟨e1, e2⟩ := tok_jump h
  have e3 : lbGo (lnTok (jmpB ++ nm)).1 (td.length : Int) ((lnTok (jmpB ++ nm)).1.length + 1) 0 lb = (0, lb, false) := by rw [e1]; rfl
  have e4 : liEnd (lnTok (jmpB ++ nm)).1 num td (0, lb, false) = .inl (cond (decide (td.length = 1024)) (.inl (0, 7)) (.inr ⟨16, 0, 0, 0, 0, num, 5, nm⟩)) := by
    rw [e1]
    show (Sum.inl (liRes [⟨1, jumpW, 0, 0⟩, ⟨1, nm, 0, 5⟩] num opsE (wantsOf (mapI opsE jumpW)) td.length 0) : LiR ⊕ Unit) = _
    unfold liRes
    show (Sum.inl (cond (mapHas opsE jumpW) (cond (decide (td.length = 1024)) (.inl (0, 7)) (wantGo [⟨1, jumpW, 0, 0⟩, ⟨1, nm, 0, 5⟩] num (wantsOf (mapI opsE jumpW)) true 0 0 (toldNil (mapI opsE jumpW)))) (.inl (0, 210))) : LiR ⊕ Unit) = _
    rw [ops_jump.1, ops_jump.2]
    rfl
  unfold lnStep
  rw [if_neg (by rw [e2]; exact fun h => h rfl), if_neg (by rw [e1]; exact fun h => by cases h), e3, e4]
  by_cases hd : td.length = 1024
  · rw [if_pos hd, decide_eq_true hd, cond_true]
    show (⟨lb, td, some ((tk (lnTok (jmpB ++ nm)).1 0).at_, 7)⟩ : MkS) = _
    rw [e1]
    rfl
  · rw [if_neg hd, decide_eq_false hd, cond_false]
theorem step_lab {nm : ByteArray} (h : wordB nm = true) (num : Int) (lb : Lb) (td : List Told) : lnStep (nm ++ colB) num lb td = if lbHas lb nm = true then ⟨lb, td, some (0, 211)⟩ else ⟨lb ++ [(nm, (td.length : Int))], td, none⟩ := by
  obtain ⟨e1, e2⟩ := tok_lab h
  have e3 : lbGo (lnTok (nm ++ colB)).1 (td.length : Int) ((lnTok (nm ++ colB)).1.length + 1) 0 lb = cond (lbHas lb nm) (0, lb, true) (2, lb ++ [(nm, (td.length : Int))], false) := by rw [e1]; rfl
  unfold lnStep
  rw [if_neg (by rw [e2]; exact fun h => h rfl), if_neg (by rw [e1]; exact fun h => by cases h), e3]
  cases hb : lbHas lb nm with
  | true =>
    rw [if_pos rfl, cond_true]
    show (⟨lb, td, some ((tk (lnTok (nm ++ colB)).1 0).at_, 211)⟩ : MkS) = _
    rw [e1]
    rfl
  | false =>
    rw [if_neg (fun h => by cases h), cond_false]
    have e4 : liEnd (lnTok (nm ++ colB)).1 num td (2, lb ++ [(nm, (td.length : Int))], false) = .inr () := by rw [e1]; rfl
    rw [e4]
theorem z9_word : wordB z9B = true := by decide +kernel
theorem ln_jump {nm : ByteArray} (h : wordB nm = true) : LnOK nm (jmpB ++ z9B) (jmpB ++ nm) := by
  intro num lb td hl ht
  rw [step_jump h, step_jump z9_word, List.length_map]
  by_cases hd : td.length = 1024
  · rw [if_pos hd, if_pos hd]; exact ⟨rfl, hl, ht⟩
  · rw [if_neg hd, if_neg hd]
    refine ⟨?_, hl, fun x hx => ?_⟩
    · show (⟨rnL nm lb, td.map (rnTo nm) ++ [(⟨16, 0, 0, 0, 0, num, 5, nm⟩ : Told)], none⟩ : MkS) = ⟨rnL nm lb, (td ++ [(⟨16, 0, 0, 0, 0, num, 5, z9B⟩ : Told)]).map (rnTo nm), none⟩
      rw [List.map_append, List.map_singleton]
      rfl
    · rcases List.mem_append.1 hx with hx | hx
      · exact ht x hx
      · rw [List.mem_singleton] at hx
        subst hx
        exact .inl rfl
theorem ln_lab {nm : ByteArray} (hn : ¬ NoZ nm) (h : wordB nm = true) : LnOK nm (z9B ++ colB) (nm ++ colB) := by
  intro num lb td hl ht
  rw [step_lab h, step_lab z9_word, rnL_has9 hn hl, List.length_map]
  by_cases hd : lbHas lb z9B = true
  · rw [if_pos hd, if_pos hd]; exact ⟨rfl, hl, ht⟩
  · rw [if_neg hd, if_neg hd]
    refine ⟨?_, fun x hx => ?_, ht⟩
    · show (⟨rnL nm lb ++ [(nm, (td.length : Int))], td.map (rnTo nm), none⟩ : MkS) = ⟨rnL nm (lb ++ [(z9B, (td.length : Int))]), td.map (rnTo nm), none⟩
      unfold rnL
      rw [List.map_append, List.map_singleton]
      rfl
    · rcases List.mem_append.1 hx with hx | hx
      · exact hl x hx
      · rw [List.mem_singleton] at hx
        subst hx
        exact .inl rfl
/-! The two texts. -/
theorem cutL_gen (c : UInt8) (q : List UInt8) : ∀ p : List UInt8, cutL c (p ++ c :: q) = cutL c p ++ cutL c q
  | [] => cutL_app q (fun h => by cases h)
  | b :: p => by
    show cutL c (b :: (p ++ c :: q)) = _
    rw [cutL, cutL_gen c q p]
    conv => rhs; rw [cutL]
    split
    · rfl
    · cases hp : cutL c p with
      | nil => exact absurd hp (cutL_ne c p)
      | cons p0 ps => rfl
theorem splB_gen (a b : ByteArray) : splB (a ++ (nlB ++ b)) nlB = splB a nlB ++ splB b nlB := by
  show splB (a ++ ((⟨#[10]⟩ : ByteArray) ++ b)) ⟨#[10]⟩ = splB a ⟨#[10]⟩ ++ splB b ⟨#[10]⟩
  rw [splB_cut, splB_cut, splB_cut, app_data, app_data, one_data, List.singleton_append, cutL_gen, List.map_append]
def alT (nm a b : ByteArray) : ByteArray := (jmpB ++ nm) ++ (nlB ++ (a ++ (nlB ++ ((nm ++ colB) ++ (nlB ++ ((jmpB ++ nm) ++ (nlB ++ b)))))))
theorem alT_split {nm : ByteArray} (h : NoB 10 nm) (a b : ByteArray) : splB (alT nm a b) nlB = (jmpB ++ nm) :: (splB a nlB ++ ((nm ++ colB) :: ((jmpB ++ nm) :: splB b nlB))) := by
  have h1 : NoB 10 (jmpB ++ nm) := by
    unfold NoB at *
    rw [app_data]
    intro e
    rcases List.mem_append.1 e with e | e
    · revert e
      show ¬ ((10 : UInt8) ∈ [(106 : UInt8), 117, 109, 112, 32])
      decide
    · exact h e
  have h2 : NoB 10 (nm ++ colB) := by
    unfold NoB at *
    rw [app_data]
    intro e
    rcases List.mem_append.1 e with e | e
    · exact h e
    · revert e
      show ¬ ((10 : UInt8) ∈ [(58 : UInt8)])
      decide
  have o1 : splB (jmpB ++ nm) nlB = [jmpB ++ nm] := splB_one h1
  have o2 : splB (nm ++ colB) nlB = [nm ++ colB] := splB_one h2
  unfold alT
  rw [splB_gen, splB_gen, splB_gen, splB_gen, o1, o2]
  rfl
theorem al_mkA {nm a b : ByteArray} (h : NoB 10 nm) (hn : ¬ NoZ nm) (hw : wordB nm = true) (hz : NoZ (a ++ b)) : mkA (alT nm a b) = mkA (alT z9B a b) := by
  refine mkA_rn hn ?_
  have h9 : NoB 10 z9B := by
    show ¬ ((10 : UInt8) ∈ [(122 : UInt8), 57])
    decide
  rw [alT_split h, alT_split h9]
  exact .cons (ln_jump hw) ((lns_noZ hn fun s hs => hz.l.split hs).append (.cons (ln_lab hn hw) (.cons (ln_jump hw) (lns_noZ hn fun s hs => hz.r.split hs))))
/-! z9, and x as many times. -/
def repX (c : Int) : ByteArray := ⟨(Lib.repeatL xB.data.toList c.toNat).toArray⟩
def nmB (c : Int) : ByteArray := z9B ++ repX c
theorem nm_all : ∀ k : Fin 20, (wordB (nmB (k.val : Int)) && !(nmB (k.val : Int)).data.toList.contains 10) = true := by decide +kernel
theorem nm_ok {k : Nat} (h : k < 20) : wordB (nmB (k : Int)) = true ∧ NoB 10 (nmB (k : Int)) := by
  have := nm_all ⟨k, h⟩
  simp only [Bool.and_eq_true, Bool.not_eq_true', List.contains_eq_mem, decide_eq_false_iff_not] at this
  exact ⟨this.1, this.2⟩
theorem nm_z (c : Int) : ¬ NoZ (nmB c) := fun h => z9_has h.l
theorem repX_size {k : Nat} : (repX (k : Int)).size = k := by
  show (Lib.repeatL xB.data.toList _).toArray.size = _
  rw [List.size_toArray, Lib.repeatL_length, Int.toNat_natCast]
  show k * 1 = k
  omega
end Go.Proofs.YtgohnfkidkomhaaDoor

noncomputable section
namespace Go.Proofs.YtgohnfkidkomhaaDoor
open Go.Proofs.YtgohnfkidkomhaaDoor.Ev Go.RowKit

/-! AsmLabels: true, of any two texts and any number. -/
theorem fn_hasZ {gl : Gl} (hgl : Low gl) {m : Int} (hm : gl 1 0 = some (.int .i64 m)) : FnOK Tryd.prog gl 36 (afHz hasZ) := FnOK.flat hgl tglob fun args σ v h => by
  unfold afHz at h
  split at h
  · rename_i s sep
    simp only [Option.some.injEq, Prod.mk.injEq, Bool.and_eq_true, decide_eq_true_eq] at h
    obtain ⟨⟨h0, h1⟩, rfl⟩ := h
    have e := of_cl h1
    subst e
    refine ⟨rfl, rfl, fun w hw => ?_⟩
    obtain ⟨φ, hr⟩ := hw
    obtain ⟨b, g1, v', g2, g3⟩ := hr.glob 1 0 _ hm
    have g4 := hr.stat 1 (Nat.le_of_ble_eq_true (by kernel_rfl))
    rw [g4] at g1
    cases g1
    cases g3
    refine Calls.mono (Tryd.strings_Contains s z9B m w (by omega) g2) ?_
    rintro e w' ⟨rfl, rfl⟩
    exact ⟨rfl, Below.refl _ _⟩
  · cases h
theorem fn_rep {gl : Gl} (hgl : Low gl) : FnOK Tryd.prog gl 42 (afRep repX) := FnOK.flat hgl tglob fun args σ v h => by
  unfold afRep at h
  split at h
  · rename_i s c
    simp only [Option.some.injEq, Prod.mk.injEq, Bool.and_eq_true, decide_eq_true_eq] at h
    obtain ⟨⟨h0, h1, h2⟩, rfl⟩ := h
    have e := of_cl h0
    subst e
    obtain ⟨n, rfl⟩ : ∃ n : Nat, c = (n : Int) := ⟨c.toNat, by omega⟩
    refine ⟨rfl, rfl, fun w hw => ?_⟩
    refine Calls.mono (Tryd.strings_Repeat xB n w (by omega) (by show 1 * n ≤ _; omega)) ?_
    rintro e w' ⟨rfl, hB⟩
    refine ⟨?_, hB⟩
    unfold repX
    rw [Int.toNat_natCast]
  · cases h
theorem HLb_ok (m : Int) (u0 o0 u1 o1 : Nat) {mk : Hd} {lp : List (FuncId × List (Nat × LoopH))} (h1 : SubOK Tryd.prog (glA m u0 o0 u1 o1) 38 mk) (h2 : ∀ p ∈ lp, ∀ q ∈ p.2, LpOK Tryd.prog (glA m u0 o0 u1 o1) p.1 q.1 q.2) : (HLb mk hasZ repX lp).OK Tryd.prog (glA m u0 o0 u1 o1) := hsOf_ok (fun p h => by
    simp only [List.mem_cons, List.not_mem_nil, or_false] at h
    rcases h with rfl | rfl | rfl
    · exact fn_hasZ (glA_low m u0 o0 u1 o1) (glA_m m u0 o0 u1 o1)
    · exact fn_rep (glA_low m u0 o0 u1 o1)
    · exact fn_w21 (glA_low m u0 o0 u1 o1) fun g k v h => h) (fun p h => by
    simp only [List.mem_cons, List.not_mem_nil, or_false] at h
    subst h
    exact h1) h2
def alO (a b : ByteArray) : ByteArray := (⟨#[106, 117, 109, 112, 32, 122, 57, 10]⟩ : ByteArray) ++ a ++ (⟨#[10, 122, 57, 58, 10, 106, 117, 109, 112, 32, 122, 57, 10]⟩ : ByteArray) ++ b
def alN (q a b : ByteArray) : ByteArray := (⟨#[106, 117, 109, 112, 32]⟩ : ByteArray) ++ ((⟨#[122, 57]⟩ : ByteArray) ++ q) ++ (⟨#[10]⟩ : ByteArray) ++ a ++ (⟨#[10]⟩ : ByteArray) ++ ((⟨#[122, 57]⟩ : ByteArray) ++ q) ++ (⟨#[58, 10, 106, 117, 109, 112, 32]⟩ : ByteArray) ++ ((⟨#[122, 57]⟩ : ByteArray) ++ q) ++ (⟨#[10]⟩ : ByteArray) ++ b
theorem alO_eq (a b : ByteArray) : alO a b = alT z9B a b := by
  apply ba_ext
  unfold alO alT
  simp only [app_data, List.append_assoc]
  rfl
theorem alN_eq (c : Int) (a b : ByteArray) : alN (repX c) a b = alT (nmB c) a b := by
  apply ba_ext
  unfold alN alT nmB
  simp only [app_data, List.append_assoc]
  rfl
theorem alN_size (q a b : ByteArray) : (alN q a b).size = a.size + b.size + 3 * q.size + 21 := by
  unfold alN
  simp only [size_app]
  show 5 + (2 + q.size) + 1 + a.size + 1 + (2 + q.size) + 7 + (2 + q.size) + 1 + b.size = _
  omega
theorem alO_size (a b : ByteArray) : (alO a b).size = a.size + b.size + 21 := by
  unfold alO
  simp only [size_app]
  show 8 + a.size + 13 + b.size = _
  omega
theorem szB (l : List UInt8) : (⟨l.toArray⟩ : ByteArray).size = l.length := by
  show l.toArray.size = _
  exact List.size_toArray
theorem asmLabels_calls (m : Int) (u0 o0 u1 o1 : Nat) (a b : ByteArray) {k : Int} (ha : a.size ≤ 140737488351232) (hb : b.size ≤ 140737488351232) (hk : (Lit.int .u8 k).wf = true) {W : World} (hw : Ready Tryd.prog (glA m u0 o0 u1 o1) W) : Calls Tryd.prog 13 #[.string a, .string b, .int .u8 k] W (fun e W' => e = .returned (.bool true) ∧ Below W.heap.size W W') := by
  have hgl := glA_low m u0 o0 u1 o1
  have hS := glA_S (m := m) (u0 := u0) (o0 := o0) (u1 := u1) (o1 := o1)
  have hF := glA_F m u0 o0 u1 o1
  have hm := glA_m m u0 o0 u1 o1
  obtain ⟨k0, k1⟩ := u8_bounds hk
  have ht : 0 ≤ k.tmod 20 ∧ k.tmod 20 < 20 := ⟨Int.tmod_nonneg 20 k0, Int.tmod_lt_of_pos k (by decide)⟩
  obtain ⟨n, hn⟩ : ∃ n : Nat, k.tmod 20 = (n : Int) := ⟨(k.tmod 20).toNat, by omega⟩
  have n20 : n < 20 := by omega
  have wn : IntKind.i64.wrap (k.tmod 20) = (n : Int) := by rw [hn]; exact wrap_64 (by omega) (by omega)
  have wz := wrapSz ha hb
  have hab : a.size + b.size ≤ 9223372036854775807 := by omega
  by_cases c1 : IntKind.i64.wrap ((a.size : Int) + (b.size : Int)) > 20000
  · exact flatS noSy_ok goodB hgl tglob (HLb_ok m u0 o0 u1 o1 (lp := []) (mkFN_ok hS hF hgl hm) (fun p hp => by cases hp)) rfl ((r_alN _ hasZ repX gNil mkX mkY mkE a b k).trans (condI (decide_eq_true c1) rfl)) hw
  have hs2 : a.size + b.size ≤ 20000 := by rw [wz] at c1; omega
  have c1 := decide_eq_false c1
  have cz : (decide ((a ++ b).size ≤ 1000000) && cl ((⟨#[122, 57]⟩ : ByteArray) = z9B)) = true := by rw [decide_eq_true (by rw [size_app]; omega), show cl ((⟨#[122, 57]⟩ : ByteArray) = z9B) = true from cl_t rfl]; rfl
  cases c2 : hasZ (a ++ b) with
  | true => exact flatS noSy_ok goodB hgl tglob (HLb_ok m u0 o0 u1 o1 (lp := []) (mkFN_ok hS hF hgl hm) (fun p hp => by cases hp)) rfl ((r_alN _ hasZ repX gNil mkX mkY mkE a b k).trans (condE c1 (condI (nble hab) (condI cz (condI c2 rfl))))) hw
  | false =>
  obtain ⟨w1, w2⟩ := nm_ok n20
  have q : mkA (alN (repX (n : Int)) a b) = mkA (alO a b) := by
    rw [alN_eq, alO_eq]
    exact al_mkA w2 (nm_z _) w1 (hasZ_no c2)
  have zr := repX_size (k := n)
  have z1 := alN_size (repX (n : Int)) a b
  have z0 := alO_size a b
  have cx : (cl ((⟨#[120]⟩ : ByteArray) = xB) && (decide (0 ≤ (n : Int)) && decide ((n : Int) ≤ 100))) = true := by rw [show cl ((⟨#[120]⟩ : ByteArray) = xB) = true from cl_t rfl, decide_eq_true (by omega), decide_eq_true (by omega)]; rfl
  by_cases hN : (mkA (alO a b)).ws = []
  · have g1 : gNil (alO a b) = true := by unfold gNil; rw [decide_eq_true (by omega), cl_t hN]; rfl
    have g2 : gNil (alN (repX (n : Int)) a b) = true := by unfold gNil; rw [decide_eq_true (by omega), cl_t (by rw [q]; exact hN)]; rfl
    refine flatS noSy_ok goodB hgl tglob (HLb_ok m u0 o0 u1 o1 (lp := []) (mkFN_ok hS hF hgl hm) (fun p hp => by cases hp)) rfl ((r_alN _ hasZ repX gNil mkX mkY mkE a b k).trans (condE c1 (condI (nble hab) (condI cz (condE c2 ?_))))) hw
    rw [wn]
    refine condI cx ?_
    iterate 4 refine condI (nble (by first | omega | (simp only [size_app, szB, zr, List.length_cons, List.length_nil]; omega))) ?_
    refine condI g1 ?_
    iterate 9 refine condI (nble (by first | omega | (simp only [size_app, szB, zr, List.length_cons, List.length_nil]; omega))) ?_
    refine condI g2 (condI ?_ rfl)
    show (mkE (alO a b) == mkE (alN (repX (n : Int)) a b)) = true
    unfold mkE
    rw [q]
    simp
  · have hc : (mkA (alO a b)).ws.length ≤ 1024 := by
      rcases mkA_cases (alO a b) with ⟨e, _⟩ | ⟨_, _, _, h1, _⟩
      · exact absurd e hN
      · exact h1
    have g1 : gNot (alO a b) = true := by unfold gNot; rw [decide_eq_true (by omega), cl_t hN]; rfl
    have g2 : gNot (alN (repX (n : Int)) a b) = true := by unfold gNot; rw [decide_eq_true (by omega), cl_t (by rw [q]; exact hN)]; rfl
    have qv : mkVs (alN (repX (n : Int)) a b) = mkVs (alO a b) := by unfold mkVs; rw [q]
    have ql : mkLn (alN (repX (n : Int)) a b) = mkLn (alO a b) := by unfold mkLn; rw [q]
    have al : (mkVs (alO a b)).all (af 8) = true := wC_all _
    have al2 : (mkVs (alN (repX (n : Int)) a b)).all (af 8) = true := wC_all _
    refine flatS noSy_ok goodB hgl tglob (HLb_ok m u0 o0 u1 o1 (lp := [(39, [(0, ⟨eqWLive, [4], gH (atS (eqWSt 0 (mkVs (alO a b)) (mkLn (alO a b))).1 (eqWSt 0 (mkVs (alO a b)) (mkLn (alO a b))).2) (eqWO (mkVs (alO a b)))⟩)])]) (mkFK_ok hS hF hgl hm) (fun p hp q hq => ?_)) rfl ((r_alK _ hasZ repX gNot mkVs mkLn _ _ a b k).trans (condE c1 (condI (nble hab) (condI cz (condE c2 ?_))))) hw
    · simp only [List.mem_cons, List.not_mem_nil, or_false] at hp
      subst hp
      simp only [List.mem_cons, List.not_mem_nil, or_false] at hq
      subst hq
      exact eqW_loop hgl hc
    · rw [wn]
      refine condI cx ?_
      iterate 4 refine condI (nble (by first | omega | (simp only [size_app, szB, zr, List.length_cons, List.length_nil]; omega))) ?_
      refine condI g1 (condI (andI al rfl) ?_)
      iterate 9 refine condI (nble (by first | omega | (simp only [size_app, szB, zr, List.length_cons, List.length_nil]; omega))) ?_
      refine condI g2 (condI (andI al2 rfl) (condE ?_ (condI (andI al2 (andI al rfl)) (condI ?_ (condI (andI al (andI al rfl)) rfl)))))
      · show (((mkLn (alO a b) : Nat) : Int) != ((mkLn (alN (repX (n : Int)) a b) : Nat) : Int)) = false
        rw [ql]
        simp
      · show atS _ _ [.int .i64 0, slK0 1000 (mkLn (alN (repX (n : Int)) a b)), slK0 1001 (mkLn (alO a b)), .int .i64 ((mkLn (alO a b) : Nat) : Int), .bool false] [wdRow (mkVs (alN (repX (n : Int)) a b)), wdRow (mkVs (alO a b))] = true
        rw [qv, ql]
        exact atS_self _ _
end Go.Proofs.YtgohnfkidkomhaaDoor
