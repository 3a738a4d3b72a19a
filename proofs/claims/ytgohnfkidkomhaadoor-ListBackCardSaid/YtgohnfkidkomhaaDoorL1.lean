/- What is listed is made into the same words again: ListBack answers true, of any row of words, where the listed variables stand as the program's text lays them. -/
import Derived.Test.YtgohnfkidkomhaaDoorA5
import Derived.Test.YtgohnfkidkomhaaDoorM2
noncomputable section
noncomputable section
namespace Go.Proofs.YtgohnfkidkomhaaDoor
open Go.Proofs.YtgohnfkidkomhaaDoor.Ev Go.RowKit

/-! What is listed is made into the same words again. -/
def nmT (s : ByteArray) : Tok := ⟨1, s, 0, 0⟩
def rgT (a : Int) : Tok := ⟨2, ⟨#[]⟩, a, 0⟩
def nbT (n : Int) : Tok := ⟨3, ⟨#[]⟩, n, 0⟩
def cmT : Tok := ⟨4, ⟨#[]⟩, 0, 0⟩
def lnToks (k : Int) (s : ByteArray) (a b c n : Int) : List Tok := match k with
  | 0 => [nmT s]
  | 1 => [nmT s, rgT a, cmT, rgT b, cmT, nbT n]
  | 2 => [nmT s, rgT a, cmT, nbT n]
  | 3 => [nmT s, nbT n]
  | 4 => [nmT s, rgT a]
  | _ => [nmT s, rgT a, cmT, rgT b, cmT, rgT c]
theorem lnToks_text (k : Int) (s : ByteArray) (a b c n : Int) : textGo true (lnToks k s a b c n) = lnTx k s (itoaB a) (itoaB b) (itoaB c) (itoaB n) := by
  apply ba_ext
  unfold lnToks lnTx
  split <;> simp only [textGo, sepT, tokTx, nmT, rgT, nbT, cmT, bSp, bR, bCs, cond_true, cond_false, app_data] <;> simp [app_data]
theorem name_words : ∀ k : Fin 22, (wordB (nthS namesL k.val) && (mapHas opsE (nthS namesL k.val) && (decide (mapI opsE (nthS namesL k.val) = (k.val : Int)) && !(nthS namesL k.val).data.toList.contains 10))) = true := by decide +kernel
theorem name_ok {op : Int} (h0 : 0 ≤ op) (h1 : op < 22) : wordB (nameB op) = true ∧ mapHas opsE (nameB op) = true ∧ mapI opsE (nameB op) = op ∧ NoB 10 (nameB op) := by
  obtain ⟨k, rfl⟩ : ∃ k : Nat, op = (k : Int) := ⟨op.toNat, by omega⟩
  have := name_words ⟨k, by omega⟩
  simp only [Bool.and_eq_true, Bool.not_eq_true', List.contains_eq_mem, decide_eq_false_iff_not, decide_eq_true_eq] at this
  exact this
theorem lnToks_ok {op a b c n : Int} (h : CF op a b c n) : ∀ t ∈ lnToks (lnK op) (nameB op) a b c n, okT t := by
  obtain ⟨ba, bb, bc, bn⟩ := cf_small h
  have h1 := (wordB_ok (name_ok h.o0 h.o1).1).1
  have r : ∀ x : Int, 0 ≤ x → x < 16 → okT (rgT x) := fun x x0 x1 => .inr (.inl ⟨rfl, x0, x1, rfl⟩)
  have ha := r a h.a0 h.a1
  have hb := r b h.b0 h.b1
  have hc := r c h.c0 h.c1
  have hn : okT (nbT n) := .inr (.inr (.inl ⟨rfl, by show -4294967296 ≤ n; omega, by show n ≤ 4294967296; omega, rfl⟩))
  have hm : okT cmT := .inr (.inr (.inr (.inl ⟨rfl, rfl, rfl⟩)))
  intro t ht
  unfold lnToks at ht
  split at ht <;> simp only [List.mem_cons, List.not_mem_nil, or_false] at ht
  · subst ht; exact h1
  · rcases ht with rfl | rfl | rfl | rfl | rfl | rfl <;> assumption
  · rcases ht with rfl | rfl | rfl | rfl <;> assumption
  · rcases ht with rfl | rfl <;> assumption
  · rcases ht with rfl | rfl <;> assumption
  · rcases ht with rfl | rfl | rfl | rfl | rfl | rfl <;> assumption
theorem lnTok_line {op a b c n : Int} (h : CF op a b c n) : (lnTok (lineB op a b c n)).1 = posGo 0 true (lnToks (lnK op) (nameB op) a b c n) ∧ (lnTok (lineB op a b c n)).2.2 = 0 :=
  lnTok_of (by have := line_size h; omega) (lnToks_ok h) (lnToks_text ..)
/-- Which things stand in an instruction's line are those that it wants; the others are 0. -/
theorem kinds {op : Int} (h0 : 0 ≤ op) (h1 : op < 22) : (lnK op = 0 ∧ wantsOf op = [] ∧ formN op = 0) ∨ (lnK op = 1 ∧ (wantsOf op = [0, 0, 1] ∨ wantsOf op = [0, 0, 2]) ∧ formN op = 2) ∨ (lnK op = 2 ∧ wantsOf op = [0, 1] ∧ formN op = 3) ∨
    (lnK op = 3 ∧ (wantsOf op = [1] ∨ wantsOf op = [2]) ∧ (formN op = 4 ∨ formN op = 5)) ∨ (lnK op = 4 ∧ wantsOf op = [0] ∧ formN op = 6) ∨ (lnK op = 5 ∧ wantsOf op = [0, 0, 0] ∧ formN op = 1) := by
  rcases op_cases h0 h1 with rfl | rfl | rfl | rfl | rfl | rfl | rfl | rfl | rfl | rfl | rfl | rfl | rfl | rfl | rfl | rfl | rfl | rfl | rfl | rfl | rfl | rfl <;> decide
/-- An instruction as it is told, with no label. -/
structure TdIs (t : Told) (op a b c n : Int) : Prop where
  o : t.op = op
  a : t.a = a
  b : t.b = b
  c : t.c = c
  n : t.n = n
  l : t.label = ⟨#[]⟩
theorem want_line {op a b c n num : Int} (h : cmay op a b c n = true) {l : List Tok} (hl : l = posGo 0 true (lnToks (lnK op) (nameB op) a b c n)) : (∃ t, wantGo l num (wantsOf op) true 0 0 (toldNil op) = .inr t ∧ TdIs t op a b c n) ∧ lbIs l 0 = false ∧ 1 ≤ l.length ∧ (tk l 0).kind = 1 ∧ (tk l 0).text = nameB op := by
  have hf := cmay_f h
  unfold cmay at h
  simp only [Bool.and_eq_true, decide_eq_true_eq] at h
  obtain ⟨_, h⟩ := h
  rcases kinds hf.o0 hf.o1 with ⟨k, w, f⟩ | ⟨k, w, f⟩ | ⟨k, w, f⟩ | ⟨k, w, f⟩ | ⟨k, w, f⟩ | ⟨k, w, f⟩
  · rw [k] at hl
    subst hl
    rw [f] at h
    simp only [Bool.and_eq_true, decide_eq_true_eq] at h
    obtain ⟨e1, e2, e3, e4⟩ := h
    rw [w, ← e1, ← e2, ← e3, ← e4]
    exact ⟨⟨_, rfl, rfl, rfl, rfl, rfl, rfl, rfl⟩, rfl, (by show 1 ≤ 1; decide), rfl, rfl⟩
  · rw [k] at hl
    subst hl
    rw [f] at h
    simp only [Bool.and_eq_true, decide_eq_true_eq] at h
    obtain ⟨_, _, _, _, _, _, e3⟩ := h
    rw [← e3]
    rcases w with w | w <;> rw [w] <;> exact ⟨⟨_, rfl, rfl, rfl, rfl, rfl, rfl, rfl⟩, rfl, (by show 1 ≤ 6; decide), rfl, rfl⟩
  · rw [k] at hl
    subst hl
    rw [f] at h
    simp only [Bool.and_eq_true, decide_eq_true_eq] at h
    obtain ⟨_, _, _, _, e2, e3⟩ := h
    rw [w, ← e2, ← e3]
    exact ⟨⟨_, rfl, rfl, rfl, rfl, rfl, rfl, rfl⟩, rfl, (by show 1 ≤ 4; decide), rfl, rfl⟩
  · rw [k] at hl
    subst hl
    have e : a = 0 ∧ b = 0 ∧ c = 0 := by
      rcases f with f | f <;> rw [f] at h <;> simp only [Bool.and_eq_true, decide_eq_true_eq] at h <;> omega
    obtain ⟨rfl, rfl, rfl⟩ := e
    rcases w with w | w <;> rw [w] <;> exact ⟨⟨_, rfl, rfl, rfl, rfl, rfl, rfl, rfl⟩, rfl, (by show 1 ≤ 2; decide), rfl, rfl⟩
  · rw [k] at hl
    subst hl
    rw [f] at h
    simp only [Bool.and_eq_true, decide_eq_true_eq] at h
    obtain ⟨_, _, e2, e3, e4⟩ := h
    rw [w, ← e2, ← e3, ← e4]
    exact ⟨⟨_, rfl, rfl, rfl, rfl, rfl, rfl, rfl⟩, rfl, (by show 1 ≤ 2; decide), rfl, rfl⟩
  · rw [k] at hl
    subst hl
    rw [f] at h
    simp only [Bool.and_eq_true, decide_eq_true_eq] at h
    obtain ⟨_, _, _, _, _, _, e4⟩ := h
    rw [w, ← e4]
    exact ⟨⟨_, rfl, rfl, rfl, rfl, rfl, rfl, rfl⟩, rfl, (by show 1 ≤ 6; decide), rfl, rfl⟩
def lineW (x : Int) : ByteArray := lineB (oN x) (fA x) (fB x) (fC x) (fN x)
def TdW (x : Int) (t : Told) : Prop := TdIs t (oN x) (fA x) (fB x) (fC x) (fN x)
theorem lineW_step {x : Int} (h : okW x = true) {td : List Told} (hd : td.length < 1024) (num : Int) : ∃ t, lnStep (lineW x) num [] td = ⟨[], td ++ [t], none⟩ ∧ TdW x t := by
  have hc : cmay (oN x) (fA x) (fB x) (fC x) (fN x) = true := by
    unfold okW at h
    exact (Bool.and_eq_true_iff.1 h).1
  have hf := cmay_f hc
  obtain ⟨e1, e2⟩ := lnTok_line hf
  have e1 : (lnTok (lineW x)).1 = _ := e1
  have e2 : (lnTok (lineW x)).2.2 = 0 := e2
  obtain ⟨⟨t, w1, w2⟩, w3, w4, w5, w6⟩ := want_line hc (num := num) e1
  obtain ⟨_, n2, n3, _⟩ := name_ok hf.o0 hf.o1
  refine ⟨t, ?_, w2⟩
  have e3 : lbGo (lnTok (lineW x)).1 (td.length : Int) ((lnTok (lineW x)).1.length + 1) 0 [] = (0, [], false) := by
    rw [lbGo, w3]
    rfl
  have e4 : liEnd (lnTok (lineW x)).1 num td (0, [], false) = .inl (.inr t) := by
    show cond (decide (0 = (lnTok (lineW x)).1.length)) _ (Sum.inl (liRes (lnTok (lineW x)).1 num opsE (wantsOf (mapI opsE (tk (lnTok (lineW x)).1 0).text)) td.length 0) : LiR ⊕ Unit) = _
    rw [decide_eq_false (by omega), cond_false]
    unfold liRes
    rw [w6, n2, n3, w5, cond_true, decide_eq_true rfl, cond_true, decide_eq_false (by omega), cond_false, w1]
  unfold lnStep
  rw [if_neg (by rw [e2]; exact fun h => h rfl), if_neg (by intro e; rw [e] at w4; simp at w4), e3, e4]
theorem tdW_word {x : Int} (h : okW x = true) {t : Told} (ht : TdW x t) (i : Nat) : tdW [] i t = .inl x := by
  unfold okW at h
  obtain ⟨h1, h2⟩ := Bool.and_eq_true_iff.1 h
  have h2 := of_decide_eq_true h2
  unfold tdW tdN
  rw [ht.l, ht.o, ht.a, ht.b, ht.c, ht.n, decide_eq_true rfl, Bool.true_or, cond_true, cond_true, h1, cond_true]
  unfold putN
  rw [h1, cond_true, h2]
inductive TdsW : List Int → List Told → Prop
  | nil : TdsW [] []
  | cons {x t ws ts} : TdW x t → TdsW ws ts → TdsW (x :: ws) (t :: ts)
theorem nil_step (num : Int) (lb : Lb) (td : List Told) : lnStep ⟨#[]⟩ num lb td = ⟨lb, td, none⟩ := by
  have e : (lnTok ⟨#[]⟩).1 = [] ∧ (lnTok ⟨#[]⟩).2.2 = 0 := lnTok_of (l := []) (by show 0 ≤ 200; decide) (fun t h => by cases h) rfl
  unfold lnStep
  rw [if_neg (by rw [e.2]; exact fun h => h rfl), if_pos e.1]
theorem words_go : ∀ (ws : List Int) (n : Nat) (td : List Told), (∀ x ∈ ws, okW x = true) → td.length + ws.length ≤ 1024 → ∃ ts, mkGo (ws.map lineW ++ [⟨#[]⟩]) n [] td = ([], td ++ ts, none) ∧ TdsW ws ts
  | [], n, td, _, _ => by
    refine ⟨[], ?_, .nil⟩
    rw [List.map_nil, List.nil_append, mkGo, nil_step, List.append_nil]
    rfl
  | x :: ws, n, td, h, hl => by
    rw [List.length_cons] at hl
    obtain ⟨t, e, ht⟩ := lineW_step (h x (List.mem_cons_self ..)) (td := td) (by omega) ((n + 1 : Nat) : Int)
    obtain ⟨ts, e2, hts⟩ := words_go ws (n + 1) (td ++ [t]) (fun y hy => h y (List.mem_cons_of_mem _ hy)) (by rw [List.length_append]; simp only [List.length_cons, List.length_nil]; omega)
    refine ⟨t :: ts, ?_, .cons ht hts⟩
    rw [List.map_cons, List.cons_append, mkGo, e]
    show mkGo (ws.map lineW ++ [⟨#[]⟩]) (n + 1) [] (td ++ [t]) = _
    rw [e2, List.append_assoc]
    rfl
theorem words_wd {ws : List Int} {ts : List Told} (h : TdsW ws ts) : (∀ x ∈ ws, okW x = true) → ∀ (i : Nat) (acc : List Int), wdGoM [] ts i acc = (acc ++ ws, none) := by
  induction h with
  | nil => intro _ i acc; rw [List.append_nil]; rfl
  | @cons x t ws ts h1 _ ih =>
    intro hk i acc
    rw [wdGoM, tdW_word (hk x (List.mem_cons_self ..)) h1]
    show wdGoM [] ts (i + 1) (acc ++ [x]) = _
    rw [ih (fun y hy => hk y (List.mem_cons_of_mem _ hy)), List.append_assoc]
    rfl
/-! The text of a list. -/
theorem noB_app {c : UInt8} {a b : ByteArray} (ha : NoB c a) (hb : NoB c b) : NoB c (a ++ b) := by
  unfold NoB at *
  rw [app_data]
  intro e
  rcases List.mem_append.1 e with e | e
  · exact ha e
  · exact hb e
theorem noB_dec (m : Nat) : NoB 10 (decB m) := fun e => by
  have := dec_digit m 10 (by simpa [decB] using e)
  revert this
  decide
theorem noB_itoa (n : Int) : NoB 10 (itoaB n) := by
  by_cases h : 0 ≤ n
  · rw [itoaB_pos h]; exact noB_dec _
  · rw [itoaB_neg (by omega)]
    refine noB_app ?_ (noB_dec _)
    show ¬ ((10 : UInt8) ∈ [(45 : UInt8)])
    decide
theorem lineW_no {x : Int} (h : okW x = true) : NoB 10 (lineW x) := by
  have hf := okW_cf h
  have h1 := (name_ok hf.o0 hf.o1).2.2.2
  have ha := noB_itoa (fA x)
  have hb := noB_itoa (fB x)
  have hc := noB_itoa (fC x)
  have hn := noB_itoa (fN x)
  have s1 : NoB 10 bSp := by show ¬ ((10 : UInt8) ∈ [(32 : UInt8)]); decide
  have s2 : NoB 10 bR := by show ¬ ((10 : UInt8) ∈ [(114 : UInt8)]); decide
  have s3 : NoB 10 bCs := by show ¬ ((10 : UInt8) ∈ [(44 : UInt8), 32]); decide
  unfold lineW lineB lnTx
  split
  · exact h1
  all_goals (repeat' (first | assumption | refine noB_app ?_ ?_))
def catB : List Int → ByteArray
  | [] => ⟨#[]⟩
  | w :: ws => lnW w ++ catB ws
theorem lsGo_cat : ∀ (ws : List Int) (B : ByteArray) (i : Nat), (∀ x ∈ ws, okW x = true) → lsGo B i ws = (B ++ catB ws, i + ws.length, true)
  | [], B, i, _ => by
    show (B, i, true) = (B ++ (⟨#[]⟩ : ByteArray), i, true)
    rw [show B ++ (⟨#[]⟩ : ByteArray) = B from ba_ext (by rw [app_data]; simp)]
  | w :: ws, B, i, h => by
    rw [lsGo, h w (List.mem_cons_self ..), cond_true, lsGo_cat ws _ _ fun y hy => h y (List.mem_cons_of_mem _ hy), app_asc, List.length_cons, show i + 1 + ws.length = i + (ws.length + 1) by omega]
    rfl
theorem lsGo_all : ∀ (ws : List Int) (B : ByteArray) (i : Nat), (lsGo B i ws).2.2 = true → ∀ x ∈ ws, okW x = true
  | [], B, i, _, x, hx => by cases hx
  | w :: ws, B, i, h, x, hx => by
    rw [lsGo] at h
    cases hw : okW w with
    | false => rw [hw] at h; cases h
    | true =>
      rw [hw, cond_true] at h
      rcases List.mem_cons.1 hx with rfl | hx
      · exact hw
      · exact lsGo_all ws _ _ h x hx
theorem catB_split : ∀ (ws : List Int), (∀ x ∈ ws, okW x = true) → splB (catB ws) nlB = ws.map lineW ++ [⟨#[]⟩]
  | [], _ => splB_one (fun h => by cases h)
  | w :: ws, h => by
    show splB ((lineW w ++ nlB) ++ catB ws) nlB = _
    rw [app_asc]
    show splB (lineW w ++ ((⟨#[10]⟩ : ByteArray) ++ catB ws)) ⟨#[10]⟩ = _
    rw [splB_app _ (lineW_no (h w (List.mem_cons_self ..)))]
    show lineW w :: splB (catB ws) nlB = _
    rw [catB_split ws fun y hy => h y (List.mem_cons_of_mem _ hy)]
    rfl
theorem catB_size : ∀ (ws : List Int), (∀ x ∈ ws, okW x = true) → (catB ws).size ≤ 101 * ws.length
  | [], _ => Nat.le_refl _
  | w :: ws, h => by
    have h1 := lnW_size (h w (List.mem_cons_self ..))
    have h2 := catB_size ws fun y hy => h y (List.mem_cons_of_mem _ hy)
    show (lnW w ++ catB ws).size ≤ _
    rw [size_app, List.length_cons]
    omega
/-- A list is made into its words; it has as many lines. -/
theorem cat_mkA {ws : List Int} (h : ∀ x ∈ ws, okW x = true) (hl : ws.length ≤ 1024) : mkA (catB ws) = ⟨ws, 0, 0, 0⟩ := by
  obtain ⟨ts, e, ht⟩ := words_go ws 0 [] h (by simpa using hl)
  unfold mkA
  rw [catB_split ws h, e]
  show mkW [] ([] ++ ts) = _
  unfold mkW
  rw [List.nil_append, words_wd ht h]
  rfl
theorem cat_count {ws : List Int} (h : ∀ x ∈ ws, okW x = true) : cntI (catB ws) = (ws.length : Int) := by
  have h1 := splB_count (catB ws) 10
  have h2 : splB (catB ws) ⟨#[10]⟩ = ws.map lineW ++ [⟨#[]⟩] := catB_split ws h
  rw [h2, List.length_append, List.length_map, List.length_cons, List.length_nil] at h1
  unfold cntI
  omega
end Go.Proofs.YtgohnfkidkomhaaDoor

noncomputable section
namespace Go.Proofs.YtgohnfkidkomhaaDoor
open Go.Proofs.YtgohnfkidkomhaaDoor.Ev Go.RowKit

/-! ListBack: residuals. -/
def HBk (ls mk : Hd) (cn : ByteArray → Int) (lp : List (FuncId × List (Nat × LoopH))) : Hs := hsOf [(40, afCnt cn), (20, afW)] [(21, ls), (38, mk)] lp
def lsG1 (g : GS) (S : ByteArray) (i e : Int) : Hd := gH g (lst3 S i e)
set_option maxRecDepth 100000 in
theorem r_bkE (gl : Gl) (g g2 : GS) (S : ByteArray) (i e x y e2 : Int) (cn : ByteArray → Int) (off n c : Nat) : callSK noSy Tryd.prog gl exB (HBk (lsG1 g S i e) (mkN g2 x y e2) cn []) 100 40 40 (.fn 14) [.slice (some ⟨902, off, none⟩) n c] LS.start flatR =
 cond (decide ((↑n : Int) > 2000)) (
 some (.bool true)) (
 cond (g [.slice (some ⟨902, off, none⟩) n c] []) (
 cond (e != 0) (
 cond (S.toList == (⟨#[]⟩ : ByteArray).toList) (
 some (.bool true)) (
 some (.bool false))) (
 cond (g2 [.string S] []) (
 cond (0 != (↑n : Int)) (
 some (.bool false)) (
 cond (e2 == 0) (
 cond (cl ((⟨#[10]⟩ : ByteArray) = nlB)) (
 cond (cn S == (↑n : Int)) (
 some (.bool true)) (
 some (.bool false))) (
 none)) (
 some (.bool false)))) (
 none))) (
 none)) := by kernel_rfl
set_option maxRecDepth 100000 in
theorem r_bk0 (gl : Gl) (g g2 : GS) (x y e2 : Int) (cn : ByteArray → Int) : callSK noSy Tryd.prog gl exB (HBk (lsG1 g ⟨#[]⟩ 0 0) (mkN g2 x y e2) cn []) 100 40 40 (.fn 14) [.slice none 0 0] LS.start flatR =
 cond (g [.slice none 0 0] []) (
 cond (g2 [.string (⟨#[]⟩ : ByteArray)] []) (
 cond (e2 == 0) (
 cond (cl ((⟨#[10]⟩ : ByteArray) = nlB)) (
 cond (cn (⟨#[]⟩ : ByteArray) == 0) (
 some (.bool true)) (
 some (.bool false))) (
 none)) (
 some (.bool false))) (
 none)) (
 none) := by kernel_rfl
def syBk (off : Nat) (cs : List Value) : Sy := fun i => cond (Nat.beq i 1000) (some (symOf cs)) (cond (Nat.beq i 902) (some (symK off cs)) none)
def eqBSt (i : Int) (off c : Nat) (cs : List Value) (n : Nat) : LSt := ([.int .i64 i, .slice (some ⟨902, off, none⟩) n c, slK0 1000 n, .int .i64 (n : Int), .bool false], [wdRow cs])
def eqBO (cs : List Value) : Out := (.exit 0, [.bool false], [wdRow cs])
set_option maxRecDepth 100000 in
theorem r_eqB (gl : Gl) (i : Int) (off c : Nat) (cs : List Value) (n : Nat) : roundK (syBk off cs) Tryd.prog (glK gl 902 off cs) exB HB0 100 40 40 39 0 eqWLive (eqBSt i off c cs n) (rndK Tryd.prog 1001 eqWLive [4]) =
 cond (decide (i < (↑n : Int))) (
 cond (decide (0 ≤ i) && (decide (i < (↑n : Int))) && (n.ble n)) (
 cond (sameL cs cs) (
 cond ((symOf cs).okI .u32 (0 + i.toNat * 1)) (
 cond (decide (0 ≤ i) && (decide (i < (↑n : Int))) && (n.ble c)) (
 cond ((symK off cs).okI .u32 (off + i.toNat * 1)) (
 cond ((symOf cs).int .u32 (0 + i.toNat * 1) != (symK off cs).int .u32 (off + i.toNat * 1)) (
 cond ((symK off cs).okI .u32 (off + i.toNat * 1)) (
 qs [(symK off cs).int .u32 (off + i.toNat * 1)] (
 cond (sameL cs cs) (
 cond ((symOf cs).okI .u32 (0 + i.toNat * 1)) (
 qs [(symOf cs).int .u32 (0 + i.toNat * 1)] (
 cond (List.all cs (af 8) && true) (
 some (.inr (.ret, ([(.bool false)], [some (.row ⟨cs, 29, (0, 0), 1, false, false⟩)])))) (
 none))) (
 none)) (
 none))) (
 none)) (
 cond ((symK off cs).okI .u32 (off + i.toNat * 1)) (
 qs [(symK off cs).int .u32 (off + i.toNat * 1)] (
 cond (sameL cs cs) (
 cond ((symOf cs).okI .u32 (0 + i.toNat * 1)) (
 qs [(symOf cs).int .u32 (0 + i.toNat * 1)] (
 cond (List.all cs (af 8) && true) (
 some (.inl ([(.int .i64 (IntKind.i64.wrap (i + 1))), (.slice (some ⟨902, (off), none⟩) (n) (c)), (.slice (some ⟨1000, 0, none⟩) (n) (n)), (.int .i64 ((↑n : Int))), (.bool false)], [some (.row ⟨cs, 29, (0, 0), 1, false, false⟩)]))) (
 none))) (
 none)) (
 none))) (
 none))) (
 none)) (
 none)) (
 none)) (
 none)) (
 none)) (
 cond (List.all cs (af 8) && true) (
 some (.inr (.exit 0, ([(.bool false)], [some (.row ⟨cs, 29, (0, 0), 1, false, false⟩)])))) (
 none)) := by kernel_rfl
set_option maxRecDepth 100000 in
theorem r_bkK (gl : Gl) (g g2 g3 : GS) (S : ByteArray) (ws : List Value) (m : Nat) (cn : ByteArray → Int) (off n c : Nat) : callSK noSy Tryd.prog gl exB (HBk (lsG1 g S 0 0) (mkK g2 ws m) cn [(39, [(0, ⟨eqWLive, [4], gH g3 (eqBO ws)⟩)])]) 100 40 40 (.fn 14) [.slice (some ⟨902, off, none⟩) n c] LS.start flatR =
 cond (decide ((↑n : Int) > 2000)) (
 some (.bool true)) (
 cond (g [.slice (some ⟨902, off, none⟩) n c] []) (
 cond (g2 [.string S] []) (
 cond (List.all ws (af 8) && true) (
 cond ((↑m : Int) != (↑n : Int)) (
 some (.bool false)) (
 cond (List.all ws (af 8) && true) (
 cond (g3 [.int .i64 0, .slice (some ⟨902, off, none⟩) n c, .slice (some ⟨1000, 0, none⟩) m m, goInt (↑m : Int), .bool false] [some (.row ⟨ws, 29, (0, 0), 1, false, false⟩)]) (
 cond (List.all ws (af 8) && true) (
 cond (cl ((⟨#[10]⟩ : ByteArray) = nlB)) (
 cond (cn S == (↑n : Int)) (
 some (.bool true)) (
 some (.bool false))) (
 none)) (
 none)) (
 none)) (
 none))) (
 none)) (
 none)) (
 none)) := by kernel_rfl
end Go.Proofs.YtgohnfkidkomhaaDoor

noncomputable section
namespace Go.Proofs.YtgohnfkidkomhaaDoor
open Go.Proofs.YtgohnfkidkomhaaDoor.Ev Go.RowKit

/-! ListBack: true, of any words. -/
theorem sub_no {gl : Gl} {f : FuncId} {o : Out} : SubOK Tryd.prog gl f (gH (fun _ _ => false) o) := by
  intro vs rows t e v rows' h1 h2
  unfold gH at h1
  cases h1
  obtain ⟨c, _⟩ := brT h2
  cases c
theorem glA_hi {m : Int} {u0 o0 u1 o1 b : Nat} (hb : 900 ≤ b) : ∀ k, glA m u0 o0 u1 o1 b k = none := by
  intro k
  unfold glA
  simp only [glOf]
  rw [nbeq_f (by omega), nbeq_f (by omega), nbeq_f (by omega), nbeq_f (by omega), nbeq_f (by omega)]
  rfl
section
variable (m : Int) (u0 o0 u1 o1 off : Nat) (ws : List Int)
theorem glAK_sub : ∀ g k v, glA m u0 o0 u1 o1 g k = some v → glK (glA m u0 o0 u1 o1) 902 off (wC ws) g k = some v := glK_mono (glA_hi (by decide))
theorem glAK_F : GlF (glK (glA m u0 o0 u1 o1) 902 off (wC ws)) := fun i z h => glAK_sub m u0 o0 u1 o1 off ws _ _ _ (glA_F m u0 o0 u1 o1 i z h)
theorem glAK_P : GlP (glK (glA m u0 o0 u1 o1) 902 off (wC ws)) := fun i z h => glAK_sub m u0 o0 u1 o1 off ws _ _ _ (glA_P m u0 o0 u1 o1 i z h)
theorem glAK_S : ∀ g k v, glS u0 o0 u1 o1 g k = some v → glK (glA m u0 o0 u1 o1) 902 off (wC ws) g k = some v := fun g k v h => glAK_sub m u0 o0 u1 o1 off ws _ _ _ (glA_S g k v h)
theorem glAK_m : glK (glA m u0 o0 u1 o1) 902 off (wC ws) 1 0 = some (.int .i64 m) := glAK_sub m u0 o0 u1 o1 off ws _ _ _ (glA_m m u0 o0 u1 o1)
theorem glAK_low : Low (glK (glA m u0 o0 u1 o1) 902 off (wC ws)) := glK_low (glA_low m u0 o0 u1 o1) (by decide) (wC_plain ws)
end
theorem listT_run2 (n : Nat) (R : ByteArray × Nat × Bool) : (listT n R).run = some (listR n R) := by
  unfold listT listR
  show cond (decide ((n : Int) > 1024)) _ (cond R.2.2 _ _) = _
  cases decide ((n : Int) > 1024) with
  | true => rfl
  | false => cases R.2.2 <;> rfl
theorem list_at {gl : Gl} {off c : Nat} {ws : List Int} (hF : GlF (glK gl 902 off (wC ws))) (hgl : Low (glK gl 902 off (wC ws))) (hp : GlP (glK gl 902 off (wC ws))) (hc : ws.length ≤ c) (hl : ws.length ≤ 2000) (hw : InW ws) :
    SubOK Tryd.prog (glK gl 902 off (wC ws)) 21 (gH (atS [.slice (some ⟨902, off, none⟩) ws.length c] []) (listR ws.length (lsGo ⟨#[]⟩ 0 ws))) :=
  sub_at_of (list_sub (off := off) (c := c) hF hgl hp) rfl (show cond (cl (LG off c ws [.slice (some ⟨902, off, none⟩) ws.length c])) _ _ = _ by rw [cl_t ⟨rfl, hc, hl, hw⟩]; exact listT_run2 _ _)
theorem list_atN {gl : Gl} (hF : GlF (glK gl 902 0 (wC []))) (hgl : Low (glK gl 902 0 (wC []))) (hp : GlP (glK gl 902 0 (wC []))) :
    SubOK Tryd.prog (glK gl 902 0 (wC [])) 21 (gH (atS [.slice none 0 0] []) (lst3 ⟨#[]⟩ 0 0)) :=
  sub_at_of (list_sub (off := 0) (c := 0) hF hgl hp) rfl (show cond (cl _) _ _ = _ by rw [cl_t rfl]; rfl)
theorem HBk_ok {gl : Gl} (hF : GlF gl) (hgl : Low gl) (hp : GlP gl) {ls mk : Hd} {lp : List (FuncId × List (Nat × LoopH))} (h0 : SubOK Tryd.prog gl 21 ls) (h1 : SubOK Tryd.prog gl 38 mk) (h2 : ∀ p ∈ lp, ∀ q ∈ p.2, LpOK Tryd.prog gl p.1 q.1 q.2) : (HBk ls mk cntI lp).OK Tryd.prog gl := hsOf_ok (fun p h => by
    simp only [List.mem_cons, List.not_mem_nil, or_false] at h
    rcases h with rfl | rfl
    · exact fn_cnt hgl
    · exact fn_works22 hF hgl hp) (fun p h => by
    simp only [List.mem_cons, List.not_mem_nil, or_false] at h
    rcases h with rfl | rfl
    · exact h0
    · exact h1) h2
theorem syBk_ok {gl : Gl} {off : Nat} {cs : List Value} : SyOK (glK gl 902 off cs) (syBk off cs) := fun i S h => by
  unfold syBk at h
  by_cases e : i = 1000
  · subst e
    exact syL_ok (gl := glK gl 902 off cs) (b := 1000) (by decide) cs 1000 S h
  · rw [nbeq_f e, cond_false] at h
    exact syK_ok (by decide) i S h
theorem eqB_loop {gl : Gl} {off c : Nat} {ws : List Int} (hgl : Low (glK gl 902 off (wC ws))) (hl : ws.length ≤ 1024) (hc : ws.length ≤ c) (hw : InW ws) :
    LpOK Tryd.prog (glK gl 902 off (wC ws)) 39 0 ⟨eqWLive, [4], gH (atS (eqBSt 0 off c (wC ws) ws.length).1 (eqBSt 0 off c (wC ws) ws.length).2) (eqBO (wC ws))⟩ :=
  loop_here goodB hgl tglob (by show 1001 ≤ most; decide) ⟨{i : Nat // i ≤ ws.length}, fun i => eqBSt ((i.1 : Nat) : Int) off c (wC ws) ws.length, fun _ => some (eqBO (wC ws)), fun i => ws.length - i.1, ⟨0, Nat.zero_le _⟩, rfl, rfl, by
    rintro ⟨i, hi⟩ o ho
    simp only at hi ho
    cases ho
    have al := andI (wC_all ws) (show true = true from rfl)
    by_cases h : i = ws.length
    · subst h
      refine ⟨syBk off (wC ws), HB0, 100, 40, 40, .inr (eqBO (wC ws)), syBk_ok, HB0_ok, ?_, rfl⟩
      exact (r_eqB gl ((ws.length : Nat) : Int) off c (wC ws) ws.length).trans (condE (decide_eq_false (by omega)) (condI al rfl))
    · have hi2 : i < ws.length := by omega
      refine ⟨syBk off (wC ws), HB0, 100, 40, 40, .inl (eqBSt ((i + 1 : Nat) : Int) off c (wC ws) ws.length), syBk_ok, HB0_ok, ?_, ⟨i + 1, by omega⟩, rfl, (by show ws.length - (i + 1) < ws.length - i; omega), rfl⟩
      obtain ⟨o, v⟩ := wsF hi2
      obtain ⟨x, x1, _, _, o2, v2⟩ := symK_w off (ws := ws) (i := (i : Int)) (by omega) (by omega) hw
      rw [Int.toNat_natCast, List.getElem?_eq_getElem hi2] at x1
      have x1 := Option.some.inj x1
      have w : IntKind.i64.wrap ((i : Int) + 1) = ((i + 1 : Nat) : Int) := wrapS (by omega)
      have b : ∀ d : Nat, ws.length ≤ d → (decide (0 ≤ (i : Int)) && decide ((i : Int) < (ws.length : Int)) && ws.length.ble d) = true := fun d hd => by rw [d0N, decide_eq_true (show (i : Int) < (ws.length : Int) by omega), nble hd]; rfl
      rw [Int.toNat_natCast] at o2 v2
      refine (r_eqB gl (i : Int) off c (wC ws) ws.length).trans ?_
      simp only [Int.toNat_natCast, w, qs_eq]
      exact condI (decide_eq_true (by omega)) (condI (b _ (Nat.le_refl _)) (condI (sameL_self _) (condI o (condI (b _ hc) (condI o2 (condE (by rw [v, v2, x1]; simp) (condI o2 (condI (sameL_self _) (condI o (condI al rfl))))))))))⟩
theorem bk_eq (m : Int) (u0 o0 u1 o1 off c : Nat) {ws : List Int} (hc : ws.length ≤ c) (hw : InW ws) : ∃ H : Hs, H.OK Tryd.prog (glK (glA m u0 o0 u1 o1) 902 off (wC ws)) ∧ callSK noSy Tryd.prog (glK (glA m u0 o0 u1 o1) 902 off (wC ws)) exB H 100 40 40 (.fn 14) [.slice (some ⟨902, off, none⟩) ws.length c] LS.start flatR = some (.bool true) := by
  have hgl := glAK_low m u0 o0 u1 o1 off ws
  have hS := glAK_S m u0 o0 u1 o1 off ws
  have hF := glAK_F m u0 o0 u1 o1 off ws
  have hp := glAK_P m u0 o0 u1 o1 off ws
  have hm := glAK_m m u0 o0 u1 o1 off ws
  have nl : ∀ p ∈ ([] : List (FuncId × List (Nat × LoopH))), ∀ q ∈ p.2, LpOK Tryd.prog (glK (glA m u0 o0 u1 o1) 902 off (wC ws)) p.1 q.1 q.2 := fun _ h => by cases h
  by_cases hl : (ws.length : Int) > 2000
  · exact ⟨HBk (lsG1 (fun _ _ => false) ⟨#[]⟩ 0 0) (mkN (fun _ _ => false) 0 0 0) cntI [], HBk_ok hF hgl hp sub_no sub_no nl, (r_bkE _ (fun _ _ => false) (fun _ _ => false) ⟨#[]⟩ 0 0 0 0 0 cntI off ws.length c).trans (condI (decide_eq_true hl) rfl)⟩
  have hL := list_at (c := c) hF hgl hp hc (by omega) hw
  have d0 := decide_eq_false hl
  by_cases hn : (ws.length : Int) > 1024
  · rw [show listR ws.length (lsGo ⟨#[]⟩ 0 ws) = lst3 ⟨#[]⟩ 0 7 by unfold listR; rw [decide_eq_true hn]; rfl] at hL
    exact ⟨HBk (lsG1 (atS [.slice (some ⟨902, off, none⟩) ws.length c] []) ⟨#[]⟩ 0 7) (mkN (fun _ _ => false) 0 0 0) cntI [], HBk_ok hF hgl hp hL sub_no nl, (r_bkE _ _ (fun _ _ => false) ⟨#[]⟩ 0 7 0 0 0 cntI off ws.length c).trans (condE d0 (condI (atS_self _ _) (condI rfl (condI (beq_self_eq_true _) rfl))))⟩
  cases hq : (lsGo ⟨#[]⟩ 0 ws).2.2 with
  | false =>
    rw [show listR ws.length (lsGo ⟨#[]⟩ 0 ws) = lst3 ⟨#[]⟩ ((lsGo ⟨#[]⟩ 0 ws).2.1 : Int) 6 by unfold listR; rw [decide_eq_false hn, hq]; rfl] at hL
    exact ⟨HBk (lsG1 (atS [.slice (some ⟨902, off, none⟩) ws.length c] []) ⟨#[]⟩ ((lsGo ⟨#[]⟩ 0 ws).2.1 : Int) 6) (mkN (fun _ _ => false) 0 0 0) cntI [], HBk_ok hF hgl hp hL sub_no nl, (r_bkE _ _ (fun _ _ => false) ⟨#[]⟩ ((lsGo ⟨#[]⟩ 0 ws).2.1 : Int) 6 0 0 0 cntI off ws.length c).trans (condE d0 (condI (atS_self _ _) (condI rfl (condI (beq_self_eq_true _) rfl))))⟩
  | true =>
    have hk := lsGo_all ws ⟨#[]⟩ 0 hq
    have hcat := lsGo_cat ws ⟨#[]⟩ 0 hk
    rw [show (⟨#[]⟩ : ByteArray) ++ catB ws = catB ws from nil_app _] at hcat
    have hmk := cat_mkA hk (by omega)
    have hct := cat_count hk
    have hsz := catB_size ws hk
    rw [show listR ws.length (lsGo ⟨#[]⟩ 0 ws) = lst3 (catB ws) 0 0 by unfold listR; rw [decide_eq_false hn, hcat]; rfl] at hL
    have cb : (cntI (catB ws) == (ws.length : Int)) = true := by rw [hct]; simp
    by_cases hz : ws = []
    · have hM := makeN_at hS hF hgl hm (s := catB ws) (by omega) (by rw [hmk]; exact hz)
      rw [hmk] at hM
      have hz0 : (0 != (ws.length : Int)) = false := by rw [hz]; rfl
      exact ⟨HBk (lsG1 (atS [.slice (some ⟨902, off, none⟩) ws.length c] []) (catB ws) 0 0) (mkN (atS [.string (catB ws)] []) 0 0 0) cntI [], HBk_ok hF hgl hp hL hM nl, (r_bkE _ _ _ (catB ws) 0 0 0 0 0 cntI off ws.length c).trans (condE d0 (condI (atS_self _ _) (condE rfl (condI (atS_self _ _) (condE hz0 (condI rfl (condI (cl_t rfl) (condI cb rfl))))))))⟩
    · have hM := makeK_at hS hF hgl hm (s := catB ws) (by omega) (by rw [hmk]; exact hz)
      rw [hmk] at hM
      have al := andI (wC_all ws) (show true = true from rfl)
      refine ⟨HBk (lsG1 (atS [.slice (some ⟨902, off, none⟩) ws.length c] []) (catB ws) 0 0) (mkK (atS [.string (catB ws)] []) (wC ws) ws.length) cntI [(39, [(0, ⟨eqWLive, [4], gH (atS (eqBSt 0 off c (wC ws) ws.length).1 (eqBSt 0 off c (wC ws) ws.length).2) (eqBO (wC ws))⟩)])], HBk_ok hF hgl hp hL hM (fun p hp q hq => ?_), (r_bkK _ _ _ _ (catB ws) (wC ws) ws.length cntI off ws.length c).trans (condE d0 (condI (atS_self _ _) (condI (atS_self _ _) (condI al (condE (by simp) (condI al (condI (atS_self _ _) (condI al (condI (cl_t rfl) (condI cb rfl))))))))))⟩
      simp only [List.mem_cons, List.not_mem_nil, or_false] at hp
      subst hp
      simp only [List.mem_cons, List.not_mem_nil, or_false] at hq
      subst hq
      exact eqB_loop hgl (by omega) hc hw
theorem listBack_calls (m : Int) (u0 o0 u1 o1 : Nat) {bs : List Nat} (hbs : bs.length = 2) {W : World} (hr : Rel Tryd.prog (glA m u0 o0 u1 o1) (phi0 Tryd.prog.globals.size bs) LS.start W) {blk off cap : Nat} {ws : List Int} (hc : ws.length ≤ cap)
    (hcs : ∀ (i : Nat) x, (wC ws)[i]? = some x → W.cell? ⟨blk, off + i, none⟩ = some x) (hw : InW ws) (hb : blk < W.heap.size) :
    Calls Tryd.prog 14 #[.slice (some ⟨blk, off, none⟩) ws.length cap] W (fun e W' => e = .returned (.bool true) ∧ Below W.heap.size W W') := by
  have hg := tglob
  have hφ : phi0 Tryd.prog.globals.size bs 902 = none := phi0_none (by omega) (by omega)
  have hr2 := hr.addK tglob (b := 902) (off := off) (blk := blk) (by decide) (by decide) hφ (wC_plain ws) hcs hb
  obtain ⟨H, hH, he⟩ := bk_eq m u0 o0 u1 o1 off cap hc hw
  exact flatSR noSy_ok goodB (glAK_low m u0 o0 u1 o1 off ws) tglob hH he hr2 (LR.cons (.slice _ _ _ _ _ ⟨rfl, rfl, ⟨blk, none⟩, by simp [Phi.set], rfl, fun _ => ⟨rfl, rfl⟩, fun S z h => by cases h⟩) (LR.nil _))
theorem listBack_callsN (m : Int) (u0 o0 u1 o1 : Nat) {W : World} (hw : Ready Tryd.prog (glA m u0 o0 u1 o1) W) : Calls Tryd.prog 14 #[.slice none 0 0] W (fun e W' => e = .returned (.bool true) ∧ Below W.heap.size W W') := by
  obtain ⟨φ, hr⟩ := hw
  have hr2 : Rel Tryd.prog (glK (glA m u0 o0 u1 o1) 902 0 (wC [])) φ LS.start W := noCells hr
  have hgl := glAK_low m u0 o0 u1 o1 0 []
  have hS := glAK_S m u0 o0 u1 o1 0 []
  have hF := glAK_F m u0 o0 u1 o1 0 []
  have hp := glAK_P m u0 o0 u1 o1 0 []
  have hm := glAK_m m u0 o0 u1 o1 0 []
  have hmk : mkA ⟨#[]⟩ = ⟨[], 0, 0, 0⟩ := cat_mkA (ws := []) (fun x h => by cases h) (by decide)
  have hM := makeN_at hS hF hgl hm (s := ⟨#[]⟩) (by show 0 ≤ 900000; decide) (by rw [hmk])
  rw [hmk] at hM
  have hct : cntI ⟨#[]⟩ = 0 := cat_count (ws := []) fun x h => by cases h
  exact flatSR noSy_ok goodB hgl tglob (HBk_ok (ls := lsG1 (atS [.slice none 0 0] []) ⟨#[]⟩ 0 0) (lp := []) hF hgl hp (list_atN hF hgl hp) hM (fun _ h => by cases h)) ((r_bk0 _ _ _ 0 0 0 cntI).trans (condI (atS_self _ _) (condI (atS_self _ _) (condI rfl (condI (cl_t rfl) (condI (by rw [hct]; rfl) rfl)))))) hr2 (LR.cons (.nilSlice 0 0) (LR.nil _))
end Go.Proofs.YtgohnfkidkomhaaDoor
