/- What is listed is made into the same words again: ListTwice answers true, of any text, where the listed variables stand as the program's text lays them. -/
import Derived.Test.YtgohnfkidkomhaaDoorA5
import Derived.Test.YtgohnfkidkomhaaDoorM2
import Derived.Test.YtgohnfkidkomhaaDoorM3
noncomputable section
noncomputable section
namespace Go.Proofs.YtgohnfkidkomhaaDoor
open Go.Proofs.YtgohnfkidkomhaaDoor.Ev Go.RowKit

/-! What is listed is made into the same words again. -/
def nmT (s : ByteArray) : Tok := ⟨1, s, 0, 0⟩
def rgT (a : Int) : Tok := ⟨2, ⟨#[]⟩, a, 0⟩
def nbT (n : Int) : Tok := ⟨3, ⟨#[]⟩, n, 0⟩
def cmT : Tok := ⟨4, ⟨#[]⟩, 0, 0⟩
def lnToks (k : Int) (s : ByteArray) (a b c n : Int) : List Tok := match k with
  | 0 => [nmT s]
  | 1 => [nmT s, rgT a, cmT, rgT b, cmT, nbT n]
  | 2 => [nmT s, rgT a, cmT, nbT n]
  | 3 => [nmT s, nbT n]
  | 4 => [nmT s, rgT a]
  | _ => [nmT s, rgT a, cmT, rgT b, cmT, rgT c]
theorem lnToks_text (k : Int) (s : ByteArray) (a b c n : Int) : textGo true (lnToks k s a b c n) = lnTx k s (itoaB a) (itoaB b) (itoaB c) (itoaB n) := by
  apply ba_ext
  unfold lnToks lnTx
  split <;> simp only [textGo, sepT, tokTx, nmT, rgT, nbT, cmT, bSp, bR, bCs, cond_true, cond_false, app_data] <;> simp [app_data]
theorem name_words : ∀ k : Fin 22, (wordB (nthS namesL k.val) && (mapHas opsE (nthS namesL k.val) && (decide (mapI opsE (nthS namesL k.val) = (k.val : Int)) && !(nthS namesL k.val).data.toList.contains 10))) = true := by decide +kernel
theorem name_ok {op : Int} (h0 : 0 ≤ op) (h1 : op < 22) : wordB (nameB op) = true ∧ mapHas opsE (nameB op) = true ∧ mapI opsE (nameB op) = op ∧ NoB 10 (nameB op) := by
  obtain ⟨k, rfl⟩ : ∃ k : Nat, op = (k : Int) := ⟨op.toNat, by omega⟩
  have := name_words ⟨k, by omega⟩
  simp only [Bool.and_eq_true, Bool.not_eq_true', List.contains_eq_mem, decide_eq_false_iff_not, decide_eq_true_eq] at this
  exact this
theorem lnToks_ok {op a b c n : Int} (h : CF op a b c n) : ∀ t ∈ lnToks (lnK op) (nameB op) a b c n, okT t := by
  obtain ⟨ba, bb, bc, bn⟩ := cf_small h
  have h1 := (wordB_ok (name_ok h.o0 h.o1).1).1
  have r : ∀ x : Int, 0 ≤ x → x < 16 → okT (rgT x) := fun x x0 x1 => .inr (.inl ⟨rfl, x0, x1, rfl⟩)
  have ha := r a h.a0 h.a1
  have hb := r b h.b0 h.b1
  have hc := r c h.c0 h.c1
  have hn : okT (nbT n) := .inr (.inr (.inl ⟨rfl, by show -4294967296 ≤ n; omega, by show n ≤ 4294967296; omega, rfl⟩))
  have hm : okT cmT := .inr (.inr (.inr (.inl ⟨rfl, rfl, rfl⟩)))
  intro t ht
  unfold lnToks at ht
  split at ht <;> simp only [List.mem_cons, List.not_mem_nil, or_false] at ht
  · subst ht; exact h1
  · rcases ht with rfl | rfl | rfl | rfl | rfl | rfl <;> assumption
  · rcases ht with rfl | rfl | rfl | rfl <;> assumption
  · rcases ht with rfl | rfl <;> assumption
  · rcases ht with rfl | rfl <;> assumption
  · rcases ht with rfl | rfl | rfl | rfl | rfl | rfl <;> assumption
theorem lnTok_line {op a b c n : Int} (h : CF op a b c n) : (lnTok (lineB op a b c n)).1 = posGo 0 true (lnToks (lnK op) (nameB op) a b c n) ∧ (lnTok (lineB op a b c n)).2.2 = 0 :=
  lnTok_of (by have := line_size h; omega) (lnToks_ok h) (lnToks_text ..)
/-- Which things stand in an instruction's line are those that it wants; the others are 0. -/
theorem kinds {op : Int} (h0 : 0 ≤ op) (h1 : op < 22) : (lnK op = 0 ∧ wantsOf op = [] ∧ formN op = 0) ∨ (lnK op = 1 ∧ (wantsOf op = [0, 0, 1] ∨ wantsOf op = [0, 0, 2]) ∧ formN op = 2) ∨ (lnK op = 2 ∧ wantsOf op = [0, 1] ∧ formN op = 3) ∨
    (lnK op = 3 ∧ (wantsOf op = [1] ∨ wantsOf op = [2]) ∧ (formN op = 4 ∨ formN op = 5)) ∨ (lnK op = 4 ∧ wantsOf op = [0] ∧ formN op = 6) ∨ (lnK op = 5 ∧ wantsOf op = [0, 0, 0] ∧ formN op = 1) := by
  rcases op_cases h0 h1 with rfl | rfl | rfl | rfl | rfl | rfl | rfl | rfl | rfl | rfl | rfl | rfl | rfl | rfl | rfl | rfl | rfl | rfl | rfl | rfl | rfl | rfl <;> decide
/-- An instruction as it is told, with no label. -/
structure TdIs (t : Told) (op a b c n : Int) : Prop where
  o : t.op = op
  a : t.a = a
  b : t.b = b
  c : t.c = c
  n : t.n = n
  l : t.label = ⟨#[]⟩
theorem want_line {op a b c n num : Int} (h : cmay op a b c n = true) {l : List Tok} (hl : l = posGo 0 true (lnToks (lnK op) (nameB op) a b c n)) : (∃ t, wantGo l num (wantsOf op) true 0 0 (toldNil op) = .inr t ∧ TdIs t op a b c n) ∧ lbIs l 0 = false ∧ 1 ≤ l.length ∧ (tk l 0).kind = 1 ∧ (tk l 0).text = nameB op := by
  have hf := cmay_f h
  unfold cmay at h
  simp only [Bool.and_eq_true, decide_eq_true_eq] at h
  obtain ⟨_, h⟩ := h
  rcases kinds hf.o0 hf.o1 with ⟨k, w, f⟩ | ⟨k, w, f⟩ | ⟨k, w, f⟩ | ⟨k, w, f⟩ | ⟨k, w, f⟩ | ⟨k, w, f⟩
  · rw [k] at hl
    subst hl
    rw [f] at h
    simp only [Bool.and_eq_true, decide_eq_true_eq] at h
    obtain ⟨e1, e2, e3, e4⟩ := h
    rw [w, ← e1, ← e2, ← e3, ← e4]
    exact ⟨⟨_, rfl, rfl, rfl, rfl, rfl, rfl, rfl⟩, rfl, (by show 1 ≤ 1; decide), rfl, rfl⟩
  · rw [k] at hl
    subst hl
    rw [f] at h
    simp only [Bool.and_eq_true, decide_eq_true_eq] at h
    obtain ⟨_, _, _, _, _, _, e3⟩ := h
    rw [← e3]
    rcases w with w | w <;> rw [w] <;> exact ⟨⟨_, rfl, rfl, rfl, rfl, rfl, rfl, rfl⟩, rfl, (by show 1 ≤ 6; decide), rfl, rfl⟩
  · rw [k] at hl
    subst hl
    rw [f] at h
    simp only [Bool.and_eq_true, decide_eq_true_eq] at h
    obtain ⟨_, _, _, _, e2, e3⟩ := h
    rw [w, ← e2, ← e3]
    exact ⟨⟨_, rfl, rfl, rfl, rfl, rfl, rfl, rfl⟩, rfl, (by show 1 ≤ 4; decide), rfl, rfl⟩
  · rw [k] at hl
    subst hl
    have e : a = 0 ∧ b = 0 ∧ c = 0 := by
      rcases f with f | f <;> rw [f] at h <;> simp only [Bool.and_eq_true, decide_eq_true_eq] at h <;> omega
    obtain ⟨rfl, rfl, rfl⟩ := e
    rcases w with w | w <;> rw [w] <;> exact ⟨⟨_, rfl, rfl, rfl, rfl, rfl, rfl, rfl⟩, rfl, (by show 1 ≤ 2; decide), rfl, rfl⟩
  · rw [k] at hl
    subst hl
    rw [f] at h
    simp only [Bool.and_eq_true, decide_eq_true_eq] at h
    obtain ⟨_, _, e2, e3, e4⟩ := h
    rw [w, ← e2, ← e3, ← e4]
    exact ⟨⟨_, rfl, rfl, rfl, rfl, rfl, rfl, rfl⟩, rfl, (by show 1 ≤ 2; decide), rfl, rfl⟩
  · rw [k] at hl
    subst hl
    rw [f] at h
    simp only [Bool.and_eq_true, decide_eq_true_eq] at h
    obtain ⟨_, _, _, _, _, _, e4⟩ := h
    rw [w, ← e4]
    exact ⟨⟨_, rfl, rfl, rfl, rfl, rfl, rfl, rfl⟩, rfl, (by show 1 ≤ 6; decide), rfl, rfl⟩
def lineW (x : Int) : ByteArray := lineB (oN x) (fA x) (fB x) (fC x) (fN x)
def TdW (x : Int) (t : Told) : Prop := TdIs t (oN x) (fA x) (fB x) (fC x) (fN x)
theorem lineW_step {x : Int} (h : okW x = true) {td : List Told} (hd : td.length < 1024) (num : Int) : ∃ t, lnStep (lineW x) num [] td = ⟨[], td ++ [t], none⟩ ∧ TdW x t := by
  have hc : cmay (oN x) (fA x) (fB x) (fC x) (fN x) = true := by
    unfold okW at h
    exact (Bool.and_eq_true_iff.1 h).1
  have hf := cmay_f hc
  obtain ⟨e1, e2⟩ := lnTok_line hf
  have e1 : (lnTok (lineW x)).1 = _ := e1
  have e2 : (lnTok (lineW x)).2.2 = 0 := e2
  obtain ⟨⟨t, w1, w2⟩, w3, w4, w5, w6⟩ := want_line hc (num := num) e1
  obtain ⟨_, n2, n3, _⟩ := name_ok hf.o0 hf.o1
  refine ⟨t, ?_, w2⟩
  have e3 : lbGo (lnTok (lineW x)).1 (td.length : Int) ((lnTok (lineW x)).1.length + 1) 0 [] = (0, [], false) := by
    rw [lbGo, w3]
    rfl
  have e4 : liEnd (lnTok (lineW x)).1 num td (0, [], false) = .inl (.inr t) := by
    show cond (decide (0 = (lnTok (lineW x)).1.length)) _ (Sum.inl (liRes (lnTok (lineW x)).1 num opsE (wantsOf (mapI opsE (tk (lnTok (lineW x)).1 0).text)) td.length 0) : LiR ⊕ Unit) = _
    rw [decide_eq_false (by omega), cond_false]
    unfold liRes
    rw [w6, n2, n3, w5, cond_true, decide_eq_true rfl, cond_true, decide_eq_false (by omega), cond_false, w1]
  unfold lnStep
  rw [if_neg (by rw [e2]; exact fun h => h rfl), if_neg (by intro e; rw [e] at w4; simp at w4), e3, e4]
theorem tdW_word {x : Int} (h : okW x = true) {t : Told} (ht : TdW x t) (i : Nat) : tdW [] i t = .inl x := by
  unfold okW at h
  obtain ⟨h1, h2⟩ := Bool.and_eq_true_iff.1 h
  have h2 := of_decide_eq_true h2
  unfold tdW tdN
  rw [ht.l, ht.o, ht.a, ht.b, ht.c, ht.n, decide_eq_true rfl, Bool.true_or, cond_true, cond_true, h1, cond_true]
  unfold putN
  rw [h1, cond_true, h2]
inductive TdsW : List Int → List Told → Prop
  | nil : TdsW [] []
  | cons {x t ws ts} : TdW x t → TdsW ws ts → TdsW (x :: ws) (t :: ts)
theorem nil_step (num : Int) (lb : Lb) (td : List Told) : lnStep ⟨#[]⟩ num lb td = ⟨lb, td, none⟩ := by
  have e : (lnTok ⟨#[]⟩).1 = [] ∧ (lnTok ⟨#[]⟩).2.2 = 0 := lnTok_of (l := []) (by show 0 ≤ 200; decide) (fun t h => by cases h) rfl
  unfold lnStep
  rw [if_neg (by rw [e.2]; exact fun h => h rfl), if_pos e.1]
theorem words_go : ∀ (ws : List Int) (n : Nat) (td : List Told), (∀ x ∈ ws, okW x = true) → td.length + ws.length ≤ 1024 → ∃ ts, mkGo (ws.map lineW ++ [⟨#[]⟩]) n [] td = ([], td ++ ts, none) ∧ TdsW ws ts
  | [], n, td, _, _ => by
    refine ⟨[], ?_, .nil⟩
    rw [List.map_nil, List.nil_append, mkGo, nil_step, List.append_nil]
    rfl
  | x :: ws, n, td, h, hl => by
    rw [List.length_cons] at hl
    obtain ⟨t, e, ht⟩ := lineW_step (h x (List.mem_cons_self ..)) (td := td) (by omega) ((n + 1 : Nat) : Int)
    obtain ⟨ts, e2, hts⟩ := words_go ws (n + 1) (td ++ [t]) (fun y hy => h y (List.mem_cons_of_mem _ hy)) (by rw [List.length_append]; simp only [List.length_cons, List.length_nil]; omega)
    refine ⟨t :: ts, ?_, .cons ht hts⟩
    rw [List.map_cons, List.cons_append, mkGo, e]
    show mkGo (ws.map lineW ++ [⟨#[]⟩]) (n + 1) [] (td ++ [t]) = _
    rw [e2, List.append_assoc]
    rfl
theorem words_wd {ws : List Int} {ts : List Told} (h : TdsW ws ts) : (∀ x ∈ ws, okW x = true) → ∀ (i : Nat) (acc : List Int), wdGoM [] ts i acc = (acc ++ ws, none) := by
  induction h with
  | nil => intro _ i acc; rw [List.append_nil]; rfl
  | @cons x t ws ts h1 _ ih =>
    intro hk i acc
    rw [wdGoM, tdW_word (hk x (List.mem_cons_self ..)) h1]
    show wdGoM [] ts (i + 1) (acc ++ [x]) = _
    rw [ih (fun y hy => hk y (List.mem_cons_of_mem _ hy)), List.append_assoc]
    rfl
/-! The text of a list. -/
theorem noB_app {c : UInt8} {a b : ByteArray} (ha : NoB c a) (hb : NoB c b) : NoB c (a ++ b) := by
  unfold NoB at *
  rw [app_data]
  intro e
  rcases List.mem_append.1 e with e | e
  · exact ha e
  · exact hb e
theorem noB_dec (m : Nat) : NoB 10 (decB m) := fun e => by
  have := dec_digit m 10 (by simpa [decB] using e)
  revert this
  decide
theorem noB_itoa (n : Int) : NoB 10 (itoaB n) := by
  by_cases h : 0 ≤ n
  · rw [itoaB_pos h]; exact noB_dec _
  · rw [itoaB_neg (by omega)]
    refine noB_app ?_ (noB_dec _)
    show ¬ ((10 : UInt8) ∈ [(45 : UInt8)])
    decide
theorem lineW_no {x : Int} (h : okW x = true) : NoB 10 (lineW x) := by
  have hf := okW_cf h
  have h1 := (name_ok hf.o0 hf.o1).2.2.2
  have ha := noB_itoa (fA x)
  have hb := noB_itoa (fB x)
  have hc := noB_itoa (fC x)
  have hn := noB_itoa (fN x)
  have s1 : NoB 10 bSp := by show ¬ ((10 : UInt8) ∈ [(32 : UInt8)]); decide
  have s2 : NoB 10 bR := by show ¬ ((10 : UInt8) ∈ [(114 : UInt8)]); decide
  have s3 : NoB 10 bCs := by show ¬ ((10 : UInt8) ∈ [(44 : UInt8), 32]); decide
  unfold lineW lineB lnTx
  split
  · exact h1
  all_goals (repeat' (first | assumption | refine noB_app ?_ ?_))
def catB : List Int → ByteArray
  | [] => ⟨#[]⟩
  | w :: ws => lnW w ++ catB ws
theorem lsGo_cat : ∀ (ws : List Int) (B : ByteArray) (i : Nat), (∀ x ∈ ws, okW x = true) → lsGo B i ws = (B ++ catB ws, i + ws.length, true)
  | [], B, i, _ => by
    show (B, i, true) = (B ++ (⟨#[]⟩ : ByteArray), i, true)
    rw [show B ++ (⟨#[]⟩ : ByteArray) = B from ba_ext (by rw [app_data]; simp)]
  | w :: ws, B, i, h => by
    rw [lsGo, h w (List.mem_cons_self ..), cond_true, lsGo_cat ws _ _ fun y hy => h y (List.mem_cons_of_mem _ hy), app_asc, List.length_cons, show i + 1 + ws.length = i + (ws.length + 1) by omega]
    rfl
theorem catB_split : ∀ (ws : List Int), (∀ x ∈ ws, okW x = true) → splB (catB ws) nlB = ws.map lineW ++ [⟨#[]⟩]
  | [], _ => splB_one (fun h => by cases h)
  | w :: ws, h => by
    show splB ((lineW w ++ nlB) ++ catB ws) nlB = _
    rw [app_asc]
    show splB (lineW w ++ ((⟨#[10]⟩ : ByteArray) ++ catB ws)) ⟨#[10]⟩ = _
    rw [splB_app _ (lineW_no (h w (List.mem_cons_self ..)))]
    show lineW w :: splB (catB ws) nlB = _
    rw [catB_split ws fun y hy => h y (List.mem_cons_of_mem _ hy)]
    rfl
theorem catB_size : ∀ (ws : List Int), (∀ x ∈ ws, okW x = true) → (catB ws).size ≤ 101 * ws.length
  | [], _ => Nat.le_refl _
  | w :: ws, h => by
    have h1 := lnW_size (h w (List.mem_cons_self ..))
    have h2 := catB_size ws fun y hy => h y (List.mem_cons_of_mem _ hy)
    show (lnW w ++ catB ws).size ≤ _
    rw [size_app, List.length_cons]
    omega
/-- A list is made into its words; it has as many lines. -/
theorem cat_mkA {ws : List Int} (h : ∀ x ∈ ws, okW x = true) (hl : ws.length ≤ 1024) : mkA (catB ws) = ⟨ws, 0, 0, 0⟩ := by
  obtain ⟨ts, e, ht⟩ := words_go ws 0 [] h (by simpa using hl)
  unfold mkA
  rw [catB_split ws h, e]
  show mkW [] ([] ++ ts) = _
  unfold mkW
  rw [List.nil_append, words_wd ht h]
  rfl
end Go.Proofs.YtgohnfkidkomhaaDoor

noncomputable section
namespace Go.Proofs.YtgohnfkidkomhaaDoor
open Go.Proofs.YtgohnfkidkomhaaDoor.Ev Go.RowKit

/-! ListBack: true, of any words. -/
theorem sub_no {gl : Gl} {f : FuncId} {o : Out} : SubOK Tryd.prog gl f (gH (fun _ _ => false) o) := by
  intro vs rows t e v rows' h1 h2
  unfold gH at h1
  cases h1
  obtain ⟨c, _⟩ := brT h2
  cases c
section
variable (m : Int) (u0 o0 u1 o1 off : Nat) (ws : List Int)
end
end Go.Proofs.YtgohnfkidkomhaaDoor

noncomputable section
namespace Go.Proofs.YtgohnfkidkomhaaDoor
open Go.Proofs.YtgohnfkidkomhaaDoor.Ev Go.RowKit

/-! ListTwice: residuals. -/
def lsV3 (S : ByteArray) (i e : Int) : Value := .tuple #[.string S, .int .i64 i, .int .i64 e]
def afL1 (ws : List Int) (v0 v1 : Value) : AF := fun args σ => match args with
  | [.slice none n c] => some (Nat.beq n 0 && Nat.beq c 0, v0)
  | [.slice (some ⟨q, o, none⟩) n c] => (match σ.heap.get q with
      | some (.row b) => some (Nat.beq o 0 && (Nat.beq n ws.length && (Nat.beq c ws.length && cl (b.cells = wC ws))), v1)
      | _ => none)
  | _ => none
def HTt (mk : Hd) (ws : List Int) (v0 v1 : Value) (lp : List (FuncId × List (Nat × LoopH))) : Hs := hsOf [(20, afW), (21, afL1 ws v0 v1)] [(38, mk)] lp
set_option maxRecDepth 100000 in
theorem r_twN (gl : Gl) (g : GS) (x y e : Int) (S : ByteArray) (i e2 : Int) (ws : List Int) (v1 : Value) (s : ByteArray) : callSK noSy Tryd.prog gl exB (HTt (mkN g x y e) ws (lsV3 S i e2) v1 []) 100 40 40 (.fn 15) [.string s] LS.start flatR =
 cond (decide ((↑s.size : Int) > 20000)) (
 some (.bool true)) (
 cond (g [.string s] []) (
 cond (e != 0) (
 some (.bool true)) (
 cond (g [.string S] []) (
 cond (e2 == 0) (
 cond (e == 0) (
 cond (e2 == 0) (
 cond (S.toList == S.toList) (
 some (.bool true)) (
 some (.bool false))) (
 some (.bool false))) (
 some (.bool false))) (
 some (.bool false))) (
 none))) (
 none)) := by kernel_rfl
set_option maxRecDepth 100000 in
theorem r_twK (gl : Gl) (g g3 : GS) (cs : List Value) (n : Nat) (S : ByteArray) (i e2 : Int) (ws : List Int) (v0 : Value) (s : ByteArray) : callSK noSy Tryd.prog gl exB (HTt (mkK g cs n) ws v0 (lsV3 S i e2) [(39, [(0, ⟨eqWLive, [4], gH g3 (eqWO cs)⟩)])]) 100 40 40 (.fn 15) [.string s] LS.start flatR =
 cond (decide ((↑s.size : Int) > 20000)) (
 some (.bool true)) (
 cond (g [.string s] []) (
 cond (List.all cs (af 8) && true) (
 cond (n.beq ws.length && (n.beq ws.length && (cl (cs = wC ws)))) (
 cond (g [.string S] []) (
 cond (List.all cs (af 8) && true) (
 cond (n.beq ws.length && (n.beq ws.length && (cl (cs = wC ws)))) (
 cond (e2 == 0) (
 cond (e2 == 0) (
 cond ((↑n : Int) != (↑n : Int)) (
 some (.bool false)) (
 cond (List.all cs (af 8) && (List.all cs (af 8) && true)) (
 cond (g3 [.int .i64 0, .slice (some ⟨1000, 0, none⟩) n n, .slice (some ⟨1001, 0, none⟩) n n, goInt (↑n : Int), .bool false] [some (.row ⟨cs, 29, (0, 0), 1, false, false⟩), some (.row ⟨cs, 29, (0, 0), 1, false, false⟩)]) (
 cond (List.all cs (af 8) && (List.all cs (af 8) && true)) (
 cond (S.toList == S.toList) (
 some (.bool true)) (
 some (.bool false))) (
 none)) (
 none)) (
 none))) (
 some (.bool false))) (
 some (.bool false))) (
 none)) (
 none)) (
 none)) (
 none)) (
 none)) (
 none)) := by kernel_rfl
end Go.Proofs.YtgohnfkidkomhaaDoor

noncomputable section
namespace Go.Proofs.YtgohnfkidkomhaaDoor
open Go.Proofs.YtgohnfkidkomhaaDoor.Ev Go.RowKit

/-! ListTwice: true, of any text. -/
theorem fn_list1 {gl : Gl} {ws : List Int} (hm : ∀ g k v, glC g k = some v → gl g k = some v) (hgl : Low gl) (hw : InW ws) (hl2 : ws.length ≤ 2000) :
    FnOK Tryd.prog gl 21 (afL1 ws (lsVal []) (lsVal ws)) := by
  intro args σ c v hk hc φ w args' hr hl
  subst hc
  obtain ⟨φ', hφ, hr'⟩ := rel_free hm hgl hr
  have fin : ∀ (ws : List Int) (v' : Value), args' = #[v'] → InW ws → ws.length ≤ 2000 → (∃ aa c, v' = .slice aa ws.length c ∧ WAt w ws aa c) → Calls Tryd.prog 21 args' w (fun e w' => ∃ v', e = .returned v' ∧ VR φ (lsVal ws) v' ∧ Below w.heap.size w w') := by
    rintro ws v' rfl hw hl2 ⟨aa, c, rfl, hat⟩
    refine (list_calls hr' hφ hw hl2 hat).mono ?_
    rintro e w' ⟨rfl, hB⟩
    exact ⟨_, rfl, VR.af_refl 8 rfl, hB⟩
  unfold afL1 at hk
  split at hk
  · simp only [Option.some.injEq, Prod.mk.injEq] at hk
    obtain ⟨h1, rfl⟩ := hk
    obtain ⟨h1, h2⟩ := Bool.and_eq_true_iff.1 h1
    have h1 := Nat.eq_of_beq_eq_true h1
    have h2 := Nat.eq_of_beq_eq_true h2
    subst h1; subst h2
    obtain ⟨v', e1, hv⟩ := one_arg hl
    cases hv
    exact fin [] _ e1 (fun w hw => by cases hw) (Nat.zero_le _) ⟨none, 0, rfl, Nat.le_refl _, fun _ => ⟨rfl, rfl⟩, fun ad e => by cases e⟩
  · split at hk
    · rename_i q _ _ _ b hbk
      simp only [Option.some.injEq, Prod.mk.injEq] at hk
      obtain ⟨h1, rfl⟩ := hk
      obtain ⟨h1, h2⟩ := Bool.and_eq_true_iff.1 h1
      obtain ⟨h2, h3⟩ := Bool.and_eq_true_iff.1 h2
      obtain ⟨h3, h4⟩ := Bool.and_eq_true_iff.1 h3
      have h1 := Nat.eq_of_beq_eq_true h1
      have h2 := Nat.eq_of_beq_eq_true h2
      have h3 := Nat.eq_of_beq_eq_true h3
      have hcells := of_cl h4
      subst h1; subst h2; subst h3
      obtain ⟨v', e1, hv⟩ := one_arg hl
      refine fin ws v' e1 hw hl2 ?_
      cases hv with
      | slice _ a' _ _ c' hs =>
        obtain ⟨s1, s2, r, s3, s4, s5, s6⟩ := hs
        obtain ⟨r', x, k1, k2, k3⟩ := hr.live _ _ hbk
        rw [s3] at k1; cases k1
        obtain ⟨cl', fz', rfl, k4, k5⟩ := k3
        have hcc : ws.length ≤ c' ∧ (c' ≠ 0 → a'.off = 0) := by
          cases hrc : r.cap with
          | none => obtain ⟨h, h'⟩ := s5 hrc; exact ⟨by omega, fun _ => h⟩
          | some qq =>
            obtain ⟨S, z⟩ := qq
            obtain ⟨h, h', _⟩ := s6 S z hrc
            exact ⟨h, h'⟩
        refine ⟨some a', c', rfl, hcc.1, fun e => (by cases e), fun ad e => ?_⟩
        obtain rfl := Option.some.inj e
        refine ⟨s2, by rw [s4]; exact hr.bound _ _ s3, fun j u hu => ?_⟩
        have hj : j < ws.length := by
          have := (List.getElem?_eq_some_iff.1 hu).1
          rwa [wC_len] at this
        obtain ⟨blk, off, spot⟩ := a'
        have ho := hcc.2 (by omega)
        simp only at s2 s4 ho
        subst s2; subst s4; subst ho
        rw [addr_add, Nat.zero_add]
        obtain ⟨u', h4, h5⟩ := k4 j u (by rw [hcells]; exact hu)
        have hpl : af 8 u = true := (wC_plain ws u (List.mem_of_getElem? hu)).1
        have e5 := VR.of_af 8 hpl h5
        subst e5
        unfold World.cell?
        simp only [k2]
        simpa using h4
    · cases hk
  · cases hk
theorem sub_or {gl : Gl} {f : FuncId} {g1 g2 : GS} {o : Out} (h1 : SubOK Tryd.prog gl f (gH g1 o)) (h2 : SubOK Tryd.prog gl f (gH g2 o)) : SubOK Tryd.prog gl f (gH (fun vs rows => g1 vs rows || g2 vs rows) o) := by
  intro vs rows t e v rows' q1 q2
  unfold gH at q1
  cases q1
  obtain ⟨c, q3⟩ := brT q2
  cases hg : g1 vs rows with
  | true => exact h1 vs rows _ e v rows' rfl (by show cond (g1 vs rows) _ _ = _; rw [hg]; exact q3)
  | false =>
    have c : g2 vs rows = true := by
      have c : (g1 vs rows || g2 vs rows) = true := c
      rwa [hg, Bool.false_or] at c
    exact h2 vs rows _ e v rows' rfl (by show cond (g2 vs rows) _ _ = _; rw [c]; exact q3)
theorem glA_C {m : Int} {u0 o0 u1 o1 : Nat} : ∀ g k v, glC g k = some v → glA m u0 o0 u1 o1 g k = some v := by
  intro g k v h
  unfold glC at h
  unfold glA
  simp only [glOf] at h ⊢
  have e1 : ∀ n : Nat, Nat.beq g n = true → g = n := fun n h => Nat.eq_of_beq_eq_true h
  cases h1 : Nat.beq g 2 with
  | true =>
    rw [h1, cond_true] at h
    rw [nbeq_f (by rw [e1 _ h1]; decide), nbeq_f (by rw [e1 _ h1]; decide)]
    exact h
  | false =>
    rw [h1, cond_false] at h
    cases h2 : Nat.beq g 0 with
    | true =>
      rw [h2, cond_true] at h
      rw [nbeq_f (by rw [e1 _ h2]; decide), nbeq_f (by rw [e1 _ h2]; decide)]
      exact h
    | false => rw [h2] at h; cases h
theorem lsVal_cat {ws : List Int} (h : ∀ x ∈ ws, okW x = true) (hl : ws.length ≤ 1024) : lsVal ws = lsV3 (catB ws) 0 0 := by
  have hcat := lsGo_cat ws ⟨#[]⟩ 0 h
  rw [show (⟨#[]⟩ : ByteArray) ++ catB ws = catB ws from nil_app _] at hcat
  unfold lsVal lsValF sS sI sE sR
  rw [hcat, decide_eq_false (by omega)]
  rfl
theorem HTt_ok {m : Int} {u0 o0 u1 o1 : Nat} {mk : Hd} {ws : List Int} (hw : InW ws) (hl2 : ws.length ≤ 2000) {lp : List (FuncId × List (Nat × LoopH))} (h1 : SubOK Tryd.prog (glA m u0 o0 u1 o1) 38 mk) (h2 : ∀ p ∈ lp, ∀ q ∈ p.2, LpOK Tryd.prog (glA m u0 o0 u1 o1) p.1 q.1 q.2) : (HTt mk ws (lsVal []) (lsVal ws) lp).OK Tryd.prog (glA m u0 o0 u1 o1) := hsOf_ok (fun p h => by
    simp only [List.mem_cons, List.not_mem_nil, or_false] at h
    rcases h with rfl | rfl
    · exact fn_works22 (glA_F m u0 o0 u1 o1) (glA_low m u0 o0 u1 o1) (glA_P m u0 o0 u1 o1)
    · exact fn_list1 glA_C (glA_low m u0 o0 u1 o1) hw hl2) (fun p h => by
    simp only [List.mem_cons, List.not_mem_nil, or_false] at h
    subst h
    exact h1) h2
theorem listTwice_calls (m : Int) (u0 o0 u1 o1 : Nat) {W : World} (hw : Ready Tryd.prog (glA m u0 o0 u1 o1) W) (s : ByteArray) : Calls Tryd.prog 15 #[.string s] W (fun e W' => e = .returned (.bool true) ∧ Below W.heap.size W W') := by
  have hgl := glA_low m u0 o0 u1 o1
  have hS := glA_S (m := m) (u0 := u0) (o0 := o0) (u1 := u1) (o1 := o1)
  have hF := glA_F m u0 o0 u1 o1
  have hm := glA_m m u0 o0 u1 o1
  have i0 : InW [] := fun w h => by cases h
  have l0 : lsVal [] = lsV3 ⟨#[]⟩ 0 0 := lsVal_cat (fun w h => by cases h) (by decide)
  have mkE : mkA ⟨#[]⟩ = ⟨[], 0, 0, 0⟩ := cat_mkA (ws := []) (fun x h => by cases h) (by decide)
  by_cases hz : (s.size : Int) > 20000
  · have H := HTt_ok (m := m) (u0 := u0) (o0 := o0) (u1 := u1) (o1 := o1) (mk := mkN (fun _ _ => false) 0 0 0) (ws := []) (lp := []) i0 (by decide) sub_no (fun _ h => by cases h)
    rw [show lsVal [] = lsV3 ⟨#[]⟩ 0 0 from l0] at H
    exact flatS noSy_ok goodB hgl tglob H rfl ((r_twN _ _ 0 0 0 _ 0 0 _ _ s).trans (condI (decide_eq_true hz) rfl)) hw
  have hs : s.size ≤ 900000 := by omega
  by_cases hn : (mkA s).ws = []
  · by_cases he : (mkA s).er = 0
    · have h0 : mkA s = ⟨[], 0, 0, 0⟩ := by
        rcases mkA_cases s with ⟨_, e, _⟩ | ⟨e, l1, l2, _⟩
        · exact absurd he e
        · have := hn
          cases hq : mkA s with
          | mk a b c d => rw [hq] at hn e l1 l2; simp only at hn e l1 l2; subst hn; subst e; subst l1; subst l2; rfl
      have M1 := makeN_at hS hF hgl hm hs hn
      have M2 := makeN_at hS hF hgl hm (s := ⟨#[]⟩) (by show 0 ≤ 900000; decide) (by rw [mkE])
      rw [h0] at M1
      rw [mkE] at M2
      have H := HTt_ok (ws := []) (lp := []) i0 (by decide) (sub_or M1 M2) (fun _ h => by cases h)
      rw [l0] at H
      exact flatS noSy_ok goodB hgl tglob H rfl ((r_twN _ _ 0 0 0 _ 0 0 _ _ s).trans (condE (decide_eq_false hz) (condI (by rw [atS_self]; rfl) (condE rfl (condI (by rw [atS_self, Bool.or_true]) (condI rfl (condI rfl (condI rfl (condI (beq_self_eq_true _) rfl))))))))) hw
    · have M1 := makeN_at hS hF hgl hm hs hn
      have H := HTt_ok (ws := []) (lp := []) i0 (by decide) M1 (fun _ h => by cases h)
      rw [l0] at H
      exact flatS noSy_ok goodB hgl tglob H rfl ((r_twN _ _ _ _ _ _ 0 0 _ _ s).trans (condE (decide_eq_false hz) (condI (atS_self _ _) (condI (by rw [bneI, decide_eq_false he]; rfl) rfl)))) hw
  · obtain ⟨e0, l1, l2, hc, hk⟩ : (mkA s).er = 0 ∧ (mkA s).line = 0 ∧ (mkA s).at_ = 0 ∧ (mkA s).ws.length ≤ 1024 ∧ ∀ w ∈ (mkA s).ws, okW w = true ∧ 0 ≤ w ∧ w < 4294967296 := by
      rcases mkA_cases s with ⟨e, _⟩ | h
      · exact absurd e hn
      · exact h
    have hk1 : ∀ x ∈ (mkA s).ws, okW x = true := fun x hx => (hk x hx).1
    have hsz := catB_size _ hk1
    have hw2 : InW (mkA s).ws := fun x hx => (hk x hx).2
    have hv := lsVal_cat hk1 hc
    have hcm := cat_mkA hk1 hc
    have M1 := makeK_at hS hF hgl hm hs hn
    have M2 := makeK_at hS hF hgl hm (s := catB (mkA s).ws) (by omega) (by rw [hcm]; exact hn)
    rw [hcm] at M2
    have al := andI (wC_all (mkA s).ws) (show true = true from rfl)
    have nb : (mkA s).ws.length.beq (mkA s).ws.length = true := Nat.beq_refl _
    have gd : ((mkA s).ws.length.beq (mkA s).ws.length && ((mkA s).ws.length.beq (mkA s).ws.length && cl (wC (mkA s).ws = wC (mkA s).ws))) = true := by rw [nb, cl_t rfl]; rfl
    have H := HTt_ok hw2 (by omega) (sub_or M1 M2) (lp := [(39, [(0, ⟨eqWLive, [4], gH (atS (eqWSt 0 (wC (mkA s).ws) (mkA s).ws.length).1 (eqWSt 0 (wC (mkA s).ws) (mkA s).ws.length).2) (eqWO (wC (mkA s).ws))⟩)])]) (fun p hp q hq => by
      simp only [List.mem_cons, List.not_mem_nil, or_false] at hp
      subst hp
      simp only [List.mem_cons, List.not_mem_nil, or_false] at hq
      subst hq
      exact eqW_loop hgl hc)
    rw [hv] at H
    exact flatS noSy_ok goodB hgl tglob H rfl ((r_twK _ _ _ _ _ _ 0 0 _ _ s).trans (condE (decide_eq_false hz) (condI (by rw [atS_self]; rfl) (condI al (condI gd (condI (by rw [atS_self, Bool.or_true]) (condI al (condI gd (condI rfl (condI rfl (condE (by simp) (condI (andI (wC_all _) al) (condI (atS_self _ _) (condI (andI (wC_all _) al) (condI (beq_self_eq_true _) rfl))))))))))))))) hw
end Go.Proofs.YtgohnfkidkomhaaDoor
