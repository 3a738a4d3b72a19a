/- Sections: the text that is told of a lock, a number, a name and a body; how many instructions it has; two of them, one behind the other. ElideRows answers true, of any lock, tries, names and body, where the listed variables stand as the program's text lays them. -/
import Derived.Test.YtgohnfkidkomhaaGreatDoorA5
import Derived.Test.YtgohnfkidkomhaaGreatDoorM1
import Derived.Test.YtgohnfkidkomhaaGreatDoorM2
import Derived.Shelf.Strings.SlTrimAscii
import Derived.Test.YtgohnfkidkomhaaGreatDoorShelf
import Derived.Test.YtgohnfkidkomhaaGreatDoorEv6
import Derived.Laws.AppendOwn
import Derived.OwnWalk
import Derived.WalkKit
import Derived.ProofKit
noncomputable section
noncomputable section
namespace Go.Proofs.YtgohnfkidkomhaaGreatDoor
open Go.Proofs.YtgohnfkidkomhaaGreatDoor.Ev Go.RowKit

/-! Two texts, one behind the other: their words, one behind the other, or a label that there is already. -/
def shLb (k : Int) (lb : Lb) : Lb := lb.map fun p => (p.1, p.2 + k)
theorem cat_has (x : ByteArray) : ∀ a b : Lb, lbHas (a ++ b) x = (lbHas a x || lbHas b x)
  | [], b => by rw [List.nil_append]; rfl
  | p :: a, b => by
    rw [List.cons_append, lbHas, lbHas, cat_has x a b]
    cases x == p.1 <;> rfl
theorem cat_at (x : ByteArray) : ∀ a b : Lb, lbAt (a ++ b) x = cond (lbHas a x) (lbAt a x) (lbAt b x)
  | [], b => rfl
  | p :: a, b => by
    rw [List.cons_append, lbAt, lbAt, lbHas, cat_at x a b]
    cases x == p.1 <;> rfl
theorem sh_has (k : Int) (x : ByteArray) : ∀ b : Lb, lbHas (shLb k b) x = lbHas b x
  | [] => rfl
  | p :: b => by
    show cond (x == p.1) true (lbHas (shLb k b) x) = _
    rw [sh_has k x b]; rfl
theorem sh_at (k : Int) (x : ByteArray) : ∀ b : Lb, lbHas b x = true → lbAt (shLb k b) x = lbAt b x + k
  | [], h => by cases h
  | p :: b, h => by
    show cond (x == p.1) (p.2 + k) (lbAt (shLb k b) x) = cond (x == p.1) p.2 (lbAt b x) + k
    rw [lbHas] at h
    cases hx : x == p.1 with
    | true => rfl
    | false =>
      rw [hx, cond_false] at h
      rw [cond_false, cond_false, sh_at k x b h]
theorem sh_snoc (k : Int) (b : Lb) (p : ByteArray × Int) : shLb k (b ++ [p]) = shLb k b ++ [(p.1, p.2 + k)] := by
  unfold shLb
  rw [List.map_append]
  rfl
/-- No label of the second is one of the first. -/
def Apart (a b : Lb) : Prop := ∀ x, lbHas a x = true → lbHas b x = false
theorem lbGo_cat {l : List Tok} {n k : Int} {a : Lb} : ∀ (f i : Nat) (b : Lb), Apart a b → (lbGo l n f i b).2.2 = false →
    (lbGo l (n + k) f i (a ++ shLb k b)).2.2 = true ∨ (lbGo l (n + k) f i (a ++ shLb k b) = ((lbGo l n f i b).1, a ++ shLb k (lbGo l n f i b).2.1, false) ∧ Apart a (lbGo l n f i b).2.1)
  | 0, i, b, h, _ => .inr ⟨rfl, h⟩
  | f + 1, i, b, h, h2 => by
    rw [lbGo] at h2 ⊢
    rw [lbGo]
    cases h1 : lbIs l i with
    | false => exact .inr ⟨rfl, h⟩
    | true =>
      rw [h1, cond_true] at h2
      rw [cond_true, cond_true, cat_has, sh_has]
      cases h3 : lbHas b (tk l i).text with
      | true => rw [h3] at h2; cases h2
      | false =>
        rw [h3, cond_false] at h2
        cases h4 : lbHas a (tk l i).text with
        | true => exact .inl rfl
        | false =>
          rw [Bool.or_self, cond_false, cond_false]
          have h5 : Apart a (b ++ [((tk l i).text, n)]) := fun x hx => by
            rw [cat_has, h x hx, Bool.false_or]
            show cond (x == (tk l i).text) true false = false
            cases hq : x == (tk l i).text with
            | false => rfl
            | true =>
              rw [baq] at hq
              rw [hq, h4] at hx
              cases hx
          have := lbGo_cat (k := k) f (i + 2) _ h5 h2
          rw [sh_snoc, ← List.append_assoc] at this
          exact this
theorem liRes_n {l : List Tok} {num : Int} {es : MEs} {ws : List Int} {n m i : Nat} (hn : n ≠ 1024) (hm : m ≠ 1024) : liRes l num es ws n i = liRes l num es ws m i := by
  unfold liRes
  rw [decide_eq_false hn, decide_eq_false hm]
theorem lnStep_ge (s : ByteArray) (num : Int) (lb : Lb) (td : List Told) : td.length ≤ (lnStep s num lb td).td.length := by
  unfold lnStep
  split
  · exact Nat.le_refl _
  split
  · exact Nat.le_refl _
  split
  · exact Nat.le_refl _
  · exact Nat.le_refl _
  · rw [List.length_append]; exact Nat.le_add_right ..
theorem mkGo_ge : ∀ (ss : List ByteArray) (n : Nat) (lb : Lb) (td : List Told), td.length ≤ (mkGo ss n lb td).2.1.length
  | [], _, _, _ => Nat.le_refl _
  | s :: ss, n, lb, td => by
    have h := lnStep_ge s ((n + 1 : Nat) : Int) lb td
    rw [mkGo]
    cases hq : lnStep s ((n + 1 : Nat) : Int) lb td with
    | mk lb1 td1 er =>
    rw [hq] at h
    cases er with
    | some x => exact h
    | none => exact Nat.le_trans h (mkGo_ge ss (n + 1) lb1 td1)
/-- A line behind another text: the same, or a label twice. -/
theorem lnStep_cat {s : ByteArray} {num : Int} (k : Int) {a b b' : Lb} {ta td td' : List Told} (hd : Apart a b) {td2 : List Told} (h : lnStep s num b td = ⟨b', td', none⟩) (hl : ta.length + td'.length ≤ 1024) (hs : ShL k td td2) :
    (∃ x, (lnStep s (num + k) (a ++ shLb (ta.length : Int) b) (ta ++ td2)).er = some (x, 211)) ∨ ∃ td3, lnStep s (num + k) (a ++ shLb (ta.length : Int) b) (ta ++ td2) = ⟨a ++ shLb (ta.length : Int) b', ta ++ td3, none⟩ ∧ ShL k td' td3 ∧ Apart a b' := by
  unfold lnStep at h ⊢
  by_cases h1 : (lnTok s).2.2 ≠ 0
  · rw [if_pos h1] at h; cases h
  rw [if_neg h1] at h ⊢
  by_cases h2 : (lnTok s).1 = []
  · rw [if_pos h2] at h ⊢
    cases h
    exact .inr ⟨td2, rfl, hs, hd⟩
  rw [if_neg h2] at h ⊢
  have e : ((ta ++ td2).length : Int) = (td.length : Int) + (ta.length : Int) := by rw [List.length_append, hs.len]; omega
  rw [e]
  cases hb : (lbGo (lnTok s).1 td.length ((lnTok s).1.length + 1) 0 b).2.2 with
  | true =>
    have : liEnd (lnTok s).1 num td (lbGo (lnTok s).1 td.length ((lnTok s).1.length + 1) 0 b) = .inl (.inl (((lbGo (lnTok s).1 td.length ((lnTok s).1.length + 1) 0 b).1 : Int), 211)) := by unfold liEnd; rw [hb]; rfl
    rw [this] at h
    cases h
  | false =>
  rcases lbGo_cat (k := (ta.length : Int)) ((lnTok s).1.length + 1) 0 b hd hb with h3 | ⟨h3, h4⟩
  · left
    have : liEnd (lnTok s).1 (num + k) (ta ++ td2) (lbGo (lnTok s).1 (td.length + ta.length) ((lnTok s).1.length + 1) 0 (a ++ shLb ta.length b)) = .inl (.inl (((lbGo (lnTok s).1 (td.length + ta.length) ((lnTok s).1.length + 1) 0 (a ++ shLb ta.length b)).1 : Int), 211)) := by unfold liEnd; rw [h3]; rfl
    rw [this]
    exact ⟨_, rfl⟩
  · rw [h3]
    generalize lbGo (lnTok s).1 td.length ((lnTok s).1.length + 1) 0 b = r at *
    obtain ⟨r1, r2, r3⟩ := r
    simp only at hb h4
    subst hb
    right
    by_cases h5 : r1 = (lnTok s).1.length
    · have e1 : ∀ (t : List Told) (q : Lb) (m : Int), liEnd (lnTok s).1 m t (r1, q, false) = .inr () := fun t q m => by
        unfold liEnd
        rw [cond_false, decide_eq_true h5]
        rfl
      rw [e1] at h
      simp only [e1]
      cases h
      exact ⟨td2, rfl, hs, h4⟩
    · have e1 : ∀ (t : List Told) (q : Lb) (m : Int), liEnd (lnTok s).1 m t (r1, q, false) = .inl (liRes (lnTok s).1 m opsE (wantsOf (mapI opsE (tk (lnTok s).1 r1).text)) t.length r1) := fun t q m => by
        unfold liEnd
        rw [cond_false, decide_eq_false h5]
        rfl
      rw [e1] at h
      simp only [e1]
      have sh := liRes_sh k (lnTok s).1 num opsE (wantsOf (mapI opsE (tk (lnTok s).1 r1).text)) td.length r1
      cases hq : liRes (lnTok s).1 num opsE (wantsOf (mapI opsE (tk (lnTok s).1 r1).text)) td.length r1 with
      | inl x => rw [hq] at h; cases h
      | inr t =>
        have hn := liRes_len hq
        rw [hq] at h
        cases h
        rw [List.length_append, List.length_singleton] at hl
        rw [liRes_n (n := (ta ++ td2).length) (m := td.length) (by rw [List.length_append, hs.len]; omega) hn]
        rcases sh with ⟨x, e2, _⟩ | ⟨t', u, e2, e3, hu⟩
        · rw [hq] at e2; cases e2
        · rw [hq] at e2
          cases e2
          rw [e3]
          exact ⟨td2 ++ [u], (by show (⟨_, ta ++ td2 ++ [u], none⟩ : MkS) = _; rw [List.append_assoc]), hs.snoc hu, h4⟩
theorem mkGo_cat {a : Lb} {ta : List Told} (K : Nat) : ∀ (ss : List ByteArray) (n : Nat) (b : Lb) (td td2 : List Told), Apart a b → (mkGo ss n b td).2.2 = none → ta.length + (mkGo ss n b td).2.1.length ≤ 1024 → ShL (K : Int) td td2 →
    (∃ x, (mkGo ss (n + K) (a ++ shLb (ta.length : Int) b) (ta ++ td2)).2.2 = some x ∧ x.2.2 = 211) ∨ ∃ td3, mkGo ss (n + K) (a ++ shLb (ta.length : Int) b) (ta ++ td2) = (a ++ shLb (ta.length : Int) (mkGo ss n b td).1, ta ++ td3, none) ∧ ShL (K : Int) (mkGo ss n b td).2.1 td3 ∧ Apart a (mkGo ss n b td).1
  | [], n, b, td, td2, hd, _, _, hs => .inr ⟨td2, rfl, hs, hd⟩
  | s :: ss, n, b, td, td2, hd, h, hl, hs => by
    rw [mkGo] at h hl ⊢
    rw [mkGo, show ((n + K + 1 : Nat) : Int) = ((n + 1 : Nat) : Int) + (K : Int) by omega]
    cases hq : lnStep s ((n + 1 : Nat) : Int) b td with
    | mk b1 td1 er =>
    rw [hq] at h hl
    cases er with
    | some x => cases h
    | none =>
      have h : (mkGo ss (n + 1) b1 td1).2.2 = none := h
      have hl : ta.length + (mkGo ss (n + 1) b1 td1).2.1.length ≤ 1024 := hl
      have hg := mkGo_ge ss (n + 1) b1 td1
      rcases lnStep_cat (ta := ta) (td' := td1) (K : Int) hd hq (by omega) hs with ⟨x, e⟩ | ⟨td3, e, h3, h4⟩
      · left
        cases hq2 : lnStep s (((n + 1 : Nat) : Int) + (K : Int)) (a ++ shLb ta.length b) (ta ++ td2) with
        | mk b2 t2 er2 =>
        rw [hq2] at e
        simp only at e
        subst e
        exact ⟨_, rfl, rfl⟩
      · rw [e]
        have := mkGo_cat K ss (n + 1) b1 td1 td3 h4 h hl h3
        rw [show n + 1 + K = n + K + 1 by omega] at this
        exact this
theorem mkGo_app : ∀ (x y : List ByteArray) (n : Nat) (lb : Lb) (td : List Told), (mkGo x n lb td).2.2 = none → mkGo (x ++ y) n lb td = mkGo y (n + x.length) (mkGo x n lb td).1 (mkGo x n lb td).2.1
  | [], _, _, _, _, _ => rfl
  | s :: x, y, n, lb, td, h => by
    rw [List.cons_append]
    rw [mkGo] at h ⊢
    rw [mkGo]
    cases hq : lnStep s ((n + 1 : Nat) : Int) lb td with
    | mk lb1 td1 er =>
    rw [hq] at h
    cases er with
    | some e => cases h
    | none =>
      have := mkGo_app x y (n + 1) lb1 td1 h
      rw [List.length_cons, show n + (x.length + 1) = n + 1 + x.length by omega]
      exact this
theorem mkGo_pre : ∀ (x y : List ByteArray) (n : Nat) (lb : Lb) (td : List Told), (mkGo (x ++ y) n lb td).2.2 = none → (mkGo x n lb td).2.2 = none
  | [], _, _, _, _, _ => rfl
  | s :: x, y, n, lb, td, h => by
    rw [List.cons_append, mkGo] at h
    rw [mkGo]
    cases hq : lnStep s ((n + 1 : Nat) : Int) lb td with
    | mk lb1 td1 er =>
    rw [hq] at h
    cases er with
    | some e => cases h
    | none => exact mkGo_pre x y (n + 1) lb1 td1 h
theorem wdGo_app {lb : Lb} : ∀ (x y : List Told) (i : Nat) (ws ws' : List Int), wdGoM lb x i ws = (ws', none) → wdGoM lb (x ++ y) i ws = wdGoM lb y (i + x.length) ws'
  | [], y, i, ws, ws', h => by cases h; rfl
  | t :: x, y, i, ws, ws', h => by
    rw [List.cons_append]
    rw [wdGoM] at h ⊢
    cases hq : tdW lb i t with
    | inr e => rw [hq] at h; cases h
    | inl w =>
      rw [hq] at h
      have := wdGo_app x y (i + 1) (ws ++ [w]) ws' h
      rw [List.length_cons, show i + (x.length + 1) = i + 1 + x.length by omega]
      exact this
theorem wdGo_l {a b : Lb} : ∀ (td : List Told) (i : Nat) (ws ws' : List Int), wdGoM a td i ws = (ws', none) → wdGoM (a ++ b) td i ws = (ws', none)
  | [], i, ws, ws', h => h
  | t :: td, i, ws, ws', h => by
    rw [wdGoM] at h ⊢
    have e : ∀ w, tdW a i t = .inl w → tdW (a ++ b) i t = .inl w := fun w hw => by
      unfold tdW at hw ⊢
      by_cases hl : t.label = ⟨#[]⟩
      · unfold tdN at hw ⊢
        rw [decide_eq_true hl] at hw ⊢
        exact hw
      · unfold tdN at hw ⊢
        rw [decide_eq_false hl, Bool.false_or] at hw ⊢
        rw [cat_has, cat_at]
        cases hh : lbHas a t.label with
        | false => rw [hh] at hw; cases hw
        | true => rw [hh] at hw; exact hw
    cases hq : tdW a i t with
    | inr e2 => rw [hq] at h; cases h
    | inl w =>
      rw [hq] at h
      rw [e w hq]
      exact wdGo_l td (i + 1) (ws ++ [w]) ws' h
theorem wdGo_r {a b : Lb} (hd : Apart a b) {k : Int} {c : Nat} {td td2 : List Told} (hs : ShL k td td2) : ∀ (i : Nat) (ws ws2 ws' : List Int), wdGoM b td i ws = (ws', none) → ∃ m, ws' = ws ++ m ∧ wdGoM (a ++ shLb (c : Int) b) td2 (i + c) ws2 = (ws2 ++ m, none) := by
  induction hs with
  | nil => intro i ws ws2 ws' h; cases h; exact ⟨[], by rw [List.append_nil], by rw [List.append_nil]; rfl⟩
  | @cons t u l m h1 _ ih =>
    intro i ws ws2 ws' h
    rw [wdGoM] at h ⊢
    rw [tdW_sh h1]
    have e : ∀ w, tdW b i t = .inl w → tdW (a ++ shLb (c : Int) b) (i + c) t = .inl w := fun w hw => by
      unfold tdW at hw ⊢
      by_cases hl : t.label = ⟨#[]⟩
      · unfold tdN at hw ⊢
        rw [decide_eq_true hl] at hw ⊢
        exact hw
      · unfold tdN at hw ⊢
        rw [decide_eq_false hl, Bool.false_or] at hw ⊢
        cases hh : lbHas b t.label with
        | false => rw [hh] at hw; cases hw
        | true =>
          have ha : lbHas a t.label = false := by
            cases hq : lbHas a t.label with
            | false => rfl
            | true => rw [hd _ hq] at hh; cases hh
          rw [hh] at hw
          rw [cat_has, cat_at, sh_has, sh_at _ _ _ hh, ha, hh, Bool.false_or, cond_true, cond_false, cond_false, show lbAt b t.label + (c : Int) - ((i + c : Nat) : Int) = lbAt b t.label - (i : Int) by omega]
          exact hw
    cases hq : tdW b i t with
    | inr e2 => rw [hq] at h; cases h
    | inl w =>
      rw [hq] at h
      rw [e w hq]
      obtain ⟨q, e1, e2⟩ := ih (i + 1) (ws ++ [w]) (ws2 ++ [w]) ws' h
      refine ⟨w :: q, by rw [e1, List.append_assoc]; rfl, ?_⟩
      rw [show i + c + 1 = i + 1 + c by omega]
      show wdGoM _ m (i + 1 + c) (ws2 ++ [w]) = _
      rw [e2, List.append_assoc]
      rfl
theorem nil_step2 (num : Int) (lb : Lb) (td : List Told) : lnStep ⟨#[]⟩ num lb td = ⟨lb, td, none⟩ := by
  have e : (lnTok ⟨#[]⟩).1 = [] ∧ (lnTok ⟨#[]⟩).2.2 = 0 := lnTok_of (l := []) (by show 0 ≤ 200; decide) (fun t h => by cases h) rfl
  unfold lnStep
  rw [if_neg (by rw [e.2]; exact fun h => h rfl), if_pos e.1]
theorem split_nl (s : ByteArray) : splB (s ++ nlB) nlB = splB s nlB ++ [⟨#[]⟩] := by
  have := splB_gen s ⟨#[]⟩
  rw [show nlB ++ (⟨#[]⟩ : ByteArray) = nlB from ba_ext (by rw [app_data]; simp)] at this
  rw [this]
  exact congrArg _ (splB_one (fun h => by cases h))
theorem mkA_ok {s : ByteArray} (h : (mkA s).er = 0) : (mkGo (splB s nlB) 0 [] []).2.2 = none ∧ wdGoM (mkGo (splB s nlB) 0 [] []).1 (mkGo (splB s nlB) 0 [] []).2.1 0 [] = ((mkA s).ws, none) := by
  obtain ⟨a, b⟩ := mkGo_TI (splB s nlB) 0 [] [] (((splB s nlB).length : Nat) : Int) (by omega) (fun t h => by cases h)
  unfold mkA at h ⊢
  cases hq : mkGo (splB s nlB) 0 [] [] with
  | mk lb q =>
  obtain ⟨td, er⟩ := q
  rw [hq] at a b h
  cases er with
  | some x =>
    obtain ⟨_, _, _, b4⟩ := b x rfl
    exact absurd h b4
  | none =>
    have h : (mkW lb td).er = 0 := h
    show none = none ∧ wdGoM lb td 0 [] = ((mkW lb td).ws, none)
    have d := (wdGo_TI (lb := lb) td 0 [] a (fun w h => by cases h)).2
    unfold mkW at h ⊢
    cases hw : wdGoM lb td 0 [] with
    | mk ws er =>
    rw [hw] at d h
    cases er with
    | some x =>
      obtain ⟨_, _, _, d4⟩ := d x rfl
      exact absurd h d4
    | none => exact ⟨rfl, rfl⟩
/-- Two texts, the first one of whole lines: what both make together. -/
theorem cat_make {s t : ByteArray} (h1 : (mkA (s ++ nlB)).er = 0) (h2 : (mkA t).er = 0) (hl : (mkA (s ++ nlB)).ws.length + (mkA t).ws.length ≤ 1024) : (mkA ((s ++ nlB) ++ t)).er = 211 ∨ ((mkA ((s ++ nlB) ++ t)).er = 0 ∧ (mkA ((s ++ nlB) ++ t)).ws = (mkA (s ++ nlB)).ws ++ (mkA t).ws) := by
  obtain ⟨a1, a2⟩ := mkA_ok h1
  obtain ⟨b1, b2⟩ := mkA_ok h2
  generalize (mkA (s ++ nlB)).ws = A at *
  generalize (mkA t).ws = B at *
  have na := wdGoM_ne _ _ _ _ a2
  have nb := wdGoM_ne _ _ _ _ b2
  rw [List.length_nil, Nat.zero_add] at na nb
  rw [split_nl] at a1 a2 na
  have p := mkGo_pre _ _ _ _ _ a1
  have e := mkGo_app (splB s nlB) [⟨#[]⟩] 0 [] [] p
  have e2 : ∀ n lb td, mkGo [⟨#[]⟩] n lb td = (lb, td, none) := fun n lb td => by rw [mkGo, nil_step2]; rfl
  rw [e2] at e
  rw [e] at a2 na
  simp only at a2 na
  have g : mkGo (splB ((s ++ nlB) ++ t) nlB) 0 [] [] = mkGo (splB t nlB) (0 + (splB s nlB).length) (mkGo (splB s nlB) 0 [] []).1 (mkGo (splB s nlB) 0 [] []).2.1 := by
    rw [app_asc, splB_gen]
    exact mkGo_app _ _ _ _ _ p
  have c := mkGo_cat (a := (mkGo (splB s nlB) 0 [] []).1) (ta := (mkGo (splB s nlB) 0 [] []).2.1) (splB s nlB).length (splB t nlB) 0 [] [] [] (fun x _ => rfl) b1 (by omega) .nil
  have z : ∀ x : Lb, x ++ shLb ((mkGo (splB s nlB) 0 [] []).2.1.length : Int) [] = x := fun x => List.append_nil x
  rw [z, List.append_nil] at c
  unfold mkA
  rw [g]
  rcases c with ⟨x, c1, c2⟩ | ⟨td3, c1, c2, c3⟩
  · left
    cases hq : mkGo (splB t nlB) (0 + (splB s nlB).length) (mkGo (splB s nlB) 0 [] []).1 (mkGo (splB s nlB) 0 [] []).2.1 with
    | mk lb q =>
    obtain ⟨td, er⟩ := q
    rw [hq] at c1
    simp only at c1
    subst c1
    exact c2
  · right
    rw [c1]
    show (mkW _ _).er = 0 ∧ (mkW _ _).ws = _
    have w1 := wdGo_l (b := shLb ((mkGo (splB s nlB) 0 [] []).2.1.length : Int) (mkGo (splB t nlB) 0 [] []).1) _ _ _ _ a2
    have w2 := wdGo_app (lb := (mkGo (splB s nlB) 0 [] []).1 ++ shLb ((mkGo (splB s nlB) 0 [] []).2.1.length : Int) (mkGo (splB t nlB) 0 [] []).1) (mkGo (splB s nlB) 0 [] []).2.1 td3 0 [] A w1
    obtain ⟨m, m1, m2⟩ := wdGo_r c3 (c := (mkGo (splB s nlB) 0 [] []).2.1.length) c2 0 [] A B b2
    rw [List.nil_append] at m1
    subst m1
    unfold mkW
    rw [w2, m2]
    exact ⟨rfl, rfl⟩
end Go.Proofs.YtgohnfkidkomhaaGreatDoor

noncomputable section
namespace Go.Proofs.YtgohnfkidkomhaaGreatDoor
open Go.Proofs.YtgohnfkidkomhaaGreatDoor.Ev Go.RowKit

/-! How many instructions a section has: as many lines as it has, and of its body's lines those of four bytes or more. -/
def opBad (o : Int) : Bool := decide (o = 0) || (decide (13 ≤ o) && decide (o ≤ 19))
/-- May an instruction stand in a body? -/
def plB (x : Int) : Bool := okW x && (!opBad (oN x) && decide (fA x < 10))
/-- May a line? -/
def pcOK (s : ByteArray) : Bool := decide ((mkA s).er = 0) && (match (mkA s).ws with
  | [] => true
  | [w] => plB w
  | _ => false)
theorem tokGo_sz {s : ByteArray} : ∀ (f : Nat) (a : Int) (l : List Tok), 0 ≤ a → (∀ t ∈ l, t.text.size ≤ s.size) → ∀ t ∈ (tokGo s f a l).1, t.text.size ≤ s.size
  | 0, a, l, h0, hl => hl
  | f + 1, a, l, h0, hl => by
    have hadv := tokS_adv (s := s) h0
    unfold tokGo
    cases hq : tokS s a with
    | stop => exact hl
    | err e => exact hl
    | skip => exact tokGo_sz f (a + 1) l (by omega) hl
    | tok t k =>
      rw [hq] at hadv
      have hadv : 1 ≤ k ∧ a + k ≤ (s.size : Int) := hadv
      refine tokGo_sz f (a + k) (l ++ [t]) (by omega) fun x hx => ?_
      rcases List.mem_append.1 hx with hx | hx
      · exact hl x hx
      · rw [List.mem_singleton] at hx
        subst hx
        clear hadv
        unfold tokS at hq
        split at hq
        case isFalse => cases hq
        rename_i ha
        have z0 : (⟨#[]⟩ : ByteArray).size ≤ s.size := Nat.zero_le _
        split at hq
        · cases hq
        split at hq
        · cases hq
        split at hq
        · cases hq; exact z0
        split at hq
        · cases hq; exact z0
        split at hq
        · split at hq
          · cases hq; exact z0
          · cases hq
            obtain ⟨r1, r2⟩ := runE_le (p := partB) (show a ≤ (s.size : Int) by omega)
            have z := subS_size (s := s) h0 r1 r2
            simp only
            omega
        split at hq
        · split at hq
          · cases hq; exact z0
          · cases hq
        · cases hq
theorem lnTok_sz (s : ByteArray) {t : Tok} (h : t ∈ (lnTok s).1) : t.text.size ≤ s.size := by
  unfold lnTok at h
  cases hd : decide ((s.size : Int) > 200) with
  | true => rw [hd] at h; cases h
  | false => rw [hd] at h; exact tokGo_sz _ _ _ (Int.le_refl _) (fun t h => by cases h) t h
theorem lnTok_many (s : ByteArray) : (lnTok s).1.length ≤ s.size := by
  unfold lnTok
  cases decide ((s.size : Int) > 200) with
  | true => exact Nat.zero_le _
  | false =>
    have := (tokGo_len (s := s) (s.size + 1) 0 [] (Int.le_refl _) (by omega) (by simp)).1
    show (tokGo s (s.size + 1) 0 []).1.length ≤ _
    omega
theorem wantGo_many2 {l : List Tok} {num : Int} : ∀ (ws : List Int) (i r : Nat) (t t2 : Told), wantGo l num ws false i r t = .inr t2 → i < l.length → 2 * ws.length + i < l.length
  | [], i, r, t, t2, h, hi => by rw [List.length_nil]; omega
  | w :: ws, i, r, t, t2, h, hi => by
    obtain ⟨h1, h2⟩ := wantOne_inr (wantGo_more h)
    have : 2 * ws.length + (i + 1 + 1) < l.length := by
      rcases h2 with ⟨_, _, h2⟩ | ⟨_, _, h2⟩ | ⟨_, _, h2⟩ <;> exact wantGo_many2 ws (i + 1 + 1) _ _ t2 h2 h1
    rw [List.length_cons]
    omega
theorem wantGo_many3 {l : List Tok} {num : Int} {ws : List Int} {i r : Nat} {t t2 : Told} (h : wantGo l num ws true i r t = .inr t2) (hw : 1 ≤ ws.length) : 2 * ws.length ≤ l.length := by
  cases ws with
  | nil => cases hw
  | cons w ws =>
    rw [wantGo] at h
    obtain ⟨h1, h2⟩ := wantOne_inr h
    have : 2 * ws.length + (i + 1) < l.length := by
      rcases h2 with ⟨_, _, h2⟩ | ⟨_, _, h2⟩ | ⟨_, _, h2⟩ <;> exact wantGo_many2 ws (i + 1) _ _ t2 h2 h1
    rw [List.length_cons]
    omega
theorem ops_size {x : ByteArray} (h : mapI opsE x = 20 ∨ mapI opsE x = 21) : 4 ≤ x.size := by
  have key : ∀ es : MEs, (∀ e ∈ es, ∃ a n c, e = (.string a, .int .u8 n, c) ∧ (n = 20 ∨ n = 21 → 4 ≤ a.size)) → (mapI es x = 20 ∨ mapI es x = 21) → 4 ≤ x.size := by
    intro es
    induction es with
    | nil => intro _ h; rcases h with h | h <;> cases h
    | cons e es ih =>
      intro h hx
      obtain ⟨a, n, c, rfl, h0⟩ := h e (List.mem_cons_self ..)
      have := ih fun e he => h e (List.mem_cons_of_mem _ he)
      have hx : cond (x == a) n (mapI es x) = 20 ∨ cond (x == a) n (mapI es x) = 21 := hx
      cases hq : x == a with
      | false => rw [hq] at hx; exact this hx
      | true => rw [hq] at hx; rw [baq] at hq; rw [hq]; exact h0 hx
  refine key opsE (fun e he => ?_) h
  unfold opsE at he
  simp only [List.mem_cons, List.not_mem_nil, or_false] at he
  rcases he with rfl | rfl | rfl | rfl | rfl | rfl | rfl | rfl | rfl | rfl | rfl | rfl | rfl | rfl | rfl | rfl | rfl | rfl | rfl | rfl | rfl | rfl <;> exact ⟨_, _, _, rfl, by decide⟩
theorem wants_len {op : Int} (h0 : 0 ≤ op) (h1 : op < 22) (hb : opBad op = false) : 2 ≤ (wantsOf op).length ∨ op = 20 ∨ op = 21 := by
  rcases (show op = 0 ∨ op = 1 ∨ op = 2 ∨ op = 3 ∨ op = 4 ∨ op = 5 ∨ op = 6 ∨ op = 7 ∨ op = 8 ∨ op = 9 ∨ op = 10 ∨ op = 11 ∨ op = 12 ∨ op = 13 ∨ op = 14 ∨ op = 15 ∨ op = 16 ∨ op = 17 ∨ op = 18 ∨ op = 19 ∨ op = 20 ∨ op = 21 by omega) with rfl | rfl | rfl | rfl | rfl | rfl | rfl | rfl | rfl | rfl | rfl | rfl | rfl | rfl | rfl | rfl | rfl | rfl | rfl | rfl | rfl | rfl <;> revert hb <;> decide
/-- A line that adds an instruction: its tokens. -/
theorem lnStep_snoc {s : ByteArray} {num : Int} {b b' : Lb} {td td' : List Told} (h : lnStep s num b td = ⟨b', td', none⟩) : td' = td ∨ ∃ t r, td' = td ++ [t] ∧ td.length ≠ 1024 ∧ liEnd (lnTok s).1 num td r = .inl (.inr t) ∧ r = lbGo (lnTok s).1 td.length ((lnTok s).1.length + 1) 0 b := by
  unfold lnStep at h
  split at h
  · cases h
  split at h
  · cases h; exact .inl rfl
  split at h
  · cases h; exact .inl rfl
  · cases h
  · rename_i t ht
    cases h
    exact .inr ⟨t, _, rfl, liEnd_len ht, ht, rfl⟩
theorem liEnd_op2 {l : List Tok} {num : Int} {td : List Told} {r : Nat × Lb × Bool} {t : Told} (h : liEnd l num td r = .inl (.inr t)) : ∃ i, wantGo l num (wantsOf (mapI opsE (tk l i).text)) true i 0 (toldNil (mapI opsE (tk l i).text)) = .inr t ∧ t.op = mapI opsE (tk l i).text := by
  have h2 := liEnd_inr h
  exact ⟨_, h2, wantGo_op _ _ _ _ _ _ h2⟩
/-- By itself a line that may stand in a body has four bytes, if it has an instruction. -/
theorem pc_size {s : ByteArray} (h10 : NoB 10 s) (h : pcOK s = true) : ∃ b td, lnStep s 1 [] [] = ⟨b, td, none⟩ ∧ td.length ≤ (if 4 ≤ s.size then 1 else 0) := by
  unfold pcOK at h
  obtain ⟨h1, h2⟩ := Bool.and_eq_true_iff.1 h
  have h1 := of_decide_eq_true h1
  obtain ⟨a1, a2⟩ := mkA_ok h1
  have e : splB s nlB = [s] := splB_one h10
  rw [e] at a1 a2
  rw [mkGo] at a1 a2
  cases hq : lnStep s ((0 + 1 : Nat) : Int) [] [] with
  | mk b td er =>
  rw [hq] at a1 a2
  cases er with
  | some x => cases a1
  | none =>
    have a2 : wdGoM b td 0 [] = ((mkA s).ws, none) := a2
    have hw := wdGoM_ne _ _ _ _ a2
    rw [List.length_nil, Nat.zero_add] at hw
    refine ⟨b, td, rfl, ?_⟩
    rcases lnStep_snoc hq with rfl | ⟨t, r, rfl, _, h4, _⟩
    · rw [List.length_nil]; exact Nat.zero_le _
    · rw [List.nil_append] at a2 hw ⊢
      rw [List.length_singleton] at hw ⊢
      obtain ⟨w, hws⟩ : ∃ w, (mkA s).ws = [w] := by
        cases hx : (mkA s).ws with
        | nil => rw [hx] at hw; cases hw
        | cons w l =>
          cases l with
          | nil => exact ⟨w, rfl⟩
          | cons _ _ => rw [hx] at hw; simp at hw
      rw [hws] at h2 a2
      have h2 : plB w = true := h2
      unfold plB at h2
      obtain ⟨_, h2⟩ := Bool.and_eq_true_iff.1 h2
      obtain ⟨h2, _⟩ := Bool.and_eq_true_iff.1 h2
      rw [wdGoM] at a2
      have ho : opBad t.op = false := by
        cases hx : tdW b 0 t with
        | inr e => rw [hx] at a2; cases a2
        | inl v =>
          rw [hx] at a2
          have a2 : ([] ++ [v], none) = ([w], none) := a2
          simp only [List.nil_append, Prod.mk.injEq, List.cons.injEq, and_true] at a2
          subst a2
          unfold tdW at hx
          cases c1 : (decide (t.label = ⟨#[]⟩) || lbHas b t.label) with
          | false => rw [c1] at hx; cases hx
          | true =>
            rw [c1, cond_true] at hx
            cases c2 : cmay t.op t.a t.b t.c (tdN b 0 t) with
            | false => rw [c2] at hx; cases hx
            | true =>
              rw [c2, cond_true] at hx
              have hx := Sum.inl.inj hx
              unfold putN at hx
              rw [c2, cond_true] at hx
              have e1 := (word_dec c2).1
              rw [hx] at e1
              rw [← e1]
              simpa using h2
      obtain ⟨i, h5, h6⟩ := liEnd_op2 h4
      obtain ⟨o0, o1⟩ := ops_has (tk (lnTok s).1 i).text
      rw [h6] at ho
      have hsz : 4 ≤ s.size := by
        rcases wants_len o0 o1 ho with h7 | h7
        · have := wantGo_many3 h5 (by omega)
          have := lnTok_many s
          omega
        · have h8 := ops_size h7
          have h9 : tk (lnTok s).1 i ∈ (lnTok s).1 := by
            unfold tk at h8 ⊢
            cases hx : (lnTok s).1[i]? with
            | none => rw [hx] at h8; cases h8
            | some t => exact List.mem_of_getElem? hx
          have := lnTok_sz s h9
          omega
      rw [if_pos hsz]
      exact Nat.le_refl _
/-- What a line may add at most. -/
def lnU (s : ByteArray) : Nat := if 4 ≤ s.size ∨ pcOK s = false then 1 else 0
theorem lnU_le (s : ByteArray) : lnU s ≤ 1 := by unfold lnU; split <;> omega
theorem lnStep_u {s : ByteArray} (h10 : NoB 10 s) {num : Int} {b b' : Lb} {td td' : List Told} (h : lnStep s num b td = ⟨b', td', none⟩) (hl : td.length ≤ 1024) : td'.length ≤ td.length + lnU s := by
  rcases lnStep_snoc h with rfl | ⟨t, r, rfl, hn, _, _⟩
  · exact Nat.le_add_right ..
  · rw [List.length_append, List.length_singleton]
    cases hp : pcOK s with
    | false => unfold lnU; rw [if_pos (.inr hp)]; exact Nat.le_refl _
    | true =>
      obtain ⟨b0, t0, e0, h0⟩ := pc_size h10 hp
      have hz : t0.length ≤ 1 := by split at h0 <;> omega
      rcases lnStep_cat (a := b) (ta := td) (num - 1) (fun x _ => rfl) e0 (by omega) .nil with ⟨x, e⟩ | ⟨td3, e, h3, _⟩
      · have z : b ++ shLb (td.length : Int) [] = b := List.append_nil b
        rw [z, List.append_nil, show (1 : Int) + (num - 1) = num by omega, h] at e
        cases e
      · have z : b ++ shLb (td.length : Int) [] = b := List.append_nil b
        rw [z, List.append_nil, show (1 : Int) + (num - 1) = num by omega, h] at e
        simp only [MkS.mk.injEq, List.append_cancel_left_eq, and_true] at e
        obtain ⟨_, e⟩ := e
        have := h3.len
        rw [← e, List.length_singleton] at this
        unfold lnU
        split at h0
        · rename_i h4; rw [if_pos (.inl h4)]; exact Nat.le_refl _
        · omega
theorem mkGo_u : ∀ (ss : List ByteArray) (n : Nat) (b : Lb) (td : List Told), (∀ s ∈ ss, NoB 10 s) → td.length ≤ 1024 → (mkGo ss n b td).2.2 = none → (mkGo ss n b td).2.1.length ≤ td.length + (ss.map lnU).sum
  | [], n, b, td, _, _, _ => Nat.le_add_right ..
  | s :: ss, n, b, td, hs, hl, h => by
    rw [mkGo] at h ⊢
    have hlen := lnStep_len s ((n + 1 : Nat) : Int) b td hl
    cases hq : lnStep s ((n + 1 : Nat) : Int) b td with
    | mk b1 td1 er =>
    rw [hq] at h hlen
    cases er with
    | some x => cases h
    | none =>
      have h1 := lnStep_u (hs s (List.mem_cons_self ..)) hq hl
      have h2 := mkGo_u ss (n + 1) b1 td1 (fun x hx => hs x (List.mem_cons_of_mem _ hx)) hlen h
      rw [List.map_cons, List.sum_cons]
      show (mkGo ss (n + 1) b1 td1).2.1.length ≤ _
      omega
theorem cutL_sum (c : UInt8) : ∀ l : List UInt8, ((cutL c l).map fun p => p.length + 1).sum = l.length + 1
  | [] => rfl
  | b :: l => by
    have ih := cutL_sum c l
    rw [cutL]
    split
    · rw [List.map_cons, List.sum_cons, ih, List.length_nil, List.length_cons]; omega
    · cases hq : cutL c l with
      | nil => exact absurd hq (cutL_ne c l)
      | cons p ps =>
        rw [hq, List.map_cons, List.sum_cons] at ih
        rw [List.map_cons, List.sum_cons, List.length_cons, List.length_cons]
        omega
theorem splB_sum (s : ByteArray) : ((splB s nlB).map fun p => p.size + 1).sum = s.size + 1 := by
  show ((splB s ⟨#[10]⟩).map fun p => p.size + 1).sum = _
  rw [splB_cut, List.map_map]
  have := cutL_sum 10 s.data.toList
  rw [show s.data.toList.length = s.size from data_len s] at this
  rw [← this]
  refine congrArg _ (List.map_congr_left fun p _ => ?_)
  show (⟨p.toArray⟩ : ByteArray).size + 1 = _
  rw [show (⟨p.toArray⟩ : ByteArray).size = p.length from List.size_toArray]
theorem u_sum : ∀ ss : List ByteArray, (∀ s ∈ ss, pcOK s = true) → 5 * (ss.map lnU).sum ≤ (ss.map fun p => p.size + 1).sum
  | [], _ => Nat.le_refl _
  | s :: ss, h => by
    have ih := u_sum ss fun x hx => h x (List.mem_cons_of_mem _ hx)
    have h1 : 5 * lnU s ≤ s.size + 1 := by
      unfold lnU
      split
      · rename_i h2
        rcases h2 with h2 | h2
        · omega
        · rw [h s (List.mem_cons_self ..)] at h2; cases h2
      · omega
    rw [List.map_cons, List.sum_cons, List.map_cons, List.sum_cons]
    omega
/-- A body's lines. -/
def bdU (body : ByteArray) : Nat := ((splB body nlB).map lnU).sum
/-- May a body be? -/
def mayB (body : ByteArray) : Bool := (splB body nlB).all pcOK
theorem bdU_le {body : ByteArray} (h : mayB body = true) : 5 * bdU body ≤ body.size + 1 := by
  have := u_sum (splB body nlB) (List.all_eq_true.1 h)
  rw [splB_sum] at this
  exact this
theorem bdU_one {s : ByteArray} (h : NoB 10 s) : bdU s ≤ 1 := by
  unfold bdU
  rw [show splB s nlB = [s] from splB_one h]
  show lnU s + 0 ≤ 1
  have := lnU_le s
  omega
theorem join_split : ∀ (l : List ByteArray) (x : ByteArray), splB (joinB nlB (x :: l)) nlB = (x :: l).flatMap fun y => splB y nlB
  | [], x => by show splB x nlB = _; simp
  | y :: l, x => by
    show splB (x ++ nlB ++ joinB nlB (y :: l)) nlB = _
    rw [app_asc, splB_gen, join_split l y, List.flatMap_cons, List.flatMap_cons, List.flatMap_cons]
theorem join_u : ∀ l : List ByteArray, ((l.flatMap fun y => splB y nlB).map lnU).sum = (l.map bdU).sum
  | [] => rfl
  | x :: l => by
    rw [List.flatMap_cons, List.map_append, List.sum_append, join_u l, List.map_cons, List.sum_cons]
    rfl
end Go.Proofs.YtgohnfkidkomhaaGreatDoor

noncomputable section
namespace Go.Proofs.YtgohnfkidkomhaaGreatDoor
open Go.Proofs.YtgohnfkidkomhaaGreatDoor.Ev Go.RowKit

/-! A section's text: how many instructions it has; two of them, one behind the other. -/
def endB : ByteArray := ⟨#[101, 110, 100]⟩
def secP (lk tr n : ByteArray) : List ByteArray := [((⟨#[115, 101, 116, 32, 114, 49, 48, 44, 32]⟩ : ByteArray) ++ tr), (((n ++ (⟨#[46, 116, 114, 121, 58, 32, 98, 101, 113, 32, 114, 49, 48, 44, 32, 114, 48, 44, 32]⟩ : ByteArray)) ++ n) ++ (⟨#[46, 114, 101, 97, 108]⟩ : ByteArray)), (((⟨#[98, 101, 103, 105, 110, 32]⟩ : ByteArray) ++ n) ++ (⟨#[46, 102, 97, 105, 108]⟩ : ByteArray)), ((⟨#[115, 101, 116, 32, 114, 49, 49, 44, 32]⟩ : ByteArray) ++ lk), (⟨#[108, 111, 97, 100, 32, 114, 49, 50, 44, 32, 114, 49, 49, 44, 32, 48]⟩ : ByteArray), (⟨#[108, 111, 97, 100, 32, 114, 49, 51, 44, 32, 114, 49, 49, 44, 32, 52]⟩ : ByteArray), (((⟨#[98, 110, 101, 32, 114, 49, 50, 44, 32, 114, 49, 51, 44, 32]⟩ : ByteArray) ++ n) ++ (⟨#[46, 98, 117, 115, 121]⟩ : ByteArray))]
def secQ (lk n : ByteArray) : List ByteArray := [(((⟨#[106, 117, 109, 112, 32]⟩ : ByteArray) ++ n) ++ (⟨#[46, 111, 117, 116]⟩ : ByteArray)), (n ++ (⟨#[46, 98, 117, 115, 121, 58, 32, 97, 98, 111, 114, 116, 32, 49]⟩ : ByteArray)), (n ++ (⟨#[46, 102, 97, 105, 108, 58, 32, 97, 100, 100, 105, 32, 114, 49, 48, 44, 32, 114, 49, 48, 44, 32, 45, 49]⟩ : ByteArray)), (((⟨#[106, 117, 109, 112, 32]⟩ : ByteArray) ++ n) ++ (⟨#[46, 116, 114, 121]⟩ : ByteArray)), ((n ++ (⟨#[46, 114, 101, 97, 108, 58, 32]⟩ : ByteArray)) ++ ((⟨#[115, 101, 116, 32, 114, 49, 49, 44, 32]⟩ : ByteArray) ++ lk)), (n ++ (⟨#[46, 116, 97, 107, 101, 58, 32, 108, 111, 97, 100, 32, 114, 49, 50, 44, 32, 114, 49, 49, 44, 32, 48]⟩ : ByteArray)), (⟨#[97, 100, 100, 105, 32, 114, 49, 51, 44, 32, 114, 49, 50, 44, 32, 49]⟩ : ByteArray), (⟨#[97, 100, 100, 32, 114, 49, 52, 44, 32, 114, 49, 50, 44, 32, 114, 48]⟩ : ByteArray), (⟨#[115, 119, 97, 112, 32, 114, 49, 52, 44, 32, 114, 49, 49, 44, 32, 114, 49, 51]⟩ : ByteArray), (((⟨#[98, 110, 101, 32, 114, 49, 52, 44, 32, 114, 49, 50, 44, 32]⟩ : ByteArray) ++ n) ++ (⟨#[46, 116, 97, 107, 101]⟩ : ByteArray)), (n ++ (⟨#[46, 119, 97, 105, 116, 58, 32, 108, 111, 97, 100, 32, 114, 49, 51, 44, 32, 114, 49, 49, 44, 32, 52]⟩ : ByteArray)), (((⟨#[98, 110, 101, 32, 114, 49, 51, 44, 32, 114, 49, 50, 44, 32]⟩ : ByteArray) ++ n) ++ (⟨#[46, 119, 97, 105, 116]⟩ : ByteArray))]
def secR (n : ByteArray) : List ByteArray := [(⟨#[108, 111, 97, 100, 32, 114, 49, 51, 44, 32, 114, 49, 49, 44, 32, 52]⟩ : ByteArray), (⟨#[97, 100, 100, 105, 32, 114, 49, 51, 44, 32, 114, 49, 51, 44, 32, 49]⟩ : ByteArray), (⟨#[115, 116, 111, 114, 101, 32, 114, 49, 51, 44, 32, 114, 49, 49, 44, 32, 52]⟩ : ByteArray), (n ++ (⟨#[46, 111, 117, 116, 58, 32, 102, 101, 110, 99, 101]⟩ : ByteArray))]
def secA (lk tr n body : ByteArray) : List ByteArray := secP lk tr n ++ [body]
def secZ (lk n body : ByteArray) : List ByteArray := secQ lk n ++ body :: secR n
def secB (lk tr n body : ByteArray) : ByteArray := joinB nlB (secA lk tr n body ++ endB :: secZ lk n body)
theorem noB_ap {a b : ByteArray} (ha : NoB 10 a) (hb : NoB 10 b) : NoB 10 (a ++ b) := by
  unfold NoB at *
  rw [app_data]
  intro e
  rcases List.mem_append.1 e with e | e
  · exact ha e
  · exact hb e
theorem sec_split (lk tr n body : ByteArray) : splB (secB lk tr n body) nlB = (secA lk tr n body).flatMap (fun y => splB y nlB) ++ endB :: (secZ lk n body).flatMap fun y => splB y nlB := by
  have h : splB (secB lk tr n body) nlB = (secA lk tr n body ++ endB :: secZ lk n body).flatMap fun y => splB y nlB := join_split _ _
  rw [h, List.flatMap_append, List.flatMap_cons, show splB endB nlB = [endB] from splB_one (by unfold NoB; decide)]
  rfl
theorem end_tok : (lnTok endB).1 = [⟨1, endB, 0, 0⟩] ∧ (lnTok endB).2.2 = 0 := by
  have h1 := (wordB_ok (show wordB endB = true by decide +kernel)).1
  exact lnTok_of (s := endB) (l := [wordTk endB]) (by decide) (fun t ht => by
    rw [List.mem_singleton] at ht
    subst ht
    exact h1) (by
    show (⟨#[]⟩ : ByteArray) ++ (endB ++ (⟨#[]⟩ : ByteArray)) = endB
    apply ba_ext
    simp only [app_data]
    show [] ++ (endB.data.toList ++ []) = endB.data.toList
    simp)
theorem ops_end : mapHas opsE endB = true ∧ mapI opsE endB = 18 := by decide +kernel
theorem end_step (num : Int) (lb : Lb) (td : List Told) : 1 ≤ (lnStep endB num lb td).td.length := by
  obtain ⟨e1, e2⟩ := end_tok
  by_cases hd : td.length = 1024
  · have := lnStep_ge endB num lb td
    omega
  have e3 : lbGo (lnTok endB).1 (td.length : Int) ((lnTok endB).1.length + 1) 0 lb = (0, lb, false) := by rw [e1]; rfl
  have e4 : liEnd (lnTok endB).1 num td (0, lb, false) = .inl (.inr ⟨18, 0, 0, 0, 0, 0, 0, ⟨#[]⟩⟩) := by
    rw [e1]
    show (Sum.inl (liRes [⟨1, endB, 0, 0⟩] num opsE (wantsOf (mapI opsE endB)) td.length 0) : LiR ⊕ Unit) = _
    unfold liRes
    show (Sum.inl (cond (mapHas opsE endB) (cond (decide (td.length = 1024)) (.inl (0, 7)) (wantGo [⟨1, endB, 0, 0⟩] num (wantsOf (mapI opsE endB)) true 0 0 (toldNil (mapI opsE endB)))) (.inl (0, 210))) : LiR ⊕ Unit) = _
    rw [ops_end.1, ops_end.2, decide_eq_false hd]
    rfl
  unfold lnStep
  rw [if_neg (by rw [e2]; exact fun h => h rfl), if_neg (by rw [e1]; exact fun h => by cases h), e3, e4]
  show 1 ≤ (td ++ [_]).length
  rw [List.length_append, List.length_singleton]
  omega
theorem nob_sum : ∀ l : List ByteArray, (∀ x ∈ l, NoB 10 x) → (l.map bdU).sum ≤ l.length
  | [], _ => Nat.le_refl _
  | x :: l, h => by
    have h1 := bdU_one (h x (List.mem_cons_self ..))
    have h2 := nob_sum l fun y hy => h y (List.mem_cons_of_mem _ hy)
    rw [List.map_cons, List.sum_cons, List.length_cons]
    omega
/-- A section that is made has an instruction, and at most 425. -/
theorem sec_len {lk tr n body : ByteArray} (hl : NoB 10 lk) (ht : NoB 10 tr) (hn : NoB 10 n) (hb : mayB body = true) (hs : body.size ≤ 1000) (h : (mkA (secB lk tr n body ++ nlB)).er = 0) : 1 ≤ (mkA (secB lk tr n body ++ nlB)).ws.length ∧ (mkA (secB lk tr n body ++ nlB)).ws.length ≤ 425 := by
  obtain ⟨a1, a2⟩ := mkA_ok h
  have hw := wdGoM_ne _ _ _ _ a2
  rw [List.length_nil, Nat.zero_add] at hw
  rw [hw]
  rw [split_nl] at a1 ⊢
  constructor
  · have p := mkGo_pre _ _ _ _ _ a1
    rw [mkGo_app _ _ _ _ _ p]
    refine Nat.le_trans ?_ (mkGo_ge _ _ _ _)
    rw [sec_split] at p ⊢
    have q := mkGo_pre _ _ _ _ _ p
    rw [mkGo_app _ _ _ _ _ q] at p ⊢
    generalize (mkGo ((secA lk tr n body).flatMap fun y => splB y nlB) 0 [] []) = M at p ⊢
    rw [mkGo] at p ⊢
    have e := end_step ((0 + ((secA lk tr n body).flatMap fun y => splB y nlB).length + 1 : Nat) : Int) M.1 M.2.1
    cases hq : lnStep endB ((0 + ((secA lk tr n body).flatMap fun y => splB y nlB).length + 1 : Nat) : Int) M.1 M.2.1 with
    | mk b1 t1 er =>
    rw [hq] at p e
    cases er with
    | some x => cases p
    | none => exact Nat.le_trans e (mkGo_ge _ _ _ _)
  · have nob : ∀ s ∈ splB (secB lk tr n body) nlB ++ [⟨#[]⟩], NoB 10 s := fun s hs => by
      rcases List.mem_append.1 hs with hs | hs
      · exact splB_no hs
      · rw [List.mem_singleton] at hs
        subst hs
        exact fun h => by cases h
    have u := mkGo_u _ 0 [] [] nob (by decide) a1
    rw [List.length_nil, Nat.zero_add] at u
    refine Nat.le_trans u ?_
    have e : splB (secB lk tr n body) nlB = (secA lk tr n body ++ endB :: secZ lk n body).flatMap fun y => splB y nlB := join_split _ _
    rw [List.map_append, List.sum_append, e, join_u, List.map_append, List.sum_append, List.map_cons, List.sum_cons]
    have hbd := bdU_le hb
    have z : ([⟨#[]⟩].map lnU).sum ≤ 1 := by
      show lnU ⟨#[]⟩ + 0 ≤ 1
      have := lnU_le ⟨#[]⟩
      omega
    have ze : bdU endB ≤ 1 := bdU_one (by unfold NoB; decide)
    have zP := nob_sum (secP lk tr n) (fun x hx => by
      unfold secP at hx
      simp only [List.mem_cons, List.not_mem_nil, or_false] at hx
      rcases hx with rfl | rfl | rfl | rfl | rfl | rfl | rfl <;> repeat' (first | assumption | (unfold NoB; decide) | refine noB_ap ?_ ?_))
    have zQ := nob_sum (secQ lk n) (fun x hx => by
      unfold secQ at hx
      simp only [List.mem_cons, List.not_mem_nil, or_false] at hx
      rcases hx with rfl | rfl | rfl | rfl | rfl | rfl | rfl | rfl | rfl | rfl | rfl | rfl <;> repeat' (first | assumption | (unfold NoB; decide) | refine noB_ap ?_ ?_))
    have zR := nob_sum (secR n) (fun x hx => by
      unfold secR at hx
      simp only [List.mem_cons, List.not_mem_nil, or_false] at hx
      rcases hx with rfl | rfl | rfl | rfl <;> repeat' (first | assumption | (unfold NoB; decide) | refine noB_ap ?_ ?_))
    have lP : (secP lk tr n).length = 7 := rfl
    have lQ : (secQ lk n).length = 12 := rfl
    have lR : (secR n).length = 4 := rfl
    unfold secA secZ
    rw [List.map_append, List.sum_append, List.map_append, List.sum_append, List.map_cons, List.sum_cons, List.map_cons, List.sum_cons, List.map_nil, List.sum_nil]
    omega
/-- Two sections. -/
theorem sec_two {lk tr n1 n2 body : ByteArray} (hl : NoB 10 lk) (ht : NoB 10 tr) (h1 : NoB 10 n1) (h2 : NoB 10 n2) (hb : mayB body = true) (hs : body.size ≤ 1000) (e1 : (mkA (secB lk tr n1 body ++ nlB)).er = 0) (e2 : (mkA (secB lk tr n2 body ++ nlB)).er = 0) :
    (mkA ((secB lk tr n1 body ++ nlB) ++ (secB lk tr n2 body ++ nlB))).er = 211 ∨ ((mkA ((secB lk tr n1 body ++ nlB) ++ (secB lk tr n2 body ++ nlB))).er = 0 ∧ (mkA ((secB lk tr n1 body ++ nlB) ++ (secB lk tr n2 body ++ nlB))).ws = (mkA (secB lk tr n1 body ++ nlB)).ws ++ (mkA (secB lk tr n2 body ++ nlB)).ws) := by
  have l1 := (sec_len hl ht h1 hb hs e1).2
  have l2 := (sec_len hl ht h2 hb hs e2).2
  exact cat_make e1 e2 (by omega)
theorem szBy (l : List UInt8) : (⟨l.toArray⟩ : ByteArray).size = l.length := by
  show l.toArray.size = _
  exact List.size_toArray
theorem sec_size (lk tr n body : ByteArray) : (secB lk tr n body).size = 14 * n.size + 2 * body.size + tr.size + 2 * lk.size + 398 := by
  unfold secB secA secZ secP secQ secR endB nlB
  simp only [List.cons_append, List.nil_append, joinB, size_app, szBy, List.length_cons, List.length_nil]
  omega
end Go.Proofs.YtgohnfkidkomhaaGreatDoor

noncomputable section
namespace Go.Proofs.YtgohnfkidkomhaaGreatDoor
open Go.Proofs.YtgohnfkidkomhaaGreatDoor.Ev Go.RowKit

/-! elide: residuals. -/
def mkFB (g0 g1 : ByteArray → Bool) (x y e : ByteArray → Int) (ws : ByteArray → List Value) (n : ByteArray → Nat) : Hd := fun vs rows => match vs, rows with
  | [.string s], [] => some (.br (g0 s) (.ret (.normal, [.tuple #[slN, .agg #[.int .i64 (x s), .int .i64 (y s)], .int .i64 (e s)]], [])) (.br (g1 s) (.ret (.normal, [.tuple #[slK0 1000 (n s), .agg #[.int .i64 0, .int .i64 0], .int .i64 0]], [wdRow (ws s)])) .fail))
  | _, _ => none
def afPl (p : Int → Bool) : AF := fun args _ => match args with
  | [.int .u32 x] => some (decide (0 ≤ x) && decide (x < 4294967296), .bool (p x))
  | _ => none
def afBl (p : ByteArray → Bool) : AF := fun args _ => match args with
  | [.string s] => some (decide (s.size ≤ 140737488355328), .bool (p s))
  | _ => none
def afBm (p : ByteArray → Bool) : AF := fun args _ => match args with
  | [.string s] => some (decide (s.size ≤ 900000), .bool (p s))
  | _ => none
def afMy (p : ByteArray → Int) : AF := fun args _ => match args with
  | [.string s] => some (decide (s.size ≤ 900000), .int .i64 (p s))
  | _ => none
def azB : ByteArray := ⟨#[97, 98, 99, 100, 101, 102, 103, 104, 105, 106, 107, 108, 109, 110, 111, 112, 113, 114, 115, 116, 117, 118, 119, 120, 121, 122]⟩
def afTrim (p : ByteArray → ByteArray) : AF := fun args _ => match args with
  | [.string s, .string cs] => some (decide (s.size ≤ 140737488355328) && cl (cs = azB), .string (p s))
  | _ => none
def HPl (T : TkF) : Hs := hsOf [(36, afTake T.v)] [] []
def HPc (g0 g1 : ByteArray → Bool) (x y e : ByteArray → Int) (ws : ByteArray → List Value) (n : ByteArray → Nat) (p : Int → Bool) : Hs := hsOf [(18, afPl p)] [(11, mkFB g0 g1 x y e ws n)] []
set_option maxRecDepth 100000 in
theorem r_pl (gl : Gl) (T : TkF) (x : Int) : callSK noSy Tryz.prog gl exB (HPl T) 100 40 40 (.fn 18) [.int .u32 x] LS.start flatR =
 cond (decide (0 ≤ x) && (decide (x < 4294967296))) (
 cond (T.e x != 0) (
 some (.bool false)) (
 cond (T.o x == 0) (
 some (.bool false)) (
 cond (T.o x == 17) (
 some (.bool false)) (
 cond (T.o x == 18) (
 some (.bool false)) (
 cond (T.o x == 19) (
 some (.bool false)) (
 cond (T.o x == 13) (
 some (.bool false)) (
 cond (T.o x == 14) (
 some (.bool false)) (
 cond (T.o x == 15) (
 some (.bool false)) (
 cond (T.o x == 16) (
 some (.bool false)) (
 cond (decide (T.a x < 10)) (
 some (.bool true)) (
 some (.bool false)))))))))))) (
 none) := by kernel_rfl
set_option maxRecDepth 100000 in
theorem r_pc (gl : Gl) (g0 g1 : ByteArray → Bool) (x y e : ByteArray → Int) (ws : ByteArray → List Value) (n : ByteArray → Nat) (p : Int → Bool) (s : ByteArray) : callSK (syL 1000 (ws s)) Tryz.prog gl exB (HPc g0 g1 x y e ws n p) 100 40 40 (.fn 17) [.string s] LS.start flatR =
 cond (g0 s) (
 cond (e s != 0) (
 some (.bool true)) (
 some (.bool false))) (
 cond (g1 s) (
 cond (List.all (ws s) (af 8) && true) (
 cond (decide ((↑(n s) : Int) > 1)) (
 some (.bool true)) (
 cond ((↑(n s) : Int) == 1) (
 cond (decide (0 < (↑(n s) : Int)) && ((n s).ble (n s))) (
 cond (sameL (ws s) (ws s)) (
 cond ((symOf (ws s)).okI .u32 0) (
 cond (decide (0 ≤ (symOf (ws s)).int .u32 0) && (decide ((symOf (ws s)).int .u32 0 < 4294967296))) (
 cond (p ((symOf (ws s)).int .u32 0)) (
 some (.bool false)) (
 some (.bool true))) (
 none)) (
 none)) (
 none)) (
 none)) (
 some (.bool false)))) (
 none)) (
 none)) := by kernel_rfl
set_option maxRecDepth 100000 in
theorem r_nm (gl : Gl) (tr : ByteArray → ByteArray) (s : ByteArray) : callSK noSy Tryz.prog gl exB (hsOf [(42, afTrim tr)] [] []) 100 40 40 (.fn 21) [.string s] LS.start flatR =
 cond (s.toList == (⟨#[]⟩ : ByteArray).toList) (
 some (.bool false)) (
 cond (decide ((↑s.size : Int) ≤ 8)) (
 cond (decide (s.size ≤ 140737488355328) && (cl ({ data := #[97, 98, 99, 100, 101, 102, 103, 104, 105, 106, 107, 108, 109, 110, 111, 112, 113, 114, 115, 116, 117, 118, 119, 120, 121, 122] } = azB))) (
 cond ((tr s).toList == (⟨#[]⟩ : ByteArray).toList) (
 some (.bool true)) (
 some (.bool false))) (
 none)) (
 some (.bool false))) := by kernel_rfl
def fvM : Value := .func (.func 17) #[] #[]
def ixLive : List Nat := [8, 0, 1, 7, 4]
def ixSt (i : Int) (cs : List Value) (n : Nat) : LSt := ([.int .i64 i, slK0 1000 n, fvM, .int .i64 (n : Int), .int .i64 0], [stRow cs])
def ixO (x : Ex) (r : Int) (cs : List Value) : Out := (x, [.int .i64 r], [stRow cs])
set_option maxRecDepth 100000 in
theorem r_ix (gl : Gl) (b : ByteArray → Bool) (i : Int) (cs : List Value) (n : Nat) : roundK (syL 1000 cs) Tryz.prog gl exB (hsOf [(17, afBm b)] [] []) 100 40 40 35 0 ixLive (ixSt i cs n) (rndK Tryz.prog 1001 ixLive [4]) =
 cond (decide (i < (↑n : Int))) (
 cond (decide (0 ≤ i) && (decide (i < (↑n : Int))) && (n.ble n)) (
 cond (sameL cs cs) (
 cond ((symOf cs).okS (0 + i.toNat * 1)) (
 cond (decide (((symOf cs).str (0 + i.toNat * 1)).size ≤ 900000)) (
 cond (b ((symOf cs).str (0 + i.toNat * 1))) (
 cond (List.all cs (af 8) && true) (
 some (.inr (.ret, ([(.int .i64 (i))], [some (.row ⟨cs, 9, (0, 0), 0, false, false⟩)])))) (
 none)) (
 cond (List.all cs (af 8) && true) (
 some (.inl ([(.int .i64 (IntKind.i64.wrap (i + 1))), (.slice (some ⟨1000, 0, none⟩) (n) (n)), (.func (Fn.func 17) #[] #[]), (.int .i64 ((↑n : Int))), (.int .i64 0)], [some (.row ⟨cs, 9, (0, 0), 0, false, false⟩)]))) (
 none))) (
 none)) (
 none)) (
 none)) (
 none)) (
 cond (List.all cs (af 8) && true) (
 some (.inr (.exit 0, ([(.int .i64 0)], [some (.row ⟨cs, 9, (0, 0), 0, false, false⟩)])))) (
 none)) := by kernel_rfl
def HMay (g g2 : GS) (x : Ex) (r : Int) (cs : List Value) (n : Nat) : Hs := hsOf [] [(27, gH g (.normal, [slK0 1000 n], [stRow cs]))] [(35, [(0, ⟨ixLive, [4], gH g2 (ixO x r cs)⟩)])]
set_option maxRecDepth 100000 in
theorem r_may1 (gl : Gl) (g g2 : GS) (r : Int) (cs : List Value) (n : Nat) (body : ByteArray) : callSK noSy Tryz.prog gl exB (HMay g g2 (.exit 0) r cs n) 100 40 40 (.fn 7) [.string body] LS.start flatR =
 cond (g [.string body, .string (⟨#[10]⟩ : ByteArray)] []) (
 cond (List.all cs (af 8) && true) (
 cond (List.all cs (af 8) && true) (
 cond (g2 [.int .i64 0, .slice (some ⟨1000, 0, none⟩) n n, .func (Fn.func 17) #[] #[], goInt (↑n : Int), .int .i64 0] [some (.row ⟨cs, 9, (0, 0), 0, false, false⟩)]) (
 cond (List.all cs (af 8) && true) (
 some (.int .i64 0)) (
 none)) (
 none)) (
 none)) (
 none)) (
 none) := by kernel_rfl
set_option maxRecDepth 100000 in
theorem r_may2 (gl : Gl) (g g2 : GS) (r : Int) (cs : List Value) (n : Nat) (body : ByteArray) : callSK noSy Tryz.prog gl exB (HMay g g2 .ret r cs n) 100 40 40 (.fn 7) [.string body] LS.start flatR =
 cond (g [.string body, .string (⟨#[10]⟩ : ByteArray)] []) (
 cond (List.all cs (af 8) && true) (
 cond (List.all cs (af 8) && true) (
 cond (g2 [.int .i64 0, .slice (some ⟨1000, 0, none⟩) n n, .func (Fn.func 17) #[] #[], goInt (↑n : Int), .int .i64 0] [some (.row ⟨cs, 9, (0, 0), 0, false, false⟩)]) (
 cond (List.all cs (af 8) && true) (
 cond (decide (r ≥ 0)) (
 some (.int .i64 2)) (
 some (.int .i64 0))) (
 none)) (
 none)) (
 none)) (
 none)) (
 none) := by kernel_rfl
end Go.Proofs.YtgohnfkidkomhaaGreatDoor

noncomputable section
namespace Go.Proofs.YtgohnfkidkomhaaGreatDoor
open Go.Proofs.YtgohnfkidkomhaaGreatDoor.Ev Go.RowKit Go.Shelf

/-! elide: what its functions answer. -/
theorem fn_ofT {gl : Gl} (hgl : Low gl) {f : FuncId} {g : AF} (hk : ∀ args σ v, g args σ = some (true, v) → args.all (af 8) = true ∧ ∃ (sy : Sy) (H : Hs) (L G d : Nat), SyOK gl sy ∧ H.OK Tryz.prog gl ∧ callSK sy Tryz.prog gl exB H L G d (.fn f) args LS.start flatR = some v) : FnOK Tryz.prog gl f g := FnOK.flat hgl tglob fun args σ v h => by
  obtain ⟨h1, sy, H, L, G, d, hsy, hH, h2⟩ := hk args σ v h
  obtain ⟨⟨u, σ1⟩, _, h4⟩ := callSK_ok hsy d (.fn f) args LS.start _ _ h2
  obtain ⟨_, hf⟩ := flat_end (w' := u) h4
  exact ⟨h1, hf, fun w hw => flatS hsy goodB hgl tglob hH h1 h2 hw⟩
theorem HPl_ok {gl : Gl} (hF : GlF gl) (hgl : Low gl) : (HPl TW).OK Tryz.prog gl := one_ok fun p h => by
  simp only [List.mem_cons, List.not_mem_nil, or_false] at h
  subst h
  show FnOK _ _ _ (afTake TW.v); rw [TW_af]; exact fn_ctake hF hgl
theorem fn_pl {gl : Gl} (hF : GlF gl) (hgl : Low gl) : FnOK Tryz.prog gl 18 (afPl plB) := fn_ofT hgl fun args σ v h => by
  unfold afPl at h
  split at h
  · rename_i x
    simp only [Option.some.injEq, Prod.mk.injEq] at h
    obtain ⟨h1, rfl⟩ := h
    refine ⟨rfl, noSy, HPl TW, 100, 40, 40, noSy_ok, HPl_ok hF hgl, (r_pl gl TW x).trans (condI h1 ?_)⟩
    rw [show TW.e x = cond (okW x) 0 6 from rfl, show TW.o x = cond (okW x) (oN x) 0 from rfl, show TW.a x = cond (okW x) (fA x) 0 from rfl]
    unfold plB opBad
    cases okW x with
    | false => rfl
    | true =>
      rw [cond_true, cond_true, cond_true, Bool.true_and]
      generalize oN x = o
      generalize fA x = a
      simp only [beqD, bneD]
      by_cases h0 : o = 0
      · subst h0; rfl
      by_cases h1 : 13 ≤ o ∧ o ≤ 19
      · have e : (!(decide (o = 0) || (decide (13 ≤ o) && decide (o ≤ 19))) && decide (a < 10)) = false := by
          rw [decide_eq_true h1.1, decide_eq_true h1.2, Bool.and_self, Bool.or_true]; rfl
        rw [e]
        rcases (show o = 13 ∨ o = 14 ∨ o = 15 ∨ o = 16 ∨ o = 17 ∨ o = 18 ∨ o = 19 by omega) with rfl | rfl | rfl | rfl | rfl | rfl | rfl <;> rfl
      · have e : (!(decide (o = 0) || (decide (13 ≤ o) && decide (o ≤ 19))) && decide (a < 10)) = decide (a < 10) := by
          rw [decide_eq_false h0, show (decide (13 ≤ o) && decide (o ≤ 19)) = false by
            rw [Bool.and_eq_false_iff, decide_eq_false_iff_not, decide_eq_false_iff_not]; omega]
          rfl
        rw [e, decide_eq_false h0, decide_eq_false (show ¬ o = 17 by omega), decide_eq_false (show ¬ o = 18 by omega), decide_eq_false (show ¬ o = 19 by omega), decide_eq_false (show ¬ o = 13 by omega), decide_eq_false (show ¬ o = 14 by omega), decide_eq_false (show ¬ o = 15 by omega), decide_eq_false (show ¬ o = 16 by omega)]
        cases decide (a < 10) <;> rfl
  · cases h
theorem mkFB_ok {gl : Gl} {m : Int} {u0 o0 u1 o1 : Nat} (hS : ∀ g k v, glS u0 o0 u1 o1 g k = some v → gl g k = some v) (hF : GlF gl) (hgl : Low gl) (hm : gl 1 0 = some (.int .i64 m)) : SubOK Tryz.prog gl 11 (mkFB gNil gNot mkX mkY mkE mkVs mkLn) := by
  intro vs rows t e v rows' h1 h2
  unfold mkFB at h1
  split at h1
  · rename_i s
    cases h1
    cases hg : gNil s with
    | true =>
      have c := hg
      unfold gNil at c
      simp only [Bool.and_eq_true, decide_eq_true_eq] at c
      have h3 : cond (gNil s) (DT.run _) (DT.run _) = some _ := h2
      rw [hg] at h3
      exact makeN_at hS hF hgl hm c.1 (of_cl c.2) _ _ _ e v rows' rfl (show cond (atS [.string s] [] [.string s] []) _ _ = _ by rw [atS_self, cond_true]; exact h3)
    | false =>
      have h3 : cond (gNil s) (DT.run _) (DT.run _) = some _ := h2
      rw [hg] at h3
      obtain ⟨c, h3⟩ := brT h3
      unfold gNot at c
      simp only [Bool.and_eq_true, decide_eq_true_eq] at c
      exact makeK_at hS hF hgl hm c.1 (of_cl c.2) _ _ _ e v rows' rfl (show cond (atS [.string s] [] [.string s] []) _ _ = _ by rw [atS_self, cond_true]; exact h3)
  · cases h1
structure ElG (gl : Gl) (m : Int) (u0 o0 u1 o1 : Nat) : Prop where
  S : ∀ g k v, glS u0 o0 u1 o1 g k = some v → gl g k = some v
  F : GlF gl
  low : Low gl
  m : gl 1 0 = some (.int .i64 m)
  p : GlP gl
theorem fn_pc {gl : Gl} {m : Int} {u0 o0 u1 o1 : Nat} (G : ElG gl m u0 o0 u1 o1) : FnOK Tryz.prog gl 17 (afBm fun s => !pcOK s) := fn_ofT G.low fun args σ v h => by
  unfold afBm at h
  split at h
  · rename_i s
    simp only [Option.some.injEq, Prod.mk.injEq, decide_eq_true_eq] at h
    obtain ⟨h1, rfl⟩ := h
    refine ⟨rfl, syL 1000 (mkVs s), HPc gNil gNot mkX mkY mkE mkVs mkLn plB, 100, 40, 40, syL_ok (by decide) _, hsOf_ok (fun p hp => ?_) (fun p hp => ?_) (fun p hp => by cases hp), (r_pc gl gNil gNot mkX mkY mkE mkVs mkLn plB s).trans ?_⟩
    · simp only [List.mem_cons, List.not_mem_nil, or_false] at hp
      subst hp
      exact fn_pl G.F G.low
    · simp only [List.mem_cons, List.not_mem_nil, or_false] at hp
      subst hp
      exact mkFB_ok G.S G.F G.low G.m
    · unfold pcOK
      by_cases hn : (mkA s).ws = []
      · refine condI (show gNil s = true by unfold gNil; rw [decide_eq_true h1, cl_t hn]; rfl) ?_
        rw [hn, bneI]
        show cond (!decide ((mkA s).er = 0)) _ _ = some (Value.bool !(decide ((mkA s).er = 0) && true))
        cases decide ((mkA s).er = 0) <;> rfl
      · obtain ⟨e0, hk⟩ : (mkA s).er = 0 ∧ ∀ w ∈ (mkA s).ws, okW w = true ∧ 0 ≤ w ∧ w < 4294967296 := by
          rcases mkA_cases s with ⟨e, _⟩ | h
          · exact absurd e hn
          · exact ⟨h.1, h.2.2.2.2⟩
        refine condE (show gNil s = false by unfold gNil; rw [show cl ((mkA s).ws = []) = false from @decide_eq_false _ (Classical.propDecidable _) hn, Bool.and_false]) (condI (show gNot s = true by unfold gNot; rw [decide_eq_true h1, cl_t hn]; rfl) (condI (andI (show (mkVs s).all (af 8) = true from wC_all _) rfl) ?_))
        unfold mkVs mkLn
        rw [decide_eq_true e0, Bool.true_and]
        cases hw : (mkA s).ws with
        | nil => exact absurd hw hn
        | cons w l =>
          cases l with
          | nil =>
            obtain ⟨_, w0, w1⟩ := hk w (by rw [hw]; exact List.mem_cons_self ..)
            refine condE rfl (condI rfl (condI rfl (condI (sameL_self _) (condI rfl ?_))))
            show cond (decide (0 ≤ w) && decide (w < 4294967296)) (cond (plB w) _ _) _ = some (Value.bool !(plB w))
            rw [decide_eq_true w0, decide_eq_true w1]
            cases plB w <;> rfl
          | cons w2 l =>
            refine condI (decide_eq_true ?_) rfl
            simp only [List.length_cons]
            omega
  · cases h
/-! The lines of a body. -/
def ixR (b : ByteArray → Bool) (cs : List Value) : List ByteArray → Nat → Out
  | [], _ => ixO (.exit 0) 0 cs
  | s :: ss, i => cond (b s) (ixO .ret (i : Int) cs) (ixR b cs ss (i + 1))
theorem ixR_all {b : ByteArray → Bool} {cs : List Value} : ∀ (ss : List ByteArray) (i : Nat), (∀ s ∈ ss, b s = false) → ixR b cs ss i = ixO (.exit 0) 0 cs
  | [], _, _ => rfl
  | s :: ss, i, h => by
    rw [ixR, h s (List.mem_cons_self ..)]
    exact ixR_all ss (i + 1) fun x hx => h x (List.mem_cons_of_mem _ hx)
theorem ixR_one {b : ByteArray → Bool} {cs : List Value} : ∀ (ss : List ByteArray) (i : Nat), (∃ s ∈ ss, b s = true) → ∃ r : Nat, ixR b cs ss i = ixO .ret (r : Int) cs
  | [], _, h => by obtain ⟨s, hs, _⟩ := h; cases hs
  | s :: ss, i, h => by
    rw [ixR]
    cases hb : b s with
    | true => exact ⟨i, rfl⟩
    | false =>
      rw [cond_false]
      obtain ⟨x, hx, h⟩ := h
      rcases List.mem_cons.1 hx with rfl | hx
      · rw [hb] at h; cases h
      · exact ixR_one ss (i + 1) ⟨x, hx, h⟩
theorem ix_loop {gl : Gl} {m : Int} {u0 o0 u1 o1 : Nat} (G : ElG gl m u0 o0 u1 o1) {ss : List ByteArray} (hl : ss.length ≤ 1000000) (hs : ∀ s ∈ ss, s.size ≤ 900000) {o1 : Out} (ho1 : ixR (fun s => !pcOK s) (stC ss) ss 0 = o1) :
    LpOK Tryz.prog gl 35 0 ⟨ixLive, [4], gH (atS (ixSt 0 (stC ss) ss.length).1 (ixSt 0 (stC ss) ss.length).2) o1⟩ :=
  loop_here goodB G.low tglob (by show 1001 ≤ most; decide) ⟨{i : Nat // i ≤ ss.length}, fun i => ixSt ((i.1 : Nat) : Int) (stC ss) ss.length, fun i => some (ixR (fun s => !pcOK s) (stC ss) (ss.drop i.1) i.1), fun i => ss.length - i.1, ⟨0, Nat.zero_le _⟩, rfl, (by show some (ixR _ _ (ss.drop 0) 0) = some o1; rw [List.drop_zero, ho1]), by
    rintro ⟨i, hi⟩ o ho
    simp only at hi ho
    cases ho
    have hH : (hsOf [(17, afBm fun s => !pcOK s)] [] []).OK Tryz.prog gl := one_ok fun p hp => by
      simp only [List.mem_cons, List.not_mem_nil, or_false] at hp
      subst hp
      exact fn_pc G
    by_cases h : i = ss.length
    · subst h
      refine ⟨syL 1000 (stC ss), _, 100, 40, 40, .inr (ixO (.exit 0) 0 (stC ss)), syL_ok (by decide) _, hH, ?_, ?_⟩
      · exact (r_ix gl _ (ss.length : Int) (stC ss) ss.length).trans (condE (decide_eq_false (by omega)) (condI (andI (stC_all ss) rfl) rfl))
      · show ixO (.exit 0) 0 (stC ss) = ixR _ _ (ss.drop ss.length) _
        rw [List.drop_length]
        rfl
    · have hi2 : i < ss.length := by omega
      obtain ⟨s1, s2⟩ := st_get hi2
      have e3 : stA ss i = ss[i] := by unfold stA; rw [List.getElem?_eq_getElem hi2]; rfl
      have e4 : ss.drop i = ss[i] :: ss.drop (i + 1) := List.drop_eq_getElem_cons hi2
      have w : IntKind.i64.wrap ((i : Int) + 1) = ((i + 1 : Nat) : Int) := wrapS (by omega)
      refine ⟨syL 1000 (stC ss), _, 100, 40, 40, cond (!pcOK ss[i]) (.inr (ixO .ret (i : Int) (stC ss))) (.inl (ixSt ((i + 1 : Nat) : Int) (stC ss) ss.length)), syL_ok (by decide) _, hH, (r_ix gl _ (i : Int) (stC ss) ss.length).trans ?_, ?_⟩
      · rw [Int.toNat_natCast, s2, e3, w]
        refine condI (decide_eq_true (by omega)) (condI (by rw [d0N, decide_eq_true (show (i : Int) < (ss.length : Int) by omega), nble (Nat.le_refl _)]; rfl) (condI (sameL_self _) (condI s1 (condI (decide_eq_true (hs _ (List.getElem_mem hi2))) ?_))))
        rw [show (ss.length : Int) = ((ss.length : Nat) : Int) from rfl]
        cases pcOK ss[i] with
        | true => exact condE rfl (condI (andI (stC_all ss) rfl) rfl)
        | false => exact condI rfl (condI (andI (stC_all ss) rfl) rfl)
      · rw [e4, ixR]
        cases pcOK ss[i] with
        | true => exact ⟨⟨i + 1, by omega⟩, rfl, (by show ss.length - (i + 1) < ss.length - i; omega), rfl⟩
        | false => rfl⟩
theorem mem_sum : ∀ (l : List ByteArray) (s : ByteArray), s ∈ l → s.size + 1 ≤ (l.map fun p => p.size + 1).sum
  | [], _, h => by cases h
  | x :: l, s, h => by
    rw [List.map_cons, List.sum_cons]
    rcases List.mem_cons.1 h with rfl | h
    · exact Nat.le_add_right ..
    · have := mem_sum l s h
      omega
theorem len_sum : ∀ l : List ByteArray, l.length ≤ (l.map fun p => p.size + 1).sum
  | [] => Nat.le_refl _
  | x :: l => by
    have := len_sum l
    rw [List.map_cons, List.sum_cons, List.length_cons]
    omega
def myI (body : ByteArray) : Int := cond (mayB body) 0 2
theorem fn_may {gl : Gl} {m : Int} {u0 o0 u1 o1 : Nat} (G : ElG gl m u0 o0 u1 o1) : FnOK Tryz.prog gl 7 (afMy myI) := fn_ofT G.low fun args σ v h => by
  unfold afMy at h
  split at h
  · rename_i s
    simp only [Option.some.injEq, Prod.mk.injEq, decide_eq_true_eq] at h
    obtain ⟨h1, rfl⟩ := h
    refine ⟨rfl, noSy, ?_⟩
    have hsum := splB_sum s
    have hsz : ∀ x ∈ splB s nlB, x.size ≤ 900000 := fun x hx => by have := mem_sum _ x hx; omega
    have hlen : (splB s nlB).length ≤ 1000000 := by have := len_sum (splB s nlB); omega
    have hsp := split_at G.m (s := s) (sep := nlB) (by omega) (by decide)
    have al := andI (stC_all (splB s nlB)) (show true = true from rfl)
    have mk : ∀ (x : Ex) (r : Int), ixR (fun s => !pcOK s) (stC (splB s nlB)) (splB s nlB) 0 = ixO x r (stC (splB s nlB)) → (HMay (atS [.string s, .string nlB] []) (atS (ixSt 0 (stC (splB s nlB)) (splB s nlB).length).1 (ixSt 0 (stC (splB s nlB)) (splB s nlB).length).2) x r (stC (splB s nlB)) (splB s nlB).length).OK Tryz.prog gl := fun x r e => hsOf_ok (fun p hp => by cases hp) (fun p hp => by
        simp only [List.mem_cons, List.not_mem_nil, or_false] at hp
        subst hp
        exact hsp) (fun p hp q hq => by
        simp only [List.mem_cons, List.not_mem_nil, or_false] at hp
        subst hp
        simp only [List.mem_cons, List.not_mem_nil, or_false] at hq
        subst hq
        exact ix_loop G hlen hsz e)
    cases hm : mayB s with
    | true =>
      have e := ixR_all (b := fun s => !pcOK s) (cs := stC (splB s nlB)) (splB s nlB) 0 fun x hx => by
        have := List.all_eq_true.1 hm x hx
        rw [this]; rfl
      refine ⟨_, 100, 40, 40, noSy_ok, mk _ _ e, (r_may1 gl _ _ 0 _ _ s).trans ?_⟩
      unfold myI
      rw [hm]
      exact condI (atS_self _ _) (condI al (condI al (condI (atS_self _ _) (condI al rfl))))
    | false =>
      have hex : ∃ x ∈ splB s nlB, (!pcOK x) = true := by
        unfold mayB at hm
        rw [List.all_eq_false] at hm
        obtain ⟨x, hx, h⟩ := hm
        exact ⟨x, hx, by simpa using h⟩
      obtain ⟨r, e⟩ := ixR_one (b := fun s => !pcOK s) (cs := stC (splB s nlB)) (splB s nlB) 0 hex
      refine ⟨_, 100, 40, 40, noSy_ok, mk _ _ e, (r_may2 gl _ _ (r : Int) _ _ s).trans ?_⟩
      unfold myI
      rw [hm]
      exact condI (atS_self _ _) (condI al (condI al (condI (atS_self _ _) (condI al (condI (decide_eq_true (by omega)) rfl)))))
  · cases h
/-! A section's name. -/
def trB (s : ByteArray) : ByteArray := ⟨(Lib.trimS s.data.toList azB.data.toList).toArray⟩
def nmOK (s : ByteArray) : Bool := cond (s.toList == (⟨#[]⟩ : ByteArray).toList) false (cond (decide ((s.size : Int) ≤ 8)) ((trB s).toList == (⟨#[]⟩ : ByteArray).toList) false)
theorem fn_trim {gl : Gl} (hgl : Low gl) : FnOK Tryz.prog gl 42 (afTrim trB) := FnOK.flat hgl tglob fun args σ v h => by
  unfold afTrim at h
  split at h
  · rename_i s cs
    simp only [Option.some.injEq, Prod.mk.injEq, Bool.and_eq_true, decide_eq_true_eq] at h
    obtain ⟨⟨h0, h1⟩, rfl⟩ := h
    have e := of_cl h1
    subst e
    exact ⟨rfl, rfl, fun w _ => Any.strings_Trim_laid Tryz.lays160 (by kernel_rfl) s azB w (by omega) (by decide) (ascii_of_all (by decide))⟩
  · cases h
theorem fn_nm {gl : Gl} (hgl : Low gl) : FnOK Tryz.prog gl 21 (afBl nmOK) := fn_ofT hgl fun args σ v h => by
  unfold afBl at h
  split at h
  · rename_i s
    simp only [Option.some.injEq, Prod.mk.injEq, decide_eq_true_eq] at h
    obtain ⟨h1, rfl⟩ := h
    refine ⟨rfl, noSy, _, 100, 40, 40, noSy_ok, one_ok fun p hp => ?_, (r_nm gl trB s).trans ?_⟩
    · simp only [List.mem_cons, List.not_mem_nil, or_false] at hp
      subst hp
      exact fn_trim hgl
    · unfold nmOK
      cases s.toList == (⟨#[]⟩ : ByteArray).toList with
      | true => rfl
      | false =>
        cases decide ((s.size : Int) ≤ 8) with
        | false => rfl
        | true =>
          refine condE rfl (condI rfl (condI (by rw [decide_eq_true h1]; exact cl_t rfl) ?_))
          cases (trB s).toList == (⟨#[]⟩ : ByteArray).toList <;> rfl
  · cases h
theorem dw_nil {α : Type} {p : α → Bool} : ∀ l : List α, l.dropWhile p = [] → ∀ x ∈ l, p x = true
  | [], _, x, hx => by cases hx
  | y :: l, h, x, hx => by
    rw [List.dropWhile_cons] at h
    split at h
    · rename_i hy
      rcases List.mem_cons.1 hx with rfl | hx
      · exact hy
      · exact dw_nil l h x hx
    · cases h
theorem trim_nil {l cs : List UInt8} (h : Lib.trimS l cs = []) : ∀ x ∈ l, x ∈ cs := by
  unfold Lib.trimS Lib.trimLeftS Lib.trimRightS at h
  have h := dw_nil _ h
  intro x hx
  have h2 : x ∈ l.reverse.takeWhile (cs.contains ·) ++ l.reverse.dropWhile (cs.contains ·) := by rw [List.takeWhile_append_dropWhile]; simpa using hx
  rcases List.mem_append.1 h2 with h2 | h2
  · have := List.all_eq_true.1 (List.all_takeWhile (p := (cs.contains ·)) (l := l.reverse)) x h2
    simpa using this
  · have := h x (List.mem_reverse.2 h2)
    simpa using this
theorem nm_no {s : ByteArray} (h : nmOK s = true) : NoB 10 s ∧ s.size ≤ 8 := by
  unfold nmOK at h
  cases h1 : s.toList == (⟨#[]⟩ : ByteArray).toList with
  | true => rw [h1] at h; cases h
  | false =>
    rw [h1, cond_false] at h
    cases h2 : decide ((s.size : Int) ≤ 8) with
    | false => rw [h2] at h; cases h
    | true =>
      rw [h2, cond_true] at h
      have h2 := of_decide_eq_true h2
      refine ⟨fun e => ?_, by omega⟩
      rw [beqS] at h
      have h3 : trB s = ⟨#[]⟩ := of_decide_eq_true h
      have h4 : Lib.trimS s.data.toList azB.data.toList = [] := by
        have := congrArg (fun b => b.data.toList) h3
        simpa [trB] using this
      have := trim_nil h4 10 e
      revert this
      decide
end Go.Proofs.YtgohnfkidkomhaaGreatDoor

noncomputable section
namespace Go.Proofs.YtgohnfkidkomhaaGreatDoor
open Go.Proofs.YtgohnfkidkomhaaGreatDoor.Ev Go.RowKit

/-! elide.Section: residual. -/
def HSec (nm : ByteArray → Bool) (my : ByteArray → Int) (it : Int → ByteArray) : Hs := hsOf [(21, afBl nm), (7, afMy my), (22, afItoa it), (44, afJoin)] [] []
set_option maxRecDepth 100000 in
theorem r_sec (gl : Gl) (nm : ByteArray → Bool) (my : ByteArray → Int) (it : Int → ByteArray) (lk tr : Int) (n body : ByteArray) : callSK noSy Tryz.prog gl exB (HSec nm my it) 100 40 40 (.fn 9) [.int .u32 lk, .int .i64 tr, .string n, .string body] LS.start flatR =
 cond (lk.tmod 4 != 0) (
 some (.tuple #[(.string ((⟨#[]⟩ : ByteArray))), (.int .i64 5)])) (
 cond (lk.tmod 64 == 60) (
 some (.tuple #[(.string ((⟨#[]⟩ : ByteArray))), (.int .i64 5)])) (
 cond (decide (lk > 2097151)) (
 some (.tuple #[(.string ((⟨#[]⟩ : ByteArray))), (.int .i64 5)])) (
 cond (decide (tr < 0)) (
 some (.tuple #[(.string ((⟨#[]⟩ : ByteArray))), (.int .i64 5)])) (
 cond (decide (tr > 8)) (
 some (.tuple #[(.string ((⟨#[]⟩ : ByteArray))), (.int .i64 5)])) (
 cond (decide (n.size ≤ 140737488355328)) (
 cond (nm n) (
 cond (decide (body.size ≤ 900000)) (
 cond (my body != 0) (
 some (.tuple #[(.string ((⟨#[]⟩ : ByteArray))), (.int .i64 2)])) (
 cond (decide (-9223372036854775808 ≤ IntKind.i64.wrap lk) && (decide (IntKind.i64.wrap lk ≤ 9223372036854775807))) (
 cond ((9 + (it (IntKind.i64.wrap lk)).size).ble 9223372036854775807) (
 cond (decide (-9223372036854775808 ≤ tr) && (decide (tr ≤ 9223372036854775807))) (
 cond ((9 + (it tr).size).ble 9223372036854775807) (
 cond ((n.size + 19).ble 9223372036854775807) (
 cond (((n ++ (⟨#[46, 116, 114, 121, 58, 32, 98, 101, 113, 32, 114, 49, 48, 44, 32, 114, 48, 44, 32]⟩ : ByteArray)).size + n.size).ble 9223372036854775807) (
 cond (((n ++ (⟨#[46, 116, 114, 121, 58, 32, 98, 101, 113, 32, 114, 49, 48, 44, 32, 114, 48, 44, 32]⟩ : ByteArray) ++ n).size + 5).ble 9223372036854775807) (
 cond ((6 + n.size).ble 9223372036854775807) (
 cond ((((⟨#[98, 101, 103, 105, 110, 32]⟩ : ByteArray) ++ n).size + 5).ble 9223372036854775807) (
 cond ((14 + n.size).ble 9223372036854775807) (
 cond ((((⟨#[98, 110, 101, 32, 114, 49, 50, 44, 32, 114, 49, 51, 44, 32]⟩ : ByteArray) ++ n).size + 5).ble 9223372036854775807) (
 cond ((5 + n.size).ble 9223372036854775807) (
 cond ((((⟨#[106, 117, 109, 112, 32]⟩ : ByteArray) ++ n).size + 4).ble 9223372036854775807) (
 cond ((n.size + 14).ble 9223372036854775807) (
 cond ((n.size + 24).ble 9223372036854775807) (
 cond ((5 + n.size).ble 9223372036854775807) (
 cond ((((⟨#[106, 117, 109, 112, 32]⟩ : ByteArray) ++ n).size + 4).ble 9223372036854775807) (
 cond ((n.size + 7).ble 9223372036854775807) (
 cond (((n ++ (⟨#[46, 114, 101, 97, 108, 58, 32]⟩ : ByteArray)).size + ((⟨#[115, 101, 116, 32, 114, 49, 49, 44, 32]⟩ : ByteArray) ++ it (IntKind.i64.wrap lk)).size).ble 9223372036854775807) (
 cond ((n.size + 23).ble 9223372036854775807) (
 cond ((14 + n.size).ble 9223372036854775807) (
 cond ((((⟨#[98, 110, 101, 32, 114, 49, 52, 44, 32, 114, 49, 50, 44, 32]⟩ : ByteArray) ++ n).size + 5).ble 9223372036854775807) (
 cond ((n.size + 23).ble 9223372036854775807) (
 cond ((14 + n.size).ble 9223372036854775807) (
 cond ((((⟨#[98, 110, 101, 32, 114, 49, 51, 44, 32, 114, 49, 50, 44, 32]⟩ : ByteArray) ++ n).size + 5).ble 9223372036854775807) (
 cond ((n.size + 11).ble 9223372036854775807) (
 cond ((secB (it (IntKind.i64.wrap lk)) (it tr) n body).size.ble 140737488355328) (
 cond (((secB (it (IntKind.i64.wrap lk)) (it tr) n body).size + 1).ble 9223372036854775807) (
 some (.tuple #[(.string (secB (it (IntKind.i64.wrap lk)) (it tr) n body ++ (⟨#[10]⟩ : ByteArray))), (.int .i64 0)])) (
 none)) (
 none)) (
 none)) (
 none)) (
 none)) (
 none)) (
 none)) (
 none)) (
 none)) (
 none)) (
 none)) (
 none)) (
 none)) (
 none)) (
 none)) (
 none)) (
 none)) (
 none)) (
 none)) (
 none)) (
 none)) (
 none)) (
 none)) (
 none)) (
 none)) (
 none)) (
 none)) (
 none))) (
 none)) (
 some (.tuple #[(.string ((⟨#[]⟩ : ByteArray))), (.int .i64 2)]))) (
 none)))))) := by kernel_rfl
end Go.Proofs.YtgohnfkidkomhaaGreatDoor

noncomputable section
namespace Go.Proofs.YtgohnfkidkomhaaGreatDoor
open Go.Proofs.YtgohnfkidkomhaaGreatDoor.Ev Go.RowKit

/-! elide.Section: what it answers. -/
def seI (lk tr : Int) (n body : ByteArray) : Int := cond (lk.tmod 4 != 0) 5 (cond (lk.tmod 64 == 60) 5 (cond (decide (lk > 2097151)) 5 (cond (decide (tr < 0)) 5 (cond (decide (tr > 8)) 5 (cond (nmOK n) (cond (mayB body) 0 2) 2)))))
def seS (lk tr : Int) (n body : ByteArray) : ByteArray := cond (decide (seI lk tr n body = 0)) (secB (itoaB lk) (itoaB tr) n body ++ nlB) ⟨#[]⟩
def seV (lk tr : Int) (n body : ByteArray) : Value := .tuple #[.string (seS lk tr n body), .int .i64 (seI lk tr n body)]
def afSec (p : Int → Int → ByteArray → ByteArray → Value) : AF := fun args _ => match args with
  | [.int .u32 lk, .int .i64 tr, .string n, .string body] => some (decide (0 ≤ lk) && decide (lk < 4294967296) && decide (n.size ≤ 140737488355328) && decide (body.size ≤ 900000), p lk tr n body)
  | _ => none
theorem fn_sec {gl : Gl} {m : Int} {u0 o0 u1 o1 : Nat} (G : ElG gl m u0 o0 u1 o1) : FnOK Tryz.prog gl 9 (afSec seV) := fn_ofT G.low fun args σ v h => by
  unfold afSec at h
  split at h
  · rename_i lk tr n body
    simp only [Option.some.injEq, Prod.mk.injEq, Bool.and_eq_true, decide_eq_true_eq] at h
    obtain ⟨⟨⟨⟨l0, l1⟩, hn⟩, hb⟩, rfl⟩ := h
    refine ⟨rfl, noSy, HSec nmOK myI itoaB, 100, 40, 40, noSy_ok, one_ok fun p hp => ?_, (r_sec gl nmOK myI itoaB lk tr n body).trans ?_⟩
    · simp only [List.mem_cons, List.not_mem_nil, or_false] at hp
      rcases hp with rfl | rfl | rfl | rfl
      · exact fn_nm G.low
      · exact fn_may G
      · exact fnItoa G.low G.p
      · exact fn_join
    · have wl : IntKind.i64.wrap lk = lk := wrap_64 (by omega) (by omega)
      unfold seV seS seI myI
      rw [wl, decide_eq_true hn, decide_eq_true hb]
      cases lk.tmod 4 != 0 with
      | true => rfl
      | false =>
      cases lk.tmod 64 == 60 with
      | true => rfl
      | false =>
      cases decide (lk > 2097151) with
      | true => rfl
      | false =>
      by_cases t0 : tr < 0
      · rw [decide_eq_true t0]; rfl
      rw [decide_eq_false t0]
      by_cases t1 : tr > 8
      · rw [decide_eq_true t1]; rfl
      rw [decide_eq_false t1]
      cases hm : nmOK n with
      | false => rfl
      | true =>
      cases mayB body with
      | false => rfl
      | true =>
      have hn8 := (nm_no hm).2
      have za := itoa_size (n := lk) (by omega) (by omega)
      have zb := itoa_size (n := tr) (by omega) (by omega)
      have zs := sec_size (itoaB lk) (itoaB tr) n body
      refine condE rfl (condE rfl (condE rfl (condE rfl (condE rfl (condI rfl (condI rfl (condI rfl (condE rfl ?_))))))))
      refine condI (by rw [decide_eq_true (show -9223372036854775808 ≤ lk by omega), decide_eq_true (show lk ≤ 9223372036854775807 by omega)]; rfl) (condI (nble (by omega)) (condI (by rw [decide_eq_true (show -9223372036854775808 ≤ tr by omega), decide_eq_true (show tr ≤ 9223372036854775807 by omega)]; rfl) (condI (nble (by omega)) ?_)))
      iterate 22 refine condI (nble (by first | omega | (simp only [size_app, szBy, List.length_cons, List.length_nil]; omega))) ?_
      exact condI (nble (by omega)) (condI (nble (by omega)) rfl)
  · cases h
end Go.Proofs.YtgohnfkidkomhaaGreatDoor

noncomputable section
namespace Go.Proofs.YtgohnfkidkomhaaGreatDoor
open Go.Proofs.YtgohnfkidkomhaaGreatDoor.Ev Go.RowKit

/-! ElideRows: residual. -/
abbrev S4 (R : Type) := Int → Int → ByteArray → ByteArray → R
def seF (sv : S4 ByteArray) (se : S4 Int) : S4 Value := fun lk tr n b => .tuple #[.string (sv lk tr n b), .int .i64 (se lk tr n b)]
def caF : Hd := fun _ _ => some .fail
def mkF1 (g : ByteArray → Bool) (ws : ByteArray → List Value) (n : ByteArray → Nat) : Hd := fun vs rows => match vs, rows with
  | [.string s], [] => some (.br (g s) (.ret (.normal, [.tuple #[slK0 1000 (n s + 1), .agg #[.int .i64 0, .int .i64 0], .int .i64 0]], [wdRow (ws s)])) .fail)
  | _, _ => none
def grH : Hd := fun vs rows => match vs, rows with
  | [.slice none 0 0, .int .i64 n], [] => some (.br (decide (1 ≤ n) && decide (n ≤ 1000)) (.ret (.normal, [slK0 1000 0], [wdRow []])) .fail)
  | _, _ => none
def HRe (sv : S4 ByteArray) (se : S4 Int) (mk : Hd) : Hs := hsOf [(9, afSec (seF sv se)), (6, afW)] [(11, mk), (13, caF)] []
def HRw (sv : S4 ByteArray) (se : S4 Int) (mk : Hd) (lp : List (FuncId × List (Nat × LoopH))) : Hs := hsOf [(9, afSec (seF sv se)), (6, afW)] [(11, mk), (31, grH)] lp
set_option maxRecDepth 100000 in
theorem r_rwE (gl : Gl) (sv : S4 ByteArray) (se : S4 Int) (g0 g1 : ByteArray → Bool) (x y e : ByteArray → Int) (ws : ByteArray → List Value) (n : ByteArray → Nat) (lk tr : Int) (f s body : ByteArray) : callSK noSy Tryz.prog gl exB (HRe sv se (mkFB g0 g1 x y e ws n)) 100 40 40 (.fn 5) [.int .u32 lk, .int .i64 tr, .string f, .string s, .string body] LS.start flatR =
 cond (decide (IntKind.i64.wrap ((↑f.size : Int) + (↑s.size : Int)) > 1000)) (
 some (.bool true)) (
 cond (decide ((↑body.size : Int) > 1000)) (
 some (.bool true)) (
 cond (f.toList == s.toList) (
 some (.bool true)) (
 cond (decide (0 ≤ lk) && (decide (lk < 4294967296)) && (decide (f.size ≤ 140737488355328)) && (decide (body.size ≤ 900000))) (
 cond (decide (0 ≤ lk) && (decide (lk < 4294967296)) && (decide (s.size ≤ 140737488355328)) && (decide (body.size ≤ 900000))) (
 cond (se lk tr f body != 0) (
 some (.bool true)) (
 cond (se lk tr s body != 0) (
 some (.bool true)) (
 cond (g0 (sv lk tr f body)) (
 cond (g0 (sv lk tr s body)) (
 cond (((sv lk tr f body).size + (sv lk tr s body).size).ble 9223372036854775807) (
 cond (g0 (sv lk tr f body ++ sv lk tr s body)) (
 cond (e (sv lk tr f body) != 0) (
 some (.bool true)) (
 cond (e (sv lk tr s body) != 0) (
 some (.bool true)) (
 cond (e (sv lk tr f body ++ sv lk tr s body) == 211) (
 some (.bool true)) (
 cond (e (sv lk tr f body ++ sv lk tr s body) == 0) (
 none) (
 some (.bool false)))))) (
 cond (g1 (sv lk tr f body ++ sv lk tr s body)) (
 cond (List.all (ws (sv lk tr f body ++ sv lk tr s body)) (af 8) && true) (
 cond (e (sv lk tr f body) != 0) (
 some (.bool true)) (
 cond (e (sv lk tr s body) != 0) (
 some (.bool true)) (
 none))) (
 none)) (
 none))) (
 none)) (
 cond (g1 (sv lk tr s body)) (
 cond (List.all (ws (sv lk tr s body)) (af 8) && true) (
 cond (((sv lk tr f body).size + (sv lk tr s body).size).ble 9223372036854775807) (
 cond (g0 (sv lk tr f body ++ sv lk tr s body)) (
 cond (e (sv lk tr f body) != 0) (
 some (.bool true)) (
 cond (e (sv lk tr f body ++ sv lk tr s body) == 211) (
 some (.bool true)) (
 cond (e (sv lk tr f body ++ sv lk tr s body) == 0) (
 cond (List.all (ws (sv lk tr s body)) (af 8) && true) (
 none) (
 none)) (
 some (.bool false))))) (
 cond (g1 (sv lk tr f body ++ sv lk tr s body)) (
 cond (List.all (ws (sv lk tr f body ++ sv lk tr s body)) (af 8) && true) (
 cond (e (sv lk tr f body) != 0) (
 some (.bool true)) (
 cond (List.all (ws (sv lk tr s body)) (af 8) && true) (
 none) (
 none))) (
 none)) (
 none))) (
 none)) (
 none)) (
 none))) (
 cond (g1 (sv lk tr f body)) (
 cond (List.all (ws (sv lk tr f body)) (af 8) && true) (
 cond (g0 (sv lk tr s body)) (
 cond (((sv lk tr f body).size + (sv lk tr s body).size).ble 9223372036854775807) (
 cond (g0 (sv lk tr f body ++ sv lk tr s body)) (
 cond (e (sv lk tr s body) != 0) (
 some (.bool true)) (
 cond (e (sv lk tr f body ++ sv lk tr s body) == 211) (
 some (.bool true)) (
 cond (e (sv lk tr f body ++ sv lk tr s body) == 0) (
 cond (List.all (ws (sv lk tr f body)) (af 8) && true) (
 none) (
 none)) (
 some (.bool false))))) (
 cond (g1 (sv lk tr f body ++ sv lk tr s body)) (
 cond (List.all (ws (sv lk tr f body ++ sv lk tr s body)) (af 8) && true) (
 cond (e (sv lk tr s body) != 0) (
 some (.bool true)) (
 cond (List.all (ws (sv lk tr f body)) (af 8) && true) (
 none) (
 none))) (
 none)) (
 none))) (
 none)) (
 cond (g1 (sv lk tr s body)) (
 cond (List.all (ws (sv lk tr s body)) (af 8) && true) (
 cond (((sv lk tr f body).size + (sv lk tr s body).size).ble 9223372036854775807) (
 cond (g0 (sv lk tr f body ++ sv lk tr s body)) (
 cond (e (sv lk tr f body ++ sv lk tr s body) == 211) (
 some (.bool true)) (
 cond (e (sv lk tr f body ++ sv lk tr s body) == 0) (
 cond (List.all (ws (sv lk tr f body)) (af 8) && (List.all (ws (sv lk tr s body)) (af 8) && true)) (
 none) (
 none)) (
 some (.bool false)))) (
 cond (g1 (sv lk tr f body ++ sv lk tr s body)) (
 cond (List.all (ws (sv lk tr f body ++ sv lk tr s body)) (af 8) && true) (
 cond (List.all (ws (sv lk tr f body)) (af 8) && (List.all (ws (sv lk tr s body)) (af 8) && true)) (
 none) (
 none)) (
 none)) (
 none))) (
 none)) (
 none)) (
 none))) (
 none)) (
 none))))) (
 none)) (
 none)))) := by kernel_rfl
set_option maxRecDepth 100000 in
theorem r_rwK (gl : Gl) (sv : S4 ByteArray) (se : S4 Int) (g : ByteArray → Bool) (ws : ByteArray → List Value) (n : ByteArray → Nat) (g3 : GS) (cs : List Value) (lk tr : Int) (f s body : ByteArray) : callSK noSy Tryz.prog gl exB (HRw sv se (mkF1 g ws n) [(12, [(0, ⟨eqWLive, [4], gH g3 (eqWO cs)⟩)])]) 100 40 40 (.fn 5) [.int .u32 lk, .int .i64 tr, .string f, .string s, .string body] LS.start flatR =
 cond (decide (IntKind.i64.wrap ((↑f.size : Int) + (↑s.size : Int)) > 1000)) (
 some (.bool true)) (
 cond (decide ((↑body.size : Int) > 1000)) (
 some (.bool true)) (
 cond (f.toList == s.toList) (
 some (.bool true)) (
 cond (decide (0 ≤ lk) && (decide (lk < 4294967296)) && (decide (f.size ≤ 140737488355328)) && (decide (body.size ≤ 900000))) (
 cond (decide (0 ≤ lk) && (decide (lk < 4294967296)) && (decide (s.size ≤ 140737488355328)) && (decide (body.size ≤ 900000))) (
 cond (se lk tr f body != 0) (
 some (.bool true)) (
 cond (se lk tr s body != 0) (
 some (.bool true)) (
 cond (g (sv lk tr f body)) (
 cond (List.all (ws (sv lk tr f body)) (af 8) && true) (
 cond (g (sv lk tr s body)) (
 cond (List.all (ws (sv lk tr s body)) (af 8) && true) (
 cond (((sv lk tr f body).size + (sv lk tr s body).size).ble 9223372036854775807) (
 cond (g (sv lk tr f body ++ sv lk tr s body)) (
 cond (List.all (ws (sv lk tr f body ++ sv lk tr s body)) (af 8) && true) (
 cond (decide (IntKind.i64.wrap (0 + (↑(n (sv lk tr f body) + 1) : Int)) < 0)) (
 none) (
 cond (decide (IntKind.i64.wrap (IntKind.i64.wrap (0 + (↑(n (sv lk tr f body) + 1) : Int)) + (↑(n (sv lk tr s body) + 1) : Int)) < 0)) (
 none) (
 cond (decide (1 ≤ IntKind.i64.wrap (IntKind.i64.wrap (0 + (↑(n (sv lk tr f body) + 1) : Int)) + (↑(n (sv lk tr s body) + 1) : Int))) && (decide (IntKind.i64.wrap (IntKind.i64.wrap (0 + (↑(n (sv lk tr f body) + 1) : Int)) + (↑(n (sv lk tr s body) + 1) : Int)) ≤ 1000))) (
 cond (((n (sv lk tr f body) + 1) * 1).beq (ws (sv lk tr f body)).length) (
 cond ((ws (sv lk tr f body)).length.beq ((n (sv lk tr f body) + 1) * 1)) (
 cond (((0 + (n (sv lk tr f body) + 1)) * 4).ble 140737488355328 && ((0 + (n (sv lk tr f body) + 1)).ble 1099511627776)) (
 cond (List.all (ws (sv lk tr f body)) (single)) (
 cond (((n (sv lk tr s body) + 1) * 1).beq (ws (sv lk tr s body)).length) (
 cond ((ws (sv lk tr s body)).length.beq ((n (sv lk tr s body) + 1) * 1)) (
 cond ((0 + (n (sv lk tr f body) + 1)).ble (0 + (n (sv lk tr f body) + 1))) (
 cond (((0 + (n (sv lk tr f body) + 1) + (n (sv lk tr s body) + 1)) * 4).ble 140737488355328 && ((0 + (n (sv lk tr f body) + 1) + (n (sv lk tr s body) + 1)).ble 1099511627776)) (
 cond (((0 + (n (sv lk tr f body) + 1)) * 1).beq ([] ++ ws (sv lk tr f body)).length) (
 cond (List.all (ws (sv lk tr s body)) (single)) (
 cond ((↑(n (sv lk tr f body ++ sv lk tr s body) + 1) : Int) != (↑(0 + (n (sv lk tr f body) + 1) + (n (sv lk tr s body) + 1)) : Int)) (
 some (.bool false)) (
 cond (List.all (([] ++ (ws (sv lk tr f body))) ++ (ws (sv lk tr s body))) (af 8) && (List.all (ws (sv lk tr f body ++ sv lk tr s body)) (af 8) && true)) (
 cond (g3 [.int .i64 0, .slice (some ⟨1000, 0, none⟩) (0 + (n (sv lk tr f body) + 1) + (n (sv lk tr s body) + 1)) (0 + (n (sv lk tr f body) + 1) + (n (sv lk tr s body) + 1)), .slice (some ⟨1001, 0, none⟩) (n (sv lk tr f body ++ sv lk tr s body) + 1) (n (sv lk tr f body ++ sv lk tr s body) + 1), goInt (↑(n (sv lk tr f body ++ sv lk tr s body) + 1) : Int), .bool false] [some (.row ⟨[] ++ ws (sv lk tr f body) ++ ws (sv lk tr s body), 26, (0, 0), 1, false, false⟩), some (.row ⟨ws (sv lk tr f body ++ sv lk tr s body), 26, (0, 0), 1, false, false⟩)]) (
 cond (List.all cs (af 8) && (List.all cs (af 8) && true)) (
 some (.bool true)) (
 none)) (
 none)) (
 none))) (
 none)) (
 none)) (
 none)) (
 none)) (
 none)) (
 none)) (
 none)) (
 none)) (
 none)) (
 none)) (
 none)))) (
 none)) (
 none)) (
 none)) (
 none)) (
 none)) (
 none)) (
 none)))) (
 none)) (
 none)))) := by kernel_rfl
end Go.Proofs.YtgohnfkidkomhaaGreatDoor

noncomputable section
namespace Go.Proofs.YtgohnfkidkomhaaGreatDoor
open Go.ChangeShapes Go.WideShapes Go.ChangeAt Go.RowKit Go.Proofs.YtgohnfkidkomhaaGreatDoor.Ev

/-! slices.Grow of the nil row of words: an empty row with room. -/
theorem infoW : ∃ i0, Tryz.prog.info? 26 = some i0 ∧ i0.zero = some (.int .u32 0) ∧ i0.size = 1 ∧ i0.bytes = 4 := by
  have h : (Tryz.prog.info? 26).map (fun i => (i.zero, i.size, i.bytes)) = some (some (.int .u32 0), 1, 4) := by kernel_rfl
  obtain ⟨i0, h1, h2⟩ := Option.map_eq_some_iff.1 h
  simp only [Prod.mk.injEq] at h2
  exact ⟨i0, h1, h2.1, h2.2.1, h2.2.2⟩
theorem below_drew (w : World) (o : Obj) : Below w.heap.size w (w.drew.alloc o) :=
  (show Below w.heap.size w w.drew from ⟨rfl, rfl, rfl, Nat.le_refl _, fun _ _ => rfl⟩).alloc (Nat.le_refl _) o
/-- slices.Grow of the nil row. -/
theorem grow_new (n : Nat) (h : 1 ≤ n) (hn : n ≤ 1000) (w : World) : Calls Tryz.prog 31 #[.slice none 0 0, .int .i64 (n : Int)] w (fun e w' => ∃ C, n ≤ C ∧ e = .returned (.slice (some ⟨w.heap.size, 0, none⟩) 0 C) ∧
    w'.ownsRow w.heap.size 26 1 (.slice (some ⟨w.heap.size, 0, none⟩) 0 C) 0 [] ∧ Below w.heap.size w w' ∧ w.heap.size < w'.heap.size) := by
  obtain ⟨i0, h1, h2, h3, h4⟩ := infoW
  refine Calls.mono (Any8.slices_Grow_grow Tryz.growE i0 _ h1 h2 (by omega) none 0 0 n [] w (Nat.le_refl _) (by omega) (by rw [h4]; omega) (by omega) (by simp) (fun _ => rfl) (fun a ha => by cases ha)) ?_
  rintro e w' ⟨rfl, rfl⟩
  have e29 : Tryz.growE_ren.t 25 = 26 := rfl
  have hge := grownCap_ge w (0 + n) 0 26
  have hle := grownCap_le_maxLen w (0 + n) 0 26 (by unfold maxLen; omega)
  rw [e29]
  refine ⟨_, by omega, rfl, ?_, below_drew w _, by simp⟩
  refine World.ownsRow_made w.drew _ _ (Nat.le_refl _) hle ?_
  simp only [Array.size_append, size_zeroCells, List.size_toArray, List.length_nil]
  have hz : (Value.cells (.int .u32 0)).size = 1 := rfl
  rw [hz]
  omega

theorem gr_sub {gl : Gl} : SubOK Tryz.prog gl 31 grH := by
  intro vs rows t e v rows' h1 h2 φ w args' hr hl
  unfold grH at h1
  split at h1
  case h_2 => cases h1
  rename_i n
  cases h1
  obtain ⟨hg, h3⟩ := brT h2
  simp only [Bool.and_eq_true, decide_eq_true_eq] at hg
  obtain ⟨hg1, hg2⟩ := hg
  have ea : args' = #[.slice none 0 0, .int .i64 n] := by
    have : args'.toList = [.slice none 0 0, .int .i64 n] := LR.of_af hl rfl
    rw [← Array.toArray_toList (xs := args'), this]
  subst ea
  obtain ⟨k, rfl⟩ : ∃ k : Nat, n = (k : Int) := ⟨n.toNat, by omega⟩
  cases h3
  refine (grow_new k (by omega) (by omega) w).mono ?_
  rintro e w' ⟨C, hC, rfl, ⟨_, hown⟩, hbw, hsz⟩
  rcases hown with ⟨h, _⟩ | ⟨g, cap, cur, h, o1, o2, o3, o4, o5, o6⟩
  · cases h
  · simp only [Value.slice.injEq, Option.some.injEq, Addr.mk.injEq, and_true, true_and] at h
    obtain ⟨rfl, rfl⟩ := h
    have t := Tr.adoptRow (rows := []) (show 1000 + 0 < most by decide) hr hbw o1 hsz (b := .row ⟨[], 26, (0, 0), 1, false, false⟩) o2 (some (C * 1, 1)) ⟨cur, (0, 0), rfl, (fun k v hk => by cases hk), o5, rfl, by decide, .inl rfl⟩
    refine ⟨_, _, rfl, t, .slice _ _ _ _ _ ⟨rfl, rfl, ⟨w.heap.size, some (C * 1, 1)⟩, by simp [Phi.set], rfl, fun h => (by cases h), fun S z h => ?_⟩⟩
    simp only [Option.some.injEq, Prod.mk.injEq] at h
    obtain ⟨rfl, rfl⟩ := h
    exact ⟨o3, fun _ => rfl, by simp⟩
end Go.Proofs.YtgohnfkidkomhaaGreatDoor

noncomputable section
namespace Go.Proofs.YtgohnfkidkomhaaGreatDoor
open Go.Proofs.YtgohnfkidkomhaaGreatDoor.Ev Go.RowKit

/-! undertowlaw25: the listed variables; works: true. -/
def db32L : List Int := [0,1,28,2,29,14,24,3,30,22,20,15,25,17,4,8,31,27,13,23,21,19,16,7,26,12,18,6,11,5,10,9]
def db64L : List Int := [0,1,56,2,57,49,28,3,61,58,42,50,38,29,17,4,62,47,59,36,45,43,51,22,53,39,33,30,24,18,12,5,63,55,48,27,60,41,37,16,46,35,44,21,52,32,23,11,54,26,40,15,34,20,31,10,25,14,19,9,13,8,7,6]
def glE (m : Int) (u0 o0 u1 o1 : Nat) : Gl := glOf [(6, [.iface u0 (.pointer (some ⟨900, o0, none⟩))]), (5, [.iface u1 (.pointer (some ⟨901, o1, none⟩))]), (2, pow10L.map (.int .u64)), (0, formsL.map (.int .i64)), (1, [.int .i64 m]), (7, db32L.map (.int .u8)), (8, db64L.map (.int .u8))]
theorem glE_low (m : Int) (u0 o0 u1 o1 : Nat) : Low (glE m u0 o0 u1 o1) := lowTabs (by rfl)
theorem glE_S {m : Int} {u0 o0 u1 o1 : Nat} : ∀ g k v, glS u0 o0 u1 o1 g k = some v → glE m u0 o0 u1 o1 g k = some v := by
  intro g k v h
  unfold glS at h
  unfold glE
  simp only [glOf] at h ⊢
  cases h1 : Nat.beq g 6 with
  | true => rw [h1] at h; exact h
  | false =>
    rw [h1, cond_false] at h
    rw [cond_false]
    cases h2 : Nat.beq g 5 with
    | true => rw [h2] at h; exact h
    | false => rw [h2] at h; cases h
theorem glE_ok (m : Int) (u0 o0 u1 o1 : Nat) : ElG (glE m u0 o0 u1 o1) m u0 o0 u1 o1 where
  S := glE_S
  F := fun i z h => by
    show (formsL.map (Value.int .i64))[i]? = _
    rw [List.getElem?_map, h]
    rfl
  low := glE_low m u0 o0 u1 o1
  m := rfl
  p := fun i z h => by
    show (pow10L.map (Value.int .u64))[i]? = _
    rw [pow10L_eq, List.getElem?_map, h]
    rfl
def exE : Ext := extOf [(122, .same), (123, .makeNoZero 84), (33, .flat Extern.BytealgCount.count), (112, .flat Extern.BytealgIndexByte.indexByte)]
theorem xMz : XkOK Tryz.prog 123 (.makeNoZero 84) := ⟨Tryz.f123, Tryz.func123, by kernel_rfl, by kernel_rfl, (show Extern.find Tryz.f123 = some (Extern.BytealgMakeNoZero.makeNoZero Tryz.f123.params Tryz.f123.resultTypes) by kernel_rfl), (show Tryz.f123.resultTypes[0]? = some 84 by kernel_rfl)⟩
theorem goodE : Go.Proofs.YtgohnfkidkomhaaGreatDoor.Ev.Good Tryz.prog exE := good_of (by kernel_rfl) (by kernel_rfl) (by
  intro x hx
  simp only [List.mem_cons, List.not_mem_nil, or_false] at hx
  rcases hx with rfl | rfl | rfl | rfl
  · exact xNE
  · exact xMz
  · exact xCt
  · exact xIb)
set_option maxRecDepth 100000 in
theorem works25_0 (m : Int) (u0 o0 u1 o1 : Nat) : isT (callF Tryz.prog (glE m u0 o0 u1 o1) exE [] 5000 100 40 (.fn 6) [] LS.start) = true := by kernel_rfl
theorem memo25 (m : Int) (u0 o0 u1 o1 : Nat) : MemoOK Tryz.prog (glE m u0 o0 u1 o1) 6 := memoM_ok goodE (glE_low m u0 o0 u1 o1) tglob (fun f hf => by cases hf) (works25_0 m u0 o0 u1 o1)
end Go.Proofs.YtgohnfkidkomhaaGreatDoor

noncomputable section
namespace Go.Proofs.YtgohnfkidkomhaaGreatDoor
open Go.Proofs.YtgohnfkidkomhaaGreatDoor.Ev Go.RowKit

/-! ElideRows: true, of any lock, tries, two names and any body. -/
def mkL1 (s : ByteArray) : Nat := (mkA s).ws.length - 1
theorem gNil_t {s : ByteArray} (hs : s.size ≤ 900000) (h : (mkA s).ws = []) : gNil s = true := by unfold gNil; rw [decide_eq_true hs, cl_t h]; rfl
theorem gNil_f {s : ByteArray} (h : (mkA s).ws ≠ []) : gNil s = false := by unfold gNil; rw [show cl ((mkA s).ws = []) = false from @decide_eq_false _ (Classical.propDecidable _) h, Bool.and_false]
theorem gNot_t {s : ByteArray} (hs : s.size ≤ 900000) (h : (mkA s).ws ≠ []) : gNot s = true := by unfold gNot; rw [decide_eq_true hs, cl_t h]; rfl
theorem mkF1_ok {gl : Gl} {m : Int} {u0 o0 u1 o1 : Nat} (G : ElG gl m u0 o0 u1 o1) : SubOK Tryz.prog gl 11 (mkF1 gNot mkVs mkL1) := by
  intro vs rows t e v rows' h1 h2
  unfold mkF1 at h1
  split at h1
  · rename_i s
    cases h1
    obtain ⟨c, h3⟩ := brT h2
    unfold gNot at c
    simp only [Bool.and_eq_true, decide_eq_true_eq] at c
    have hn := of_cl c.2
    have hl : mkL1 s + 1 = (mkA s).ws.length := by
      unfold mkL1
      cases hw : (mkA s).ws with
      | nil => exact absurd hw hn
      | cons w l => rw [List.length_cons]; omega
    rw [hl] at h3
    exact makeK_at G.S G.F G.low G.m c.1 hn _ _ _ e v rows' rfl (show cond (atS [.string s] [] [.string s] []) _ _ = _ by rw [atS_self, cond_true]; exact h3)
  · cases h1
theorem caF_ok {gl : Gl} {f : FuncId} : SubOK Tryz.prog gl f caF := by
  intro vs rows t e v rows' h1 h2
  unfold caF at h1
  cases h1
  cases h2
section
variable {m : Int} {u0 o0 u1 o1 : Nat}
theorem secs_ok {gl : Gl} (G : ElG gl m u0 o0 u1 o1) (hw : MemoOK Tryz.prog gl 6) : ∀ p ∈ [((9 : FuncId), afSec (seF seS seI)), (6, afW)], FnOK Tryz.prog gl p.1 p.2 := fun p hp => by
  simp only [List.mem_cons, List.not_mem_nil, or_false] at hp
  rcases hp with rfl | rfl
  · exact fn_sec G
  · exact fn_memo G.low hw
theorem HRe_ok {gl : Gl} (G : ElG gl m u0 o0 u1 o1) (hw : MemoOK Tryz.prog gl 6) : (HRe seS seI (mkFB gNil gNot mkX mkY mkE mkVs mkLn)).OK Tryz.prog gl := hsOf_ok (secs_ok G hw) (fun p hp => by
  simp only [List.mem_cons, List.not_mem_nil, or_false] at hp
  rcases hp with rfl | rfl
  · exact mkFB_ok G.S G.F G.low G.m
  · exact caF_ok) (fun p hp => by cases hp)
theorem HRw_ok {gl : Gl} (G : ElG gl m u0 o0 u1 o1) (hw : MemoOK Tryz.prog gl 6) {ws : List Int} (hl : ws.length ≤ 1024) : (HRw seS seI (mkF1 gNot mkVs mkL1) [(12, [(0, ⟨eqWLive, [4], gH (atS (eqWSt 0 (wC ws) ws.length).1 (eqWSt 0 (wC ws) ws.length).2) (eqWO (wC ws))⟩)])]).OK Tryz.prog gl := hsOf_ok (secs_ok G hw) (fun p hp => by
  simp only [List.mem_cons, List.not_mem_nil, or_false] at hp
  rcases hp with rfl | rfl
  · exact mkF1_ok G
  · exact gr_sub) (fun p hp q hq => by
  simp only [List.mem_cons, List.not_mem_nil, or_false] at hp
  subst hp
  simp only [List.mem_cons, List.not_mem_nil, or_false] at hq
  subst hq
  exact eqW_loop G.low hl)
end
theorem wC_ap (a b : List Int) : wC (a ++ b) = wC a ++ wC b := by unfold wC; rw [List.map_append]
theorem wC_ln (a : List Int) : (wC a).length = a.length := by unfold wC; rw [List.length_map]
theorem wC_sg (ws : List Int) : List.all (wC ws) single = true := by
  rw [List.all_eq_true]
  intro v hv
  obtain ⟨w, _, rfl⟩ := List.mem_map.1 hv
  rfl
theorem se_f {lk tr : Int} {n body : ByteArray} (h : seI lk tr n body = 0) : 0 ≤ lk → nmOK n = true ∧ mayB body = true ∧ lk ≤ 2097151 ∧ 0 ≤ tr ∧ tr ≤ 8 ∧ seS lk tr n body = secB (itoaB lk) (itoaB tr) n body ++ nlB := by
  intro _
  have e : seS lk tr n body = secB (itoaB lk) (itoaB tr) n body ++ nlB := by unfold seS; rw [decide_eq_true h, cond_true]
  unfold seI at h
  have cc : ∀ {b : Bool} {x y : Int}, x ≠ 0 → cond b x y = 0 → b = false ∧ y = 0 := fun {b x y} hx h => by
    cases b with
    | true => exact absurd h hx
    | false => exact ⟨rfl, h⟩
  obtain ⟨_, h⟩ := cc (by decide) h
  obtain ⟨_, h⟩ := cc (by decide) h
  obtain ⟨h3, h⟩ := cc (by decide) h
  obtain ⟨h4, h⟩ := cc (by decide) h
  obtain ⟨h5, h⟩ := cc (by decide) h
  have h3 := of_decide_eq_false h3
  have h4 := of_decide_eq_false h4
  have h5 := of_decide_eq_false h5
  cases hn : nmOK n with
  | false => rw [hn] at h; cases h
  | true =>
    rw [hn, cond_true] at h
    cases hb : mayB body with
    | false => rw [hb] at h; cases h
    | true => exact ⟨rfl, rfl, by omega, by omega, by omega, e⟩
theorem noB_dc (m : Nat) : NoB 10 (decB m) := fun e => by
  have := dec_digit m 10 (by simpa [decB] using e)
  revert this
  decide
theorem noB_it (n : Int) : NoB 10 (itoaB n) := by
  by_cases h : 0 ≤ n
  · rw [itoaB_pos h]; exact noB_dc _
  · rw [itoaB_neg (by omega)]
    refine noB_ap ?_ (noB_dc _)
    show ¬ ((10 : UInt8) ∈ [(45 : UInt8)])
    decide
theorem u32_bd {n : Int} (h : (Lit.int .u32 n).wf = true) : 0 ≤ n ∧ n < 4294967296 := by
  simp only [Lit.wf, Bool.and_eq_true, decide_eq_true_eq] at h
  have e1 : IntKind.min .u32 = 0 := by decide +kernel
  have e2 : IntKind.max .u32 = 4294967295 := by decide +kernel
  rw [e1, e2] at h
  omega
set_option maxRecDepth 100000 in
theorem elideRows_calls (m : Int) (u0 o0 u1 o1 : Nat) {lk tr : Int} (f s body : ByteArray) (hlk : (Lit.int .u32 lk).wf = true) (hf : f.size ≤ 140737488351232) (hs : s.size ≤ 140737488351232) {W : World} (hw : Ready Tryz.prog (glE m u0 o0 u1 o1) W) : Calls Tryz.prog 5 #[.int .u32 lk, .int .i64 tr, .string f, .string s, .string body] W (fun e W' => e = .returned (.bool true) ∧ Below W.heap.size W W') := by
  have G := glE_ok m u0 o0 u1 o1
  have hgl := G.low
  have M := memo25 m u0 o0 u1 o1
  obtain ⟨l0, l1⟩ := u32_bd hlk
  have wz := wrapSz hf hs
  have goE : callSK noSy Tryz.prog (glE m u0 o0 u1 o1) exB (HRe seS seI (mkFB gNil gNot mkX mkY mkE mkVs mkLn)) 100 40 40 (.fn 5) [.int .u32 lk, .int .i64 tr, .string f, .string s, .string body] LS.start flatR = some (.bool true) → Calls Tryz.prog 5 #[.int .u32 lk, .int .i64 tr, .string f, .string s, .string body] W (fun e W' => e = .returned (.bool true) ∧ Below W.heap.size W W') := fun h => flatS noSy_ok goodB hgl tglob (HRe_ok G M) rfl h hw
  have rE := r_rwE (glE m u0 o0 u1 o1) seS seI gNil gNot mkX mkY mkE mkVs mkLn lk tr f s body
  by_cases c1 : IntKind.i64.wrap ((f.size : Int) + (s.size : Int)) > 1000
  · exact goE (rE.trans (condI (decide_eq_true c1) rfl))
  have hfs : f.size + s.size ≤ 1000 := by rw [wz] at c1; omega
  have c1 := decide_eq_false c1
  by_cases c2 : (body.size : Int) > 1000
  · exact goE (rE.trans (condE c1 (condI (decide_eq_true c2) rfl)))
  have hbs : body.size ≤ 1000 := by omega
  have c2 := decide_eq_false c2
  cases c3 : f.toList == s.toList with
  | true => exact goE (rE.trans (condE c1 (condE c2 (condI c3 rfl))))
  | false =>
  have q1 : (decide (0 ≤ lk) && decide (lk < 4294967296) && decide (f.size ≤ 140737488355328) && decide (body.size ≤ 900000)) = true := by
    rw [decide_eq_true l0, decide_eq_true l1, decide_eq_true (show f.size ≤ 140737488355328 by omega), decide_eq_true (show body.size ≤ 900000 by omega)]; rfl
  have q2 : (decide (0 ≤ lk) && decide (lk < 4294967296) && decide (s.size ≤ 140737488355328) && decide (body.size ≤ 900000)) = true := by
    rw [decide_eq_true l0, decide_eq_true l1, decide_eq_true (show s.size ≤ 140737488355328 by omega), decide_eq_true (show body.size ≤ 900000 by omega)]; rfl
  by_cases c4 : seI lk tr f body = 0
  case neg => exact goE (rE.trans (condE c1 (condE c2 (condE c3 (condI q1 (condI q2 (condI (by rw [bneI, decide_eq_false c4]; rfl) rfl)))))))
  have d4 : (seI lk tr f body != 0) = false := by rw [bneI, decide_eq_true c4]; rfl
  by_cases c5 : seI lk tr s body = 0
  case neg => exact goE (rE.trans (condE c1 (condE c2 (condE c3 (condI q1 (condI q2 (condE d4 (condI (by rw [bneI, decide_eq_false c5]; rfl) rfl))))))))
  have d5 : (seI lk tr s body != 0) = false := by rw [bneI, decide_eq_true c5]; rfl
  obtain ⟨n1, hb, b1, b2, b3, eF⟩ := se_f c4 l0
  obtain ⟨n2, _, _, _, _, eS⟩ := se_f c5 l0
  obtain ⟨nf, zf⟩ := nm_no n1
  obtain ⟨ns, zs⟩ := nm_no n2
  have il := itoa_size (n := lk) (by omega) (by omega)
  have it := itoa_size (n := tr) (by omega) (by omega)
  have szF : (seS lk tr f body).size ≤ 3000 := by
    rw [eF, size_app, sec_size]; show _ + 1 ≤ 3000; omega
  have szS : (seS lk tr s body).size ≤ 3000 := by
    rw [eS, size_app, sec_size]; show _ + 1 ≤ 3000; omega
  have szFS : (seS lk tr f body ++ seS lk tr s body).size ≤ 6000 := by rw [size_app]; omega
  have lenF : (mkA (seS lk tr f body)).er = 0 → 1 ≤ (mkA (seS lk tr f body)).ws.length ∧ (mkA (seS lk tr f body)).ws.length ≤ 425 := fun h => by
    rw [eF] at h ⊢; exact sec_len (noB_it _) (noB_it _) nf hb hbs h
  have lenS : (mkA (seS lk tr s body)).er = 0 → 1 ≤ (mkA (seS lk tr s body)).ws.length ∧ (mkA (seS lk tr s body)).ws.length ≤ 425 := fun h => by
    rw [eS] at h ⊢; exact sec_len (noB_it _) (noB_it _) ns hb hbs h
  have two : (mkA (seS lk tr f body)).er = 0 → (mkA (seS lk tr s body)).er = 0 → (mkA (seS lk tr f body ++ seS lk tr s body)).er = 211 ∨ ((mkA (seS lk tr f body ++ seS lk tr s body)).er = 0 ∧ (mkA (seS lk tr f body ++ seS lk tr s body)).ws = (mkA (seS lk tr f body)).ws ++ (mkA (seS lk tr s body)).ws) := fun h1 h2 => by
    rw [eF, eS] at *
    exact sec_two (noB_it _) (noB_it _) nf ns hb hbs h1 h2
  clear eF eS il it
  generalize hFq : seS lk tr f body = F at *
  generalize hSq : seS lk tr s body = S at *
  have er_nil : ∀ x, (mkA x).er ≠ 0 → (mkA x).ws = [] := fun x h => by
    rcases mkA_cases x with ⟨e, _⟩ | h2
    · exact e
    · exact absurd h2.1 h
  have nz : ∀ x, (mkA x).er ≠ 0 → (mkE x != 0) = true := fun x h => by
    show ((mkA x).er != 0) = true
    rw [bneI, decide_eq_false h]; rfl
  have zn : ∀ x, (mkA x).er = 0 → (mkE x != 0) = false := fun x h => by
    show ((mkA x).er != 0) = false
    rw [bneI, decide_eq_true h]; rfl
  have al : ∀ x, (List.all (mkVs x) (af 8) && true) = true := fun x => andI (show (mkVs x).all (af 8) = true from wC_all _) rfl
  have sz : (F.size + S.size).ble 9223372036854775807 = true := nble (by omega)
  by_cases e1 : (mkA F).er = 0
  case neg =>
    have w1 := er_nil F e1
    refine goE (rE.trans (condE c1 (condE c2 (condE c3 (condI q1 (condI q2 (condE d4 (condE d5 ?_))))))))
    refine condI (gNil_t (by omega) w1) ?_
    by_cases w2 : (mkA S).ws = []
    · refine condI (gNil_t (by omega) w2) (condI sz ?_)
      by_cases w3 : (mkA (F ++ S)).ws = []
      · exact condI (gNil_t (by omega) w3) (condI (nz F e1) rfl)
      · exact condE (gNil_f w3) (condI (gNot_t (by omega) w3) (condI (al _) (condI (nz F e1) rfl)))
    · refine condE (gNil_f w2) (condI (gNot_t (by omega) w2) (condI (al _) (condI sz ?_)))
      by_cases w3 : (mkA (F ++ S)).ws = []
      · exact condI (gNil_t (by omega) w3) (condI (nz F e1) rfl)
      · exact condE (gNil_f w3) (condI (gNot_t (by omega) w3) (condI (al _) (condI (nz F e1) rfl)))
  obtain ⟨lf1, lf2⟩ := lenF e1
  have w1 : (mkA F).ws ≠ [] := fun h => by rw [h] at lf1; cases lf1
  by_cases e2 : (mkA S).er = 0
  case neg =>
    have w2 := er_nil S e2
    refine goE (rE.trans (condE c1 (condE c2 (condE c3 (condI q1 (condI q2 (condE d4 (condE d5 ?_))))))))
    refine condE (gNil_f w1) (condI (gNot_t (by omega) w1) (condI (al _) (condI (gNil_t (by omega) w2) (condI sz ?_))))
    by_cases w3 : (mkA (F ++ S)).ws = []
    · exact condI (gNil_t (by omega) w3) (condI (nz S e2) rfl)
    · exact condE (gNil_f w3) (condI (gNot_t (by omega) w3) (condI (al _) (condI (nz S e2) rfl)))
  obtain ⟨ls1, ls2⟩ := lenS e2
  have w2 : (mkA S).ws ≠ [] := fun h => by rw [h] at ls1; cases ls1
  rcases two e1 e2 with e3 | ⟨e3, hws⟩
  · have w3 := er_nil (F ++ S) (by rw [e3]; decide)
    refine goE (rE.trans (condE c1 (condE c2 (condE c3 (condI q1 (condI q2 (condE d4 (condE d5 ?_))))))))
    refine condE (gNil_f w1) (condI (gNot_t (by omega) w1) (condI (al _) (condE (gNil_f w2) (condI (gNot_t (by omega) w2) (condI (al _) (condI sz (condI (gNil_t (by omega) w3) (condI ?_ rfl))))))))
    show ((mkA (F ++ S)).er == 211) = true
    rw [e3]; rfl
  · have w3 : (mkA (F ++ S)).ws ≠ [] := fun h => by
      rw [h] at hws
      exact w1 (List.append_eq_nil_iff.1 hws.symm).1
    have hl : (mkA (F ++ S)).ws.length = (mkA F).ws.length + (mkA S).ws.length := by rw [hws, List.length_append]
    have pF : mkL1 F + 1 = (mkA F).ws.length := by unfold mkL1; omega
    have pS : mkL1 S + 1 = (mkA S).ws.length := by unfold mkL1; omega
    have pFS : mkL1 (F ++ S) + 1 = (mkA F).ws.length + (mkA S).ws.length := by unfold mkL1; omega
    have vFS : mkVs (F ++ S) = wC ((mkA F).ws ++ (mkA S).ws) := by unfold mkVs; rw [hws]
    have vF : mkVs F = wC (mkA F).ws := rfl
    have vS : mkVs S = wC (mkA S).ws := rfl
    have gF := gNot_t (by omega) w1
    have gS := gNot_t (by omega) w2
    have gFS := gNot_t (by omega) w3
    generalize (mkA F).ws = A at *
    generalize (mkA S).ws = B at *
    refine flatS noSy_ok goodB hgl tglob (HRw_ok G M (ws := A ++ B) (by rw [List.length_append]; omega)) rfl ((r_rwK (glE m u0 o0 u1 o1) seS seI gNot mkVs mkL1 _ _ lk tr f s body).trans (condE c1 (condE c2 (condE c3 (condI q1 (condI q2 (condE d4 (condE d5 ?_)))))))) hw
    rw [hFq, hSq, pF, pS, pFS, vF, vS, vFS]
    have k1 : IntKind.i64.wrap (0 + ((A.length : Nat) : Int)) = (A.length : Int) := by rw [Int.zero_add]; exact wrap_64 (by omega) (by omega)
    have k2 : IntKind.i64.wrap ((A.length : Int) + ((B.length : Nat) : Int)) = (A.length : Int) + (B.length : Int) := wrap_64 (by omega) (by omega)
    rw [k1, k2, Nat.zero_add, Nat.mul_one, Nat.mul_one, List.nil_append, wC_ln, wC_ln, ← wC_ap, Nat.beq_refl, Nat.beq_refl]
    have aA := andI (wC_all A) (show true = true from rfl)
    have aB := andI (wC_all B) (show true = true from rfl)
    have aAB := andI (wC_all (A ++ B)) (show true = true from rfl)
    refine condI gF (condI aA (condI gS (condI aB (condI sz (condI gFS (condI aAB (condE (decide_eq_false (by omega)) (condE (decide_eq_false (by omega)) (condI ?_ (condI rfl (condI rfl (condI ?_ (condI (wC_sg A) (condI rfl (condI rfl (condI (nble (Nat.le_refl _)) (condI ?_ (condI rfl (condI (wC_sg B) (condE ?_ (condI (andI (wC_all _) aAB) (condI ?_ (condI (andI (wC_all _) aAB) rfl)))))))))))))))))))))))
    · rw [decide_eq_true (show (1 : Int) ≤ (A.length : Int) + (B.length : Int) by omega), decide_eq_true (show (A.length : Int) + (B.length : Int) ≤ 1000 by omega)]; rfl
    · rw [nble (by omega), nble (by omega)]; rfl
    · rw [nble (by omega), nble (by omega)]; rfl
    · rw [bneI, decide_eq_true rfl]; rfl
    · show atS (eqWSt 0 (wC (A ++ B)) (A ++ B).length).1 (eqWSt 0 (wC (A ++ B)) (A ++ B).length).2 (eqWSt 0 (wC (A ++ B)) (A.length + B.length)).1 (eqWSt 0 (wC (A ++ B)) (A.length + B.length)).2 = true
      rw [List.length_append]
      exact atS_self _ _
end Go.Proofs.YtgohnfkidkomhaaGreatDoor
