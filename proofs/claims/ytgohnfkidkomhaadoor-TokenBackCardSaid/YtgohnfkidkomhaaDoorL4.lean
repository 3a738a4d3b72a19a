/- token.Text and heavy, of any row of tokens that came in; TokenBack answers true, where the listed variables stand as the program's text lays them. -/
import Derived.Test.YtgohnfkidkomhaaDoorL3
import Derived.ChangeArms
import Derived.WideShapes
import Derived.ChangeShapes
noncomputable section
noncomputable section
namespace Go.Proofs.YtgohnfkidkomhaaDoor
open Go.Proofs.YtgohnfkidkomhaaDoor.Ev Go.RowKit

/-! token.Text: its loop's answer, and its own. -/
def txAdd : Option ByteArray → Tok → ByteArray
  | none, t => tokTx t
  | some B, t => B ++ (sepT false t ++ tokTx t)
open Classical in
def txGo : Option ByteArray → List Tok → Option ByteArray × Bool
  | o, [] => (o, true)
  | o, t :: l => if okT t then txGo (some (txAdd o t)) l else (o, false)
def txRows : Option ByteArray → List (Option LObj)
  | none => [b0Row]
  | some B => [b1Row 1001 B.size, bRow (byC B)]
def txFin (r : Option ByteArray × Bool) : Out := cond r.2 (.exit 0, [p0, .string ⟨#[]⟩, .int .i64 0], txRows r.1) (.ret, [p0, .string ⟨#[]⟩, .int .i64 2], txRows r.1)
structure TokB (t : Tok) : Prop where
  tx : t.text.size ≤ 1000
  n : -9223372036854775808 ≤ t.n ∧ t.n ≤ 9223372036854775807
theorem tokTx_size {t : Tok} (h : TokB t) : (tokTx t).size ≤ 1000 := by
  have hi := itoa_bd h.n
  unfold tokTx
  split
  · exact h.tx
  · split
    · rw [ByteArray.size_append]; show 1 + _ ≤ _; omega
    · split
      · omega
      · split <;> (show 1 ≤ 1000; decide)
theorem sepT_size (t : Tok) : (sepT false t).size ≤ 1 := by
  unfold sepT
  simp only [cond_false]
  split
  · show 0 ≤ 1; decide
  · show 1 ≤ 1; decide
theorem txAdd_size {o : Option ByteArray} {t : Tok} (h : TokB t) : (txAdd o t).size ≤ (o.map ByteArray.size).getD 0 + 1001 := by
  have h1 := tokTx_size h
  have h2 := sepT_size t
  cases o with
  | none => show (tokTx t).size ≤ 0 + 1001; omega
  | some B =>
    show (B ++ (sepT false t ++ tokTx t)).size ≤ B.size + 1001
    rw [ByteArray.size_append, ByteArray.size_append]
    omega
theorem txGo_ok : ∀ {l : List Tok} (B : ByteArray), (∀ t ∈ l, okT t) → txGo (some B) l = (some (B ++ textGo false l), true)
  | [], B, _ => by
    show (some B, true) = _
    have : B ++ textGo false [] = B := ByteArray.append_empty
    rw [this]
  | t :: l, B, h => by
    unfold txGo
    rw [if_pos (h t (List.mem_cons_self ..)), txGo_ok _ fun u hu => h u (List.mem_cons_of_mem _ hu)]
    show (some (B ++ (sepT false t ++ tokTx t) ++ textGo false l), true) = (some (B ++ (sepT false t ++ (tokTx t ++ textGo false l))), true)
    rw [ByteArray.append_assoc, ByteArray.append_assoc]
theorem txGo_no : ∀ {l : List Tok} (o : Option ByteArray), ¬ (∀ t ∈ l, okT t) → (txGo o l).2 = false
  | [], o, h => (h fun t ht => by cases ht).elim
  | t :: l, o, h => by
    unfold txGo
    split
    · rename_i ht
      refine txGo_no _ fun hl => h fun u hu => ?_
      rcases List.mem_cons.1 hu with rfl | hu
      · exact ht
      · exact hl u hu
    · rfl
theorem txGo_all {t : Tok} {l : List Tok} (h : ∀ u ∈ t :: l, okT u) : txGo none (t :: l) = (some (textGo true (t :: l)), true) := by
  unfold txGo
  rw [if_pos (h t (List.mem_cons_self ..)), txGo_ok _ fun u hu => h u (List.mem_cons_of_mem _ hu)]
  show (some (tokTx t ++ textGo false l), true) = (some ((⟨#[]⟩ : ByteArray) ++ (tokTx t ++ textGo false l)), true)
  have : (⟨#[]⟩ : ByteArray) ++ (tokTx t ++ textGo false l) = tokTx t ++ textGo false l := ByteArray.empty_append
  rw [this]
def txG (off c : Nat) (l : List Tok) (vs : List Value) (rows : List (Option LObj)) : Prop := (vs, rows) = txSt0 off l.length c ∧ l.length ≤ c ∧ l.length ≤ 200 ∧ ∀ t ∈ l, TokB t
def txT (l : List Tok) : DT Out := .br (txGo none l).2 (.br (txGo none l).1.isSome (.ret (.exit 0, [p0, .string ⟨#[]⟩, .int .i64 0], [b1Row 1001 ((txGo none l).1.getD ⟨#[]⟩).size, bRow (byC ((txGo none l).1.getD ⟨#[]⟩))])) (.ret (.exit 0, [p0, .string ⟨#[]⟩, .int .i64 0], [b0Row])))
  (.br (txGo none l).1.isSome (.ret (.ret, [p0, .string ⟨#[]⟩, .int .i64 2], [b1Row 1001 ((txGo none l).1.getD ⟨#[]⟩).size, bRow (byC ((txGo none l).1.getD ⟨#[]⟩))])) (.ret (.ret, [p0, .string ⟨#[]⟩, .int .i64 2], [b0Row])))
theorem txT_run {l : List Tok} {r : Out} (h : (txT l).run = some r) : r = txFin (txGo none l) := by
  unfold txT at h
  unfold txFin txRows
  generalize txGo none l = q at h
  obtain ⟨o, b⟩ := q
  cases b <;> cases o <;> (cases h; rfl)
def txStN : LSt := ([.int .i64 0, p0, .slice none 0 0, .int .i64 0, .string ⟨#[]⟩, .int .i64 0], [b0Row])
set_option maxRecDepth 100000 in
theorem r_txn (gl : Gl) : roundK noSy Tryd.prog gl exB (H21 itoaB regC) 100 40 40 29 0 txLive txStN (rndK Tryd.prog 1001 txLive txOut) = some (.inr (.exit 0, [p0, .string ⟨#[]⟩, .int .i64 0], [b0Row])) := by kernel_rfl
def txH (off c : Nat) (l : List Tok) : Hd := fun vs rows => match vs with
  | [_, _, .slice none _ _, _, _, _] => some (.br (cl ((vs, rows) = txStN)) (.ret (.exit 0, [p0, .string ⟨#[]⟩, .int .i64 0], [b0Row])) .fail)
  | [_, _, .slice (some _) _ _, _, _, _] => some (.br (cl (txG off c l vs rows)) (txT l) .fail)
  | _ => none
def txSt (off c : Nat) (l : List Tok) (i : Nat) : Option ByteArray → LSt
  | none => txSt0 off l.length c
  | some B => txSt1 (i : Int) off l.length c (byC B) B.size
theorem fnItoa {gl : Gl} (hgl : ∀ g k v, gl g k = some v → g < 1000 ∧ lowV 8 v = true) (hp : ∀ (i : Nat) z, Lib.pow10Tab[i]? = some z → gl 2 i = some (.int .u64 z)) : FnOK Tryd.prog gl 62 (afItoa itoaB) := FnOK.flat hgl tglob fun args σ v h => by
  unfold afItoa at h
  split at h
  · rename_i n
    simp only [Option.some.injEq, Prod.mk.injEq, Bool.and_eq_true, decide_eq_true_eq] at h
    obtain ⟨⟨h1, h2⟩, rfl⟩ := h
    refine ⟨rfl, rfl, fun w hw => ?_⟩
    obtain ⟨φ, hr⟩ := hw
    have ht := tab_gl hr (name := "internal/strconv.uint64pow10") (k := .u64) (zs := Lib.pow10Tab) (g := 2) (by kernel_rfl) (Nat.le_of_ble_eq_true (by kernel_rfl)) hp (by kernel_rfl)
    refine Calls.mono (Tryd.strconv_Itoa n h1 h2 w ht) ?_
    rintro e w' ⟨rfl, k, os, rfl⟩
    refine ⟨rfl, ?_⟩
    have e : (w.drewN k).heap = w.heap := by simp
    refine ⟨rfl, rfl, rfl, by simp [Go.Sort.grow], fun i hi => ?_⟩
    show ((w.drewN k).heap ++ os)[i]? = _
    rw [e, Array.getElem?_append_left hi]
  · cases h
theorem H21_ok {gl : Gl} (hgl : ∀ g k v, gl g k = some v → g < 1000 ∧ lowV 8 v = true) (hp : ∀ (i : Nat) z, Lib.pow10Tab[i]? = some z → gl 2 i = some (.int .u64 z)) : (H21 itoaB regC).OK Tryd.prog gl := hsOf_ok (fun p hp2 => by
    rcases List.mem_cons.1 hp2 with rfl | hp2
    · exact fnItoa hgl hp
    · rcases List.mem_cons.1 hp2 with rfl | hp2
      · exact fnReg hgl
      · exact afs1_ok hgl p hp2) (fun p hp => by
    simp only [List.mem_cons, List.not_mem_nil, or_false] at hp
    rcases hp with rfl | rfl
    · exact ws_ok hgl
    · exact wb_ok hgl) (fun p hp q hq => by
    simp only [List.mem_cons, List.not_mem_nil, or_false] at hp
    subst hp
    simp only [List.mem_cons, List.not_mem_nil, or_false] at hq
    subst hq
    exact run_ok hgl)
theorem tx_ok {gl : Gl} {off c : Nat} {l : List Tok} (hgl : ∀ g k v, glK gl 902 off (toksC l) g k = some v → g < 1000 ∧ lowV 8 v = true) (hp : ∀ (i : Nat) z, Lib.pow10Tab[i]? = some z → glK gl 902 off (toksC l) 2 i = some (.int .u64 z)) :
    LpOK Tryd.prog (glK gl 902 off (toksC l)) 29 0 ⟨txLive, txOut, txH off c l⟩ := loop_ofS goodB hgl tglob (H21_ok hgl hp) (L := 100) (G := 40) (d := 40) fun vs rows t r h1 h2 => by
  simp only [txH] at h1
  split at h1
  · cases h1
    obtain ⟨hg, h3⟩ := brT h2
    have he := of_cl hg
    cases he
    cases h3
    refine ⟨show 1001 ≤ most by decide, _, noSy_ok, Unit, fun _ => txStN, fun _ => some (.exit 0, [p0, .string ⟨#[]⟩, .int .i64 0], [b0Row]), fun _ => 0, (), .inl rfl, rfl, ?_⟩
    rintro ⟨⟩ o ho
    cases ho
    exact ⟨_, r_txn _, rfl⟩
  · cases h1
    obtain ⟨hg, h3⟩ := brT h2
    obtain ⟨he, hc, hl, hb⟩ := of_cl hg
    have hr := txT_run h3
    cases he
    refine ⟨show 1001 ≤ most by decide, _, syK_ok (by decide), {q : Nat × Option ByteArray // q.1 ≤ l.length ∧ (q.2 = none → q.1 = 0) ∧ (q.2.isSome → 1 ≤ q.1) ∧ (q.2.map ByteArray.size).getD 0 ≤ 1001 * q.1}, fun q => txSt off c l q.1.1 q.1.2, fun q => some (txFin (txGo q.1.2 (l.drop q.1.1))), fun q => l.length - q.1.1, ⟨(0, none), by simp, by simp, by simp, by simp⟩, .inl rfl, ?_, ?_⟩
    · rw [hr]; rfl
    · rintro ⟨⟨i, o⟩, q1, q2, q3, q4⟩ r ho
      simp only at q1 q2 q3 q4 ho
      cases ho
      rcases Nat.lt_or_ge i l.length with hi | hi
      · have hdrop : l.drop i = l[i] :: l.drop (i + 1) := List.drop_eq_getElem_cons hi
        have ht : l[i]? = some l[i] := List.getElem?_eq_getElem hi
        have htb := hb _ (List.mem_of_getElem? ht)
        have hsz := txAdd_size (o := o) htb
        by_cases hok : okT l[i]
        · refine ⟨.inl (txSt off c l (i + 1) (some (txAdd o l[i]))), ?_, ⟨(i + 1, some (txAdd o l[i])), by simp only; omega, by simp, by simp, by simp only [Option.map_some, Option.getD_some]; omega⟩, rfl, by simp only; omega, ?_⟩
          · cases o with
            | none =>
              have := q2 rfl
              subst this
              exact (tx_round0 gl off c (by omega) hc (by omega) ht htb.tx htb.n).1 hok
            | some B =>
              have hB : B.size ≤ 1001 * i := q4
              have h1 := q3 rfl
              have := (tx_round1 gl (i := (i : Int)) off c (B := B) (by omega) (by omega) hc (by omega) (by omega) (by rw [Int.toNat_natCast]; exact ht) htb.tx htb.n).1 hok
              refine Eq.trans this ?_
              show some (Sum.inl (txSt1 ((i : Int) + 1) off l.length c _ _)) = some (Sum.inl (txSt1 ((i + 1 : Nat) : Int) off l.length c _ _))
              rw [Int.natCast_succ]
              rfl
          · simp only
            rw [hdrop]
            conv => rhs; unfold txGo
            rw [if_pos hok]
        · refine ⟨txErr (txRows o), ?_, ?_⟩
          · cases o with
            | none =>
              have := q2 rfl
              subst this
              exact (tx_round0 gl off c (by omega) hc (by omega) ht htb.tx htb.n).2 hok
            | some B =>
              have hB : B.size ≤ 1001 * i := q4
              have h1 := q3 rfl
              exact (tx_round1 gl (i := (i : Int)) off c (B := B) (by omega) (by omega) hc (by omega) (by omega) (by rw [Int.toNat_natCast]; exact ht) htb.tx htb.n).2 hok
          · rw [hdrop]
            conv => rhs; unfold txGo
            rw [if_neg hok]
            rfl
      · have e : i = l.length := by omega
        subst e
        refine ⟨.inr (.exit 0, [p0, .string ⟨#[]⟩, .int .i64 0], txRows o), ?_, ?_⟩
        · cases o with
          | none =>
            have := q2 rfl
            show roundK _ _ _ _ _ _ _ _ _ _ _ (txSt0 off l.length c) _ = _
            refine (r_tx0 gl itoaB regC off l.length c (toksC l)).trans ?_
            rw [decide_eq_false (by omega)]
            rfl
          | some B =>
            refine (r_tx1 gl itoaB regC (l.length : Int) off l.length c (toksC l) (byC B) B.size).trans ?_
            rw [decide_eq_false (by omega), cond_false]
            exact condI (andI (byC_all B) rfl) rfl
        · rw [List.drop_length]
          rfl
  · cases h1
def H22 (off c : Nat) (l : List Tok) : Hs := hsOf [] [(46, bsH)] [(29, [(0, ⟨txLive, txOut, txH off c l⟩)])]
set_option maxRecDepth 100000 in
theorem r_text (gl : Gl) (off c : Nat) (l : List Tok) : callSK noSy Tryd.prog gl exB (H22 off c l) 100 40 40 (.fn 29) [.slice (some ⟨902, off, none⟩) l.length c] (rowsOf []) (exitK Tryd.prog 1000) =
 cond (cl   (txG off c l     [Value.int IntKind.i64 0, Value.pointer (some (⟨1000, 0, none⟩ : Addr)),       Value.slice (some (⟨902, off, none⟩ : Addr)) l.length c, goInt (↑l.length : Int), Value.string (⟨#[]⟩ : ByteArray),       Value.int IntKind.i64 0]     [some         (LObj.row           { cells := [Value.pointer none, Value.slice none 0 0], elem := 79, fz := (0, 0), esz := 0, ro := false,             tail := false })])) (
  cond ((txGo none l).snd) (
   cond ((txGo none l).fst.isSome) (
    cond (List.all (byC ((txGo none l).fst.getD (⟨#[]⟩ : ByteArray))) (af 8) && true) (
     cond (List.all (byC ((txGo none l).fst.getD (⟨#[]⟩ : ByteArray))) (af 8) && true) (
      cond (cl   (bsG1 [Value.pointer (some (⟨1000, 0, none⟩ : Addr))]     [some         (LObj.row           {             cells :=               [Value.pointer (some (⟨1000, 0, none⟩ : Addr)),                 Value.slice (some (⟨1001, 0, none⟩ : Addr)) ((txGo none l).fst.getD (⟨#[]⟩ : ByteArray)).size                   ((txGo none l).fst.getD (⟨#[]⟩ : ByteArray)).size],             elem := 79, fz := (0, 0), esz := 0, ro := false, tail := false }),       some         (LObj.row           { cells := byC ((txGo none l).fst.getD (⟨#[]⟩ : ByteArray)), elem := 5, fz := (0, 0), esz := 1, ro := false,             tail := false })]     ((txGo none l).fst.getD (⟨#[]⟩ : ByteArray)).size (byC ((txGo none l).fst.getD (⟨#[]⟩ : ByteArray))))) (
       cond (List.all (byC ((txGo none l).fst.getD (⟨#[]⟩ : ByteArray))) (af 8) && true) (
        some (.normal, ([(.tuple #[(.string (ofCells (byC ((txGo none l).fst.getD (⟨#[]⟩ : ByteArray))))), (.int IntKind.i64 0)])], []))) (
        none)) (
       none)) (
      none)) (
     none)) (
    cond (cl   ([Value.pointer (some (⟨1000, 0, none⟩ : Addr))] = [p0] ∧     [some           (LObj.row             { cells := [Value.pointer none, Value.slice none 0 0], elem := 79, fz := (0, 0), esz := 0, ro := false,               tail := false })] =       [b0Row])) (
     some (.normal, ([(.tuple #[(.string (ByteArray.empty)), (.int IntKind.i64 0)])], []))) (
     none))) (
   cond ((txGo none l).fst.isSome) (
    cond (List.all (byC ((txGo none l).fst.getD (⟨#[]⟩ : ByteArray))) (af 8) && true) (
     some (.normal, ([(.tuple #[(.string ((⟨#[]⟩ : ByteArray))), (.int IntKind.i64 2)])], []))) (
     none)) (
    some (.normal, ([(.tuple #[(.string ((⟨#[]⟩ : ByteArray))), (.int IntKind.i64 2)])], []))))) (
  none) := by kernel_rfl
set_option maxRecDepth 100000 in
theorem r_text0 (gl : Gl) (off c : Nat) (l : List Tok) : callSK noSy Tryd.prog gl exB (H22 off c l) 100 40 40 (.fn 29) [.slice none 0 0] (rowsOf []) (exitK Tryd.prog 1000) =
 cond (cl   (([Value.int IntKind.i64 0, Value.pointer (some (⟨1000, 0, none⟩ : Addr)), Value.slice none 0 0, goInt 0,         Value.string (⟨#[]⟩ : ByteArray), Value.int IntKind.i64 0],       [some           (LObj.row             { cells := [Value.pointer none, Value.slice none 0 0], elem := 79, fz := (0, 0), esz := 0, ro := false,               tail := false })]) =     txStN)) (
  cond (cl   ([Value.pointer (some (⟨1000, 0, none⟩ : Addr))] = [p0] ∧     [some           (LObj.row             { cells := [Value.pointer none, Value.slice none 0 0], elem := 79, fz := (0, 0), esz := 0, ro := false,               tail := false })] =       [b0Row])) (
   some (.normal, ([(.tuple #[(.string (ByteArray.empty)), (.int IntKind.i64 0)])], []))) (
   none)) (
  none) := by kernel_rfl
end Go.Proofs.YtgohnfkidkomhaaDoor

noncomputable section
namespace Go.Proofs.YtgohnfkidkomhaaDoor
open Go.Proofs.YtgohnfkidkomhaaDoor.Ev Go.RowKit

/-! token.Text's answer. -/
def InG (off c : Nat) (l : List Tok) (vs : List Value) : Prop := vs = [.slice (some ⟨902, off, none⟩) l.length c] ∧ l.length ≤ c ∧ l.length ≤ 200 ∧ ∀ t ∈ l, TokB t
def AllOk (l : List Tok) : Prop := ∀ t ∈ l, okT t
def strInt (s : ByteArray) (e : Int) : Out := (.normal, [.tuple #[.string s, .int .i64 e]], [])
def textHd (off c : Nat) (l : List Tok) : Hd := fun vs rows => match vs, rows with
  | [.slice none _ _], [] => some (.br (cl (vs = [.slice none 0 0])) (.ret (strInt ⟨#[]⟩ 0)) .fail)
  | [.slice (some _) _ _], [] => some (.br (cl (InG off c l vs)) (.br (cl (AllOk l)) (.ret (strInt (textGo true l) 0)) (.ret (strInt ⟨#[]⟩ 2))) .fail)
  | _, _ => none
theorem textGo_size : ∀ {l : List Tok} (first : Bool), (∀ t ∈ l, TokB t) → (textGo first l).size ≤ 1001 * l.length
  | [], _, _ => by show 0 ≤ _; omega
  | t :: l, first, h => by
    have h1 := tokTx_size (h t (List.mem_cons_self ..))
    have h2 := textGo_size (l := l) false fun u hu => h u (List.mem_cons_of_mem _ hu)
    have h3 : (sepT first t).size ≤ 1 := by
      cases first
      · exact sepT_size t
      · show 0 ≤ 1; decide
    show (sepT first t ++ (tokTx t ++ textGo false l)).size ≤ _
    rw [ByteArray.size_append, ByteArray.size_append, List.length_cons]
    omega
theorem textGo_pos {t : Tok} {l : List Tok} (first : Bool) (h : okT t) : 1 ≤ (textGo first (t :: l)).size := by
  have h1 : 1 ≤ ((tokTx t).size : Int) := by
    rcases h with ⟨k, h1, _⟩ | ⟨k, h1, h2, _⟩ | ⟨k, h1, h2, _⟩ | ⟨k, _⟩ | ⟨k, _⟩
    · unfold tokTx; rw [if_pos k]; omega
    · unfold tokTx
      rw [if_neg (by omega), if_pos k]
      exact (reg_told h1 h2).2.2.2
    · unfold tokTx
      rw [if_neg (by omega), if_neg (by omega), if_pos k]
      have := itoa_bd (n := t.n) (by omega)
      omega
    · unfold tokTx
      rw [if_neg (by omega), if_neg (by omega), if_neg (by omega), if_pos k]
      decide
    · unfold tokTx
      rw [if_neg (by omega), if_neg (by omega), if_neg (by omega), if_neg (by omega)]
      decide
  show 1 ≤ (sepT first t ++ (tokTx t ++ textGo false l)).size
  rw [ByteArray.size_append, ByteArray.size_append]
  omega
theorem H22_ok {gl : Gl} {off c : Nat} {l : List Tok} (hgl : ∀ g k v, glK gl 902 off (toksC l) g k = some v → g < 1000 ∧ lowV 8 v = true) (hp : ∀ (i : Nat) z, Lib.pow10Tab[i]? = some z → glK gl 902 off (toksC l) 2 i = some (.int .u64 z)) :
    (H22 off c l).OK Tryd.prog (glK gl 902 off (toksC l)) := hsOf_ok (fun _ h => by cases h) (fun p hp => by
    simp only [List.mem_cons, List.not_mem_nil, or_false] at hp
    subst hp
    exact bs_sub hgl) (fun p hp2 q hq => by
    simp only [List.mem_cons, List.not_mem_nil, or_false] at hp2
    subst hp2
    simp only [List.mem_cons, List.not_mem_nil, or_false] at hq
    subst hq
    exact tx_ok hgl hp)
theorem text_sub {gl : Gl} {off c : Nat} {l : List Tok} (hgl : ∀ g k v, glK gl 902 off (toksC l) g k = some v → g < 1000 ∧ lowV 8 v = true) (hp : ∀ (i : Nat) z, Lib.pow10Tab[i]? = some z → glK gl 902 off (toksC l) 2 i = some (.int .u64 z)) :
    SubOK Tryd.prog (glK gl 902 off (toksC l)) 29 (textHd off c l) := sub_of noSy_ok goodB hgl tglob (H22_ok hgl hp) (L := 100) (G := 40) (d := 40) fun vs rows t r h1 h2 => by
  simp only [textHd] at h1
  split at h1
  · cases h1
    obtain ⟨hg, h3⟩ := brT h2
    have he := of_cl hg
    cases he
    cases h3
    exact ⟨show 1000 ≤ most by decide, (r_text0 _ off c l).trans (condI (cl_t rfl) (condI (cl_t ⟨rfl, rfl⟩) rfl))⟩
  · cases h1
    obtain ⟨hg, h3⟩ := brT h2
    obtain ⟨he, hc, hl, hb⟩ := of_cl hg
    cases he
    refine ⟨show 1000 ≤ most by decide, (r_text _ off c l).trans (condI (cl_t ⟨rfl, hc, hl, hb⟩) ?_)⟩
    by_cases hok : AllOk l
    · rw [cl_t hok] at h3
      cases h3
      cases l with
      | nil => exact condI rfl (condE rfl (condI (cl_t ⟨rfl, rfl⟩) rfl))
      | cons t l =>
        rw [txGo_all hok]
        have z1 := textGo_size true hb
        have z2 := textGo_pos (l := l) true (hok t (List.mem_cons_self ..))
        refine condI rfl (condI rfl (condI (andI (byC_all _) rfl) (condI (andI (byC_all _) rfl) (condI (cl_t ⟨_, rfl, rfl, rfl, rfl, z2, ?_⟩) (condI (andI (byC_all _) rfl) ?_)))))
        · show (textGo true (t :: l)).size ≤ 1000000000
          omega
        · show some (Ex.normal, [Value.tuple #[.string (ofCells (byC (textGo true (t :: l)))), .int .i64 0]], []) = _
          rw [ofCells_by]
          rfl
    · have hn : cl (AllOk l) = false := Bool.eq_false_iff.2 fun e => hok (of_cl e)
      rw [hn] at h3
      cases h3
      rw [txGo_no none hok]
      refine condE rfl ?_
      cases (txGo none l).1 with
      | none => rfl
      | some B => exact condI rfl (condI (andI (byC_all _) rfl) rfl)
  · cases h1

/-! heavy. -/
def hvLive : List Nat := [7, 5, 0, 6, 2]
def hvOut : List Nat := [0, 2]
def hvSt (i : Int) (off n c : Nat) : LSt := ([.int .i64 i, .slice (some ⟨902, off, none⟩) n c, .slice (some ⟨902, off, none⟩) n c, .int .i64 (n : Int), .bool false], [])
def hvStN : LSt := ([.int .i64 0, .slice none 0 0, .slice none 0 0, .int .i64 0, .bool false], [])
set_option maxRecDepth 100000 in
theorem r_hv (gl : Gl) (i : Int) (off n c : Nat) (cs : List Value) : roundK (syK 902 off cs) Tryd.prog (glK gl 902 off cs) exB HB0 100 40 40 28 0 hvLive (hvSt i off n c) (rndK Tryd.prog 1000 hvLive hvOut) =
 cond (decide (i < (↑n : Int))) (
  cond (decide (0 ≤ i) && (decide (i < (↑n : Int))) && (n.ble c)) (
   cond ((symK off cs).okI IntKind.u8 (off + i.toNat * 4 + 0) && ((symK off cs).okS (off + i.toNat * 4 + 1) && ((symK off cs).okI IntKind.i64 (off + i.toNat * 4 + 2) && ((symK off cs).okI IntKind.i64 (off + i.toNat * 4 + 3) && true)))) (
    cond (decide ((↑((symK off cs).str (off + i.toNat * 4 + 1)).size : Int) > 1000)) (
     some (.inr (.ret, ([(.slice (some ⟨902, (off), none⟩) (n) (c)), (.bool true)], [])))) (
     some (.inl ([(.int IntKind.i64 (IntKind.i64.wrap (i + 1))), (.slice (some ⟨902, (off), none⟩) (n) (c)), (.slice (some ⟨902, (off), none⟩) (n) (c)), (.int IntKind.i64 ((↑n : Int))), (.bool false)], [])))) (
    none)) (
   none)) (
  some (.inr (.exit 0, ([(.slice (some ⟨902, (off), none⟩) (n) (c)), (.bool false)], [])))) := by kernel_rfl
set_option maxRecDepth 100000 in
theorem r_hvN (gl : Gl) : roundK noSy Tryd.prog gl exB HB0 100 40 40 28 0 hvLive hvStN (rndK Tryd.prog 1000 hvLive hvOut) =
 some (.inr (.exit 0, ([(.slice none 0 0), (.bool false)], []))) := by kernel_rfl
def tbLive : List Nat := [49, 0, 5, 3, 47, 48, 2]
def tbSt (i : Int) (off n c : Nat) (s : ByteArray) (ds : List Value) : LSt := ([.int .i64 i, .slice (some ⟨902, off, none⟩) n c, .slice (some ⟨1000, 0, none⟩) n n, .string s, .slice (some ⟨1000, 0, none⟩) n n, .int .i64 (n : Int), .bool false], [tokRow ds])
def tbStN (a : Value) (s : ByteArray) : LSt := ([.int .i64 0, a, .slice none 0 0, .string s, .slice none 0 0, .int .i64 0, .bool false], [])
def syT (off : Nat) (cs ds : List Value) : Sy := fun i => cond (Nat.beq i 1000) (some (symOf ds)) (cond (Nat.beq i 902) (some (symK off cs)) none)
theorem syT_ok {gl : Gl} (off : Nat) (cs ds : List Value) : SyOK (glK gl 902 off cs) (syT off cs ds) := fun i S h => by
  unfold syT at h
  rw [Bool.cond_eq_ite] at h
  split at h
  · rename_i e
    cases h
    rw [nbeq] at e
    exact ⟨fun _ => symOf_ok ds, fun hl => by omega⟩
  · rw [Bool.cond_eq_ite] at h
    split at h
    · rename_i e
      cases h
      rw [nbeq] at e
      subst e
      exact ⟨fun hl => by omega, fun _ => symK_of⟩
    · cases h
set_option maxRecDepth 100000 in
theorem r_tb (gl : Gl) (i : Int) (off n c : Nat) (s : ByteArray) (cs ds : List Value) : roundK (syT off cs ds) Tryd.prog (glK gl 902 off cs) exB HB0 100 40 40 8 0 tbLive (tbSt i off n c s ds) (rndK Tryd.prog 1001 tbLive [2]) =
 cond (decide (i < (↑n : Int))) (
  cond (decide (0 ≤ i) && (decide (i < (↑n : Int))) && (n.ble n)) (
   cond (sameL ds ds) (
    cond ((symOf ds).okI IntKind.u8 (0 + i.toNat * 4 + 0) && ((symOf ds).okS (0 + i.toNat * 4 + 1) && ((symOf ds).okI IntKind.i64 (0 + i.toNat * 4 + 2) && ((symOf ds).okI IntKind.i64 (0 + i.toNat * 4 + 3) && true)))) (
     cond (decide ((symOf ds).int IntKind.i64 (0 + i.toNat * 4 + 3) < 0)) (
      qs [(symOf ds).int IntKind.i64 (0 + i.toNat * 4 + (1 + 1 + 1))] (
       cond (List.all ds (af 8) && true) (
        some (.inr (.ret, ([(.bool false)], [some (.row ⟨ds, 46, (0, 0), 4, false, false⟩)])))) (
        none))) (
      cond (decide ((symOf ds).int IntKind.i64 (0 + i.toNat * 4 + 3) ≥ (↑s.size : Int))) (
       qs [(↑s.size : Int), (symOf ds).int IntKind.i64 (0 + i.toNat * 4 + (1 + 1 + 1)), (symOf ds).int IntKind.i64 (0 + i.toNat * 4 + (1 + 1 + 1))] (
        cond (List.all ds (af 8) && true) (
         some (.inr (.ret, ([(.bool false)], [some (.row ⟨ds, 46, (0, 0), 4, false, false⟩)])))) (
         none))) (
       cond (decide (i > 0)) (
        cond (decide (0 ≤ IntKind.i64.wrap (i - 1)) && (decide (IntKind.i64.wrap (i - 1) < (↑n : Int))) && (n.ble n)) (
         cond (sameL ds ds) (
          cond ((symOf ds).okI IntKind.i64 (0 + (IntKind.i64.wrap (i - 1)).toNat * 4 + 3)) (
           cond (decide   ((symOf ds).int IntKind.i64 (0 + i.toNat * 4 + 3) ≤     (symOf ds).int IntKind.i64 (0 + (IntKind.i64.wrap (i - 1)).toNat * 4 + 3))) (
            cond (sameL ds ds) (
             cond ((symOf ds).okI IntKind.i64 (0 + (IntKind.i64.wrap (i - 1)).toNat * 4 + 3)) (
              qs [(symOf ds).int IntKind.i64 (0 + (IntKind.i64.wrap (i - 1)).toNat * 4 + 3), (symOf ds).int IntKind.i64 (0 + i.toNat * 4 + (1 + 1 + 1)), (↑s.size : Int), (symOf ds).int IntKind.i64 (0 + i.toNat * 4 + (1 + 1 + 1)), (symOf ds).int IntKind.i64 (0 + i.toNat * 4 + (1 + 1 + 1))] (
               cond (List.all ds (af 8) && true) (
                some (.inr (.ret, ([(.bool false)], [some (.row ⟨ds, 46, (0, 0), 4, false, false⟩)])))) (
                none))) (
              none)) (
             none)) (
            cond (sameL ds ds) (
             cond ((symOf ds).okI IntKind.i64 (0 + (IntKind.i64.wrap (i - 1)).toNat * 4 + 3)) (
              qs [(symOf ds).int IntKind.i64 (0 + (IntKind.i64.wrap (i - 1)).toNat * 4 + 3), (symOf ds).int IntKind.i64 (0 + i.toNat * 4 + (1 + 1 + 1)), (↑s.size : Int), (symOf ds).int IntKind.i64 (0 + i.toNat * 4 + (1 + 1 + 1)), (symOf ds).int IntKind.i64 (0 + i.toNat * 4 + (1 + 1 + 1))] (
               cond (decide (0 ≤ i) && (decide (i < (↑n : Int))) && (n.ble c)) (
                cond ((symK off cs).okI IntKind.i64 (off + i.toNat * 4 + 3)) (
                 cond (decide (0 ≤ i) && (decide (i < (↑n : Int))) && (n.ble c)) (
                  cond ((symK off cs).okI IntKind.u8 (off + i.toNat * 4 + 0) && ((symK off cs).okS (off + i.toNat * 4 + 1) && ((symK off cs).okI IntKind.i64 (off + i.toNat * 4 + 2) && ((symK off cs).okI IntKind.i64 (off + i.toNat * 4 + 3) && true)))) (
                   cond (!((symOf ds).int IntKind.u8 (0 + i.toNat * 4 + 0) == (symK off cs).int IntKind.u8 (off + i.toNat * 4 + 0) &&     ((symOf ds).str (0 + i.toNat * 4 + 1) == (symK off cs).str (off + i.toNat * 4 + 1) &&       ((symOf ds).int IntKind.i64 (0 + i.toNat * 4 + 2) == (symK off cs).int IntKind.i64 (off + i.toNat * 4 + 2) &&         ((symK off cs).int IntKind.i64 (off + i.toNat * 4 + 3) ==             (symK off cs).int IntKind.i64 (off + i.toNat * 4 + 3) &&           true))))) (
                    cond ((symK off cs).okI IntKind.u8 (off + i.toNat * 4 + 0) && ((symK off cs).okS (off + i.toNat * 4 + 1) && ((symK off cs).okI IntKind.i64 (off + i.toNat * 4 + 2) && ((symK off cs).okI IntKind.i64 (off + i.toNat * 4 + 3) && true)))) (
                     qs [(symK off cs).int IntKind.u8 (off + i.toNat * 4 + 0)] (
                      cond (veq 7 (Value.string ((symK off cs).str (off + i.toNat * 4 + 1)))   (Value.string ((symK off cs).str (off + i.toNat * 4 + 1)))) (
                       qs [(symK off cs).int IntKind.i64 (off + i.toNat * 4 + (1 + 1)), (symK off cs).int IntKind.i64 (off + i.toNat * 4 + (1 + 1 + 1)), (symOf ds).int IntKind.u8 (0 + i.toNat * 4 + 0)] (
                        cond (veq 7 (Value.string ((symOf ds).str (0 + i.toNat * 4 + 1))) (Value.string ((symOf ds).str (0 + i.toNat * 4 + 1)))) (
                         qs [(symOf ds).int IntKind.i64 (0 + i.toNat * 4 + (1 + 1)), (symK off cs).int IntKind.i64 (off + i.toNat * 4 + 3)] (
                          cond (List.all ds (af 8) && true) (
                           some (.inr (.ret, ([(.bool false)], [some (.row ⟨ds, 46, (0, 0), 4, false, false⟩)])))) (
                           none))) (
                         none))) (
                       none))) (
                     none)) (
                    cond ((symK off cs).okI IntKind.u8 (off + i.toNat * 4 + 0) && ((symK off cs).okS (off + i.toNat * 4 + 1) && ((symK off cs).okI IntKind.i64 (off + i.toNat * 4 + 2) && ((symK off cs).okI IntKind.i64 (off + i.toNat * 4 + 3) && true)))) (
                     qs [(symK off cs).int IntKind.u8 (off + i.toNat * 4 + 0)] (
                      cond (veq 7 (Value.string ((symK off cs).str (off + i.toNat * 4 + 1)))   (Value.string ((symK off cs).str (off + i.toNat * 4 + 1)))) (
                       qs [(symK off cs).int IntKind.i64 (off + i.toNat * 4 + (1 + 1)), (symK off cs).int IntKind.i64 (off + i.toNat * 4 + (1 + 1 + 1)), (symOf ds).int IntKind.u8 (0 + i.toNat * 4 + 0)] (
                        cond (veq 7 (Value.string ((symOf ds).str (0 + i.toNat * 4 + 1))) (Value.string ((symOf ds).str (0 + i.toNat * 4 + 1)))) (
                         qs [(symOf ds).int IntKind.i64 (0 + i.toNat * 4 + (1 + 1)), (symK off cs).int IntKind.i64 (off + i.toNat * 4 + 3)] (
                          cond (List.all ds (af 8) && true) (
                           some (.inl ([(.int IntKind.i64 (IntKind.i64.wrap (i + 1))), (.slice (some ⟨902, (off), none⟩) (n) (c)), (.slice (some ⟨1000, 0, none⟩) (n) (n)), (.string (s)), (.slice (some ⟨1000, 0, none⟩) (n) (n)), (.int IntKind.i64 ((↑n : Int))), (.bool false)], [some (.row ⟨ds, 46, (0, 0), 4, false, false⟩)]))) (
                           none))) (
                         none))) (
                       none))) (
                     none))) (
                   none)) (
                  none)) (
                 none)) (
                none))) (
              none)) (
             none))) (
           none)) (
          none)) (
         none)) (
        qs [(↑s.size : Int), (symOf ds).int IntKind.i64 (0 + i.toNat * 4 + (1 + 1 + 1)), (symOf ds).int IntKind.i64 (0 + i.toNat * 4 + (1 + 1 + 1))] (
         cond (decide (0 ≤ i) && (decide (i < (↑n : Int))) && (n.ble c)) (
          cond ((symK off cs).okI IntKind.i64 (off + i.toNat * 4 + 3)) (
           cond (decide (0 ≤ i) && (decide (i < (↑n : Int))) && (n.ble c)) (
            cond ((symK off cs).okI IntKind.u8 (off + i.toNat * 4 + 0) && ((symK off cs).okS (off + i.toNat * 4 + 1) && ((symK off cs).okI IntKind.i64 (off + i.toNat * 4 + 2) && ((symK off cs).okI IntKind.i64 (off + i.toNat * 4 + 3) && true)))) (
             cond (!((symOf ds).int IntKind.u8 (0 + i.toNat * 4 + 0) == (symK off cs).int IntKind.u8 (off + i.toNat * 4 + 0) &&     ((symOf ds).str (0 + i.toNat * 4 + 1) == (symK off cs).str (off + i.toNat * 4 + 1) &&       ((symOf ds).int IntKind.i64 (0 + i.toNat * 4 + 2) == (symK off cs).int IntKind.i64 (off + i.toNat * 4 + 2) &&         ((symK off cs).int IntKind.i64 (off + i.toNat * 4 + 3) ==             (symK off cs).int IntKind.i64 (off + i.toNat * 4 + 3) &&           true))))) (
              cond ((symK off cs).okI IntKind.u8 (off + i.toNat * 4 + 0) && ((symK off cs).okS (off + i.toNat * 4 + 1) && ((symK off cs).okI IntKind.i64 (off + i.toNat * 4 + 2) && ((symK off cs).okI IntKind.i64 (off + i.toNat * 4 + 3) && true)))) (
               qs [(symK off cs).int IntKind.u8 (off + i.toNat * 4 + 0)] (
                cond (veq 7 (Value.string ((symK off cs).str (off + i.toNat * 4 + 1)))   (Value.string ((symK off cs).str (off + i.toNat * 4 + 1)))) (
                 qs [(symK off cs).int IntKind.i64 (off + i.toNat * 4 + (1 + 1)), (symK off cs).int IntKind.i64 (off + i.toNat * 4 + (1 + 1 + 1)), (symOf ds).int IntKind.u8 (0 + i.toNat * 4 + 0)] (
                  cond (veq 7 (Value.string ((symOf ds).str (0 + i.toNat * 4 + 1))) (Value.string ((symOf ds).str (0 + i.toNat * 4 + 1)))) (
                   qs [(symOf ds).int IntKind.i64 (0 + i.toNat * 4 + (1 + 1)), (symK off cs).int IntKind.i64 (off + i.toNat * 4 + 3)] (
                    cond (List.all ds (af 8) && true) (
                     some (.inr (.ret, ([(.bool false)], [some (.row ⟨ds, 46, (0, 0), 4, false, false⟩)])))) (
                     none))) (
                   none))) (
                 none))) (
               none)) (
              cond ((symK off cs).okI IntKind.u8 (off + i.toNat * 4 + 0) && ((symK off cs).okS (off + i.toNat * 4 + 1) && ((symK off cs).okI IntKind.i64 (off + i.toNat * 4 + 2) && ((symK off cs).okI IntKind.i64 (off + i.toNat * 4 + 3) && true)))) (
               qs [(symK off cs).int IntKind.u8 (off + i.toNat * 4 + 0)] (
                cond (veq 7 (Value.string ((symK off cs).str (off + i.toNat * 4 + 1)))   (Value.string ((symK off cs).str (off + i.toNat * 4 + 1)))) (
                 qs [(symK off cs).int IntKind.i64 (off + i.toNat * 4 + (1 + 1)), (symK off cs).int IntKind.i64 (off + i.toNat * 4 + (1 + 1 + 1)), (symOf ds).int IntKind.u8 (0 + i.toNat * 4 + 0)] (
                  cond (veq 7 (Value.string ((symOf ds).str (0 + i.toNat * 4 + 1))) (Value.string ((symOf ds).str (0 + i.toNat * 4 + 1)))) (
                   qs [(symOf ds).int IntKind.i64 (0 + i.toNat * 4 + (1 + 1)), (symK off cs).int IntKind.i64 (off + i.toNat * 4 + 3)] (
                    cond (List.all ds (af 8) && true) (
                     some (.inl ([(.int IntKind.i64 (IntKind.i64.wrap (i + 1))), (.slice (some ⟨902, (off), none⟩) (n) (c)), (.slice (some ⟨1000, 0, none⟩) (n) (n)), (.string (s)), (.slice (some ⟨1000, 0, none⟩) (n) (n)), (.int IntKind.i64 ((↑n : Int))), (.bool false)], [some (.row ⟨ds, 46, (0, 0), 4, false, false⟩)]))) (
                     none))) (
                   none))) (
                 none))) (
               none))) (
             none)) (
            none)) (
           none)) (
          none)))))) (
     none)) (
    none)) (
   none)) (
  cond (List.all ds (af 8) && true) (
   some (.inr (.exit 0, ([(.bool false)], [some (.row ⟨ds, 46, (0, 0), 4, false, false⟩)])))) (
   none)) := by kernel_rfl
set_option maxRecDepth 100000 in
theorem r_tbN (gl : Gl) (s : ByteArray) : roundK noSy Tryd.prog gl exB HB0 100 40 40 8 0 tbLive (tbStN (.slice none 0 0) s) (rndK Tryd.prog 1000 tbLive [2]) =
 some (.inr (.exit 0, ([(.bool false)], []))) := by kernel_rfl
set_option maxRecDepth 100000 in
theorem r_tbE (gl : Gl) (off c : Nat) (s : ByteArray) : roundK noSy Tryd.prog gl exB HB0 100 40 40 8 0 tbLive (tbStN (.slice (some ⟨902, off, none⟩) 0 c) s) (rndK Tryd.prog 1000 tbLive [2]) =
 some (.inr (.exit 0, ([(.bool false)], []))) := by kernel_rfl
end Go.Proofs.YtgohnfkidkomhaaDoor

noncomputable section
namespace Go.Proofs.YtgohnfkidkomhaaDoor
open Go.Proofs.YtgohnfkidkomhaaDoor.Ev Go.RowKit

/-! heavy's answer. -/
def heavyC (l : List Tok) : Bool := l.any fun t => decide ((t.text.size : Int) > 1000)
theorem drop_any {l : List Tok} {i : Nat} (h : i < l.length) : heavyC (l.drop i) = (decide ((l[i].text.size : Int) > 1000) || heavyC (l.drop (i + 1))) := by
  rw [List.drop_eq_getElem_cons h]
  rfl
def sl9 (off n c : Nat) : Value := .slice (some ⟨902, off, none⟩) n c
def hvG (off c : Nat) (l : List Tok) (vs : List Value) (rows : List (Option LObj)) : Prop := (vs, rows) = hvSt 0 off l.length c ∧ l.length ≤ c ∧ l.length ≤ 9223372036854775807
def hvH (off c : Nat) (l : List Tok) : Hd := fun vs rows => match vs with
  | [_, .slice none _ _, _, _, _] => some (.br (cl ((vs, rows) = hvStN)) (.ret (.exit 0, [.slice none 0 0, .bool false], [])) .fail)
  | [_, .slice (some _) _ _, _, _, _] => some (.br (cl (hvG off c l vs rows)) (.br (heavyC l) (.ret (.ret, [sl9 off l.length c, .bool true], [])) (.ret (.exit 0, [sl9 off l.length c, .bool false], []))) .fail)
  | _ => none
theorem hv_ok {gl : Gl} {off c : Nat} {l : List Tok} (hgl : ∀ g k v, glK gl 902 off (toksC l) g k = some v → g < 1000 ∧ lowV 8 v = true) : LpOK Tryd.prog (glK gl 902 off (toksC l)) 28 0 ⟨hvLive, hvOut, hvH off c l⟩ := loop_ofS goodB hgl tglob HB0_ok (L := 100) (G := 40) (d := 40) fun vs rows t r h1 h2 => by
  simp only [hvH] at h1
  split at h1
  · cases h1
    obtain ⟨hg, h3⟩ := brT h2
    have he := of_cl hg
    cases he
    cases h3
    refine ⟨show 1000 ≤ most by decide, _, noSy_ok, Unit, fun _ => hvStN, fun _ => some (.exit 0, [.slice none 0 0, .bool false], []), fun _ => 0, (), .inl rfl, rfl, ?_⟩
    rintro ⟨⟩ o ho
    cases ho
    exact ⟨_, r_hvN _, rfl⟩
  · cases h1
    obtain ⟨hg, h3⟩ := brT h2
    obtain ⟨he, hc, hb⟩ := of_cl hg
    cases he
    have hr : r = cond (heavyC l) (.ret, [sl9 off l.length c, .bool true], []) (.exit 0, [sl9 off l.length c, .bool false], []) := by
      rcases brC h3 with ⟨k1, k2⟩ | ⟨k1, k2⟩
      · rw [k1]; cases k2; rfl
      · rw [k1]; cases k2; rfl
    refine ⟨show 1000 ≤ most by decide, _, syK_ok (by decide), {i : Nat // i ≤ l.length}, fun i => hvSt (i.1 : Int) off l.length c, fun i => some (cond (heavyC (l.drop i.1)) (.ret, [sl9 off l.length c, .bool true], []) (.exit 0, [sl9 off l.length c, .bool false], [])), fun i => l.length - i.1, ⟨0, by omega⟩, .inl rfl, ?_, ?_⟩
    · rw [hr]; rfl
    · rintro ⟨i, hi⟩ o ho
      simp only at ho
      cases ho
      rcases Nat.lt_or_ge i l.length with h | h
      · obtain ⟨t, ht, a0, a1, a2, a3, b0, b1, b2, b3⟩ := symK_tok off (l := l) (i := (i : Int)) (by omega) (by omega)
        have ht' : l[i] = t := by
          rw [Int.toNat_natCast, List.getElem?_eq_getElem h] at ht
          exact Option.some.inj ht
        have hd := drop_any h
        rw [ht'] at hd
        have w : IntKind.i64.wrap ((i : Int) + 1) = ((i + 1 : Nat) : Int) := by rw [wrap_id _ (by omega)]; omega
        by_cases hx : (t.text.size : Int) > 1000
        · refine ⟨.inr (.ret, [sl9 off l.length c, .bool true], []), (r_hv gl (i : Int) off l.length c (toksC l)).trans ?_, ?_⟩
          · simp only [decide_eq_true (show (i : Int) < (l.length : Int) by omega), decide_eq_true (show 0 ≤ (i : Int) by omega), nble hc, Bool.and_self, cond_true, a0, a1, a2, a3, b1, decide_eq_true hx]
            rfl
          · simp only [hd, decide_eq_true hx, Bool.true_or, cond_true]
        · refine ⟨.inl (hvSt ((i + 1 : Nat) : Int) off l.length c), (r_hv gl (i : Int) off l.length c (toksC l)).trans ?_, ⟨i + 1, by omega⟩, rfl, by simp only; omega, ?_⟩
          · simp only [decide_eq_true (show (i : Int) < (l.length : Int) by omega), decide_eq_true (show 0 ≤ (i : Int) by omega), nble hc, Bool.and_self, cond_true, a0, a1, a2, a3, b1, decide_eq_false hx, cond_false, w]
            rfl
          · simp only [hd, decide_eq_false hx, Bool.false_or]
      · have e : i = l.length := by omega
        subst e
        refine ⟨.inr (.exit 0, [sl9 off l.length c, .bool false], []), (r_hv gl (l.length : Int) off l.length c (toksC l)).trans ?_, ?_⟩
        · rw [decide_eq_false (by omega)]
          rfl
        · simp only [List.drop_length]
          rfl
  · cases h1
def HV (off c : Nat) (l : List Tok) : Hs := hsOf [] [] [(28, [(0, ⟨hvLive, hvOut, hvH off c l⟩)])]
set_option maxRecDepth 100000 in
theorem r_heavy (gl : Gl) (off c : Nat) (l : List Tok) : callSK noSy Tryd.prog gl exB (HV off c l) 100 40 40 (.fn 28) [.slice (some ⟨902, off, none⟩) l.length c] (rowsOf []) (exitK Tryd.prog 1000) =
 cond (cl   (hvG off c l     [Value.int IntKind.i64 0, Value.slice (some (⟨902, off, none⟩ : Addr)) l.length c,       Value.slice (some (⟨902, off, none⟩ : Addr)) l.length c, goInt (↑l.length : Int), Value.bool false]     [])) (
  cond (heavyC l) (
   some (.normal, ([(.bool true)], []))) (
   cond (decide ((↑l.length : Int) > 200)) (
    some (.normal, ([(.bool true)], []))) (
    some (.normal, ([(.bool false)], []))))) (
  none) := by kernel_rfl
set_option maxRecDepth 100000 in
theorem r_heavyN (gl : Gl) (off c : Nat) (l : List Tok) : callSK noSy Tryd.prog gl exB (HV off c l) 100 40 40 (.fn 28) [.slice none 0 0] (rowsOf []) (exitK Tryd.prog 1000) =
 cond (cl (([Value.int IntKind.i64 0, Value.slice none 0 0, Value.slice none 0 0, goInt 0, Value.bool false], []) = hvStN)) (
  some (.normal, ([(.bool false)], []))) (
  none) := by kernel_rfl
def hvHd (off c : Nat) (l : List Tok) : Hd := fun vs rows => match vs, rows with
  | [.slice none _ _], [] => some (.br (cl (vs = [.slice none 0 0])) (.ret (.normal, [.bool false], [])) .fail)
  | [.slice (some _) _ _], [] => some (.br (cl (vs = [.slice (some ⟨902, off, none⟩) l.length c] ∧ l.length ≤ c ∧ l.length ≤ 9223372036854775807)) (.br (heavyC l || decide ((l.length : Int) > 200)) (.ret (.normal, [.bool true], [])) (.ret (.normal, [.bool false], []))) .fail)
  | _, _ => none
theorem heavy_sub {gl : Gl} {off c : Nat} {l : List Tok} (hgl : ∀ g k v, glK gl 902 off (toksC l) g k = some v → g < 1000 ∧ lowV 8 v = true) : SubOK Tryd.prog (glK gl 902 off (toksC l)) 28 (hvHd off c l) :=
  sub_of noSy_ok goodB hgl tglob (H := HV off c l) (hsOf_ok (fun _ h => by cases h) (fun _ h => by cases h) (fun p hp2 q hq => by
    simp only [List.mem_cons, List.not_mem_nil, or_false] at hp2
    subst hp2
    simp only [List.mem_cons, List.not_mem_nil, or_false] at hq
    subst hq
    exact hv_ok hgl)) (L := 100) (G := 40) (d := 40) fun vs rows t r h1 h2 => by
  simp only [hvHd] at h1
  split at h1
  · cases h1
    obtain ⟨hg, h3⟩ := brT h2
    have he := of_cl hg
    cases he
    cases h3
    exact ⟨show 1000 ≤ most by decide, (r_heavyN _ off c l).trans (condI (cl_t rfl) rfl)⟩
  · cases h1
    obtain ⟨hg, h3⟩ := brT h2
    obtain ⟨he, hc, hb⟩ := of_cl hg
    cases he
    refine ⟨show 1000 ≤ most by decide, (r_heavy _ off c l).trans (condI (cl_t ⟨rfl, hc, hb⟩) ?_)⟩
    cases hh : heavyC l with
    | true => rw [hh] at h3; cases h3; rfl
    | false =>
      rw [hh] at h3
      by_cases hl : (l.length : Int) > 200
      · rw [decide_eq_true hl] at h3 ⊢; cases h3; rfl
      · rw [decide_eq_false hl] at h3 ⊢; cases h3; rfl
  · cases h1
end Go.Proofs.YtgohnfkidkomhaaDoor

noncomputable section
namespace Go.Proofs.YtgohnfkidkomhaaDoor
open Go.Proofs.YtgohnfkidkomhaaDoor.Ev Go.RowKit

/-! TokenBack. -/
theorem posGo_len : ∀ (l : List Tok) (a : Int) (first : Bool), (posGo a first l).length = l.length
  | [], _, _ => rfl
  | t :: l, a, first => by show (posGo _ false l).length + 1 = _; rw [posGo_len l]; rfl
theorem posGo_get : ∀ {l : List Tok} {a : Int} {first : Bool} {i : Nat} {u t : Tok}, (posGo a first l)[i]? = some u → l[i]? = some t → u.kind = t.kind ∧ u.text = t.text ∧ u.n = t.n
  | [], _, _, _, _, _, h, _ => by simp [posGo] at h
  | t :: l, a, first, 0, u, v, h, k => by
    simp only [posGo, List.getElem?_cons_zero, Option.some.injEq] at h k
    subst h; subst k
    exact ⟨rfl, rfl, rfl⟩
  | t :: l, a, first, i + 1, u, v, h, k => by
    simp only [posGo, List.getElem?_cons_succ] at h k
    exact posGo_get h k
theorem tokTx_pos {t : Tok} (h : okT t) : 1 ≤ ((tokTx t).size : Int) := by
  rcases h with ⟨k, h1, _⟩ | ⟨k, h1, h2, _⟩ | ⟨k, h1, h2, _⟩ | ⟨k, _⟩ | ⟨k, _⟩
  · unfold tokTx; rw [if_pos k]; omega
  · unfold tokTx
    rw [if_neg (by omega), if_pos k]
    exact (reg_told h1 h2).2.2.2
  · unfold tokTx
    rw [if_neg (by omega), if_neg (by omega), if_pos k]
    have := itoa_bd (n := t.n) (by omega)
    omega
  · unfold tokTx
    rw [if_neg (by omega), if_neg (by omega), if_neg (by omega), if_pos k]
    decide
  · unfold tokTx
    rw [if_neg (by omega), if_neg (by omega), if_neg (by omega), if_neg (by omega)]
    decide
theorem posGo_ge : ∀ {l : List Tok} {a : Int} {first : Bool}, AllOk l → ∀ u ∈ posGo a first l, a ≤ u.at_
  | [], _, _, _, u, h => by cases h
  | t :: l, a, first, hok, u, h => by
    rcases List.mem_cons.1 h with rfl | h
    · show a ≤ a + ((sepT first t).size : Int); omega
    · have := posGo_ge (fun v hv => hok v (List.mem_cons_of_mem _ hv)) u h
      have := tokTx_pos (hok t (List.mem_cons_self ..))
      omega
theorem posGo_mono : ∀ {l : List Tok} {a : Int} {first : Bool}, AllOk l → ∀ {i : Nat} {u v : Tok}, (posGo a first l)[i]? = some u → (posGo a first l)[i + 1]? = some v → u.at_ < v.at_
  | [], _, _, _, i, u, v, h, _ => by simp [posGo] at h
  | t :: l, a, first, hok, 0, u, v, h, k => by
    simp only [posGo, List.getElem?_cons_zero, Option.some.injEq, List.getElem?_cons_succ] at h k
    subst h
    have := posGo_ge (fun v hv => hok v (List.mem_cons_of_mem _ hv)) v (List.mem_of_getElem? k)
    have := tokTx_pos (hok t (List.mem_cons_self ..))
    simp only
    omega
  | t :: l, a, first, hok, i + 1, u, v, h, k => by
    simp only [posGo, List.getElem?_cons_succ] at h k
    exact posGo_mono (fun v hv => hok v (List.mem_cons_of_mem _ hv)) h k
def tbG (off c : Nat) (l : List Tok) (vs : List Value) (rows : List (Option LObj)) : Prop :=
  ((vs, rows) = tbSt 0 off l.length c (textGo true l) (toksC (posGo 0 true l)) ∧ AllOk l ∧ l.length ≤ c ∧ l.length ≤ 1000 ∧ AtIn (textGo true l) (posGo 0 true l)) ∨ (∃ s, (vs, rows) = tbStN (.slice none 0 0) s) ∨ (∃ s, (vs, rows) = tbStN (.slice (some ⟨902, off, none⟩) 0 c) s)
def tbH (off c : Nat) (l : List Tok) : Hd := fun vs rows => some (.br (cl (tbG off c l vs rows)) (.ret (.exit 0, [.bool false], rows)) .fail)
theorem tb_round (gl : Gl) (off c : Nat) {l : List Tok} {i : Nat} (hok : AllOk l) (hc : l.length ≤ c) (hl : l.length ≤ 1000) (hat : AtIn (textGo true l) (posGo 0 true l)) (hi : i ≤ l.length) :
    roundK (syT off (toksC l) (toksC (posGo 0 true l))) Tryd.prog (glK gl 902 off (toksC l)) exB HB0 100 40 40 8 0 tbLive (tbSt (i : Int) off l.length c (textGo true l) (toksC (posGo 0 true l))) (rndK Tryd.prog 1001 tbLive [2]) =
      some (if i < l.length then .inl (tbSt ((i + 1 : Nat) : Int) off l.length c (textGo true l) (toksC (posGo 0 true l))) else .inr (.exit 0, [.bool false], [tokRow (toksC (posGo 0 true l))])) := by
  rw [r_tb]
  by_cases h : i < l.length
  · have hp := posGo_len l 0 true
    obtain ⟨t, ht, a0, a1, a2, a3, b0, b1, b2, b3⟩ := symK_tok off (l := l) (i := (i : Int)) (by omega) (by omega)
    obtain ⟨u, hu, c0, c1, c2, c3, d0, d1, d2, d3⟩ := sym_tok (l := posGo 0 true l) (i := (i : Int)) (by omega) (by rw [hp]; omega)
    rw [Int.toNat_natCast] at ht hu
    obtain ⟨e0, e1, e2⟩ := posGo_get hu ht
    have hu2 := hat u (List.mem_of_getElem? hu)
    have w : IntKind.i64.wrap ((i : Int) + 1) = ((i + 1 : Nat) : Int) := by rw [wrap_id _ (by omega)]; omega
    rw [if_pos h]
    simp only [Int.toNat_natCast] at a0 a1 a2 a3 b0 b1 b2 b3 c0 c1 c2 c3 d0 d1 d2 d3
    simp only [decide_eq_true (show (i : Int) < (l.length : Int) by omega), decide_eq_true (show 0 ≤ (i : Int) by omega), nble hc, ble_self, Int.toNat_natCast, Bool.and_self, cond_true, sameL_self, a0, a1, a2, a3, b0, b1, b2, b3, c0, c1, c2, c3, d0, d1, d2, d3, e0, e1, e2, qs_eq, veq7_str, toksC_all, Bool.and_true, w,
      decide_eq_false (show ¬ u.at_ < 0 by omega), decide_eq_false (show ¬ u.at_ ≥ ((textGo true l).size : Int) by omega), cond_false, beq_self_eq_true, ba_beq, Bool.not_true]
    by_cases h0 : (i : Int) > 0
    · have w1 : IntKind.i64.wrap ((i : Int) - 1) = ((i - 1 : Nat) : Int) := by rw [wrap_id _ (by omega)]; omega
      obtain ⟨v, hv, f0, f1, f2, f3, g0, g1, g2, g3⟩ := sym_tok (l := posGo 0 true l) (i := ((i - 1 : Nat) : Int)) (by omega) (by rw [hp]; omega)
      rw [Int.toNat_natCast] at hv
      simp only [Int.toNat_natCast] at f3 g3
      have hm := posGo_mono hok (i := i - 1) (u := v) (v := u) hv (by rw [show i - 1 + 1 = i by omega]; exact hu)
      simp only [decide_eq_true h0, w1, decide_eq_true (show 0 ≤ ((i - 1 : Nat) : Int) by omega), decide_eq_true (show ((i - 1 : Nat) : Int) < (l.length : Int) by omega), Int.toNat_natCast, Bool.and_self, cond_true, f3, g3, decide_eq_false (show ¬ u.at_ ≤ v.at_ by omega), cond_false]
      rfl
    · simp only [decide_eq_false h0, cond_false]
      rfl
  · rw [if_neg h, decide_eq_false (show ¬ (i : Int) < (l.length : Int) by omega), cond_false]
    exact condI (andI (toksC_all _) rfl) rfl
theorem tb_ok {gl : Gl} {off c : Nat} {l : List Tok} (hgl : ∀ g k v, glK gl 902 off (toksC l) g k = some v → g < 1000 ∧ lowV 8 v = true) : LpOK Tryd.prog (glK gl 902 off (toksC l)) 8 0 ⟨tbLive, [2], tbH off c l⟩ := loop_ofS goodB hgl tglob HB0_ok (L := 100) (G := 40) (d := 40) fun vs rows t r h1 h2 => by
  simp only [tbH] at h1
  cases h1
  obtain ⟨hg, h3⟩ := brT h2
  rcases of_cl hg with ⟨he, hok, hc, hl, hat⟩ | ⟨s, he⟩ | ⟨s, he⟩
  · cases he
    cases h3
    refine ⟨show 1001 ≤ most by decide, _, syT_ok off (toksC l) (toksC (posGo 0 true l)), {i : Nat // i ≤ l.length}, fun i => tbSt (i.1 : Int) off l.length c (textGo true l) (toksC (posGo 0 true l)), fun _ => some (.exit 0, [.bool false], [tokRow (toksC (posGo 0 true l))]), fun i => l.length - i.1, ⟨0, by omega⟩, .inl rfl, rfl, ?_⟩
    rintro ⟨i, hi⟩ o ho
    cases ho
    refine ⟨_, tb_round gl off c hok hc hl hat hi, ?_⟩
    by_cases h : i < l.length
    · rw [if_pos h]
      exact ⟨⟨i + 1, by omega⟩, rfl, by simp only; omega, rfl⟩
    · rw [if_neg h]
  · cases he
    cases h3
    refine ⟨show 1000 ≤ most by decide, _, noSy_ok, Unit, fun _ => tbStN (.slice none 0 0) s, fun _ => some (.exit 0, [.bool false], []), fun _ => 0, (), .inl rfl, rfl, ?_⟩
    rintro ⟨⟩ o ho
    cases ho
    exact ⟨_, r_tbN _ s, rfl⟩
  · cases he
    cases h3
    refine ⟨show 1000 ≤ most by decide, _, noSy_ok, Unit, fun _ => tbStN (.slice (some ⟨902, off, none⟩) 0 c) s, fun _ => some (.exit 0, [.bool false], []), fun _ => 0, (), .inl rfl, rfl, ?_⟩
    rintro ⟨⟩ o ho
    cases ho
    exact ⟨_, r_tbE _ off c s, rfl⟩
def H24 (off c : Nat) (l : List Tok) : Hs := hsOf [(24, afW)] [(28, hvHd off c l), (29, textHd off c l), (25, lnHd)] [(8, [(0, ⟨tbLive, [2], tbH off c l⟩)])]
set_option maxRecDepth 100000 in
theorem r_back (gl : Gl) (off c : Nat) (l : List Tok) : callSK noSy Tryd.prog gl exB (H24 off c l) 100 40 40 (.fn 8) [.slice (some ⟨902, off, none⟩) l.length c] LS.start flatR =
 cond (cl   ([Value.slice (some (⟨902, off, none⟩ : Addr)) l.length c] =       [Value.slice (some (⟨902, off, none⟩ : Addr)) l.length c] ∧     l.length ≤ c ∧ l.length ≤ 9223372036854775807)) (
  cond (heavyC l || decide ((↑l.length : Int) > 200)) (
   some (.bool true)) (
   cond (cl (InG off c l [Value.slice (some (⟨902, off, none⟩ : Addr)) l.length c])) (
    cond (cl (AllOk l)) (
     cond (decide ((↑(textGo true l).size : Int) > 200)) (
      cond (decide ((↑(textGo true l).size : Int) > 200)) (
       some (.bool true)) (
       some (.bool false))) (
      cond ((lineC (textGo true l)).fst.isEmpty) (
       cond (decide ((lineC (textGo true l)).snd.snd = 0)) (
        cond (decide ((↑(textGo true l).size : Int) > 200)) (
         some (.bool false)) (
         cond (0 != (↑l.length : Int)) (
          some (.bool false)) (
          cond (cl   (tbG off c l     [Value.int IntKind.i64 0, Value.slice (some (⟨902, off, none⟩ : Addr)) l.length c, Value.slice none 0 0,       Value.string (textGo true l), Value.slice none 0 0, goInt 0, Value.bool false]     [])) (
           some (.bool true)) (
           none)))) (
        cond (decide ((↑(textGo true l).size : Int) > 200)) (
         cond ((lineC (textGo true l)).snd.snd == 3) (
          some (.bool true)) (
          some (.bool false))) (
         cond ((lineC (textGo true l)).snd.snd != 0) (
          some (.bool false)) (
          cond (0 != (↑l.length : Int)) (
           some (.bool false)) (
           cond (cl   (tbG off c l     [Value.int IntKind.i64 0, Value.slice (some (⟨902, off, none⟩ : Addr)) l.length c, Value.slice none 0 0,       Value.string (textGo true l), Value.slice none 0 0, goInt 0, Value.bool false]     [])) (
            some (.bool true)) (
            none)))))) (
       cond (decide ((lineC (textGo true l)).snd.snd = 0)) (
        cond (List.all (toksC (lineC (textGo true l)).fst) (af 8) && true) (
         cond (decide ((↑(textGo true l).size : Int) > 200)) (
          some (.bool false)) (
          cond ((↑(lineC (textGo true l)).fst.length : Int) != (↑l.length : Int)) (
           some (.bool false)) (
           cond (List.all (toksC (lineC (textGo true l)).fst) (af 8) && true) (
            cond (cl   (tbG off c l     [Value.int IntKind.i64 0, Value.slice (some (⟨902, off, none⟩ : Addr)) l.length c,       Value.slice (some (⟨1000, 0, none⟩ : Addr)) (lineC (textGo true l)).fst.length         (lineC (textGo true l)).fst.length,       Value.string (textGo true l),       Value.slice (some (⟨1000, 0, none⟩ : Addr)) (lineC (textGo true l)).fst.length         (lineC (textGo true l)).fst.length,       goInt (↑(lineC (textGo true l)).fst.length : Int), Value.bool false]     [some         (LObj.row           { cells := toksC (lineC (textGo true l)).fst, elem := 46, fz := (0, 0), esz := 4, ro := false,             tail := false })])) (
             cond (List.all (toksC (lineC (textGo true l)).fst) (af 8) && true) (
              some (.bool true)) (
              none)) (
             none)) (
            none)))) (
         none)) (
        cond (decide ((↑(textGo true l).size : Int) > 200)) (
         cond ((lineC (textGo true l)).snd.snd == 3) (
          some (.bool true)) (
          some (.bool false))) (
         cond ((lineC (textGo true l)).snd.snd != 0) (
          some (.bool false)) (
          cond (0 != (↑l.length : Int)) (
           some (.bool false)) (
           cond (cl   (tbG off c l     [Value.int IntKind.i64 0, Value.slice (some (⟨902, off, none⟩ : Addr)) l.length c, Value.slice none 0 0,       Value.string (textGo true l), Value.slice none 0 0, goInt 0, Value.bool false]     [])) (
            some (.bool true)) (
            none)))))))) (
     some (.bool true))) (
    none))) (
  none) := by kernel_rfl
set_option maxRecDepth 100000 in
theorem r_backN (gl : Gl) (off c : Nat) (l : List Tok) : callSK noSy Tryd.prog gl exB (H24 off c l) 100 40 40 (.fn 8) [.slice none 0 0] LS.start flatR =
 cond (cl ([Value.slice none 0 0] = [Value.slice none 0 0])) (
  cond (cl ([Value.slice none 0 0] = [Value.slice none 0 0])) (
   cond (cl   (tbG off c l     [Value.int IntKind.i64 0, Value.slice none 0 0, Value.slice none 0 0, Value.string (⟨#[]⟩ : ByteArray),       Value.slice none 0 0, goInt 0, Value.bool false]     [])) (
    some (.bool true)) (
    none)) (
   none)) (
  none) := by kernel_rfl
end Go.Proofs.YtgohnfkidkomhaaDoor

noncomputable section
namespace Go.Proofs.YtgohnfkidkomhaaDoor
open Go.Proofs.YtgohnfkidkomhaaDoor.Ev Go.RowKit

/-! TokenBack: true, of any tokens. -/
theorem back_eq (gl : Gl) (off c : Nat) {l : List Tok} (hc : l.length ≤ c) (hl : l.length ≤ 9223372036854775807) (hn : ∀ t ∈ l, -9223372036854775808 ≤ t.n ∧ t.n ≤ 9223372036854775807) :
    callSK noSy Tryd.prog gl exB (H24 off c l) 100 40 40 (.fn 8) [.slice (some ⟨902, off, none⟩) l.length c] LS.start flatR = some (.bool true) := by
  rw [r_back]
  refine condI (cl_t ⟨rfl, hc, hl⟩) ?_
  by_cases hh : (heavyC l || decide ((l.length : Int) > 200)) = true
  · rw [hh]; rfl
  have hh := Bool.eq_false_iff.2 hh
  rw [hh]
  simp only [Bool.or_eq_false_iff, decide_eq_false_iff_not] at hh
  have hb : ∀ t ∈ l, TokB t := fun t ht => ⟨by
    have := List.any_eq_false.1 hh.1 t ht
    simp only [decide_eq_true_eq] at this
    omega, hn t ht⟩
  refine condE rfl (condI (cl_t ⟨rfl, hc, by omega, hb⟩) ?_)
  by_cases hok : AllOk l
  case neg => rw [Bool.eq_false_iff.2 fun e => hok (of_cl e)]; rfl
  refine condI (cl_t hok) ?_
  by_cases hs : ((textGo true l).size : Int) > 200
  · rw [decide_eq_true hs]; rfl
  rw [decide_eq_false hs]
  obtain ⟨e1, e2⟩ := text_line hok
  have hat := line_at (textGo true l)
  rw [e1] at hat
  simp only [e1, e2, posGo_len, decide_true, cond_true, cond_false, toksC_all, Bool.and_true, bne_self_eq_false]
  cases l with
  | nil => exact condI rfl (condE rfl (condI (cl_t (.inr (.inr ⟨_, rfl⟩))) rfl))
  | cons t l =>
    exact condE rfl (condI (cl_t (.inl ⟨rfl, hok, hc, by omega, hat⟩)) rfl)
theorem back_eqN (gl : Gl) : callSK noSy Tryd.prog gl exB (H24 0 0 []) 100 40 40 (.fn 8) [.slice none 0 0] LS.start flatR = some (.bool true) := by
  rw [r_backN]
  exact condI (cl_t rfl) (condI (cl_t rfl) (condI (cl_t (.inr (.inl ⟨_, rfl⟩))) rfl))

/-! What is known of the package's variables. -/
def pow10L : List Int := [1, 10, 100, 1000, 10000, 100000, 1000000, 10000000, 100000000, 1000000000, 10000000000, 100000000000, 1000000000000, 10000000000000, 100000000000000, 1000000000000000, 10000000000000000, 100000000000000000, 1000000000000000000, 10000000000000000000]
theorem pow10L_eq : pow10L = Lib.pow10Tab := by decide +kernel
def glB (u0 o0 u1 o1 : Nat) : Gl := glOf [(4, [.iface u0 (.pointer (some ⟨900, o0, none⟩))]), (3, [.iface u1 (.pointer (some ⟨901, o1, none⟩))]), (2, pow10L.map (.int .u64))]
theorem glB_low (u0 o0 u1 o1 : Nat) : ∀ g k v, glB u0 o0 u1 o1 g k = some v → g < 1000 ∧ lowV 8 v = true := lowTabs (by rfl)
theorem glB_S {u0 o0 u1 o1 : Nat} : ∀ g k v, glS u0 o0 u1 o1 g k = some v → glB u0 o0 u1 o1 g k = some v := by
  intro g k v h
  unfold glS at h
  unfold glB
  simp only [glOf] at h ⊢
  rw [Bool.cond_eq_ite] at h ⊢
  split at h
  · rename_i e; rw [if_pos e]; exact h
  · rename_i e
    rw [if_neg e]
    rw [Bool.cond_eq_ite] at h ⊢
    split at h
    · rename_i e2; rw [if_pos e2]; exact h
    · cases h
theorem glB_p {u0 o0 u1 o1 : Nat} : ∀ (i : Nat) z, Lib.pow10Tab[i]? = some z → glB u0 o0 u1 o1 2 i = some (.int .u64 z) := by
  intro i z h
  show (pow10L.map (Value.int .u64))[i]? = _
  rw [pow10L_eq, List.getElem?_map, h]
  rfl
theorem toks_plain (l : List Tok) : Plain (toksC l) := fun v hv => by
  obtain ⟨t, _, h⟩ := List.mem_flatMap.1 hv
  simp only [tokC, List.mem_cons, List.not_mem_nil, or_false] at h
  rcases h with rfl | rfl | rfl | rfl <;> exact ⟨rfl, rfl⟩
theorem glK_mono {gl : Gl} {b off : Nat} {cs : List Value} (hb : ∀ k, gl b k = none) : ∀ g k v, gl g k = some v → glK gl b off cs g k = some v := by
  intro g k v h
  unfold glK
  rw [Bool.cond_eq_ite, if_neg]
  · exact h
  · intro e
    have e := Nat.eq_of_beq_eq_true e
    subst e
    rw [hb] at h; cases h
theorem glB_hi {u0 o0 u1 o1 b : Nat} (hb : 900 ≤ b) : ∀ k, glB u0 o0 u1 o1 b k = none := by
  intro k
  unfold glB
  simp only [glOf]
  rw [nbeq_f (by omega), nbeq_f (by omega), nbeq_f (by omega)]
  rfl
theorem H24_ok (u0 o0 u1 o1 : Nat) (off c : Nat) (l : List Tok) (hw0 : FnOK Tryd.prog (glK (glB u0 o0 u1 o1) 902 off (toksC l)) 24 afW) : (H24 off c l).OK Tryd.prog (glK (glB u0 o0 u1 o1) 902 off (toksC l)) := by
  have hgl := glK_low (glB_low u0 o0 u1 o1) (b := 902) (off := off) (by decide) (toks_plain l)
  have hm := glK_mono (off := off) (cs := toksC l) (glB_hi (u0 := u0) (o0 := o0) (u1 := u1) (o1 := o1) (b := 902) (by decide))
  exact hsOf_ok (fun p hp => by
    simp only [List.mem_cons, List.not_mem_nil, or_false] at hp
    subst hp
    exact hw0) (fun p hp => by
    simp only [List.mem_cons, List.not_mem_nil, or_false] at hp
    rcases hp with rfl | rfl | rfl
    · exact heavy_sub hgl
    · exact text_sub hgl fun i z h => hm _ _ _ (glB_p i z h)
    · exact line_sub (u0 := u0) (o0 := o0) (u1 := u1) (o1 := o1) (fun g k v h => hm _ _ _ (glB_S g k v h)) hgl) (fun p hp q hq => by
    simp only [List.mem_cons, List.not_mem_nil, or_false] at hp
    subst hp
    simp only [List.mem_cons, List.not_mem_nil, or_false] at hq
    subst hq
    exact tb_ok hgl)
/-- A call without arguments that answers true is that, whatever more is known. -/
theorem memo_mono {gl gl' : Gl} {f : FuncId} (h : ∀ g k v, gl g k = some v → gl' g k = some v) (hm : MemoOK Tryd.prog gl f) : MemoOK Tryd.prog gl' f := fun φ σ w hr => hm φ σ w (hr.gl_mono h)
theorem fn_memo {gl : Gl} {f : FuncId} (hgl : ∀ g k v, gl g k = some v → g < 1000 ∧ lowV 8 v = true) (hm : MemoOK Tryd.prog gl f) : FnOK Tryd.prog gl f afW := FnOK.flat hgl tglob fun args σ v h => by
  unfold afW at h
  split at h
  · cases h
    refine ⟨rfl, rfl, fun w hw => ?_⟩
    obtain ⟨φ, hr⟩ := hw
    exact hm φ LS.start w hr
  · cases h

/-! A row that came in. -/
open Go.ChangeShapes Go.WideShapes Go.ChangeAt
theorem addr_add (blk off n : Nat) : (⟨blk, off, none⟩ : Addr).add n = ⟨blk, off + n, none⟩ := by
  unfold Addr.add
  split
  · rename_i h; subst h; rfl
  · rfl
theorem list_of {α : Type} {Q : Nat → α → Prop} : ∀ n : Nat, (∀ i, i < n → ∃ e, Q i e) → ∃ zs : List α, zs.length = n ∧ ∀ i e, zs[i]? = some e → Q i e
  | 0, _ => ⟨[], rfl, fun i e h => by simp at h⟩
  | n + 1, h => by
    obtain ⟨zs, h1, h2⟩ := list_of n fun i hi => h i (by omega)
    obtain ⟨e, he⟩ := h n (by omega)
    refine ⟨zs ++ [e], by simp [h1], fun i e' h3 => ?_⟩
    rcases Nat.lt_or_ge i n with hi | hi
    · rw [List.getElem?_append_left (by omega)] at h3
      exact h2 i e' h3
    · rw [List.getElem?_append_right (by omega), h1] at h3
      rcases Nat.eq_or_lt_of_le hi with rfl | hi
      · simp at h3; subst h3; exact he
      · rw [List.getElem?_eq_none (by simp; omega)] at h3; cases h3
set_option maxRecDepth 100000 in
/-- A parameter that is a row: nil, or its elements' cells. -/
theorem open_rows {H : Type} {enc : TypeId × Value → H} {w : World} {sp : Nat → Bool} {held : Bool} {rc : Reach} {base : Nat} {v : Value} {d : DataW H} {p : List MemPlace} {t e n : Nat} (ht : Tryd.prog.underlying t = some (.slice e)) (hn : Tryd.prog.cellsOf e = n)
    (hv : Value.okWide Tryd.prog w rc base t v) (h : DataW.Trod enc Tryd.prog w 0 sp held t v d p) :
    v = .slice none 0 0 ∨ ∃ (blk off len cap : Nat) (m : Nat), v = .slice (some ⟨blk, off, none⟩) len cap ∧ len ≤ cap ∧ cap ≤ maxLen ∧ blk < w.heap.size ∧ ∀ i, i < len → ∃ cs x, cs.length = n ∧ (∀ j, j < n → ∃ y, cs[j]? = some y ∧ w.cell? ⟨blk, off + i * n + j, none⟩ = some y) ∧ DataW.trod enc Tryd.prog w 0 sp held m e cs = some x := by
  obtain ⟨a, len, cap, rfl⟩ := okWide_slice ht hv
  obtain ⟨fuel, h⟩ := h
  rcases DataW.trod_slice ht h with ⟨hn, _⟩ | ⟨a', len', cap', elems, rest, m, _, hcs, _, _, hlc, hcm, hel, hi, _⟩
  · left
    simpa [Value.cells] using hn
  · right
    have e0 : Value.slice a len cap = .slice (some a') len' cap' := by simpa [Value.cells] using hcs
    cases e0
    have hok : Cell.ok Tryd.prog w rc base t (.slice (some a') len cap) := by
      simpa only [Value.okWide, Cell.okWide, ht] using hv
    have hhas : w.has Tryd.prog rc base a' e cap := by
      simp only [Cell.ok, ht] at hok
      exact hok.2.2
    obtain ⟨_, hs, row, cells, hsh, _⟩ := hhas
    obtain ⟨blk, off, spot⟩ := a'
    simp only at hs
    subst hs
    have hb : blk < w.heap.size := by
      rcases Nat.lt_or_ge blk w.heap.size with h1 | h1
      · exact h1
      · simp [World.shape?, Array.getElem?_eq_none h1] at hsh
    refine ⟨blk, off, len, cap, m, rfl, hlc, hcm, hb, fun i hlt => ?_⟩
    have h1 := hi i hlt
    rw [List.getElem?_eq_getElem (by omega)] at h1
    obtain ⟨cs, h2, h3⟩ := Option.bind_eq_some_iff.1 h1
    rw [hn] at h2
    obtain ⟨_, hl, hat⟩ := World.cells?_some h2
    refine ⟨cs, _, hl, fun j hj => ⟨cs[j]'(by omega), List.getElem?_eq_getElem (by omega), ?_⟩, h3⟩
    have := hat j (by omega)
    rw [addr_add, addr_add] at this
    rw [this]
    exact List.getElem?_eq_getElem (by omega)
theorem fieldI {P : Program} {H : Type} {enc : TypeId × Value → H} {w : World} {base : Nat} {sp : Nat → Bool} {held : Bool} {n : Nat} {t : TypeId} {k : IntKind} {cs : List Value} {xs : List (DataW H × List MemPlace)} {i : Nat}
    (ht : P.underlying t = some (.int k)) (hi : i < xs.length) (h : DataW.trod enc P w base sp held n t cs = xs[i]?) : ∃ m, cs = [.int k m] ∧ (Lit.int k m).wf = true := by
  rw [List.getElem?_eq_getElem hi] at h
  obtain ⟨m, h1, _, h2⟩ := DataW.trod_int ht h
  exact ⟨m, h1, h2⟩
theorem fieldS {P : Program} {H : Type} {enc : TypeId × Value → H} {w : World} {base : Nat} {sp : Nat → Bool} {held : Bool} {n : Nat} {t : TypeId} {cs : List Value} {xs : List (DataW H × List MemPlace)} {i : Nat}
    (ht : P.underlying t = some .string) (hi : i < xs.length) (h : DataW.trod enc P w base sp held n t cs = xs[i]?) : ∃ s, cs = [.string s] ∧ s.size ≤ maxLen := by
  rw [List.getElem?_eq_getElem hi] at h
  obtain ⟨m, h1, _, h2⟩ := DataW.trod_string ht h
  exact ⟨m, h1, h2⟩
theorem i64_bounds {n : Int} (h : (Lit.int .i64 n).wf = true) : -9223372036854775808 ≤ n ∧ n ≤ 9223372036854775807 := by
  simp only [Lit.wf, Bool.and_eq_true, decide_eq_true_eq] at h
  have e1 : IntKind.min .i64 = -9223372036854775808 := by decide +kernel
  have e2 : IntKind.max .i64 = 9223372036854775807 := by decide +kernel
  rw [e1, e2] at h
  exact h
set_option maxRecDepth 100000 in
theorem open_tok {H : Type} {enc : TypeId × Value → H} {w : World} {base : Nat} {sp : Nat → Bool} {held : Bool} {n : Nat} {cs : List Value} {y : DataW H × List MemPlace} (h : DataW.trod enc Tryd.prog w base sp held n 46 cs = some y) (hl : cs.length = 4) :
    ∃ t : Tok, cs = tokC t ∧ -9223372036854775808 ≤ t.n ∧ t.n ≤ 9223372036854775807 := by
  obtain ⟨xs, m, _, _, _, hlen, hf⟩ := DataW.trod_struct Tryd.underlying46 h
  have e5 : Tryd.prog.cellsOf 5 = 1 := by kernel_rfl
  have e3 : Tryd.prog.cellsOf 3 = 1 := by kernel_rfl
  have e9 : Tryd.prog.cellsOf 9 = 1 := by kernel_rfl
  have hlen : xs.length = 4 := hlen
  obtain ⟨v0, v1, v2, v3, rfl⟩ : ∃ v0 v1 v2 v3, cs = [v0, v1, v2, v3] := by
    match cs, hl with
    | [v0, v1, v2, v3], _ => exact ⟨v0, v1, v2, v3, rfl⟩
  have f0 : DataW.trod enc Tryd.prog w base sp held m 5 (([v0, v1, v2, v3].drop 0).take (Tryd.prog.cellsOf 5)) = xs[0]? := hf 0 _ rfl
  have f1 : DataW.trod enc Tryd.prog w base sp held m 9 (([v0, v1, v2, v3].drop 1).take (Tryd.prog.cellsOf 9)) = xs[1]? := hf 1 _ rfl
  have f2 : DataW.trod enc Tryd.prog w base sp held m 3 (([v0, v1, v2, v3].drop 2).take (Tryd.prog.cellsOf 3)) = xs[2]? := hf 2 _ rfl
  have f3 : DataW.trod enc Tryd.prog w base sp held m 3 (([v0, v1, v2, v3].drop 3).take (Tryd.prog.cellsOf 3)) = xs[3]? := hf 3 _ rfl
  rw [e5] at f0
  rw [e9] at f1
  rw [e3] at f2 f3
  obtain ⟨k, g0, w0⟩ := fieldI Tryd.underlying5 (by omega) f0
  obtain ⟨s, g1, _⟩ := fieldS Tryd.underlying9 (by omega) f1
  obtain ⟨x, g2, w2⟩ := fieldI Tryd.underlying3 (by omega) f2
  obtain ⟨a, g3, _⟩ := fieldI Tryd.underlying3 (by omega) f3
  cases g0; cases g1; cases g2; cases g3
  have := i64_bounds w2
  exact ⟨⟨k, s, x, a⟩, rfl, this.1, this.2⟩
set_option maxRecDepth 100000 in
theorem open_toks {H : Type} {enc : TypeId × Value → H} {w : World} {sp : Nat → Bool} {held : Bool} {rc : Reach} {base : Nat} {v : Value} {d : DataW H} {p : List MemPlace}
    (hv : Value.okWide Tryd.prog w rc base 41 v) (h : DataW.Trod enc Tryd.prog w 0 sp held 41 v d p) :
    v = .slice none 0 0 ∨ ∃ (blk off cap : Nat) (l : List Tok), v = .slice (some ⟨blk, off, none⟩) l.length cap ∧ l.length ≤ cap ∧ l.length ≤ 9223372036854775807 ∧ (∀ (i : Nat) x, (toksC l)[i]? = some x → w.cell? ⟨blk, off + i, none⟩ = some x) ∧ (∀ t ∈ l, -9223372036854775808 ≤ t.n ∧ t.n ≤ 9223372036854775807) ∧ blk < w.heap.size := by
  rcases open_rows (n := 4) Tryd.underlying41 (by kernel_rfl) hv h with h | ⟨blk, off, len, cap, m, rfl, hlc, hcm, hb, hi⟩
  · exact .inl h
  · obtain ⟨l, hl, hq⟩ := list_of (Q := fun i (t : Tok) => (∀ j, j < 4 → ∃ y, (tokC t)[j]? = some y ∧ w.cell? ⟨blk, off + i * 4 + j, none⟩ = some y) ∧ -9223372036854775808 ≤ t.n ∧ t.n ≤ 9223372036854775807) len fun i hlt => by
      obtain ⟨cs, x, h1, h2, h3⟩ := hi i hlt
      obtain ⟨t, rfl, h4, h5⟩ := open_tok h3 h1
      exact ⟨t, h2, h4, h5⟩
    subst hl
    have hmx : maxLen = 9223372036854775807 := by kernel_rfl
    refine .inr ⟨blk, off, cap, l, rfl, hlc, by omega, fun i x hx => ?_, fun t ht => ?_, hb⟩
    · obtain ⟨q, j, hj, rfl⟩ : ∃ q j, j < 4 ∧ i = q * 4 + j := ⟨i / 4, i % 4, Nat.mod_lt _ (by decide), by omega⟩
      rw [toksC_get l q j hj] at hx
      obtain ⟨t, ht, htj⟩ := Option.bind_eq_some_iff.1 hx
      obtain ⟨y, h1, h2⟩ := (hq q t ht).1 j hj
      rw [htj] at h1
      cases h1
      rw [show off + (q * 4 + j) = off + q * 4 + j by omega]
      exact h2
    · obtain ⟨i, hi2⟩ := List.getElem?_of_mem ht
      exact (hq i t hi2).2
end Go.Proofs.YtgohnfkidkomhaaDoor

noncomputable section
namespace Go.Proofs.YtgohnfkidkomhaaDoor
open Go.Proofs.YtgohnfkidkomhaaDoor.Ev Go.RowKit

theorem works20B (u0 o0 u1 o1 : Nat) : MemoOK Tryd.prog (glB u0 o0 u1 o1) 24 := memo_mono glB_S (memoW u0 o0 u1 o1)
/-- TokenBack at a row of tokens that came in, or at none. -/
theorem tokenBack_calls (u0 o0 u1 o1 : Nat) {bs : List Nat} (hbs : bs.length = 2) {W : World} (hr : Rel Tryd.prog (glB u0 o0 u1 o1) (phi0 Tryd.prog.globals.size bs) LS.start W) {blk off cap : Nat} {l : List Tok} (hc : l.length ≤ cap) (hl : l.length ≤ 9223372036854775807)
    (hcs : ∀ (i : Nat) x, (toksC l)[i]? = some x → W.cell? ⟨blk, off + i, none⟩ = some x) (hn : ∀ t ∈ l, -9223372036854775808 ≤ t.n ∧ t.n ≤ 9223372036854775807) (hb : blk < W.heap.size) :
    Calls Tryd.prog 8 #[.slice (some ⟨blk, off, none⟩) l.length cap] W (fun e W' => e = .returned (.bool true) ∧ Below W.heap.size W W') := by
  have hg := tglob
  have hφ : phi0 Tryd.prog.globals.size bs 902 = none := phi0_none (by omega) (by omega)
  have hr2 := hr.addK tglob (b := 902) (off := off) (blk := blk) (by decide) (by decide) hφ (toks_plain l) hcs hb
  have hgl := glK_low (glB_low u0 o0 u1 o1) (b := 902) (off := off) (by decide) (toks_plain l)
  have hm := glK_mono (off := off) (cs := toksC l) (glB_hi (u0 := u0) (o0 := o0) (u1 := u1) (o1 := o1) (b := 902) (by decide))
  refine flatSR noSy_ok goodB hgl tglob (H24_ok u0 o0 u1 o1 off cap l (fn_memo hgl (memo_mono hm (works20B u0 o0 u1 o1)))) (back_eq _ off cap hc hl hn) hr2 (LR.cons (.slice _ _ _ _ _ ⟨rfl, rfl, ⟨blk, none⟩, by simp [Phi.set], rfl, fun _ => ⟨rfl, rfl⟩, fun S z h => by cases h⟩) (LR.nil _))
theorem tokenBack_callsN (u0 o0 u1 o1 : Nat) {W : World} (hw : Ready Tryd.prog (glB u0 o0 u1 o1) W) : Calls Tryd.prog 8 #[.slice none 0 0] W (fun e W' => e = .returned (.bool true) ∧ Below W.heap.size W W') := by
  obtain ⟨φ, hr⟩ := hw
  have hg := tglob
  have h0 : (toksC []) = [] := rfl
  have hr2 : Rel Tryd.prog (glK (glB u0 o0 u1 o1) 902 0 (toksC [])) φ LS.start W := by
    refine ⟨hr.live, hr.inj, hr.fresh, hr.bound, fun i o r a _ _ => (by rw [start_get] at a; cases a), fun g k v e => ?_, hr.stat, hr.size⟩
    unfold glK at e
    rw [Bool.cond_eq_ite] at e
    split at e
    · rw [h0] at e
      simp at e
    · exact hr.glob g k v e
  have hgl := glK_low (glB_low u0 o0 u1 o1) (b := 902) (off := 0) (by decide) (toks_plain [])
  have hm := glK_mono (off := 0) (cs := toksC []) (glB_hi (u0 := u0) (o0 := o0) (u1 := u1) (o1 := o1) (b := 902) (by decide))
  exact flatSR noSy_ok goodB hgl tglob (H24_ok u0 o0 u1 o1 0 0 [] (fn_memo hgl (memo_mono hm (works20B u0 o0 u1 o1)))) (back_eqN _) hr2 (LR.cons (.nilSlice 0 0) (LR.nil _))
end Go.Proofs.YtgohnfkidkomhaaDoor
