/- Rows of the same tokens are equal; TokenLines answers true, of any text, where the two error values of strconv stand as the program's text lays them. -/
import Derived.Test.YtgohnfkidkomhaaDoorK5
noncomputable section
noncomputable section
namespace Go.Proofs.YtgohnfkidkomhaaDoor
open Go.Proofs.YtgohnfkidkomhaaDoor.Ev Go.RowKit

/-! slices.Equal: tokens that are the same. -/
def cellI : Option Value → Int
  | some (.int _ n) => n
  | _ => 0
def cellS : Option Value → ByteArray
  | some (.string s) => s
  | _ => ByteArray.empty
def cellIsI (k : IntKind) : Option Value → Bool
  | some (.int k' _) => decide (k' = k)
  | _ => false
def cellIsS : Option Value → Bool
  | some (.string _) => true
  | _ => false
def symOf (cs : List Value) : Sym := ⟨cs, fun _ o => cellI cs[o]?, fun o => cellS cs[o]?, fun k o => cellIsI k cs[o]?, fun o => cellIsS cs[o]?⟩
theorem symOf_ok (cs : List Value) : (symOf cs).OK where
  int := fun k o h => by
    simp only [symOf] at h ⊢
    cases hc : cs[o]? with
    | none => rw [hc] at h; cases h
    | some v =>
      rw [hc] at h
      cases v with
      | int k' n =>
        simp only [cellIsI, decide_eq_true_eq] at h
        subst h
        rfl
      | _ => cases h
  str := fun o h => by
    simp only [symOf] at h ⊢
    cases hc : cs[o]? with
    | none => rw [hc] at h; cases h
    | some v =>
      rw [hc] at h
      cases v with
      | string s => rfl
      | _ => cases h
def syE (cs : List Value) : Sy := fun i => cond (Nat.beq i 1000 || Nat.beq i 1001) (some (symOf cs)) none
theorem syE_ok {gl : Gl} (cs : List Value) : SyOK gl (syE cs) := fun i S h => by
  unfold syE at h
  rw [Bool.cond_eq_ite] at h
  split at h
  · rename_i e
    cases h
    simp only [Bool.or_eq_true, nbeq] at e
    exact ⟨fun _ => symOf_ok cs, fun hl => by omega⟩
  · cases h
def eqLive : List Nat := [13, 1, 0, 12, 4]
def eqSt (i : Int) (cs : List Value) (n : Nat) : LSt := ([.int .i64 i, .slice (some ⟨1000, 0, none⟩) n n, .slice (some ⟨1001, 0, none⟩) n n, .int .i64 (n : Int), .bool false], [tokRow cs, tokRow cs])
set_option maxRecDepth 100000 in
theorem q_eq (gl : Gl) (i : Int) (cs : List Value) (n : Nat) : roundK (syE cs) Tryd.prog gl (fun _ => none) H0 100 40 40 27 0 eqLive (eqSt i cs n) (rndK Tryd.prog 1002 eqLive [4]) =
 cond (decide (i < (↑n : Int))) (
  cond (decide (0 ≤ i) && (decide (i < (↑n : Int))) && (n.ble n)) (
   cond (sameL cs cs) (
    cond ((symOf cs).okI IntKind.u8 (0 + i.toNat * 4 + 0) && ((symOf cs).okS (0 + i.toNat * 4 + 1) && ((symOf cs).okI IntKind.i64 (0 + i.toNat * 4 + 2) && ((symOf cs).okI IntKind.i64 (0 + i.toNat * 4 + 3) && true)))) (
     cond (decide (0 ≤ i) && (decide (i < (↑n : Int))) && (n.ble n)) (
      cond (sameL cs cs) (
       cond ((symOf cs).okI IntKind.u8 (0 + i.toNat * 4 + 0) && ((symOf cs).okS (0 + i.toNat * 4 + 1) && ((symOf cs).okI IntKind.i64 (0 + i.toNat * 4 + 2) && ((symOf cs).okI IntKind.i64 (0 + i.toNat * 4 + 3) && true)))) (
        cond (!((symOf cs).int IntKind.u8 (0 + i.toNat * 4 + 0) == (symOf cs).int IntKind.u8 (0 + i.toNat * 4 + 0) &&     ((symOf cs).str (0 + i.toNat * 4 + 1) == (symOf cs).str (0 + i.toNat * 4 + 1) &&       ((symOf cs).int IntKind.i64 (0 + i.toNat * 4 + 2) == (symOf cs).int IntKind.i64 (0 + i.toNat * 4 + 2) &&         ((symOf cs).int IntKind.i64 (0 + i.toNat * 4 + 3) == (symOf cs).int IntKind.i64 (0 + i.toNat * 4 + 3) &&           true))))) (
         cond (sameL cs cs) (
          cond ((symOf cs).okI IntKind.u8 (0 + i.toNat * 4 + 0) && ((symOf cs).okS (0 + i.toNat * 4 + 1) && ((symOf cs).okI IntKind.i64 (0 + i.toNat * 4 + 2) && ((symOf cs).okI IntKind.i64 (0 + i.toNat * 4 + 3) && true)))) (
           qs [(symOf cs).int IntKind.u8 (0 + i.toNat * 4 + 0)] (
            cond (veq 7 (Value.string ((symOf cs).str (0 + i.toNat * 4 + 1))) (Value.string ((symOf cs).str (0 + i.toNat * 4 + 1)))) (
             qs [(symOf cs).int IntKind.i64 (0 + i.toNat * 4 + (1 + 1)), (symOf cs).int IntKind.i64 (0 + i.toNat * 4 + (1 + 1 + 1))] (
              cond (sameL cs cs) (
               cond ((symOf cs).okI IntKind.u8 (0 + i.toNat * 4 + 0) && ((symOf cs).okS (0 + i.toNat * 4 + 1) && ((symOf cs).okI IntKind.i64 (0 + i.toNat * 4 + 2) && ((symOf cs).okI IntKind.i64 (0 + i.toNat * 4 + 3) && true)))) (
                qs [(symOf cs).int IntKind.u8 (0 + i.toNat * 4 + 0)] (
                 cond (veq 7 (Value.string ((symOf cs).str (0 + i.toNat * 4 + 1))) (Value.string ((symOf cs).str (0 + i.toNat * 4 + 1)))) (
                  qs [(symOf cs).int IntKind.i64 (0 + i.toNat * 4 + (1 + 1)), (symOf cs).int IntKind.i64 (0 + i.toNat * 4 + (1 + 1 + 1))] (
                   cond (List.all cs (af 8) && (List.all cs (af 8) && true)) (
                    some (.inr (.ret, ([(.bool false)], [some (.row ⟨cs, 46, (0, 0), 4, false, false⟩), some (.row ⟨cs, 46, (0, 0), 4, false, false⟩)])))) (
                    none))) (
                  none))) (
                none)) (
               none))) (
             none))) (
           none)) (
          none)) (
         cond (sameL cs cs) (
          cond ((symOf cs).okI IntKind.u8 (0 + i.toNat * 4 + 0) && ((symOf cs).okS (0 + i.toNat * 4 + 1) && ((symOf cs).okI IntKind.i64 (0 + i.toNat * 4 + 2) && ((symOf cs).okI IntKind.i64 (0 + i.toNat * 4 + 3) && true)))) (
           qs [(symOf cs).int IntKind.u8 (0 + i.toNat * 4 + 0)] (
            cond (veq 7 (Value.string ((symOf cs).str (0 + i.toNat * 4 + 1))) (Value.string ((symOf cs).str (0 + i.toNat * 4 + 1)))) (
             qs [(symOf cs).int IntKind.i64 (0 + i.toNat * 4 + (1 + 1)), (symOf cs).int IntKind.i64 (0 + i.toNat * 4 + (1 + 1 + 1))] (
              cond (sameL cs cs) (
               cond ((symOf cs).okI IntKind.u8 (0 + i.toNat * 4 + 0) && ((symOf cs).okS (0 + i.toNat * 4 + 1) && ((symOf cs).okI IntKind.i64 (0 + i.toNat * 4 + 2) && ((symOf cs).okI IntKind.i64 (0 + i.toNat * 4 + 3) && true)))) (
                qs [(symOf cs).int IntKind.u8 (0 + i.toNat * 4 + 0)] (
                 cond (veq 7 (Value.string ((symOf cs).str (0 + i.toNat * 4 + 1))) (Value.string ((symOf cs).str (0 + i.toNat * 4 + 1)))) (
                  qs [(symOf cs).int IntKind.i64 (0 + i.toNat * 4 + (1 + 1)), (symOf cs).int IntKind.i64 (0 + i.toNat * 4 + (1 + 1 + 1))] (
                   cond (List.all cs (af 8) && (List.all cs (af 8) && true)) (
                    some (.inl ([(.int IntKind.i64 (IntKind.i64.wrap (i + 1))), (.slice (some ⟨1000, 0, none⟩) (n) (n)), (.slice (some ⟨1001, 0, none⟩) (n) (n)), (.int IntKind.i64 ((↑n : Int))), (.bool false)], [some (.row ⟨cs, 46, (0, 0), 4, false, false⟩), some (.row ⟨cs, 46, (0, 0), 4, false, false⟩)]))) (
                    none))) (
                  none))) (
                none)) (
               none))) (
             none))) (
           none)) (
          none))) (
        none)) (
       none)) (
      none)) (
     none)) (
    none)) (
   none)) (
  cond (List.all cs (af 8) && (List.all cs (af 8) && true)) (
   some (.inr (.exit 0, ([(.bool false)], [some (.row ⟨cs, 46, (0, 0), 4, false, false⟩), some (.row ⟨cs, 46, (0, 0), 4, false, false⟩)])))) (
   none)) := by kernel_rfl
theorem toksC_get : ∀ (l : List Tok) (i j : Nat), j < 4 → (toksC l)[i * 4 + j]? = (l[i]?).bind fun t => (tokC t)[j]?
  | [], i, j, _ => by simp [toksC]
  | t :: l, 0, j, h => by
    show (tokC t ++ toksC l)[0 * 4 + j]? = _
    rw [List.getElem?_append_left (by show 0 * 4 + j < 4; omega), Nat.zero_mul, Nat.zero_add]
    rfl
  | t :: l, i + 1, j, h => by
    show (tokC t ++ toksC l)[(i + 1) * 4 + j]? = _
    rw [List.getElem?_append_right (by show 4 ≤ (i + 1) * 4 + j; omega), show (i + 1) * 4 + j - (tokC t).length = i * 4 + j by show (i + 1) * 4 + j - 4 = _; omega, toksC_get l i j h]
    rfl
theorem ba_beq (x : ByteArray) : (x == x) = true := by
  cases x
  exact beq_self_eq_true (α := Array UInt8) _
theorem veq7_str (x : ByteArray) : veq 7 (.string x) (.string x) = true := by simp [veq]
theorem eq_round (gl : Gl) {l : List Tok} {i : Int} (h0 : 0 ≤ i) (hl : l.length ≤ 1000) : roundK (syE (toksC l)) Tryd.prog gl (fun _ => none) H0 100 40 40 27 0 eqLive (eqSt i (toksC l) l.length) (rndK Tryd.prog 1002 eqLive [4]) = some (if i < (l.length : Int) then .inl (eqSt (i + 1) (toksC l) l.length) else .inr (.exit 0, [.bool false], [tokRow (toksC l), tokRow (toksC l)])) := by
  rw [q_eq]
  by_cases h : i < (l.length : Int)
  · have hi : i.toNat < l.length := by omega
    have g : ∀ j, j < 4 → (toksC l)[0 + i.toNat * 4 + j]? = (tokC l[i.toNat])[j]? := fun j hj => by
      rw [Nat.zero_add, toksC_get l _ j hj, List.getElem?_eq_getElem hi]
      rfl
    have k0 : (symOf (toksC l)).okI .u8 (0 + i.toNat * 4 + 0) = true := by show cellIsI .u8 (toksC l)[0 + i.toNat * 4 + 0]? = true; rw [g 0 (by decide)]; rfl
    have k1 : (symOf (toksC l)).okS (0 + i.toNat * 4 + 1) = true := by show cellIsS (toksC l)[0 + i.toNat * 4 + 1]? = true; rw [g 1 (by decide)]; rfl
    have k2 : (symOf (toksC l)).okI .i64 (0 + i.toNat * 4 + 2) = true := by show cellIsI .i64 (toksC l)[0 + i.toNat * 4 + 2]? = true; rw [g 2 (by decide)]; rfl
    have k3 : (symOf (toksC l)).okI .i64 (0 + i.toNat * 4 + 3) = true := by show cellIsI .i64 (toksC l)[0 + i.toNat * 4 + 3]? = true; rw [g 3 (by decide)]; rfl
    have w : IntKind.i64.wrap (i + 1) = i + 1 := wrap_id _ (by omega)
    rw [if_pos h]
    simp only [h, h0, decide_true, Bool.and_self, cond_true, cond_false, ble_self, sameL_self, k0, k1, k2, k3, beq_self_eq_true, ba_beq, Bool.not_true, qs_eq, veq7_str, toksC_all, w]
    rfl
  · rw [if_neg h, decide_eq_false h, cond_false]
    simp only [toksC_all, Bool.and_self, cond_true]
    rfl
open Classical in
def eqLH : Hd := fun vs rows => match vs, rows with
  | [.int .i64 i, .slice (some ⟨p, q, none⟩) n n2, .slice (some ⟨p2, q2, none⟩) n3 n4, .int .i64 z, .bool b], [some (.row ⟨cs, t1, (g1, g2), e1, false, false⟩), some (.row ⟨ds, t2, (g3, g4), e2, false, false⟩)] =>
    some (.br (decide (i = 0) && Nat.beq p 1000 && Nat.beq q 0 && Nat.beq p2 1001 && Nat.beq q2 0 && !b && Nat.beq t1 46 && Nat.beq g1 0 && Nat.beq g2 0 && Nat.beq e1 4 && Nat.beq t2 46 && Nat.beq g3 0 && Nat.beq g4 0 && Nat.beq e2 4)
      (.br (decide (∃ l : List Tok, l.length ≤ 1000 ∧ cs = toksC l ∧ ds = toksC l ∧ n = l.length ∧ n2 = l.length ∧ n3 = l.length ∧ n4 = l.length ∧ z = (l.length : Int))) (.ret (.exit 0, [.bool false], [tokRow cs, tokRow ds])) .fail) .fail)
  | [.int .i64 i, .slice none o c, .slice none o2 c2, .int .i64 z, .bool b], [] => some (.br (decide (i = 0) && Nat.beq o 0 && Nat.beq c 0 && Nat.beq o2 0 && Nat.beq c2 0 && decide (z = 0) && !b) (.ret (.exit 0, [.bool false], [])) .fail)
  | _, _ => none
def eqSt0 : LSt := ([.int .i64 0, .slice none 0 0, .slice none 0 0, .int .i64 0, .bool false], [])
set_option maxRecDepth 100000 in
theorem q_eq0 (gl : Gl) : roundK noSy Tryd.prog gl (fun _ => none) H0 100 40 40 27 0 eqLive eqSt0 (rndK Tryd.prog 1000 eqLive [4]) = some (.inr (.exit 0, [.bool false], [])) := by kernel_rfl
open Classical in
theorem eq_ok {gl : Gl} (hgl : ∀ g k v, gl g k = some v → g < 1000 ∧ lowV 8 v = true) : LpOK Tryd.prog gl 27 0 ⟨eqLive, [4], eqLH⟩ := by
  intro fn body x hf hb hx vs rows t e vs' rows' h1 h2
  have key : ∀ (l : List Tok), l.length ≤ 1000 → (vs, rows) = eqSt 0 (toksC l) l.length →
      LoopOK Tryd.prog gl fn.ntmps x ⟨eqLive, [4], fun vs' rows' => if (vs', rows') = (vs, rows) then some (.ret (.exit 0, [.bool false], [tokRow (toksC l), tokRow (toksC l)])) else none⟩ := by
    intro l hl hst
    refine loop_of (syE_ok (toksC l)) goodT hgl tglob H0_ok (L := 100) (G := 40) (d := 40) (f := 27) (n := 0) (fun vs1 rows1 t1 r1 h1 h2 => ?_) fn body x hf hb hx
    simp only at h1
    split at h1
    · rename_i he
      cases h1
      cases h2
      rw [← he] at hst
      have hrow : rows1 = [tokRow (toksC l), tokRow (toksC l)] := by
        have := congrArg Prod.snd hst
        exact this
      have hl2 : 1000 + rows1.length = 1002 := by rw [hrow]; rfl
      refine ⟨by rw [hl2]; decide, {i : Int // 0 ≤ i}, fun i => eqSt i.1 (toksC l) l.length, fun _ => some (.exit 0, [.bool false], [tokRow (toksC l), tokRow (toksC l)]), fun i => ((l.length : Int) - i.1).toNat, ⟨0, Int.le_refl _⟩, .inl hst, rfl, ?_⟩
      rintro ⟨i, hi⟩ o ho
      cases ho
      rw [hl2]
      refine ⟨_, eq_round gl hi hl, ?_⟩
      by_cases h : i < (l.length : Int)
      · rw [if_pos h]
        exact ⟨⟨i + 1, by omega⟩, rfl, by simp only; omega, rfl⟩
      · rw [if_neg h]
    · cases h1
  have key0 : LoopOK Tryd.prog gl fn.ntmps x ⟨eqLive, [4], fun vs' rows' => if (vs', rows') = eqSt0 then some (.ret (.exit 0, [.bool false], [])) else none⟩ := by
    refine loop_of noSy_ok goodT hgl tglob H0_ok (L := 100) (G := 40) (d := 40) (f := 27) (n := 0) (fun vs1 rows1 t1 r1 h1 h2 => ?_) fn body x hf hb hx
    simp only at h1
    split at h1
    · rename_i he
      cases h1
      cases h2
      have hrow : rows1 = [] := by
        have := congrArg Prod.snd he
        exact this
      subst hrow
      refine ⟨show 1000 ≤ most by decide, Unit, fun _ => eqSt0, fun _ => some (.exit 0, [.bool false], []), fun _ => 0, (), .inl he, rfl, ?_⟩
      rintro _ o ho
      cases ho
      exact ⟨_, q_eq0 gl, rfl⟩
    · cases h1
  simp only [eqLH] at h1
  split at h1
  · rename_i i p q n n2 p2 q2 n3 n4 z b cs t1 g1 g2 e1 ds t2 g3 g4 e2
    cases h1
    obtain ⟨c1, h3⟩ := brT h2
    obtain ⟨c2, h4⟩ := brT h3
    simp only [Bool.and_eq_true, decide_eq_true_eq, nbeq, Bool.not_eq_true'] at c1 c2
    obtain ⟨⟨⟨⟨⟨⟨⟨⟨⟨⟨⟨⟨⟨rfl, rfl⟩, rfl⟩, rfl⟩, rfl⟩, rfl⟩, rfl⟩, rfl⟩, rfl⟩, rfl⟩, rfl⟩, rfl⟩, rfl⟩, rfl⟩ := c1
    obtain ⟨l, hl, rfl, rfl, rfl, rfl, rfl, rfl, rfl⟩ := c2
    cases h4
    exact key l hl rfl _ _ (.ret (.exit 0, [.bool false], [tokRow (toksC l), tokRow (toksC l)])) _ _ _ (if_pos rfl) rfl
  · rename_i i o c o2 c2 z b
    cases h1
    obtain ⟨c1, h3⟩ := brT h2
    simp only [Bool.and_eq_true, decide_eq_true_eq, nbeq, Bool.not_eq_true'] at c1
    obtain ⟨⟨⟨⟨⟨⟨rfl, rfl⟩, rfl⟩, rfl⟩, rfl⟩, rfl⟩, rfl⟩ := c1
    cases h3
    exact key0 _ _ (.ret (.exit 0, [.bool false], [])) _ _ _ (if_pos rfl) rfl
  · cases h1
/-! The law. -/
def afW : AF := fun args _ => match args with
  | [] => some (true, .bool true)
  | _ => none
def H13 : Hs := hsOf [(24, afW)] [(25, lnHd), (26, lnHd)] [(27, [(0, ⟨eqLive, [4], eqLH⟩)])]
open Classical in
set_option maxRecDepth 100000 in
theorem q_law (gl : Gl) (s : ByteArray) : ev gl H13 6 [.string s] =
 cond (decide ((↑s.size : Int) > 10000)) (
  some (.bool true)) (
  cond (decide ((↑s.size : Int) > 200)) (
   cond (decide ((↑s.size : Int) > 200)) (
    some (.bool true)) (
    cond ((lineC s).fst.isEmpty) (
     cond (decide ((lineC s).snd.snd = 0)) (
      some (.bool false)) (
      cond (0 == (lineC s).snd.fst) (
       cond (3 == (lineC s).snd.snd) (
        some (.bool true)) (
        some (.bool false))) (
       some (.bool false)))) (
     cond (decide ((lineC s).snd.snd = 0)) (
      cond (List.all (toksC (lineC s).fst) (af 8) && true) (
       cond (0 != (↑(lineC s).fst.length : Int)) (
        some (.bool false)) (
        none)) (
       none)) (
      cond (0 == (lineC s).snd.fst) (
       cond (3 == (lineC s).snd.snd) (
        some (.bool true)) (
        some (.bool false))) (
       some (.bool false)))))) (
   cond ((lineC s).fst.isEmpty) (
    cond (decide ((lineC s).snd.snd = 0)) (
     cond (decide ((↑s.size : Int) > 200)) (
      some (.bool false)) (
      cond ((lineC s).fst.isEmpty) (
       cond (decide ((lineC s).snd.snd = 0)) (
        some (.bool true)) (
        cond (0 == (lineC s).snd.fst) (
         cond (0 == (lineC s).snd.snd) (
          some (.bool true)) (
          some (.bool false))) (
         some (.bool false)))) (
       cond (decide ((lineC s).snd.snd = 0)) (
        cond (List.all (toksC (lineC s).fst) (af 8) && true) (
         cond (0 != (↑(lineC s).fst.length : Int)) (
          some (.bool false)) (
          none)) (
         none)) (
        cond (0 == (lineC s).snd.fst) (
         cond (0 == (lineC s).snd.snd) (
          some (.bool true)) (
          some (.bool false))) (
         some (.bool false)))))) (
     cond (decide ((↑s.size : Int) > 200)) (
      cond ((lineC s).snd.fst == 0) (
       cond ((lineC s).snd.snd == 3) (
        some (.bool true)) (
        some (.bool false))) (
       some (.bool false))) (
      cond ((lineC s).fst.isEmpty) (
       cond (decide ((lineC s).snd.snd = 0)) (
        cond ((lineC s).snd.fst == 0) (
         cond ((lineC s).snd.snd == 0) (
          some (.bool true)) (
          some (.bool false))) (
         some (.bool false))) (
        cond ((lineC s).snd.fst == (lineC s).snd.fst) (
         cond ((lineC s).snd.snd == (lineC s).snd.snd) (
          some (.bool true)) (
          some (.bool false))) (
         some (.bool false)))) (
       cond (decide ((lineC s).snd.snd = 0)) (
        cond (List.all (toksC (lineC s).fst) (af 8) && true) (
         cond (0 != (↑(lineC s).fst.length : Int)) (
          some (.bool false)) (
          none)) (
         none)) (
        cond ((lineC s).snd.fst == (lineC s).snd.fst) (
         cond ((lineC s).snd.snd == (lineC s).snd.snd) (
          some (.bool true)) (
          some (.bool false))) (
         some (.bool false))))))) (
    cond (decide ((lineC s).snd.snd = 0)) (
     cond (List.all (toksC (lineC s).fst) (af 8) && true) (
      cond (decide ((↑s.size : Int) > 200)) (
       cond ((↑(lineC s).fst.length : Int) != 0) (
        some (.bool false)) (
        none)) (
       cond ((lineC s).fst.isEmpty) (
        cond (decide ((lineC s).snd.snd = 0)) (
         cond ((↑(lineC s).fst.length : Int) != 0) (
          some (.bool false)) (
          none)) (
         cond ((↑(lineC s).fst.length : Int) != 0) (
          some (.bool false)) (
          none))) (
        cond (decide ((lineC s).snd.snd = 0)) (
         cond (List.all (toksC (lineC s).fst) (af 8) && true) (
          cond ((↑(lineC s).fst.length : Int) != (↑(lineC s).fst.length : Int)) (
           some (.bool false)) (
           cond (List.all (toksC (lineC s).fst) (af 8) && (List.all (toksC (lineC s).fst) (af 8) && true)) (
            cond (decide   (∃ l,     l.length ≤ 1000 ∧       toksC (lineC s).fst = toksC l ∧         toksC (lineC s).fst = toksC l ∧           (lineC s).fst.length = l.length ∧             (lineC s).fst.length = l.length ∧               (lineC s).fst.length = l.length ∧                 (lineC s).fst.length = l.length ∧ (↑(lineC s).fst.length : Int) = (↑l.length : Int))) (
             cond (List.all (toksC (lineC s).fst) (af 8) && (List.all (toksC (lineC s).fst) (af 8) && true)) (
              some (.bool true)) (
              none)) (
             none)) (
            none))) (
          none)) (
         cond ((↑(lineC s).fst.length : Int) != 0) (
          some (.bool false)) (
          none))))) (
      none)) (
     cond (decide ((↑s.size : Int) > 200)) (
      cond ((lineC s).snd.fst == 0) (
       cond ((lineC s).snd.snd == 3) (
        some (.bool true)) (
        some (.bool false))) (
       some (.bool false))) (
      cond ((lineC s).fst.isEmpty) (
       cond (decide ((lineC s).snd.snd = 0)) (
        cond ((lineC s).snd.fst == 0) (
         cond ((lineC s).snd.snd == 0) (
          some (.bool true)) (
          some (.bool false))) (
         some (.bool false))) (
        cond ((lineC s).snd.fst == (lineC s).snd.fst) (
         cond ((lineC s).snd.snd == (lineC s).snd.snd) (
          some (.bool true)) (
          some (.bool false))) (
         some (.bool false)))) (
       cond (decide ((lineC s).snd.snd = 0)) (
        cond (List.all (toksC (lineC s).fst) (af 8) && true) (
         cond (0 != (↑(lineC s).fst.length : Int)) (
          some (.bool false)) (
          none)) (
         none)) (
        cond ((lineC s).snd.fst == (lineC s).snd.fst) (
         cond ((lineC s).snd.snd == (lineC s).snd.snd) (
          some (.bool true)) (
          some (.bool false))) (
         some (.bool false))))))))) := by kernel_rfl
end Go.Proofs.YtgohnfkidkomhaaDoor

noncomputable section
namespace Go.Proofs.YtgohnfkidkomhaaDoor
open Go.Proofs.YtgohnfkidkomhaaDoor.Ev Go.RowKit

/-! TokenLines: true, whatever the bytes. -/
theorem law_eq (gl : Gl) (s : ByteArray) : ev gl H13 6 [.string s] = some (.bool true) := by
  rw [q_law]
  by_cases h1 : (s.size : Int) > 10000
  · rw [decide_eq_true h1, cond_true]
  · rw [decide_eq_false h1, cond_false]
    by_cases h2 : (s.size : Int) > 200
    · simp only [decide_eq_true h2, cond_true]
    · have hlen := (tokGo_len (s := s) (s.size + 1) 0 [] (Int.le_refl _) (by omega) (by simp)).1
      have hlen : ((lineC s).1.length : Int) ≤ s.size := hlen
      have hex : ∃ l : List Tok, l.length ≤ 1000 ∧ toksC (lineC s).1 = toksC l ∧ toksC (lineC s).1 = toksC l ∧ (lineC s).1.length = l.length ∧ (lineC s).1.length = l.length ∧ (lineC s).1.length = l.length ∧ (lineC s).1.length = l.length ∧ ((lineC s).1.length : Int) = (l.length : Int) :=
        ⟨(lineC s).1, by omega, rfl, rfl, rfl, rfl, rfl, rfl, rfl⟩
      simp only [decide_eq_false h2, cond_false, eq_true hex, decide_true, toksC_all, Bool.and_true, cond_true, bne_self_eq_false, beq_self_eq_true]
      cases (lineC s).1.isEmpty <;> cases decide ((lineC s).2.2 = 0) <;> rfl
set_option maxRecDepth 100000 in
theorem works0 (u0 o0 u1 o1 : Nat) : isT (callF Tryd.prog (glS u0 o0 u1 o1) (fun _ => none) [] 5000 100 40 (.fn 24) [] LS.start) = true := by kernel_rfl
theorem memoW (u0 o0 u1 o1 : Nat) : MemoOK Tryd.prog (glS u0 o0 u1 o1) 24 := memoM_ok goodT (glS_low u0 o0 u1 o1) tglob (fun f hf => by cases hf) (works0 u0 o0 u1 o1)
theorem fnWorks (u0 o0 u1 o1 : Nat) : FnOK Tryd.prog (glS u0 o0 u1 o1) 24 afW := FnOK.flat (glS_low u0 o0 u1 o1) tglob fun args σ v h => by
  unfold afW at h
  split at h
  · cases h
    refine ⟨rfl, rfl, fun w hw => ?_⟩
    obtain ⟨φ, hr⟩ := hw
    exact memoW u0 o0 u1 o1 φ LS.start w hr
  · cases h
theorem H13_ok (u0 o0 u1 o1 : Nat) : H13.OK Tryd.prog (glS u0 o0 u1 o1) := hsOf_ok (fun p hp => by
    simp only [List.mem_cons, List.not_mem_nil, or_false] at hp
    subst hp
    exact fnWorks u0 o0 u1 o1) (fun p hp => by
    simp only [List.mem_cons, List.not_mem_nil, or_false] at hp
    rcases hp with rfl | rfl
    · exact line_sub (u0 := u0) (o0 := o0) (u1 := u1) (o1 := o1) (fun _ _ _ h => h) (glS_low u0 o0 u1 o1)
    · exact lineR_sub (glS_low u0 o0 u1 o1)) (fun p hp q hq => by
    simp only [List.mem_cons, List.not_mem_nil, or_false] at hp
    subst hp
    simp only [List.mem_cons, List.not_mem_nil, or_false] at hq
    subst hq
    exact eq_ok (glS_low u0 o0 u1 o1))
theorem tokenLines_calls (u0 o0 u1 o1 : Nat) (s : ByteArray) {w : World} (hw : Ready Tryd.prog (glS u0 o0 u1 o1) w) : Calls Tryd.prog 6 #[.string s] w (fun e w' => e = .returned (.bool true) ∧ Below w.heap.size w w') :=
  flatS noSy_ok goodT (glS_low u0 o0 u1 o1) tglob (H13_ok u0 o0 u1 o1) rfl (law_eq _ s) hw
end Go.Proofs.YtgohnfkidkomhaaDoor
