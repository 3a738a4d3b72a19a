/- TokenRemarks answers true, of texts of at most 140737488351232 bytes, where the two error values of strconv stand as the program's text lays them. -/
import Derived.Test.YtgohnfkidkomhaaDoorL1
import Derived.Test.YtgohnfkidkomhaaDoorEv6
noncomputable section
noncomputable section
namespace Go.Proofs.YtgohnfkidkomhaaDoor
open Go.Proofs.YtgohnfkidkomhaaDoor.Ev Go.RowKit

/-! TokenRemarks: its loops. -/
def spaces : Nat → ByteArray
  | 0 => ⟨#[]⟩
  | n + 1 => spaces n ++ ⟨#[32]⟩
def blLive : List Nat := [25, 7, 1, 0, 24, 6]
def blOut : List Nat := [7, 1, 0, 6]
def blSt (i : Int) (b r s : ByteArray) (n : Int) : LSt := ([.int .u8 i, .string b, .string r, .string s, .int .u8 n, .bool false], [])
set_option maxRecDepth 100000 in
theorem r_bl (gl : Gl) (i n : Int) (b r s : ByteArray) : rnd gl H0 1000 7 0 blLive blOut (blSt i b r s n) =
 cond (decide (i < n)) (
  cond ((b.size + 1).ble 9223372036854775807) (
   some (.inl ([(.int IntKind.u8 (IntKind.u8.wrap (i + 1))), (.string (b ++ (⟨#[32]⟩ : ByteArray))), (.string (r)), (.string (s)), (.int IntKind.u8 (n)), (.bool false)], []))) (
   none)) (
  some (.inr (.exit 0, ([(.string (b)), (.string (r)), (.string (s)), (.bool false)], [])))) := by kernel_rfl
def syE2 (cs ds : List Value) : Sy := fun i => cond (Nat.beq i 1000) (some (symOf cs)) (cond (Nat.beq i 1001) (some (symOf ds)) none)
theorem syE2_ok {gl : Gl} (cs ds : List Value) : SyOK gl (syE2 cs ds) := fun i S h => by
  unfold syE2 at h
  rw [Bool.cond_eq_ite] at h
  split at h
  · rename_i e
    cases h
    rw [nbeq] at e
    exact ⟨fun _ => symOf_ok cs, fun hl => by omega⟩
  · rw [Bool.cond_eq_ite] at h
    split at h
    · rename_i e
      cases h
      rw [nbeq] at e
      exact ⟨fun _ => symOf_ok ds, fun hl => by omega⟩
    · cases h
def cmLive : List Nat := [86, 8, 7, 84, 85, 6]
def cmOut : List Nat := [6]
def cmSt (i : Int) (b : ByteArray) (cs ds : List Value) (n : Nat) : LSt := ([.int .i64 i, .slice (some ⟨1000, 0, none⟩) n n, .string b, .slice (some ⟨1001, 0, none⟩) n n, .int .i64 (n : Int), .bool false], [tokRow cs, tokRow ds])
def cmSt0 (b : ByteArray) : LSt := ([.int .i64 0, .slice none 0 0, .string b, .slice none 0 0, .int .i64 0, .bool false], [])
set_option maxRecDepth 100000 in
theorem r_cm (gl : Gl) (i : Int) (b : ByteArray) (cs ds : List Value) (n : Nat) : roundK (syE2 cs ds) Tryd.prog gl (fun _ => none) H0 100 40 40 7 1 cmLive (cmSt i b cs ds n) (rndK Tryd.prog 1002 cmLive cmOut) =
 cond (decide (i < (↑n : Int))) (
  cond (decide (0 ≤ i) && (decide (i < (↑n : Int))) && (n.ble n)) (
   cond (sameL ds ds) (
    cond ((symOf ds).okI IntKind.u8 (0 + i.toNat * 4 + 0) && ((symOf ds).okS (0 + i.toNat * 4 + 1) && ((symOf ds).okI IntKind.i64 (0 + i.toNat * 4 + 2) && ((symOf ds).okI IntKind.i64 (0 + i.toNat * 4 + 3) && true)))) (
     cond (decide (0 ≤ i) && (decide (i < (↑n : Int))) && (n.ble n)) (
      cond (sameL cs cs) (
       cond ((symOf cs).okI IntKind.u8 (0 + i.toNat * 4 + 0) && ((symOf cs).okS (0 + i.toNat * 4 + 1) && ((symOf cs).okI IntKind.i64 (0 + i.toNat * 4 + 2) && ((symOf cs).okI IntKind.i64 (0 + i.toNat * 4 + 3) && true)))) (
        cond (!((symOf ds).int IntKind.u8 (0 + i.toNat * 4 + 0) == (symOf cs).int IntKind.u8 (0 + i.toNat * 4 + 0) &&     ((symOf ds).str (0 + i.toNat * 4 + 1) == (symOf cs).str (0 + i.toNat * 4 + 1) &&       ((symOf ds).int IntKind.i64 (0 + i.toNat * 4 + 2) == (symOf cs).int IntKind.i64 (0 + i.toNat * 4 + 2) &&         (IntKind.i64.wrap ((symOf ds).int IntKind.i64 (0 + i.toNat * 4 + 3) - (↑b.size : Int)) ==             (symOf cs).int IntKind.i64 (0 + i.toNat * 4 + 3) &&           true))))) (
         cond (sameL cs cs) (
          cond ((symOf cs).okI IntKind.u8 (0 + i.toNat * 4 + 0) && ((symOf cs).okS (0 + i.toNat * 4 + 1) && ((symOf cs).okI IntKind.i64 (0 + i.toNat * 4 + 2) && ((symOf cs).okI IntKind.i64 (0 + i.toNat * 4 + 3) && true)))) (
           qs [(symOf cs).int IntKind.u8 (0 + i.toNat * 4 + 0)] (
            cond (veq 7 (Value.string ((symOf cs).str (0 + i.toNat * 4 + 1))) (Value.string ((symOf cs).str (0 + i.toNat * 4 + 1)))) (
             qs [(symOf cs).int IntKind.i64 (0 + i.toNat * 4 + (1 + 1)), (symOf cs).int IntKind.i64 (0 + i.toNat * 4 + (1 + 1 + 1)), (symOf ds).int IntKind.u8 (0 + i.toNat * 4 + 0)] (
              cond (veq 7 (Value.string ((symOf ds).str (0 + i.toNat * 4 + 1))) (Value.string ((symOf ds).str (0 + i.toNat * 4 + 1)))) (
               qs [(symOf ds).int IntKind.i64 (0 + i.toNat * 4 + (1 + 1)), IntKind.i64.wrap ((symOf ds).int IntKind.i64 (0 + i.toNat * 4 + (1 + 1 + 1)) - (↑b.size : Int))] (
                cond (List.all cs (af 8) && (List.all ds (af 8) && true)) (
                 some (.inr (.ret, ([(.bool false)], [some (.row ⟨cs, 46, (0, 0), 4, false, false⟩), some (.row ⟨ds, 46, (0, 0), 4, false, false⟩)])))) (
                 none))) (
               none))) (
             none))) (
           none)) (
          none)) (
         cond (sameL cs cs) (
          cond ((symOf cs).okI IntKind.u8 (0 + i.toNat * 4 + 0) && ((symOf cs).okS (0 + i.toNat * 4 + 1) && ((symOf cs).okI IntKind.i64 (0 + i.toNat * 4 + 2) && ((symOf cs).okI IntKind.i64 (0 + i.toNat * 4 + 3) && true)))) (
           qs [(symOf cs).int IntKind.u8 (0 + i.toNat * 4 + 0)] (
            cond (veq 7 (Value.string ((symOf cs).str (0 + i.toNat * 4 + 1))) (Value.string ((symOf cs).str (0 + i.toNat * 4 + 1)))) (
             qs [(symOf cs).int IntKind.i64 (0 + i.toNat * 4 + (1 + 1)), (symOf cs).int IntKind.i64 (0 + i.toNat * 4 + (1 + 1 + 1)), (symOf ds).int IntKind.u8 (0 + i.toNat * 4 + 0)] (
              cond (veq 7 (Value.string ((symOf ds).str (0 + i.toNat * 4 + 1))) (Value.string ((symOf ds).str (0 + i.toNat * 4 + 1)))) (
               qs [(symOf ds).int IntKind.i64 (0 + i.toNat * 4 + (1 + 1)), IntKind.i64.wrap ((symOf ds).int IntKind.i64 (0 + i.toNat * 4 + (1 + 1 + 1)) - (↑b.size : Int))] (
                cond (List.all cs (af 8) && (List.all ds (af 8) && true)) (
                 some (.inl ([(.int IntKind.i64 (IntKind.i64.wrap (i + 1))), (.slice (some ⟨1000, 0, none⟩) (n) (n)), (.string (b)), (.slice (some ⟨1001, 0, none⟩) (n) (n)), (.int IntKind.i64 ((↑n : Int))), (.bool false)], [some (.row ⟨cs, 46, (0, 0), 4, false, false⟩), some (.row ⟨ds, 46, (0, 0), 4, false, false⟩)]))) (
                 none))) (
               none))) (
             none))) (
           none)) (
          none))) (
        none)) (
       none)) (
      none)) (
     none)) (
    none)) (
   none)) (
  cond (List.all cs (af 8) && (List.all ds (af 8) && true)) (
   some (.inr (.exit 2, ([(.bool false)], [some (.row ⟨cs, 46, (0, 0), 4, false, false⟩), some (.row ⟨ds, 46, (0, 0), 4, false, false⟩)])))) (
   none)) := by kernel_rfl
set_option maxRecDepth 100000 in
theorem r_cm0 (gl : Gl) (b : ByteArray) : rnd gl H0 1000 7 1 cmLive cmOut (cmSt0 b) =
 some (.inr (.exit 2, ([(.bool false)], []))) := by kernel_rfl
end Go.Proofs.YtgohnfkidkomhaaDoor

noncomputable section
namespace Go.Proofs.YtgohnfkidkomhaaDoor
open Go.Proofs.YtgohnfkidkomhaaDoor.Ev Go.RowKit

/-! Tokens as a row. -/
theorem sym_tok {l : List Tok} {i : Int} (h0 : 0 ≤ i) (h : i < (l.length : Int)) : ∃ t, l[i.toNat]? = some t ∧
    (symOf (toksC l)).okI .u8 (0 + i.toNat * 4 + 0) = true ∧ (symOf (toksC l)).okS (0 + i.toNat * 4 + 1) = true ∧ (symOf (toksC l)).okI .i64 (0 + i.toNat * 4 + 2) = true ∧ (symOf (toksC l)).okI .i64 (0 + i.toNat * 4 + 3) = true ∧
    (symOf (toksC l)).int .u8 (0 + i.toNat * 4 + 0) = t.kind ∧ (symOf (toksC l)).str (0 + i.toNat * 4 + 1) = t.text ∧ (symOf (toksC l)).int .i64 (0 + i.toNat * 4 + 2) = t.n ∧ (symOf (toksC l)).int .i64 (0 + i.toNat * 4 + 3) = t.at_ := by
  have hi : i.toNat < l.length := by omega
  refine ⟨l[i.toNat], List.getElem?_eq_getElem hi, ?_⟩
  have g : ∀ j, j < 4 → (toksC l)[0 + i.toNat * 4 + j]? = (tokC l[i.toNat])[j]? := fun j hj => by
    rw [Nat.zero_add, toksC_get l _ j hj, List.getElem?_eq_getElem hi]
    rfl
  have k0 : cellIsI .u8 (toksC l)[0 + i.toNat * 4 + 0]? = true := by rw [g 0 (by decide)]; rfl
  have k1 : cellIsS (toksC l)[0 + i.toNat * 4 + 1]? = true := by rw [g 1 (by decide)]; rfl
  have k2 : cellIsI .i64 (toksC l)[0 + i.toNat * 4 + 2]? = true := by rw [g 2 (by decide)]; rfl
  have k3 : cellIsI .i64 (toksC l)[0 + i.toNat * 4 + 3]? = true := by rw [g 3 (by decide)]; rfl
  have v0 : cellI (toksC l)[0 + i.toNat * 4 + 0]? = l[i.toNat].kind := by rw [g 0 (by decide)]; rfl
  have v1 : cellS (toksC l)[0 + i.toNat * 4 + 1]? = l[i.toNat].text := by rw [g 1 (by decide)]; rfl
  have v2 : cellI (toksC l)[0 + i.toNat * 4 + 2]? = l[i.toNat].n := by rw [g 2 (by decide)]; rfl
  have v3 : cellI (toksC l)[0 + i.toNat * 4 + 3]? = l[i.toNat].at_ := by rw [g 3 (by decide)]; rfl
  exact ⟨k0, k1, k2, k3, v0, v1, v2, v3⟩
/-- Where tokens are. -/
def AtIn (s : ByteArray) (l : List Tok) : Prop := ∀ t ∈ l, 0 ≤ t.at_ ∧ t.at_ < (s.size : Int)
theorem tokS_at {s : ByteArray} {a : Int} {t : Tok} {k : Int} (h : tokS s a = .tok t k) : t.at_ = a ∧ a < (s.size : Int) := by
  unfold tokS at h
  by_cases hl : a < (s.size : Int)
  case neg => rw [if_neg hl] at h; cases h
  rw [if_pos hl] at h
  refine ⟨?_, hl⟩
  repeat' (split at h)
  all_goals first | (cases h; done) | (cases h; rfl)
theorem tokGo_at {s : ByteArray} : ∀ (f : Nat) (a : Int) (l : List Tok), 0 ≤ a → AtIn s l → AtIn s (tokGo s f a l).1
  | 0, a, l, h0, hl => hl
  | f + 1, a, l, h0, hl => by
    have hadv := tokS_adv (s := s) h0
    unfold tokGo
    cases hq : tokS s a with
    | stop => exact hl
    | err e => exact hl
    | skip => exact tokGo_at f (a + 1) l (by omega) hl
    | tok t k =>
      rw [hq] at hadv
      have hadv : 1 ≤ k ∧ a + k ≤ (s.size : Int) := hadv
      refine tokGo_at f (a + k) (l ++ [t]) (by omega) fun u hu => ?_
      rcases List.mem_append.1 hu with hu | hu
      · exact hl u hu
      · simp only [List.mem_cons, List.not_mem_nil, or_false] at hu
        subst hu
        obtain ⟨h1, h2⟩ := tokS_at hq
        omega
theorem line_at (s : ByteArray) : AtIn s (lineC s).1 := tokGo_at _ 0 [] (Int.le_refl _) fun t h => by cases h
theorem line_len (s : ByteArray) : ((lineC s).1.length : Int) ≤ s.size ∧ 0 ≤ (lineC s).2.1 ∧ (lineC s).2.1 ≤ (s.size : Int) := tokGo_len (s := s) (s.size + 1) 0 [] (Int.le_refl _) (by omega) (by simp)

/-! The loops. -/
theorem spaces_size : ∀ n : Nat, (spaces n).size = n
  | 0 => rfl
  | n + 1 => by
    show (spaces n ++ ⟨#[32]⟩).size = _
    rw [ByteArray.size_append, spaces_size n]
    rfl
theorem spaces_at : ∀ (n : Nat) (i : Int), 0 ≤ i → i < (n : Int) → byteAt (spaces n) i = 32
  | 0, i, h0, h1 => by omega
  | n + 1, i, h0, h1 => by
    have z := spaces_size n
    have z1 : (((⟨#[32]⟩ : ByteArray).size : Nat) : Int) = 1 := rfl
    show byteAt (spaces n ++ ⟨#[32]⟩) i = 32
    rcases Int.lt_or_le i (n : Int) with h | h
    · rw [byteAt_l h0 (by omega)]
      exact spaces_at n i h0 h
    · rw [byteAt_r (by omega) (by omega), show i - ((spaces n).size : Int) = 0 by omega]
      rfl
def blG (i : Int) (b : ByteArray) (n : Int) (z : Bool) : Prop := i = 0 ∧ b = ⟨#[]⟩ ∧ 0 ≤ n ∧ n < 8 ∧ z = false
def blH : Hd := fun vs rows => match vs, rows with
  | [.int .u8 i, .string b, .string r, .string s, .int .u8 n, .bool z], [] => some (.br (cl (blG i b n z)) (.ret (.exit 0, [.string (spaces n.toNat), .string r, .string s, .bool false], [])) .fail)
  | _, _ => none
theorem bl_ok {gl : Gl} (hgl : ∀ g k v, gl g k = some v → g < 1000 ∧ lowV 8 v = true) : LpOK Tryd.prog gl 7 0 ⟨blLive, blOut, blH⟩ := loop_of noSy_ok goodT hgl tglob H0_ok (L := 100) (G := 40) (d := 40) fun vs rows t r h1 h2 => by
  simp only [blH] at h1
  split at h1
  · rename_i i b rr s n z
    cases h1
    obtain ⟨hg, h3⟩ := brT h2
    obtain ⟨rfl, rfl, n0, n8, rfl⟩ := of_cl hg
    cases h3
    refine ⟨show 1000 ≤ most by decide, {i : Int // 0 ≤ i ∧ i ≤ n}, fun i => blSt i.1 (spaces i.1.toNat) rr s n, fun _ => some (.exit 0, [.string (spaces n.toNat), .string rr, .string s, .bool false], []), fun i => (n - i.1).toNat, ⟨0, Int.le_refl _, n0⟩, .inl rfl, rfl, ?_⟩
    rintro ⟨i, i0, i1⟩ o ho
    cases ho
    by_cases h : i < n
    · have z : Nat.ble ((spaces i.toNat).size + 1) 9223372036854775807 = true := Nat.ble_eq_true_of_le (by rw [spaces_size]; omega)
      have e : (i + 1).toNat = i.toNat + 1 := by omega
      have w : IntKind.u8.wrap (i + 1) = i + 1 := wrap8_id _ (by omega)
      refine ⟨.inl (blSt (i + 1) (spaces (i + 1).toNat) rr s n), ?_, ⟨i + 1, by omega, by omega⟩, rfl, by simp only; omega, rfl⟩
      refine (r_bl gl i n (spaces i.toNat) rr s).trans ?_
      rw [decide_eq_true h, z, w, e]
      rfl
    · have e : i = n := by omega
      subst e
      refine ⟨_, (r_bl gl i i (spaces i.toNat) rr s).trans (by rw [decide_eq_false h]; rfl), rfl⟩
  · cases h1
def cmG (vs : List Value) (rows : List (Option LObj)) : Prop :=
  (∃ (l : List Tok) (b : ByteArray), l.length ≤ 1000 ∧ b.size ≤ 1000 ∧ (∀ t ∈ l, 0 ≤ t.at_ ∧ t.at_ ≤ 1000) ∧ (vs, rows) = cmSt 0 b (toksC l) (toksC (l.map (shT b.size))) l.length) ∨ (∃ b : ByteArray, (vs, rows) = cmSt0 b)
def cmH : Hd := fun vs rows => some (.br (cl (cmG vs rows)) (.ret (.exit 2, [.bool false], rows)) .fail)
theorem cm_round (gl : Gl) {l : List Tok} {i : Int} {b : ByteArray} (h0 : 0 ≤ i) (hl : l.length ≤ 1000) (hb : b.size ≤ 1000) (hat : ∀ t ∈ l, 0 ≤ t.at_ ∧ t.at_ ≤ 1000) :
    roundK (syE2 (toksC l) (toksC (l.map (shT b.size)))) Tryd.prog gl (fun _ => none) H0 100 40 40 7 1 cmLive (cmSt i b (toksC l) (toksC (l.map (shT b.size))) l.length) (rndK Tryd.prog 1002 cmLive cmOut) =
      some (if i < (l.length : Int) then .inl (cmSt (i + 1) b (toksC l) (toksC (l.map (shT b.size))) l.length) else .inr (.exit 2, [.bool false], [tokRow (toksC l), tokRow (toksC (l.map (shT b.size)))])) := by
  rw [r_cm]
  by_cases h : i < (l.length : Int)
  · obtain ⟨t, ht, a0, a1, a2, a3, b0, b1, b2, b3⟩ := sym_tok h0 h
    obtain ⟨u, hu, c0, c1, c2, c3, d0, d1, d2, d3⟩ := sym_tok (l := l.map (shT b.size)) h0 (by rw [List.length_map]; exact h)
    rw [List.getElem?_map, ht] at hu
    cases hu
    have hh := hat t (List.mem_of_getElem? ht)
    have w : IntKind.i64.wrap (i + 1) = i + 1 := wrap_id _ (by omega)
    have w2 : IntKind.i64.wrap (t.at_ + (b.size : Int) - (b.size : Int)) = t.at_ := by rw [wrap_id _ (by omega)]; omega
    rw [if_pos h]
    simp only [h, h0, decide_true, Bool.and_self, cond_true, cond_false, ble_self, sameL_self, a0, a1, a2, a3, b0, b1, b2, b3, c0, c1, c2, c3, d0, d1, d2, d3, shT, w2, beq_self_eq_true, ba_beq, Bool.not_true, qs_eq, veq7_str, toksC_all, w]
    rfl
  · rw [if_neg h, decide_eq_false h, cond_false]
    simp only [toksC_all, Bool.and_self, cond_true]
    rfl
theorem cm_ok {gl : Gl} (hgl : ∀ g k v, gl g k = some v → g < 1000 ∧ lowV 8 v = true) : LpOK Tryd.prog gl 7 1 ⟨cmLive, cmOut, cmH⟩ := loop_ofS goodT hgl tglob H0_ok (L := 100) (G := 40) (d := 40) fun vs rows t r h1 h2 => by
  simp only [cmH] at h1
  cases h1
  obtain ⟨hg, h3⟩ := brT h2
  rcases of_cl hg with ⟨l, b, hl, hb, hat, he⟩ | ⟨b, he⟩
  · cases he
    cases h3
    refine ⟨show 1002 ≤ most by decide, _, syE2_ok (toksC l) (toksC (l.map (shT b.size))), {i : Int // 0 ≤ i}, fun i => cmSt i.1 b (toksC l) (toksC (l.map (shT b.size))) l.length, fun _ => some (.exit 2, [.bool false], [tokRow (toksC l), tokRow (toksC (l.map (shT b.size)))]), fun i => ((l.length : Int) - i.1).toNat, ⟨0, Int.le_refl _⟩, .inl rfl, rfl, ?_⟩
    rintro ⟨i, hi⟩ o ho
    cases ho
    refine ⟨_, cm_round gl hi hl hb hat, ?_⟩
    by_cases h : i < (l.length : Int)
    · rw [if_pos h]
      exact ⟨⟨i + 1, by omega⟩, rfl, by simp only; omega, rfl⟩
    · rw [if_neg h]
  · cases he
    cases h3
    refine ⟨show 1000 ≤ most by decide, _, noSy_ok, Unit, fun _ => cmSt0 b, fun _ => some (.exit 2, [.bool false], []), fun _ => 0, (), .inl rfl, rfl, ?_⟩
    rintro ⟨⟩ o ho
    cases ho
    exact ⟨_, r_cm0 gl b, rfl⟩
def H20 : Hs := hsOf [(24, afW)] [(25, lnHd)] [(7, [(0, ⟨blLive, blOut, blH⟩), (1, ⟨cmLive, cmOut, cmH⟩)])]
set_option maxRecDepth 100000 in
theorem r_rem (gl : Gl) (s r : ByteArray) (n : Int) : ev gl H20 7 [.string s, .string r, .int .u8 n] =
 cond (decide (IntKind.i64.wrap ((↑s.size : Int) + (↑r.size : Int)) > 10000)) (
  some (.bool true)) (
  cond (cl (blG 0 (⟨#[]⟩ : ByteArray) (n.tmod 8) false)) (
   cond (decide ((↑s.size : Int) > 200)) (
    cond (((spaces (n.tmod 8).toNat).size + s.size).ble 9223372036854775807) (
     cond (((spaces (n.tmod 8).toNat ++ s).size + 2).ble 9223372036854775807) (
      cond (((spaces (n.tmod 8).toNat ++ s ++ (⟨#[9, 35]⟩ : ByteArray)).size + r.size).ble 9223372036854775807) (
       cond (decide ((↑(spaces (n.tmod 8).toNat ++ s ++ (⟨#[9, 35]⟩ : ByteArray) ++ r).size : Int) > 200)) (
        cond (decide   (IntKind.i64.wrap       (IntKind.i64.wrap (IntKind.i64.wrap ((↑s.size : Int) + (↑(spaces (n.tmod 8).toNat).size : Int)) + 2) +         (↑r.size : Int)) >     200)) (
         some (.bool true)) (
         cond (0 != IntKind.i64.wrap (0 + (↑(spaces (n.tmod 8).toNat).size : Int))) (
          some (.bool false)) (
          cond (cl   (cmG     [Value.int IntKind.i64 0, Value.slice none 0 0, Value.string (spaces (n.tmod 8).toNat), Value.slice none 0 0,       goInt 0, Value.bool false]     [])) (
           some (.bool true)) (
           none)))) (
        cond ((lineC (spaces (n.tmod 8).toNat ++ s ++ (⟨#[9, 35]⟩ : ByteArray) ++ r)).fst.isEmpty) (
         cond (decide ((lineC (spaces (n.tmod 8).toNat ++ s ++ (⟨#[9, 35]⟩ : ByteArray) ++ r)).snd.snd = 0)) (
          cond (decide   (IntKind.i64.wrap       (IntKind.i64.wrap (IntKind.i64.wrap ((↑s.size : Int) + (↑(spaces (n.tmod 8).toNat).size : Int)) + 2) +         (↑r.size : Int)) >     200)) (
           some (.bool false)) (
           some (.bool false))) (
          cond (decide   (IntKind.i64.wrap       (IntKind.i64.wrap (IntKind.i64.wrap ((↑s.size : Int) + (↑(spaces (n.tmod 8).toNat).size : Int)) + 2) +         (↑r.size : Int)) >     200)) (
           cond ((lineC (spaces (n.tmod 8).toNat ++ s ++ (⟨#[9, 35]⟩ : ByteArray) ++ r)).snd.snd == 3) (
            some (.bool true)) (
            some (.bool false))) (
           cond (3 != (lineC (spaces (n.tmod 8).toNat ++ s ++ (⟨#[9, 35]⟩ : ByteArray) ++ r)).snd.snd) (
            some (.bool false)) (
            cond ((lineC (spaces (n.tmod 8).toNat ++ s ++ (⟨#[9, 35]⟩ : ByteArray) ++ r)).snd.fst !=   IntKind.i64.wrap (0 + (↑(spaces (n.tmod 8).toNat).size : Int))) (
             some (.bool false)) (
             cond (cl   (cmG     [Value.int IntKind.i64 0, Value.slice none 0 0, Value.string (spaces (n.tmod 8).toNat), Value.slice none 0 0,       goInt 0, Value.bool false]     [])) (
              some (.bool true)) (
              none)))))) (
         cond (decide ((lineC (spaces (n.tmod 8).toNat ++ s ++ (⟨#[9, 35]⟩ : ByteArray) ++ r)).snd.snd = 0)) (
          cond (List.all (toksC (lineC (spaces (n.tmod 8).toNat ++ s ++ (⟨#[9, 35]⟩ : ByteArray) ++ r)).fst) (af 8) && true) (
           cond (decide   (IntKind.i64.wrap       (IntKind.i64.wrap (IntKind.i64.wrap ((↑s.size : Int) + (↑(spaces (n.tmod 8).toNat).size : Int)) + 2) +         (↑r.size : Int)) >     200)) (
            some (.bool false)) (
            some (.bool false))) (
           none)) (
          cond (decide   (IntKind.i64.wrap       (IntKind.i64.wrap (IntKind.i64.wrap ((↑s.size : Int) + (↑(spaces (n.tmod 8).toNat).size : Int)) + 2) +         (↑r.size : Int)) >     200)) (
           cond ((lineC (spaces (n.tmod 8).toNat ++ s ++ (⟨#[9, 35]⟩ : ByteArray) ++ r)).snd.snd == 3) (
            some (.bool true)) (
            some (.bool false))) (
           cond (3 != (lineC (spaces (n.tmod 8).toNat ++ s ++ (⟨#[9, 35]⟩ : ByteArray) ++ r)).snd.snd) (
            some (.bool false)) (
            cond ((lineC (spaces (n.tmod 8).toNat ++ s ++ (⟨#[9, 35]⟩ : ByteArray) ++ r)).snd.fst !=   IntKind.i64.wrap (0 + (↑(spaces (n.tmod 8).toNat).size : Int))) (
             some (.bool false)) (
             cond (cl   (cmG     [Value.int IntKind.i64 0, Value.slice none 0 0, Value.string (spaces (n.tmod 8).toNat), Value.slice none 0 0,       goInt 0, Value.bool false]     [])) (
              some (.bool true)) (
              none)))))))) (
       none)) (
      none)) (
     none)) (
    cond ((lineC s).fst.isEmpty) (
     cond (decide ((lineC s).snd.snd = 0)) (
      cond (((spaces (n.tmod 8).toNat).size + s.size).ble 9223372036854775807) (
       cond (((spaces (n.tmod 8).toNat ++ s).size + 2).ble 9223372036854775807) (
        cond (((spaces (n.tmod 8).toNat ++ s ++ (⟨#[9, 35]⟩ : ByteArray)).size + r.size).ble 9223372036854775807) (
         cond (decide ((↑(spaces (n.tmod 8).toNat ++ s ++ (⟨#[9, 35]⟩ : ByteArray) ++ r).size : Int) > 200)) (
          cond (decide   (IntKind.i64.wrap       (IntKind.i64.wrap (IntKind.i64.wrap ((↑s.size : Int) + (↑(spaces (n.tmod 8).toNat).size : Int)) + 2) +         (↑r.size : Int)) >     200)) (
           some (.bool true)) (
           some (.bool false))) (
          cond ((lineC (spaces (n.tmod 8).toNat ++ s ++ (⟨#[9, 35]⟩ : ByteArray) ++ r)).fst.isEmpty) (
           cond (decide ((lineC (spaces (n.tmod 8).toNat ++ s ++ (⟨#[9, 35]⟩ : ByteArray) ++ r)).snd.snd = 0)) (
            cond (decide   (IntKind.i64.wrap       (IntKind.i64.wrap (IntKind.i64.wrap ((↑s.size : Int) + (↑(spaces (n.tmod 8).toNat).size : Int)) + 2) +         (↑r.size : Int)) >     200)) (
             some (.bool false)) (
             cond (cl   (cmG     [Value.int IntKind.i64 0, Value.slice none 0 0, Value.string (spaces (n.tmod 8).toNat), Value.slice none 0 0,       goInt 0, Value.bool false]     [])) (
              some (.bool true)) (
              none))) (
            cond (decide   (IntKind.i64.wrap       (IntKind.i64.wrap (IntKind.i64.wrap ((↑s.size : Int) + (↑(spaces (n.tmod 8).toNat).size : Int)) + 2) +         (↑r.size : Int)) >     200)) (
             cond ((lineC (spaces (n.tmod 8).toNat ++ s ++ (⟨#[9, 35]⟩ : ByteArray) ++ r)).snd.snd == 3) (
              some (.bool true)) (
              some (.bool false))) (
             cond (0 != (lineC (spaces (n.tmod 8).toNat ++ s ++ (⟨#[9, 35]⟩ : ByteArray) ++ r)).snd.snd) (
              some (.bool false)) (
              cond (cl   (cmG     [Value.int IntKind.i64 0, Value.slice none 0 0, Value.string (spaces (n.tmod 8).toNat), Value.slice none 0 0,       goInt 0, Value.bool false]     [])) (
               some (.bool true)) (
               none))))) (
           cond (decide ((lineC (spaces (n.tmod 8).toNat ++ s ++ (⟨#[9, 35]⟩ : ByteArray) ++ r)).snd.snd = 0)) (
            cond (List.all (toksC (lineC (spaces (n.tmod 8).toNat ++ s ++ (⟨#[9, 35]⟩ : ByteArray) ++ r)).fst) (af 8) && true) (
             cond (decide   (IntKind.i64.wrap       (IntKind.i64.wrap (IntKind.i64.wrap ((↑s.size : Int) + (↑(spaces (n.tmod 8).toNat).size : Int)) + 2) +         (↑r.size : Int)) >     200)) (
              some (.bool false)) (
              cond (0 != (↑(lineC (spaces (n.tmod 8).toNat ++ s ++ (⟨#[9, 35]⟩ : ByteArray) ++ r)).fst.length : Int)) (
               some (.bool false)) (
               cond (List.all (toksC (lineC (spaces (n.tmod 8).toNat ++ s ++ (⟨#[9, 35]⟩ : ByteArray) ++ r)).fst) (af 8) && true) (
                cond (cl   (cmG     [Value.int IntKind.i64 0, Value.slice none 0 0, Value.string (spaces (n.tmod 8).toNat),       Value.slice (some (⟨1000, 0, none⟩ : Addr))         (lineC (spaces (n.tmod 8).toNat ++ s ++ (⟨#[9, 35]⟩ : ByteArray) ++ r)).fst.length         (lineC (spaces (n.tmod 8).toNat ++ s ++ (⟨#[9, 35]⟩ : ByteArray) ++ r)).fst.length,       goInt (↑(lineC (spaces (n.tmod 8).toNat ++ s ++ (⟨#[9, 35]⟩ : ByteArray) ++ r)).fst.length : Int), Value.bool false]     [some         (LObj.row           { cells := toksC (lineC (spaces (n.tmod 8).toNat ++ s ++ (⟨#[9, 35]⟩ : ByteArray) ++ r)).fst, elem := 46,             fz := (0, 0), esz := 4, ro := false, tail := false })])) (
                 cond (List.all (toksC (lineC (spaces (n.tmod 8).toNat ++ s ++ (⟨#[9, 35]⟩ : ByteArray) ++ r)).fst) (af 8) && true) (
                  some (.bool true)) (
                  none)) (
                 none)) (
                none)))) (
             none)) (
            cond (decide   (IntKind.i64.wrap       (IntKind.i64.wrap (IntKind.i64.wrap ((↑s.size : Int) + (↑(spaces (n.tmod 8).toNat).size : Int)) + 2) +         (↑r.size : Int)) >     200)) (
             cond ((lineC (spaces (n.tmod 8).toNat ++ s ++ (⟨#[9, 35]⟩ : ByteArray) ++ r)).snd.snd == 3) (
              some (.bool true)) (
              some (.bool false))) (
             cond (0 != (lineC (spaces (n.tmod 8).toNat ++ s ++ (⟨#[9, 35]⟩ : ByteArray) ++ r)).snd.snd) (
              some (.bool false)) (
              cond (cl   (cmG     [Value.int IntKind.i64 0, Value.slice none 0 0, Value.string (spaces (n.tmod 8).toNat), Value.slice none 0 0,       goInt 0, Value.bool false]     [])) (
               some (.bool true)) (
               none))))))) (
         none)) (
        none)) (
       none)) (
      cond (((spaces (n.tmod 8).toNat).size + s.size).ble 9223372036854775807) (
       cond (((spaces (n.tmod 8).toNat ++ s).size + 2).ble 9223372036854775807) (
        cond (((spaces (n.tmod 8).toNat ++ s ++ (⟨#[9, 35]⟩ : ByteArray)).size + r.size).ble 9223372036854775807) (
         cond (decide ((↑(spaces (n.tmod 8).toNat ++ s ++ (⟨#[9, 35]⟩ : ByteArray) ++ r).size : Int) > 200)) (
          cond (decide   (IntKind.i64.wrap       (IntKind.i64.wrap (IntKind.i64.wrap ((↑s.size : Int) + (↑(spaces (n.tmod 8).toNat).size : Int)) + 2) +         (↑r.size : Int)) >     200)) (
           some (.bool true)) (
           cond ((lineC s).snd.snd != 3) (
            some (.bool false)) (
            cond ((lineC s).snd.snd != 0) (
             cond (0 != IntKind.i64.wrap ((lineC s).snd.fst + (↑(spaces (n.tmod 8).toNat).size : Int))) (
              some (.bool false)) (
              cond (cl   (cmG     [Value.int IntKind.i64 0, Value.slice none 0 0, Value.string (spaces (n.tmod 8).toNat), Value.slice none 0 0,       goInt 0, Value.bool false]     [])) (
               some (.bool true)) (
               none))) (
             cond (cl   (cmG     [Value.int IntKind.i64 0, Value.slice none 0 0, Value.string (spaces (n.tmod 8).toNat), Value.slice none 0 0,       goInt 0, Value.bool false]     [])) (
              some (.bool true)) (
              none))))) (
          cond ((lineC (spaces (n.tmod 8).toNat ++ s ++ (⟨#[9, 35]⟩ : ByteArray) ++ r)).fst.isEmpty) (
           cond (decide ((lineC (spaces (n.tmod 8).toNat ++ s ++ (⟨#[9, 35]⟩ : ByteArray) ++ r)).snd.snd = 0)) (
            cond (decide   (IntKind.i64.wrap       (IntKind.i64.wrap (IntKind.i64.wrap ((↑s.size : Int) + (↑(spaces (n.tmod 8).toNat).size : Int)) + 2) +         (↑r.size : Int)) >     200)) (
             some (.bool false)) (
             cond ((lineC s).snd.snd != 0) (
              some (.bool false)) (
              cond ((lineC s).snd.snd != 0) (
               cond (0 != IntKind.i64.wrap ((lineC s).snd.fst + (↑(spaces (n.tmod 8).toNat).size : Int))) (
                some (.bool false)) (
                cond (cl   (cmG     [Value.int IntKind.i64 0, Value.slice none 0 0, Value.string (spaces (n.tmod 8).toNat), Value.slice none 0 0,       goInt 0, Value.bool false]     [])) (
                 some (.bool true)) (
                 none))) (
               cond (cl   (cmG     [Value.int IntKind.i64 0, Value.slice none 0 0, Value.string (spaces (n.tmod 8).toNat), Value.slice none 0 0,       goInt 0, Value.bool false]     [])) (
                some (.bool true)) (
                none))))) (
            cond (decide   (IntKind.i64.wrap       (IntKind.i64.wrap (IntKind.i64.wrap ((↑s.size : Int) + (↑(spaces (n.tmod 8).toNat).size : Int)) + 2) +         (↑r.size : Int)) >     200)) (
             cond ((lineC (spaces (n.tmod 8).toNat ++ s ++ (⟨#[9, 35]⟩ : ByteArray) ++ r)).snd.snd == 3) (
              some (.bool true)) (
              some (.bool false))) (
             cond ((lineC s).snd.snd != (lineC (spaces (n.tmod 8).toNat ++ s ++ (⟨#[9, 35]⟩ : ByteArray) ++ r)).snd.snd) (
              some (.bool false)) (
              cond ((lineC s).snd.snd != 0) (
               cond ((lineC (spaces (n.tmod 8).toNat ++ s ++ (⟨#[9, 35]⟩ : ByteArray) ++ r)).snd.fst !=   IntKind.i64.wrap ((lineC s).snd.fst + (↑(spaces (n.tmod 8).toNat).size : Int))) (
                some (.bool false)) (
                cond (cl   (cmG     [Value.int IntKind.i64 0, Value.slice none 0 0, Value.string (spaces (n.tmod 8).toNat), Value.slice none 0 0,       goInt 0, Value.bool false]     [])) (
                 some (.bool true)) (
                 none))) (
               cond (cl   (cmG     [Value.int IntKind.i64 0, Value.slice none 0 0, Value.string (spaces (n.tmod 8).toNat), Value.slice none 0 0,       goInt 0, Value.bool false]     [])) (
                some (.bool true)) (
                none)))))) (
           cond (decide ((lineC (spaces (n.tmod 8).toNat ++ s ++ (⟨#[9, 35]⟩ : ByteArray) ++ r)).snd.snd = 0)) (
            cond (List.all (toksC (lineC (spaces (n.tmod 8).toNat ++ s ++ (⟨#[9, 35]⟩ : ByteArray) ++ r)).fst) (af 8) && true) (
             cond (decide   (IntKind.i64.wrap       (IntKind.i64.wrap (IntKind.i64.wrap ((↑s.size : Int) + (↑(spaces (n.tmod 8).toNat).size : Int)) + 2) +         (↑r.size : Int)) >     200)) (
              some (.bool false)) (
              cond ((lineC s).snd.snd != 0) (
               some (.bool false)) (
               cond (0 != (↑(lineC (spaces (n.tmod 8).toNat ++ s ++ (⟨#[9, 35]⟩ : ByteArray) ++ r)).fst.length : Int)) (
                some (.bool false)) (
                cond ((lineC s).snd.snd != 0) (
                 cond (0 != IntKind.i64.wrap ((lineC s).snd.fst + (↑(spaces (n.tmod 8).toNat).size : Int))) (
                  some (.bool false)) (
                  cond (List.all (toksC (lineC (spaces (n.tmod 8).toNat ++ s ++ (⟨#[9, 35]⟩ : ByteArray) ++ r)).fst) (af 8) && true) (
                   cond (cl   (cmG     [Value.int IntKind.i64 0, Value.slice none 0 0, Value.string (spaces (n.tmod 8).toNat),       Value.slice (some (⟨1000, 0, none⟩ : Addr))         (lineC (spaces (n.tmod 8).toNat ++ s ++ (⟨#[9, 35]⟩ : ByteArray) ++ r)).fst.length         (lineC (spaces (n.tmod 8).toNat ++ s ++ (⟨#[9, 35]⟩ : ByteArray) ++ r)).fst.length,       goInt (↑(lineC (spaces (n.tmod 8).toNat ++ s ++ (⟨#[9, 35]⟩ : ByteArray) ++ r)).fst.length : Int), Value.bool false]     [some         (LObj.row           { cells := toksC (lineC (spaces (n.tmod 8).toNat ++ s ++ (⟨#[9, 35]⟩ : ByteArray) ++ r)).fst, elem := 46,             fz := (0, 0), esz := 4, ro := false, tail := false })])) (
                    cond (List.all (toksC (lineC (spaces (n.tmod 8).toNat ++ s ++ (⟨#[9, 35]⟩ : ByteArray) ++ r)).fst) (af 8) && true) (
                     some (.bool true)) (
                     none)) (
                    none)) (
                   none))) (
                 cond (List.all (toksC (lineC (spaces (n.tmod 8).toNat ++ s ++ (⟨#[9, 35]⟩ : ByteArray) ++ r)).fst) (af 8) && true) (
                  cond (cl   (cmG     [Value.int IntKind.i64 0, Value.slice none 0 0, Value.string (spaces (n.tmod 8).toNat),       Value.slice (some (⟨1000, 0, none⟩ : Addr))         (lineC (spaces (n.tmod 8).toNat ++ s ++ (⟨#[9, 35]⟩ : ByteArray) ++ r)).fst.length         (lineC (spaces (n.tmod 8).toNat ++ s ++ (⟨#[9, 35]⟩ : ByteArray) ++ r)).fst.length,       goInt (↑(lineC (spaces (n.tmod 8).toNat ++ s ++ (⟨#[9, 35]⟩ : ByteArray) ++ r)).fst.length : Int), Value.bool false]     [some         (LObj.row           { cells := toksC (lineC (spaces (n.tmod 8).toNat ++ s ++ (⟨#[9, 35]⟩ : ByteArray) ++ r)).fst, elem := 46,             fz := (0, 0), esz := 4, ro := false, tail := false })])) (
                   cond (List.all (toksC (lineC (spaces (n.tmod 8).toNat ++ s ++ (⟨#[9, 35]⟩ : ByteArray) ++ r)).fst) (af 8) && true) (
                    some (.bool true)) (
                    none)) (
                   none)) (
                  none)))))) (
             none)) (
            cond (decide   (IntKind.i64.wrap       (IntKind.i64.wrap (IntKind.i64.wrap ((↑s.size : Int) + (↑(spaces (n.tmod 8).toNat).size : Int)) + 2) +         (↑r.size : Int)) >     200)) (
             cond ((lineC (spaces (n.tmod 8).toNat ++ s ++ (⟨#[9, 35]⟩ : ByteArray) ++ r)).snd.snd == 3) (
              some (.bool true)) (
              some (.bool false))) (
             cond ((lineC s).snd.snd != (lineC (spaces (n.tmod 8).toNat ++ s ++ (⟨#[9, 35]⟩ : ByteArray) ++ r)).snd.snd) (
              some (.bool false)) (
              cond ((lineC s).snd.snd != 0) (
               cond ((lineC (spaces (n.tmod 8).toNat ++ s ++ (⟨#[9, 35]⟩ : ByteArray) ++ r)).snd.fst !=   IntKind.i64.wrap ((lineC s).snd.fst + (↑(spaces (n.tmod 8).toNat).size : Int))) (
                some (.bool false)) (
                cond (cl   (cmG     [Value.int IntKind.i64 0, Value.slice none 0 0, Value.string (spaces (n.tmod 8).toNat), Value.slice none 0 0,       goInt 0, Value.bool false]     [])) (
                 some (.bool true)) (
                 none))) (
               cond (cl   (cmG     [Value.int IntKind.i64 0, Value.slice none 0 0, Value.string (spaces (n.tmod 8).toNat), Value.slice none 0 0,       goInt 0, Value.bool false]     [])) (
                some (.bool true)) (
                none)))))))) (
         none)) (
        none)) (
       none))) (
     cond (decide ((lineC s).snd.snd = 0)) (
      cond (List.all (toksC (lineC s).fst) (af 8) && true) (
       cond (((spaces (n.tmod 8).toNat).size + s.size).ble 9223372036854775807) (
        cond (((spaces (n.tmod 8).toNat ++ s).size + 2).ble 9223372036854775807) (
         cond (((spaces (n.tmod 8).toNat ++ s ++ (⟨#[9, 35]⟩ : ByteArray)).size + r.size).ble 9223372036854775807) (
          cond (decide ((↑(spaces (n.tmod 8).toNat ++ s ++ (⟨#[9, 35]⟩ : ByteArray) ++ r).size : Int) > 200)) (
           cond (decide   (IntKind.i64.wrap       (IntKind.i64.wrap (IntKind.i64.wrap ((↑s.size : Int) + (↑(spaces (n.tmod 8).toNat).size : Int)) + 2) +         (↑r.size : Int)) >     200)) (
            some (.bool true)) (
            some (.bool false))) (
           cond ((lineC (spaces (n.tmod 8).toNat ++ s ++ (⟨#[9, 35]⟩ : ByteArray) ++ r)).fst.isEmpty) (
            cond (decide ((lineC (spaces (n.tmod 8).toNat ++ s ++ (⟨#[9, 35]⟩ : ByteArray) ++ r)).snd.snd = 0)) (
             cond (decide   (IntKind.i64.wrap       (IntKind.i64.wrap (IntKind.i64.wrap ((↑s.size : Int) + (↑(spaces (n.tmod 8).toNat).size : Int)) + 2) +         (↑r.size : Int)) >     200)) (
              some (.bool false)) (
              cond ((↑(lineC s).fst.length : Int) != 0) (
               some (.bool false)) (
               cond (List.all (toksC (lineC s).fst) (af 8) && true) (
                cond (cl   (cmG     [Value.int IntKind.i64 0, Value.slice (some (⟨1000, 0, none⟩ : Addr)) (lineC s).fst.length (lineC s).fst.length,       Value.string (spaces (n.tmod 8).toNat), Value.slice none 0 0, goInt 0, Value.bool false]     [some (LObj.row { cells := toksC (lineC s).fst, elem := 46, fz := (0, 0), esz := 4, ro := false, tail := false })])) (
                 cond (List.all (toksC (lineC s).fst) (af 8) && true) (
                  some (.bool true)) (
                  none)) (
                 none)) (
                none)))) (
             cond (decide   (IntKind.i64.wrap       (IntKind.i64.wrap (IntKind.i64.wrap ((↑s.size : Int) + (↑(spaces (n.tmod 8).toNat).size : Int)) + 2) +         (↑r.size : Int)) >     200)) (
              cond ((lineC (spaces (n.tmod 8).toNat ++ s ++ (⟨#[9, 35]⟩ : ByteArray) ++ r)).snd.snd == 3) (
               some (.bool true)) (
               some (.bool false))) (
              cond (0 != (lineC (spaces (n.tmod 8).toNat ++ s ++ (⟨#[9, 35]⟩ : ByteArray) ++ r)).snd.snd) (
               some (.bool false)) (
               cond ((↑(lineC s).fst.length : Int) != 0) (
                some (.bool false)) (
                cond (List.all (toksC (lineC s).fst) (af 8) && true) (
                 cond (cl   (cmG     [Value.int IntKind.i64 0, Value.slice (some (⟨1000, 0, none⟩ : Addr)) (lineC s).fst.length (lineC s).fst.length,       Value.string (spaces (n.tmod 8).toNat), Value.slice none 0 0, goInt 0, Value.bool false]     [some (LObj.row { cells := toksC (lineC s).fst, elem := 46, fz := (0, 0), esz := 4, ro := false, tail := false })])) (
                  cond (List.all (toksC (lineC s).fst) (af 8) && true) (
                   some (.bool true)) (
                   none)) (
                  none)) (
                 none)))))) (
            cond (decide ((lineC (spaces (n.tmod 8).toNat ++ s ++ (⟨#[9, 35]⟩ : ByteArray) ++ r)).snd.snd = 0)) (
             cond (List.all (toksC (lineC (spaces (n.tmod 8).toNat ++ s ++ (⟨#[9, 35]⟩ : ByteArray) ++ r)).fst) (af 8) && true) (
              cond (decide   (IntKind.i64.wrap       (IntKind.i64.wrap (IntKind.i64.wrap ((↑s.size : Int) + (↑(spaces (n.tmod 8).toNat).size : Int)) + 2) +         (↑r.size : Int)) >     200)) (
               some (.bool false)) (
               cond ((↑(lineC s).fst.length : Int) != (↑(lineC (spaces (n.tmod 8).toNat ++ s ++ (⟨#[9, 35]⟩ : ByteArray) ++ r)).fst.length : Int)) (
                some (.bool false)) (
                cond (List.all (toksC (lineC s).fst) (af 8) && (List.all (toksC (lineC (spaces (n.tmod 8).toNat ++ s ++ (⟨#[9, 35]⟩ : ByteArray) ++ r)).fst) (af 8) && true)) (
                 cond (cl   (cmG     [Value.int IntKind.i64 0, Value.slice (some (⟨1000, 0, none⟩ : Addr)) (lineC s).fst.length (lineC s).fst.length,       Value.string (spaces (n.tmod 8).toNat),       Value.slice (some (⟨1001, 0, none⟩ : Addr))         (lineC (spaces (n.tmod 8).toNat ++ s ++ (⟨#[9, 35]⟩ : ByteArray) ++ r)).fst.length         (lineC (spaces (n.tmod 8).toNat ++ s ++ (⟨#[9, 35]⟩ : ByteArray) ++ r)).fst.length,       goInt (↑(lineC (spaces (n.tmod 8).toNat ++ s ++ (⟨#[9, 35]⟩ : ByteArray) ++ r)).fst.length : Int), Value.bool false]     [some (LObj.row { cells := toksC (lineC s).fst, elem := 46, fz := (0, 0), esz := 4, ro := false, tail := false }),       some         (LObj.row           { cells := toksC (lineC (spaces (n.tmod 8).toNat ++ s ++ (⟨#[9, 35]⟩ : ByteArray) ++ r)).fst, elem := 46,             fz := (0, 0), esz := 4, ro := false, tail := false })])) (
                  cond (List.all (toksC (lineC s).fst) (af 8) && (List.all (toksC (lineC (spaces (n.tmod 8).toNat ++ s ++ (⟨#[9, 35]⟩ : ByteArray) ++ r)).fst) (af 8) && true)) (
                   some (.bool true)) (
                   none)) (
                  none)) (
                 none)))) (
              none)) (
             cond (decide   (IntKind.i64.wrap       (IntKind.i64.wrap (IntKind.i64.wrap ((↑s.size : Int) + (↑(spaces (n.tmod 8).toNat).size : Int)) + 2) +         (↑r.size : Int)) >     200)) (
              cond ((lineC (spaces (n.tmod 8).toNat ++ s ++ (⟨#[9, 35]⟩ : ByteArray) ++ r)).snd.snd == 3) (
               some (.bool true)) (
               some (.bool false))) (
              cond (0 != (lineC (spaces (n.tmod 8).toNat ++ s ++ (⟨#[9, 35]⟩ : ByteArray) ++ r)).snd.snd) (
               some (.bool false)) (
               cond ((↑(lineC s).fst.length : Int) != 0) (
                some (.bool false)) (
                cond (List.all (toksC (lineC s).fst) (af 8) && true) (
                 cond (cl   (cmG     [Value.int IntKind.i64 0, Value.slice (some (⟨1000, 0, none⟩ : Addr)) (lineC s).fst.length (lineC s).fst.length,       Value.string (spaces (n.tmod 8).toNat), Value.slice none 0 0, goInt 0, Value.bool false]     [some (LObj.row { cells := toksC (lineC s).fst, elem := 46, fz := (0, 0), esz := 4, ro := false, tail := false })])) (
                  cond (List.all (toksC (lineC s).fst) (af 8) && true) (
                   some (.bool true)) (
                   none)) (
                  none)) (
                 none)))))))) (
          none)) (
         none)) (
        none)) (
       none)) (
      cond (((spaces (n.tmod 8).toNat).size + s.size).ble 9223372036854775807) (
       cond (((spaces (n.tmod 8).toNat ++ s).size + 2).ble 9223372036854775807) (
        cond (((spaces (n.tmod 8).toNat ++ s ++ (⟨#[9, 35]⟩ : ByteArray)).size + r.size).ble 9223372036854775807) (
         cond (decide ((↑(spaces (n.tmod 8).toNat ++ s ++ (⟨#[9, 35]⟩ : ByteArray) ++ r).size : Int) > 200)) (
          cond (decide   (IntKind.i64.wrap       (IntKind.i64.wrap (IntKind.i64.wrap ((↑s.size : Int) + (↑(spaces (n.tmod 8).toNat).size : Int)) + 2) +         (↑r.size : Int)) >     200)) (
           some (.bool true)) (
           cond ((lineC s).snd.snd != 3) (
            some (.bool false)) (
            cond ((lineC s).snd.snd != 0) (
             cond (0 != IntKind.i64.wrap ((lineC s).snd.fst + (↑(spaces (n.tmod 8).toNat).size : Int))) (
              some (.bool false)) (
              cond (cl   (cmG     [Value.int IntKind.i64 0, Value.slice none 0 0, Value.string (spaces (n.tmod 8).toNat), Value.slice none 0 0,       goInt 0, Value.bool false]     [])) (
               some (.bool true)) (
               none))) (
             cond (cl   (cmG     [Value.int IntKind.i64 0, Value.slice none 0 0, Value.string (spaces (n.tmod 8).toNat), Value.slice none 0 0,       goInt 0, Value.bool false]     [])) (
              some (.bool true)) (
              none))))) (
          cond ((lineC (spaces (n.tmod 8).toNat ++ s ++ (⟨#[9, 35]⟩ : ByteArray) ++ r)).fst.isEmpty) (
           cond (decide ((lineC (spaces (n.tmod 8).toNat ++ s ++ (⟨#[9, 35]⟩ : ByteArray) ++ r)).snd.snd = 0)) (
            cond (decide   (IntKind.i64.wrap       (IntKind.i64.wrap (IntKind.i64.wrap ((↑s.size : Int) + (↑(spaces (n.tmod 8).toNat).size : Int)) + 2) +         (↑r.size : Int)) >     200)) (
             some (.bool false)) (
             cond ((lineC s).snd.snd != 0) (
              some (.bool false)) (
              cond ((lineC s).snd.snd != 0) (
               cond (0 != IntKind.i64.wrap ((lineC s).snd.fst + (↑(spaces (n.tmod 8).toNat).size : Int))) (
                some (.bool false)) (
                cond (cl   (cmG     [Value.int IntKind.i64 0, Value.slice none 0 0, Value.string (spaces (n.tmod 8).toNat), Value.slice none 0 0,       goInt 0, Value.bool false]     [])) (
                 some (.bool true)) (
                 none))) (
               cond (cl   (cmG     [Value.int IntKind.i64 0, Value.slice none 0 0, Value.string (spaces (n.tmod 8).toNat), Value.slice none 0 0,       goInt 0, Value.bool false]     [])) (
                some (.bool true)) (
                none))))) (
            cond (decide   (IntKind.i64.wrap       (IntKind.i64.wrap (IntKind.i64.wrap ((↑s.size : Int) + (↑(spaces (n.tmod 8).toNat).size : Int)) + 2) +         (↑r.size : Int)) >     200)) (
             cond ((lineC (spaces (n.tmod 8).toNat ++ s ++ (⟨#[9, 35]⟩ : ByteArray) ++ r)).snd.snd == 3) (
              some (.bool true)) (
              some (.bool false))) (
             cond ((lineC s).snd.snd != (lineC (spaces (n.tmod 8).toNat ++ s ++ (⟨#[9, 35]⟩ : ByteArray) ++ r)).snd.snd) (
              some (.bool false)) (
              cond ((lineC s).snd.snd != 0) (
               cond ((lineC (spaces (n.tmod 8).toNat ++ s ++ (⟨#[9, 35]⟩ : ByteArray) ++ r)).snd.fst !=   IntKind.i64.wrap ((lineC s).snd.fst + (↑(spaces (n.tmod 8).toNat).size : Int))) (
                some (.bool false)) (
                cond (cl   (cmG     [Value.int IntKind.i64 0, Value.slice none 0 0, Value.string (spaces (n.tmod 8).toNat), Value.slice none 0 0,       goInt 0, Value.bool false]     [])) (
                 some (.bool true)) (
                 none))) (
               cond (cl   (cmG     [Value.int IntKind.i64 0, Value.slice none 0 0, Value.string (spaces (n.tmod 8).toNat), Value.slice none 0 0,       goInt 0, Value.bool false]     [])) (
                some (.bool true)) (
                none)))))) (
           cond (decide ((lineC (spaces (n.tmod 8).toNat ++ s ++ (⟨#[9, 35]⟩ : ByteArray) ++ r)).snd.snd = 0)) (
            cond (List.all (toksC (lineC (spaces (n.tmod 8).toNat ++ s ++ (⟨#[9, 35]⟩ : ByteArray) ++ r)).fst) (af 8) && true) (
             cond (decide   (IntKind.i64.wrap       (IntKind.i64.wrap (IntKind.i64.wrap ((↑s.size : Int) + (↑(spaces (n.tmod 8).toNat).size : Int)) + 2) +         (↑r.size : Int)) >     200)) (
              some (.bool false)) (
              cond ((lineC s).snd.snd != 0) (
               some (.bool false)) (
               cond (0 != (↑(lineC (spaces (n.tmod 8).toNat ++ s ++ (⟨#[9, 35]⟩ : ByteArray) ++ r)).fst.length : Int)) (
                some (.bool false)) (
                cond ((lineC s).snd.snd != 0) (
                 cond (0 != IntKind.i64.wrap ((lineC s).snd.fst + (↑(spaces (n.tmod 8).toNat).size : Int))) (
                  some (.bool false)) (
                  cond (List.all (toksC (lineC (spaces (n.tmod 8).toNat ++ s ++ (⟨#[9, 35]⟩ : ByteArray) ++ r)).fst) (af 8) && true) (
                   cond (cl   (cmG     [Value.int IntKind.i64 0, Value.slice none 0 0, Value.string (spaces (n.tmod 8).toNat),       Value.slice (some (⟨1000, 0, none⟩ : Addr))         (lineC (spaces (n.tmod 8).toNat ++ s ++ (⟨#[9, 35]⟩ : ByteArray) ++ r)).fst.length         (lineC (spaces (n.tmod 8).toNat ++ s ++ (⟨#[9, 35]⟩ : ByteArray) ++ r)).fst.length,       goInt (↑(lineC (spaces (n.tmod 8).toNat ++ s ++ (⟨#[9, 35]⟩ : ByteArray) ++ r)).fst.length : Int), Value.bool false]     [some         (LObj.row           { cells := toksC (lineC (spaces (n.tmod 8).toNat ++ s ++ (⟨#[9, 35]⟩ : ByteArray) ++ r)).fst, elem := 46,             fz := (0, 0), esz := 4, ro := false, tail := false })])) (
                    cond (List.all (toksC (lineC (spaces (n.tmod 8).toNat ++ s ++ (⟨#[9, 35]⟩ : ByteArray) ++ r)).fst) (af 8) && true) (
                     some (.bool true)) (
                     none)) (
                    none)) (
                   none))) (
                 cond (List.all (toksC (lineC (spaces (n.tmod 8).toNat ++ s ++ (⟨#[9, 35]⟩ : ByteArray) ++ r)).fst) (af 8) && true) (
                  cond (cl   (cmG     [Value.int IntKind.i64 0, Value.slice none 0 0, Value.string (spaces (n.tmod 8).toNat),       Value.slice (some (⟨1000, 0, none⟩ : Addr))         (lineC (spaces (n.tmod 8).toNat ++ s ++ (⟨#[9, 35]⟩ : ByteArray) ++ r)).fst.length         (lineC (spaces (n.tmod 8).toNat ++ s ++ (⟨#[9, 35]⟩ : ByteArray) ++ r)).fst.length,       goInt (↑(lineC (spaces (n.tmod 8).toNat ++ s ++ (⟨#[9, 35]⟩ : ByteArray) ++ r)).fst.length : Int), Value.bool false]     [some         (LObj.row           { cells := toksC (lineC (spaces (n.tmod 8).toNat ++ s ++ (⟨#[9, 35]⟩ : ByteArray) ++ r)).fst, elem := 46,             fz := (0, 0), esz := 4, ro := false, tail := false })])) (
                   cond (List.all (toksC (lineC (spaces (n.tmod 8).toNat ++ s ++ (⟨#[9, 35]⟩ : ByteArray) ++ r)).fst) (af 8) && true) (
                    some (.bool true)) (
                    none)) (
                   none)) (
                  none)))))) (
             none)) (
            cond (decide   (IntKind.i64.wrap       (IntKind.i64.wrap (IntKind.i64.wrap ((↑s.size : Int) + (↑(spaces (n.tmod 8).toNat).size : Int)) + 2) +         (↑r.size : Int)) >     200)) (
             cond ((lineC (spaces (n.tmod 8).toNat ++ s ++ (⟨#[9, 35]⟩ : ByteArray) ++ r)).snd.snd == 3) (
              some (.bool true)) (
              some (.bool false))) (
             cond ((lineC s).snd.snd != (lineC (spaces (n.tmod 8).toNat ++ s ++ (⟨#[9, 35]⟩ : ByteArray) ++ r)).snd.snd) (
              some (.bool false)) (
              cond ((lineC s).snd.snd != 0) (
               cond ((lineC (spaces (n.tmod 8).toNat ++ s ++ (⟨#[9, 35]⟩ : ByteArray) ++ r)).snd.fst !=   IntKind.i64.wrap ((lineC s).snd.fst + (↑(spaces (n.tmod 8).toNat).size : Int))) (
                some (.bool false)) (
                cond (cl   (cmG     [Value.int IntKind.i64 0, Value.slice none 0 0, Value.string (spaces (n.tmod 8).toNat), Value.slice none 0 0,       goInt 0, Value.bool false]     [])) (
                 some (.bool true)) (
                 none))) (
               cond (cl   (cmG     [Value.int IntKind.i64 0, Value.slice none 0 0, Value.string (spaces (n.tmod 8).toNat), Value.slice none 0 0,       goInt 0, Value.bool false]     [])) (
                some (.bool true)) (
                none)))))))) (
         none)) (
        none)) (
       none))))) (
   none)) := by kernel_rfl
end Go.Proofs.YtgohnfkidkomhaaDoor

noncomputable section
namespace Go.Proofs.YtgohnfkidkomhaaDoor
open Go.Proofs.YtgohnfkidkomhaaDoor.Ev Go.RowKit

/-! TokenRemarks: true, whatever the bytes. -/
def remS (k : Nat) (s r : ByteArray) : ByteArray := spaces k ++ s ++ (⟨#[9, 35]⟩ : ByteArray) ++ r
theorem remS_size (k : Nat) (s r : ByteArray) : ((remS k s r).size : Int) = k + s.size + 2 + r.size := by
  unfold remS
  rw [app_size, app_size, app_size, spaces_size]
  rfl
theorem remS_ext (k : Nat) (s r : ByteArray) : LExt (remS k s r) s (k : Int) := by
  have z := remS_size k s r
  have z0 := spaces_size k
  have z1 := app_size (spaces k) s
  have z2 := app_size (spaces k ++ s) (⟨#[9, 35]⟩ : ByteArray)
  have z3 : (((⟨#[9, 35]⟩ : ByteArray).size : Nat) : Int) = 2 := rfl
  refine ⟨by omega, by omega, fun i i0 i1 => ?_, fun i i0 i1 => ?_, ?_, ?_⟩
  · unfold remS
    rw [byteAt_l (by omega) (by omega), byteAt_l (by omega) (by omega), byteAt_r (by omega) (by omega)]
    congr 1; omega
  · unfold remS
    rw [byteAt_l (by omega) (by omega), byteAt_l (by omega) (by omega), byteAt_l (by omega) (by omega)]
    exact spaces_at k i i0 i1
  · unfold remS
    rw [byteAt_l (by omega) (by omega), byteAt_r (by omega) (by omega), show (s.size : Int) + k - ((spaces k ++ s).size : Int) = 0 by omega]
    rfl
  · unfold remS
    rw [byteAt_l (by omega) (by omega), byteAt_r (by omega) (by omega), show (s.size : Int) + k + 1 - ((spaces k ++ s).size : Int) = 1 by omega]
    rfl
theorem cond_tt {R : Type} {b : Bool} {x y : Option R} (h : b = true) : cond b x y = x := by rw [h]; rfl
theorem bne_t {a b : Int} (h : a ≠ b) : (a != b) = true := by simpa using h
theorem bne_f {a b : Int} (h : a = b) : (a != b) = false := by simpa using h
theorem cmG0 (b : ByteArray) : cmG [.int .i64 0, .slice none 0 0, .string b, .slice none 0 0, .int .i64 0, .bool false] [] := .inr ⟨b, rfl⟩
theorem cmG1 {l : List Tok} {b : ByteArray} (hl : l.length ≤ 1000) (hb : b.size ≤ 1000) (hat : ∀ t ∈ l, 0 ≤ t.at_ ∧ t.at_ ≤ 1000) :
    cmG [.int .i64 0, .slice (some ⟨1000, 0, none⟩) l.length l.length, .string b, .slice (some ⟨1001, 0, none⟩) l.length l.length, .int .i64 (l.length : Int), .bool false] [some (.row ⟨toksC l, 46, (0, 0), 4, false, false⟩), some (.row ⟨toksC (l.map (shT b.size)), 46, (0, 0), 4, false, false⟩)] := .inl ⟨l, b, hl, hb, hat, rfl⟩
theorem rem_eq (gl : Gl) (s r : ByteArray) {n : Int} (hn : 0 ≤ n) (hsz : (s.size : Int) + r.size < 9223372036854775807) : ev gl H20 7 [.string s, .string r, .int .u8 n] = some (.bool true) := by
  rw [r_rem]
  have hk : 0 ≤ n.tmod 8 ∧ n.tmod 8 < 8 := ⟨Int.tmod_nonneg 8 hn, Int.tmod_lt_of_pos n (by decide)⟩
  generalize n.tmod 8 = N at hk
  obtain ⟨k, rfl⟩ : ∃ k : Nat, N = (k : Int) := ⟨N.toNat, by omega⟩
  rw [Int.toNat_natCast]
  have hg : blG 0 (⟨#[]⟩ : ByteArray) (k : Int) false := ⟨rfl, rfl, hk.1, hk.2, rfl⟩
  have z0 := spaces_size k
  have z1 := app_size (spaces k) s
  have z2 := app_size (spaces k ++ s) (⟨#[9, 35]⟩ : ByteArray)
  have z3 : (((⟨#[9, 35]⟩ : ByteArray).size : Nat) : Int) = 2 := rfl
  have zS := remS_size k s r
  have hx := remS_ext k s r
  have eS : spaces k ++ s ++ (⟨#[9, 35]⟩ : ByteArray) ++ r = remS k s r := rfl
  rw [wrap_id ((s.size : Int) + r.size) (by omega)]
  by_cases h1 : (s.size : Int) + r.size > 10000
  · rw [decide_eq_true h1, cond_true]
  rw [decide_eq_false h1, cond_false, cl_t hg, cond_true]
  have b1 : Nat.ble ((spaces k).size + s.size) 9223372036854775807 = true := Nat.ble_eq_true_of_le (by omega)
  have b2 : Nat.ble ((spaces k ++ s).size + 2) 9223372036854775807 = true := Nat.ble_eq_true_of_le (by omega)
  have b3 : Nat.ble ((spaces k ++ s ++ (⟨#[9, 35]⟩ : ByteArray)).size + r.size) 9223372036854775807 = true := Nat.ble_eq_true_of_le (by omega)
  have w1 : IntKind.i64.wrap ((s.size : Int) + ((spaces k).size : Int)) = (s.size : Int) + k := by rw [z0]; exact wrap_id _ (by omega)
  have w2 : IntKind.i64.wrap ((s.size : Int) + k + 2) = (s.size : Int) + k + 2 := wrap_id _ (by omega)
  have w3 : IntKind.i64.wrap ((s.size : Int) + k + 2 + (r.size : Int)) = ((remS k s r).size : Int) := by rw [wrap_id _ (by omega)]; omega
  simp only [eS, b1, b2, b3, w1, w2, w3, cond_true]
  by_cases h2 : (s.size : Int) > 200
  · have h3 : ((remS k s r).size : Int) > 200 := by omega
    simp only [decide_eq_true h2, decide_eq_true h3, cond_true]
  · simp only [decide_eq_false h2, cond_false]
    by_cases h3 : ((remS k s r).size : Int) > 200
    · simp only [decide_eq_true h3, cond_true, toksC_all, Bool.and_true, Bool.cond_self]
      first | done | rfl
    · simp only [decide_eq_false h3, cond_false]
      obtain ⟨e1, e2, e3⟩ := ext_line hx
      have hlen := line_len s
      have hat := line_at s
      have a2 : IntKind.i64.wrap ((lineC s).2.1 + ((spaces k).size : Int)) = (lineC s).2.1 + k := by rw [z0]; exact wrap_id _ (by omega)
      have hat' : ∀ t ∈ (lineC s).1, 0 ≤ t.at_ ∧ t.at_ ≤ 1000 := fun t ht => by have := hat t ht; omega
      have gz := cmG0 (spaces k)
      have g1 := cmG1 (l := (lineC s).1) (b := spaces k) (by omega) (by omega) hat'
      simp only [z0] at g1
      rw [a2, e1, e2]
      simp only [List.length_map, List.isEmpty_map]
      generalize lineC s = q at *
      obtain ⟨l, a, e⟩ := q
      simp only at *
      by_cases he : e = 0
      · subst he
        cases l with
        | nil =>
          simp only [List.isEmpty_nil, cond_true, decide_true, toksC_all, Bool.and_true]
          exact cond_tt (cl_t gz)
        | cons t l =>
          simp only [List.isEmpty_cons, cond_false, decide_true, cond_true, toksC_all, Bool.and_true, bne_self_eq_false]
          exact cond_tt (cl_t g1)
      · have e3 := e3 he
        simp only [decide_eq_false he, cond_false, e3, bne_t he, bne_self_eq_false, cond_true, Bool.cond_self]
        exact cond_tt (cl_t gz)
end Go.Proofs.YtgohnfkidkomhaaDoor

noncomputable section
namespace Go.Proofs.YtgohnfkidkomhaaDoor
open Go.Proofs.YtgohnfkidkomhaaDoor.Ev Go.RowKit
theorem H20_ok (u0 o0 u1 o1 : Nat) : H20.OK Tryd.prog (glS u0 o0 u1 o1) := hsOf_ok (fun p hp => by
    simp only [List.mem_cons, List.not_mem_nil, or_false] at hp
    subst hp
    exact fnWorks u0 o0 u1 o1) (fun p hp => by
    simp only [List.mem_cons, List.not_mem_nil, or_false] at hp
    subst hp
    exact line_sub (u0 := u0) (o0 := o0) (u1 := u1) (o1 := o1) (fun _ _ _ h => h) (glS_low u0 o0 u1 o1)) (fun p hp q hq => by
    simp only [List.mem_cons, List.not_mem_nil, or_false] at hp
    subst hp
    simp only [List.mem_cons, List.not_mem_nil, or_false] at hq
    rcases hq with rfl | rfl
    · exact bl_ok (glS_low u0 o0 u1 o1)
    · exact cm_ok (glS_low u0 o0 u1 o1))
theorem u8_bounds {n : Int} (h : (Lit.int .u8 n).wf = true) : 0 ≤ n ∧ n ≤ 255 := by
  simp only [Lit.wf, Bool.and_eq_true, decide_eq_true_eq] at h
  have e1 : IntKind.min .u8 = 0 := by kernel_rfl
  have e2 : IntKind.max .u8 = 255 := by kernel_rfl
  rw [e1, e2] at h
  exact h
theorem tokenRemarks_calls (u0 o0 u1 o1 : Nat) (s r : ByteArray) {n : Int} (hs : s.size ≤ 140737488351232) (hr : r.size ≤ 140737488351232) (hn : (Lit.int .u8 n).wf = true) {w : World} (hw : Ready Tryd.prog (glS u0 o0 u1 o1) w) :
    Calls Tryd.prog 7 #[.string s, .string r, .int .u8 n] w (fun e w' => e = .returned (.bool true) ∧ Below w.heap.size w w') :=
  flatS noSy_ok goodT (glS_low u0 o0 u1 o1) tglob (H20_ok u0 o0 u1 o1) rfl (rem_eq _ s r (u8_bounds hn).1 (by omega)) hw
end Go.Proofs.YtgohnfkidkomhaaDoor
