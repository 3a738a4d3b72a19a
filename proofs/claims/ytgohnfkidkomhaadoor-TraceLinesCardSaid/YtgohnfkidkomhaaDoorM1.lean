/- Decimal numbers and strings.Join, of at most a thousand texts. -/
import Derived.Test.YtgohnfkidkomhaaDoorK1
import Derived.Lib.ItoaLen
noncomputable section
noncomputable section
namespace Go.Proofs.YtgohnfkidkomhaaDoor
open Go.Proofs.YtgohnfkidkomhaaDoor.Ev Go.RowKit

/-! Instructions: their forms. -/
def formsL : List Int := [0, 1, 1, 1, 1, 1, 1, 1, 2, 2, 2, 1, 3, 2, 2, 2, 4, 4, 0, 5, 6, 0]
def cdV (op a b c n : Int) : Value := .agg #[.int .u8 op, .int .i64 a, .int .i64 b, .int .i64 c, .int .i64 n]
end Go.Proofs.YtgohnfkidkomhaaDoor

noncomputable section
namespace Go.Proofs.YtgohnfkidkomhaaDoor
open Go.Proofs.YtgohnfkidkomhaaDoor.Ev Go.RowKit

/-- The form of an instruction. -/
def formN (op : Int) : Int := nthI formsL op.toNat
theorem beqI (a b : Int) : (a == b) = decide (a = b) := rfl
end Go.Proofs.YtgohnfkidkomhaaDoor

noncomputable section
namespace Go.Proofs.YtgohnfkidkomhaaDoor
open Go.Proofs.YtgohnfkidkomhaaDoor.Ev Go.RowKit

/-! Instructions and words: the numbers. -/
theorem wrap_u32 {x : Int} (h0 : 0 ≤ x) (h1 : x < 4294967296) : IntKind.u32.wrap x = x := by
  simp [IntKind.wrap, IntKind.bits, IntKind.signed]; omega
theorem wrap_u8 {x : Int} (h0 : 0 ≤ x) (h1 : x < 256) : IntKind.u8.wrap x = x := by
  simp [IntKind.wrap, IntKind.bits, IntKind.signed]; omega
theorem wrap_64 {x : Int} (h0 : -9223372036854775808 ≤ x) (h1 : x < 9223372036854775808) : IntKind.i64.wrap x = x := by
  simp [IntKind.wrap, IntKind.bits, IntKind.signed]; omega
end Go.Proofs.YtgohnfkidkomhaaDoor

noncomputable section
namespace Go.Proofs.YtgohnfkidkomhaaDoor
open Go.Proofs.YtgohnfkidkomhaaDoor.Ev Go.RowKit

/-! Instructions and words: told, and taken. -/
structure CF (op a b c n : Int) : Prop where
  o0 : 0 ≤ op
  o1 : op < 22
  a0 : 0 ≤ a
  a1 : a < 16
  b0 : 0 ≤ b
  b1 : b < 16
  c0 : 0 ≤ c
  c1 : c < 16
  n : (formN op = 1 ∧ n = 0) ∨ (formN op = 2 ∧ c = 0 ∧ -8192 ≤ n ∧ n < 8192) ∨ (formN op ≠ 1 ∧ formN op ≠ 2 ∧ b = 0 ∧ c = 0 ∧ -2097152 ≤ n ∧ n < 2097152)
end Go.Proofs.YtgohnfkidkomhaaDoor

noncomputable section
namespace Go.Proofs.YtgohnfkidkomhaaDoor
open Go.Proofs.YtgohnfkidkomhaaDoor.Ev Go.RowKit

/-! The document's: forms, May, words. -/
theorem bneI (a b : Int) : (a != b) = !(decide (a = b)) := rfl
end Go.Proofs.YtgohnfkidkomhaaDoor

noncomputable section
namespace Go.Proofs.YtgohnfkidkomhaaDoor
open Go.Proofs.YtgohnfkidkomhaaDoor.Ev Go.RowKit

/-! Words that are taken. -/
theorem tdivE {x d : Int} (hx : 0 ≤ x) : x.tdiv d = x / d := Int.tdiv_eq_ediv_of_nonneg hx
theorem tmodE {x d : Int} (hx : 0 ≤ x) : x.tmod d = x % d := Int.tmod_eq_emod_of_nonneg hx
end Go.Proofs.YtgohnfkidkomhaaDoor

noncomputable section
namespace Go.Proofs.YtgohnfkidkomhaaDoor
open Go.Proofs.YtgohnfkidkomhaaDoor.Ev Go.RowKit

/-! Words and instructions: what is answered of the functions. -/
abbrev Low (gl : Gl) : Prop := ∀ g k v, gl g k = some v → g < 1000 ∧ lowV 8 v = true
theorem one_ok {gl : Gl} {a : List (FuncId × AF)} (h : ∀ p ∈ a, FnOK Tryd.prog gl p.1 p.2) : (hsOf a [] []).OK Tryd.prog gl := hsOf_ok h (fun _ h => by cases h) (fun _ h => by cases h)
end Go.Proofs.YtgohnfkidkomhaaDoor

noncomputable section
namespace Go.Proofs.YtgohnfkidkomhaaDoor
open Go.Proofs.YtgohnfkidkomhaaDoor.Ev Go.RowKit

/-! Digits. -/
def afDig (p : Int → Bool) (it : Int → ByteArray) : AF := fun args _ => match args with
  | [.int .i64 n] => some (p n, .string (it n))
  | _ => none
def HDg (p : Int → Bool) (it : Int → ByteArray) : Hs := hsOf [(68, afDig p it)] [] []
noncomputable abbrev bodyF (gl : Gl) (H : Hs) (f : FuncId) (args : List Value) : Option Value := funSK noSy Tryd.prog gl exB 100 40 (H.hl f) (callS Tryd.prog gl exB H 100 40 40) (callSK noSy Tryd.prog gl exB H 100 40 40) f args LS.start flatR
set_option maxRecDepth 100000 in
theorem r_dig (gl : Gl) (p : Int → Bool) (it : Int → ByteArray) (n : Int) : bodyF gl (HDg p it) 68 [.int .i64 n] =
 cond (decide (n < 0)) (
  cond (p (IntKind.i64.wrap (0 - n))) (
   cond ((1 + (it (IntKind.i64.wrap (0 - n))).size).ble 9223372036854775807) (
    some (.string ((⟨#[45]⟩ : ByteArray) ++ it (IntKind.i64.wrap (0 - n))))) (
    none)) (
   none)) (
  cond (decide (n < 10)) (
   some (.string ({ data := #[UInt8.ofNat (IntKind.u8.wrap (IntKind.i64.wrap (48 + n))).toNat] }))) (
   cond (p (IntKind.i64.wrap (n.tdiv 10))) (
    cond (p (n.tmod 10)) (
     cond (((it (IntKind.i64.wrap (n.tdiv 10))).size + (it (n.tmod 10)).size).ble 9223372036854775807) (
      some (.string (it (IntKind.i64.wrap (n.tdiv 10)) ++ it (n.tmod 10)))) (
      none)) (
     none)) (
    none))) := by kernel_rfl
theorem itoa_small {n : Int} (h0 : 0 ≤ n) (h1 : n < 10) : itoaB n = (⟨#[UInt8.ofNat (48 + n.toNat)]⟩ : ByteArray) := by
  rw [itoaB_pos h0]; unfold decB; rw [Lib.decDigits_one (by omega)]
theorem itoa_big {n : Int} (h : 10 ≤ n) : itoaB n = itoaB (n / 10) ++ itoaB (n % 10) := by
  rw [itoaB_pos (by omega), itoaB_pos (by omega), itoaB_pos (by omega)]
  have e1 : (n / 10).toNat = n.toNat / 10 := by omega
  have e2 : (n % 10).toNat = n.toNat % 10 := by omega
  unfold decB
  rw [e1, e2, Lib.decDigits, dif_neg (by omega), Lib.decDigits_one (i := n.toNat % 10) (by omega)]
  apply ByteArray.ext
  simp [ByteArray.data_append]
theorem decB_le {n : Nat} (h : n < 18446744073709551616) : (decB n).size ≤ 20 := by
  have : (decB n).size = (Lib.decDigits n).length := by unfold decB; simp [ByteArray.size]
  rw [this, Lib.decDigits_length]
  exact Lib.nDigits_le20 n (by omega)
theorem itoa_size {n : Int} (h0 : -9223372036854775808 ≤ n) (h1 : n ≤ 9223372036854775807) : (itoaB n).size ≤ 21 := by
  by_cases h : n < 0
  · rw [itoaB_neg h, ByteArray.size_append]
    have := decB_le (n := n.natAbs) (by omega)
    have e : (⟨#[45]⟩ : ByteArray).size = 1 := rfl
    omega
  · rw [itoaB_pos (by omega)]
    have := decB_le (n := n.toNat) (by omega)
    omega
def below (N : Nat) : Int → Bool := fun n => decide (0 ≤ n) && decide (n < (N : Int))
theorem dig_nat {gl : Gl} (hgl : Low gl) : ∀ N : Nat, N ≤ 9223372036854775808 → FnOK Tryd.prog gl 68 (afDig (below N) itoaB)
  | 0, _ => FnOK.flat hgl tglob fun args σ v h => by
    unfold afDig at h
    split at h
    · rename_i n
      simp only [Option.some.injEq, Prod.mk.injEq, below, Bool.and_eq_true, decide_eq_true_eq] at h
      omega
    · cases h
  | N + 1, hN => FnOK.flat hgl tglob fun args σ v h => by
    have ih := dig_nat hgl N (by omega)
    have hH : (HDg (below N) itoaB).OK Tryd.prog gl := one_ok fun p hp => by
      simp only [List.mem_cons, List.not_mem_nil, or_false] at hp
      subst hp
      exact ih
    unfold afDig at h
    split at h
    · rename_i n
      simp only [Option.some.injEq, Prod.mk.injEq, below, Bool.and_eq_true, decide_eq_true_eq] at h
      obtain ⟨⟨h0, h1⟩, rfl⟩ := h
      refine ⟨rfl, rfl, fun w hw => flatB noSy_ok goodB hgl tglob hH (L := 100) (G := 40) (d := 40) rfl ?_ hw⟩
      show bodyF gl (HDg (below N) itoaB) 68 [.int .i64 n] = _
      rw [r_dig, decide_eq_false (show ¬ n < 0 by omega), cond_false]
      by_cases hs : n < 10
      · rw [decide_eq_true hs, cond_true, itoa_small h0 hs]
        have e : (IntKind.u8.wrap (IntKind.i64.wrap (48 + n))).toNat = 48 + n.toNat := by
          rw [wrap_64 (by omega) (by omega), wrap_u8 (by omega) (by omega)]; omega
        rw [e]
      · rw [decide_eq_false hs, cond_false, tdivE h0, tmodE h0, wrap_64 (by omega) (by omega)]
        have q1 := itoa_size (n := n / 10) (by omega) (by omega)
        have q2 := itoa_size (n := n % 10) (by omega) (by omega)
        refine condI (by unfold below; rw [decide_eq_true (by omega), decide_eq_true (by omega)]; rfl) (condI (by unfold below; rw [decide_eq_true (by omega), decide_eq_true (by omega)]; rfl) (condI (nble (by omega)) ?_))
        rw [← itoa_big (by omega)]
    · cases h
end Go.Proofs.YtgohnfkidkomhaaDoor

noncomputable section
namespace Go.Proofs.YtgohnfkidkomhaaDoor
open Go.Proofs.YtgohnfkidkomhaaDoor.Ev Go.RowKit

/-! strings.Join. -/
def joinB (sep : ByteArray) : List ByteArray → ByteArray
  | [] => .empty
  | [x] => x
  | x :: y :: l => x ++ sep ++ joinB sep (y :: l)
theorem joinB_spec (sep : ByteArray) : ∀ l : List ByteArray, (joinB sep l).data.toList = Lib.join (l.map (·.data.toList)) sep.data.toList
  | [] => rfl
  | [x] => by simp [joinB, Lib.join_one]
  | x :: y :: l => by
    have ih := joinB_spec sep (y :: l)
    unfold Lib.join at ih ⊢
    rw [List.map_cons] at ih
    rw [List.map_cons, List.map_cons, List.intercalate_cons_cons, ← ih]
    simp [joinB, ByteArray.data_append]
def afJoin : AF := fun args σ => match args with
  | [.slice (some a) n c, .string sep] => (match σ.heap.get a.block with
    | some (.row b) => (strsOf ((b.cells.drop a.off).take n)).bind fun xs => cond (Nat.beq xs.length n && Nat.ble 1 n && Nat.ble n c && Nat.ble n 1000) (some (Nat.ble (joinB sep xs).size 140737488355328, .string (joinB sep xs))) none
    | _ => none)
  | _ => none
theorem fn_join {gl : Gl} : FnOK Tryd.prog gl 67 afJoin := by
  intro args σ c v hk hc φ w args' hr hl
  subst hc
  unfold afJoin at hk
  split at hk
  · rename_i a n cc sep
    split at hk
    · rename_i b hb
      obtain ⟨xs, h1, h2⟩ := Option.bind_eq_some_iff.1 hk
      rw [Bool.cond_eq_ite] at h2
      split at h2
      case isFalse => cases h2
      rename_i hcnd
      simp only [Bool.and_eq_true] at hcnd
      simp only [Option.some.injEq, Prod.mk.injEq] at h2
      obtain ⟨⟨⟨g1, g2⟩, g3⟩, g4⟩ := hcnd
      obtain ⟨g5, rfl⟩ := h2
      have g1 := Nat.eq_of_beq_eq_true g1
      have g2 := Nat.le_of_ble_eq_true g2
      have g3 := Nat.le_of_ble_eq_true g3
      have g4 := Nat.le_of_ble_eq_true g4
      have g5 := Nat.le_of_ble_eq_true g5
      subst g1
      have hcells := strsOf_spec h1
      obtain ⟨hlen, hl⟩ := hl
      obtain ⟨x0, x1, e⟩ : ∃ x0 x1, args'.toList = [x0, x1] := by
        match hq : args'.toList, hlen with
        | [x0, x1], _ => exact ⟨x0, x1, rfl⟩
      have v0 := hl 0 _ x0 rfl (by rw [e]; rfl)
      have v1 := hl 1 _ x1 rfl (by rw [e]; rfl)
      cases v1
      cases v0 with
      | slice _ a' _ _ c' hs =>
        obtain ⟨s1, s2, r, s3, s4, s5, s6⟩ := hs
        obtain ⟨r', x, hr1, hr2, hr3⟩ := hr.live a.block _ hb
        rw [s3] at hr1; cases hr1
        obtain ⟨cl, fz', rfl, hcl, hcap⟩ := hr3
        have hoff : a'.off = a.off ∧ cc ≤ c' := by
          cases hrc : r.cap with
          | none => obtain ⟨h, h'⟩ := s5 hrc; exact ⟨h, by omega⟩
          | some q =>
            obtain ⟨S, z⟩ := q
            obtain ⟨h, h', _⟩ := s6 S z hrc
            exact ⟨h' (by omega), h⟩
        obtain ⟨blk, off, spot⟩ := a'
        simp only at s2 s4 hoff
        obtain ⟨rfl, hcc⟩ := hoff
        subst s2
        subst s4
        have e : args' = #[.slice (some ⟨r.blk, a.off, none⟩) xs.length c', .string sep] := by rw [← Array.toArray_toList (xs := args'), e]
        subst e
        refine Calls.mono (Tryd.strings_Join r.blk a.off c' xs sep w ?_ (hr.bound _ _ s3) (by omega) (by omega) ?_) ?_
        · intro j y hj
          have h3 : ((b.cells.drop a.off).take xs.length)[j]? = some (.string y) := by rw [hcells, List.getElem?_map, hj]; rfl
          have hjl : j < xs.length := (List.getElem?_eq_some_iff.1 hj).1
          rw [List.getElem?_take_of_lt hjl, List.getElem?_drop] at h3
          obtain ⟨v', h4, h5⟩ := hcl _ _ h3
          cases h5
          unfold World.cell?
          simp only [hr2]
          simpa using h4
        · rw [← joinB_spec, Array.length_toList]; exact g5
        · rintro e w1 ⟨rfl, hb⟩
          refine ⟨_, rfl, ?_, hb⟩
          have : (⟨(Lib.join (xs.map (·.data.toList)) sep.data.toList).toArray⟩ : ByteArray) = joinB sep xs := by rw [← joinB_spec]
          rw [this]
          exact .string _
    · cases hk
  · cases hk

end Go.Proofs.YtgohnfkidkomhaaDoor

noncomputable section
namespace Go.Proofs.YtgohnfkidkomhaaDoor
open Go.Proofs.YtgohnfkidkomhaaDoor.Ev Go.RowKit

/-! An instruction's line: what is answered of the functions. -/
abbrev GlP (gl : Gl) : Prop := ∀ (i : Nat) z, Lib.pow10Tab[i]? = some z → gl 2 i = some (.int .u64 z)
end Go.Proofs.YtgohnfkidkomhaaDoor
