/- The document's Read answers as trace.Read does: texts of at most 100000 bytes. TraceLines answers true, where the listed variables stand as the program's text lays them. -/
import Derived.Test.YtgohnfkidkomhaaDoorT2
noncomputable section
noncomputable section
namespace Go.Proofs.YtgohnfkidkomhaaDoor
open Go.Proofs.YtgohnfkidkomhaaDoor.Ev Go.RowKit

/-! The document's reading of an event: numbers, words, kinds: rounds. -/
def nbLive : List Nat := [5, 4, 0, 2, 3]
def nbOut : List Nat := [4, 2, 3]
def nbSt (s : ByteArray) (i n : Int) : LSt := ([.int .i64 i, .int .i64 n, .string s, .int .i64 0, .bool false], [])
set_option maxRecDepth 100000 in
theorem q_nb (gl : Gl) (s : ByteArray) (i n : Int) : rnd gl HB0 1000 75 0 nbLive nbOut (nbSt s i n) =
 cond (decide (i < (↑s.size : Int))) (
  cond (decide (0 ≤ i) && (decide (i < (↑s.size : Int)))) (
   cond (decide (byteAt s i < 48)) (
    some (.inr (.ret, ([(.int IntKind.i64 (n)), (.int IntKind.i64 0), (.bool false)], [])))) (
    cond (decide (0 ≤ i) && (decide (i < (↑s.size : Int)))) (
     cond (decide (byteAt s i > 57)) (
      some (.inr (.ret, ([(.int IntKind.i64 (n)), (.int IntKind.i64 0), (.bool false)], [])))) (
      cond (decide (0 ≤ i) && (decide (i < (↑s.size : Int)))) (
       cond (decide   (n >     IntKind.i64.wrap       ((IntKind.i64.wrap (9223372036854775807 - IntKind.i64.wrap (IntKind.u8.wrap (byteAt s i - 48)))).tdiv 10))) (
        some (.inr (.ret, ([(.int IntKind.i64 (n)), (.int IntKind.i64 0), (.bool false)], [])))) (
        some (.inl ([(.int IntKind.i64 (IntKind.i64.wrap (i + 1))), (.int IntKind.i64 (IntKind.i64.wrap (IntKind.i64.wrap (10 * n) + IntKind.i64.wrap (IntKind.u8.wrap (byteAt s i - 48))))), (.string (s)), (.int IntKind.i64 0), (.bool false)], [])))) (
       none))) (
     none))) (
   none)) (
  some (.inr (.exit 0, ([(.int IntKind.i64 (n)), (.int IntKind.i64 0), (.bool false)], [])))) := by kernel_rfl
def wdLive : List Nat := [5, 4, 0, 3]
def wdOutL : List Nat := [3]
def sgRow (cs : List Value) : Option LObj := some (.row ⟨cs, 9, (0, 0), 1, false, false⟩)
def wdSt0 (s : ByteArray) (i a : Int) : LSt := ([.int .i64 i, .int .i64 a, .string s, .slice none 0 0], [])
def wdSt1 (s : ByteArray) (i a : Int) (cs : List Value) (n : Nat) : LSt := ([.int .i64 i, .int .i64 a, .string s, .slice (some ⟨1000, 0, none⟩) n n], [sgRow cs])
set_option maxRecDepth 100000 in
theorem q_wd0 (gl : Gl) (s : ByteArray) (i a : Int) : rnd gl HB0 1000 74 0 wdLive wdOutL (wdSt0 s i a) =
 cond (decide (i ≤ (↑s.size : Int))) (
  cond (i == (↑s.size : Int)) (
   cond (decide (0 ≤ a) && (decide (a ≤ i)) && (decide (i ≤ (↑s.size : Int)))) (
    some (.inl ([(.int IntKind.i64 (IntKind.i64.wrap (i + 1))), (.int IntKind.i64 (IntKind.i64.wrap (i + 1))), (.string (s)), (.slice (some ⟨1000, 0, none⟩) 1 1)], [some (.row ⟨[(.string (subS s a i))], 9, (0, 0), 1, false, false⟩)]))) (
    none)) (
   cond (decide (0 ≤ i) && (decide (i < (↑s.size : Int)))) (
    cond (byteAt s i == 32) (
     cond (decide (0 ≤ a) && (decide (a ≤ i)) && (decide (i ≤ (↑s.size : Int)))) (
      some (.inl ([(.int IntKind.i64 (IntKind.i64.wrap (i + 1))), (.int IntKind.i64 (IntKind.i64.wrap (i + 1))), (.string (s)), (.slice (some ⟨1000, 0, none⟩) 1 1)], [some (.row ⟨[(.string (subS s a i))], 9, (0, 0), 1, false, false⟩)]))) (
      none)) (
     some (.inl ([(.int IntKind.i64 (IntKind.i64.wrap (i + 1))), (.int IntKind.i64 (a)), (.string (s)), (.slice none 0 0)], [])))) (
    none))) (
  some (.inr (.exit 0, ([(.slice none 0 0)], [])))) := by kernel_rfl
set_option maxRecDepth 100000 in
theorem q_wd1 (gl : Gl) (s : ByteArray) (i a : Int) (cs : List Value) (n : Nat) : rnd gl HB0 1000 74 0 wdLive wdOutL (wdSt1 s i a cs n) =
 cond (decide (i ≤ (↑s.size : Int))) (
  cond (i == (↑s.size : Int)) (
   cond (decide (0 ≤ a) && (decide (a ≤ i)) && (decide (i ≤ (↑s.size : Int)))) (
    cond (n.ble n) (
     cond (((n + 1) * 16).ble 140737488355328 && ((n + 1).ble 1099511627776)) (
      cond ((n * 1).beq cs.length) (
       cond (List.all (cs ++ [(.string (subS s a i))]) (af 8) && true) (
        some (.inl ([(.int IntKind.i64 (IntKind.i64.wrap (i + 1))), (.int IntKind.i64 (IntKind.i64.wrap (i + 1))), (.string (s)), (.slice (some ⟨1000, 0, none⟩) (n + 1) (n + 1))], [some (.row ⟨(cs ++ [(.string (subS s a i))]), 9, (0, 0), 1, false, false⟩)]))) (
        none)) (
       none)) (
      none)) (
     none)) (
    none)) (
   cond (decide (0 ≤ i) && (decide (i < (↑s.size : Int)))) (
    cond (byteAt s i == 32) (
     cond (decide (0 ≤ a) && (decide (a ≤ i)) && (decide (i ≤ (↑s.size : Int)))) (
      cond (n.ble n) (
       cond (((n + 1) * 16).ble 140737488355328 && ((n + 1).ble 1099511627776)) (
        cond ((n * 1).beq cs.length) (
         cond (List.all (cs ++ [(.string (subS s a i))]) (af 8) && true) (
          some (.inl ([(.int IntKind.i64 (IntKind.i64.wrap (i + 1))), (.int IntKind.i64 (IntKind.i64.wrap (i + 1))), (.string (s)), (.slice (some ⟨1000, 0, none⟩) (n + 1) (n + 1))], [some (.row ⟨(cs ++ [(.string (subS s a i))]), 9, (0, 0), 1, false, false⟩)]))) (
          none)) (
         none)) (
        none)) (
       none)) (
      none)) (
     cond (List.all cs (af 8) && true) (
      some (.inl ([(.int IntKind.i64 (IntKind.i64.wrap (i + 1))), (.int IntKind.i64 (a)), (.string (s)), (.slice (some ⟨1000, 0, none⟩) (n) (n))], [some (.row ⟨cs, 9, (0, 0), 1, false, false⟩)]))) (
      none))) (
    none))) (
  cond (List.all cs (af 8) && true) (
   some (.inr (.exit 0, ([(.slice (some ⟨1000, 0, none⟩) (n) (n))], [some (.row ⟨cs, 9, (0, 0), 1, false, false⟩)])))) (
   none)) := by kernel_rfl
def kkLive : List Nat := [9, 6, 5, 2, 4]
def kkOut : List Nat := [2, 4, 6, 5]
def evRow (k c n u : Int) : Option LObj := some (.row ⟨[.int .u8 k, .int .i64 c, .int .i64 n, .int .u32 u], 31, (0, 0), 0, false, false⟩)
def kkSt (k : Int) (n : Nat) (cs : List Value) (e c : Int) : LSt := ([.int .u8 k, .pointer (some ⟨1000, 0, none⟩), .slice (some ⟨1001, 0, none⟩) n n, .pointer (some ⟨1002, 0, none⟩), .pointer (some ⟨1003, 0, none⟩)], [evRow e c 0 0, sgRow cs, evRow 0 0 0 0, evRow 0 0 0 0])
def afWd (wd : Int → ByteArray) : AF := fun args _ => match args with
  | [.int .u8 k] => some (decide (1 ≤ k) && decide (k ≤ 12), .string (wd k))
  | _ => none
def HKk (wd : Int → ByteArray) : Hs := hsOf [(69, afWd wd)] [] []
set_option maxRecDepth 100000 in
theorem q_kk2 (gl : Gl) (wd : Int → ByteArray) (k e c : Int) (x y : ByteArray) : rnd gl (HKk wd) 1004 35 0 kkLive kkOut (kkSt k 2 [.string x, .string y] e c) =
 cond (decide (k ≤ 12)) (
  cond (decide (1 ≤ k) && (decide (k ≤ 12))) (
   cond ((wd k).toList == y.toList) (
    cond (veq 8 (Value.string y) (Value.string y)) (
     cond (veq 8 (Value.string y) (Value.string y)) (
      some (.inl ([(.int IntKind.u8 (IntKind.u8.wrap (k + 1))), (.pointer (some ⟨1000, 0, none⟩)), (.slice (some ⟨1001, 0, none⟩) 2 2), (.pointer (some ⟨1002, 0, none⟩)), (.pointer (some ⟨1003, 0, none⟩))], [some (.row ⟨[(.int IntKind.u8 (k)), (.int IntKind.i64 (c)), (.int IntKind.i64 0), (.int IntKind.u32 0)], 31, (0, 0), 0, false, false⟩), some (.row ⟨[(.string (x)), (.string (y))], 9, (0, 0), 1, false, false⟩), some (.row ⟨[(.int IntKind.u8 0), (.int IntKind.i64 0), (.int IntKind.i64 0), (.int IntKind.u32 0)], 31, (0, 0), 0, false, false⟩), some (.row ⟨[(.int IntKind.u8 0), (.int IntKind.i64 0), (.int IntKind.i64 0), (.int IntKind.u32 0)], 31, (0, 0), 0, false, false⟩)]))) (
      none)) (
     none)) (
    cond (veq 8 (Value.string y) (Value.string y)) (
     cond (veq 8 (Value.string y) (Value.string y)) (
      some (.inl ([(.int IntKind.u8 (IntKind.u8.wrap (k + 1))), (.pointer (some ⟨1000, 0, none⟩)), (.slice (some ⟨1001, 0, none⟩) 2 2), (.pointer (some ⟨1002, 0, none⟩)), (.pointer (some ⟨1003, 0, none⟩))], [some (.row ⟨[(.int IntKind.u8 (e)), (.int IntKind.i64 (c)), (.int IntKind.i64 0), (.int IntKind.u32 0)], 31, (0, 0), 0, false, false⟩), some (.row ⟨[(.string (x)), (.string (y))], 9, (0, 0), 1, false, false⟩), some (.row ⟨[(.int IntKind.u8 0), (.int IntKind.i64 0), (.int IntKind.i64 0), (.int IntKind.u32 0)], 31, (0, 0), 0, false, false⟩), some (.row ⟨[(.int IntKind.u8 0), (.int IntKind.i64 0), (.int IntKind.i64 0), (.int IntKind.u32 0)], 31, (0, 0), 0, false, false⟩)]))) (
      none)) (
     none))) (
   none)) (
  some (.inr (.exit 0, ([(.pointer (some ⟨1002, 0, none⟩)), (.pointer (some ⟨1003, 0, none⟩)), (.pointer (some ⟨1000, 0, none⟩)), (.slice (some ⟨1001, 0, none⟩) 2 2)], [some (.row ⟨[(.int IntKind.u8 (e)), (.int IntKind.i64 (c)), (.int IntKind.i64 0), (.int IntKind.u32 0)], 31, (0, 0), 0, false, false⟩), some (.row ⟨[(.string (x)), (.string (y))], 9, (0, 0), 1, false, false⟩), some (.row ⟨[(.int IntKind.u8 0), (.int IntKind.i64 0), (.int IntKind.i64 0), (.int IntKind.u32 0)], 31, (0, 0), 0, false, false⟩), some (.row ⟨[(.int IntKind.u8 0), (.int IntKind.i64 0), (.int IntKind.i64 0), (.int IntKind.u32 0)], 31, (0, 0), 0, false, false⟩)])))) := by kernel_rfl
set_option maxRecDepth 100000 in
theorem q_kk3 (gl : Gl) (wd : Int → ByteArray) (k e c : Int) (x y z : ByteArray) : rnd gl (HKk wd) 1004 35 0 kkLive kkOut (kkSt k 3 [.string x, .string y, .string z] e c) =
 cond (decide (k ≤ 12)) (
  cond (decide (1 ≤ k) && (decide (k ≤ 12))) (
   cond ((wd k).toList == y.toList) (
    cond (veq 8 (Value.string y) (Value.string y)) (
     cond (veq 8 (Value.string y) (Value.string y)) (
      some (.inl ([(.int IntKind.u8 (IntKind.u8.wrap (k + 1))), (.pointer (some ⟨1000, 0, none⟩)), (.slice (some ⟨1001, 0, none⟩) 3 3), (.pointer (some ⟨1002, 0, none⟩)), (.pointer (some ⟨1003, 0, none⟩))], [some (.row ⟨[(.int IntKind.u8 (k)), (.int IntKind.i64 (c)), (.int IntKind.i64 0), (.int IntKind.u32 0)], 31, (0, 0), 0, false, false⟩), some (.row ⟨[(.string (x)), (.string (y)), (.string (z))], 9, (0, 0), 1, false, false⟩), some (.row ⟨[(.int IntKind.u8 0), (.int IntKind.i64 0), (.int IntKind.i64 0), (.int IntKind.u32 0)], 31, (0, 0), 0, false, false⟩), some (.row ⟨[(.int IntKind.u8 0), (.int IntKind.i64 0), (.int IntKind.i64 0), (.int IntKind.u32 0)], 31, (0, 0), 0, false, false⟩)]))) (
      none)) (
     none)) (
    cond (veq 8 (Value.string y) (Value.string y)) (
     cond (veq 8 (Value.string y) (Value.string y)) (
      some (.inl ([(.int IntKind.u8 (IntKind.u8.wrap (k + 1))), (.pointer (some ⟨1000, 0, none⟩)), (.slice (some ⟨1001, 0, none⟩) 3 3), (.pointer (some ⟨1002, 0, none⟩)), (.pointer (some ⟨1003, 0, none⟩))], [some (.row ⟨[(.int IntKind.u8 (e)), (.int IntKind.i64 (c)), (.int IntKind.i64 0), (.int IntKind.u32 0)], 31, (0, 0), 0, false, false⟩), some (.row ⟨[(.string (x)), (.string (y)), (.string (z))], 9, (0, 0), 1, false, false⟩), some (.row ⟨[(.int IntKind.u8 0), (.int IntKind.i64 0), (.int IntKind.i64 0), (.int IntKind.u32 0)], 31, (0, 0), 0, false, false⟩), some (.row ⟨[(.int IntKind.u8 0), (.int IntKind.i64 0), (.int IntKind.i64 0), (.int IntKind.u32 0)], 31, (0, 0), 0, false, false⟩)]))) (
      none)) (
     none))) (
   none)) (
  some (.inr (.exit 0, ([(.pointer (some ⟨1002, 0, none⟩)), (.pointer (some ⟨1003, 0, none⟩)), (.pointer (some ⟨1000, 0, none⟩)), (.slice (some ⟨1001, 0, none⟩) 3 3)], [some (.row ⟨[(.int IntKind.u8 (e)), (.int IntKind.i64 (c)), (.int IntKind.i64 0), (.int IntKind.u32 0)], 31, (0, 0), 0, false, false⟩), some (.row ⟨[(.string (x)), (.string (y)), (.string (z))], 9, (0, 0), 1, false, false⟩), some (.row ⟨[(.int IntKind.u8 0), (.int IntKind.i64 0), (.int IntKind.i64 0), (.int IntKind.u32 0)], 31, (0, 0), 0, false, false⟩), some (.row ⟨[(.int IntKind.u8 0), (.int IntKind.i64 0), (.int IntKind.i64 0), (.int IntKind.u32 0)], 31, (0, 0), 0, false, false⟩)])))) := by kernel_rfl
end Go.Proofs.YtgohnfkidkomhaaDoor

noncomputable section
namespace Go.Proofs.YtgohnfkidkomhaaDoor
open Go.Proofs.YtgohnfkidkomhaaDoor.Ev Go.RowKit

/-! The document's numbers. -/
def nbGo : Int → List UInt8 → Int × Bool
  | n, [] => (n, true)
  | n, c :: l => if 48 ≤ c.toNat ∧ c.toNat ≤ 57 ∧ n ≤ (9223372036854775807 - ((c.toNat : Int) - 48)) / 10 then nbGo (10 * n + ((c.toNat : Int) - 48)) l else (n, false)
def nbEnd (r : Int × Bool) : Out := cond r.2 (.exit 0, [.int .i64 r.1, .int .i64 0, .bool false], []) (.ret, [.int .i64 r.1, .int .i64 0, .bool false], [])
theorem drop_byte {s : ByteArray} {i : Int} (h0 : 0 ≤ i) (h1 : i < (s.size : Int)) : ∃ c : UInt8, s.data.toList.drop i.toNat = c :: s.data.toList.drop (i + 1).toNat ∧ byteAt s i = c.toNat := by
  have hl : i.toNat < s.data.toList.length := by rw [data_len]; omega
  refine ⟨s.data.toList[i.toNat], ?_, byteAt_lt h0 h1⟩
  rw [List.drop_eq_getElem_cons hl, show (i + 1).toNat = i.toNat + 1 by omega]
theorem nb_round (gl : Gl) {s : ByteArray} {i n : Int} (h0 : 0 ≤ i) (hs : s.size ≤ 1000000) (hi : i ≤ (s.size : Int)) (hn : 0 ≤ n) (hn2 : n ≤ 9223372036854775807) :
    (i = (s.size : Int) ∧ rnd gl HB0 1000 75 0 nbLive nbOut (nbSt s i n) = some (.inr (nbEnd (n, true)))) ∨
    (i < (s.size : Int) ∧ ∃ c : UInt8, s.data.toList.drop i.toNat = c :: s.data.toList.drop (i + 1).toNat ∧
      ((48 ≤ c.toNat ∧ c.toNat ≤ 57 ∧ n ≤ (9223372036854775807 - ((c.toNat : Int) - 48)) / 10) ∧ rnd gl HB0 1000 75 0 nbLive nbOut (nbSt s i n) = some (.inl (nbSt s (i + 1) (10 * n + ((c.toNat : Int) - 48)))) ∨
       ¬ (48 ≤ c.toNat ∧ c.toNat ≤ 57 ∧ n ≤ (9223372036854775807 - ((c.toNat : Int) - 48)) / 10) ∧ rnd gl HB0 1000 75 0 nbLive nbOut (nbSt s i n) = some (.inr (nbEnd (n, false))))) := by
  rw [q_nb]
  by_cases h : i < (s.size : Int)
  case neg => exact .inl ⟨by omega, condE (decide_eq_false h) rfl⟩
  refine .inr ⟨h, ?_⟩
  obtain ⟨c, hc, hb⟩ := drop_byte h0 h
  refine ⟨c, hc, ?_⟩
  have hc2 : c.toNat < 256 := c.toNat_lt
  rw [hb, decide_eq_true h, decide_eq_true h0]
  by_cases h1 : 48 ≤ c.toNat
  case neg =>
    refine .inr ⟨fun q => h1 q.1, ?_⟩
    rw [decide_eq_true (show ((c.toNat : Nat) : Int) < 48 by omega)]
    rfl
  rw [decide_eq_false (show ¬ ((c.toNat : Nat) : Int) < 48 by omega)]
  by_cases h2 : c.toNat ≤ 57
  case neg =>
    refine .inr ⟨fun q => h2 q.2.1, ?_⟩
    rw [decide_eq_true (show ((c.toNat : Nat) : Int) > 57 by omega)]
    rfl
  rw [decide_eq_false (show ¬ ((c.toNat : Nat) : Int) > 57 by omega)]
  have w1 : IntKind.u8.wrap ((c.toNat : Int) - 48) = (c.toNat : Int) - 48 := wrap_u8 (by omega) (by omega)
  have w2 : IntKind.i64.wrap ((c.toNat : Int) - 48) = (c.toNat : Int) - 48 := wrap_64 (by omega) (by omega)
  have w3 : IntKind.i64.wrap (9223372036854775807 - ((c.toNat : Int) - 48)) = 9223372036854775807 - ((c.toNat : Int) - 48) := wrap_64 (by omega) (by omega)
  have e4 : (9223372036854775807 - ((c.toNat : Int) - 48)).tdiv 10 = (9223372036854775807 - ((c.toNat : Int) - 48)) / 10 := tdivE (by omega)
  have w5 : IntKind.i64.wrap ((9223372036854775807 - ((c.toNat : Int) - 48)) / 10) = (9223372036854775807 - ((c.toNat : Int) - 48)) / 10 := wrap_64 (by omega) (by omega)
  have w6 : IntKind.i64.wrap (i + 1) = i + 1 := wrap_64 (by omega) (by omega)
  rw [w1, w2, w3, e4, w5, w6]
  by_cases h3 : n ≤ (9223372036854775807 - ((c.toNat : Int) - 48)) / 10
  case neg =>
    refine .inr ⟨fun q => h3 q.2.2, ?_⟩
    rw [decide_eq_true (show n > (9223372036854775807 - ((c.toNat : Int) - 48)) / 10 by omega)]
    rfl
  refine .inl ⟨⟨h1, h2, h3⟩, ?_⟩
  rw [decide_eq_false (show ¬ n > (9223372036854775807 - ((c.toNat : Int) - 48)) / 10 by omega)]
  have w7 : IntKind.i64.wrap (10 * n) = 10 * n := wrap_64 (by omega) (by omega)
  have w8 : IntKind.i64.wrap (10 * n + ((c.toNat : Int) - 48)) = 10 * n + ((c.toNat : Int) - 48) := wrap_64 (by omega) (by omega)
  rw [w7, w8]
  rfl
def nbH : Hd := fun vs rows => match vs, rows with
  | [.int .i64 i, .int .i64 n, .string s, .int .i64 x, .bool y], [] => some (.br (decide (i = 0) && decide (n = 0) && decide (x = 0) && !y && decide (s.size ≤ 1000000)) (.br (nbGo 0 s.data.toList).2 (.ret (nbEnd ((nbGo 0 s.data.toList).1, true))) (.ret (nbEnd ((nbGo 0 s.data.toList).1, false)))) .fail)
  | _, _ => none
theorem nb_ok {gl : Gl} (hgl : Low gl) : LpOK Tryd.prog gl 75 0 ⟨nbLive, nbOut, nbH⟩ := loop_of noSy_ok goodT hgl tglob HB0_ok (L := 100) (G := 40) (d := 40) fun vs rows t r h1 h2 => by
  simp only [nbH] at h1
  split at h1
  · rename_i i n s x y
    cases h1
    obtain ⟨hg, h3⟩ := brT h2
    simp only [Bool.and_eq_true, decide_eq_true_eq, Bool.not_eq_true'] at hg
    obtain ⟨⟨⟨⟨rfl, rfl⟩, rfl⟩, rfl⟩, hs⟩ := hg
    have hr : r = nbEnd (nbGo 0 s.data.toList) := by
      rcases brC h3 with ⟨k1, k2⟩ | ⟨k1, k2⟩
      · cases k2
        exact congrArg nbEnd (Prod.ext rfl k1.symm)
      · cases k2
        exact congrArg nbEnd (Prod.ext rfl k1.symm)
    subst hr
    refine ⟨show 1000 ≤ most by decide, {p : Int × Int // 0 ≤ p.1 ∧ p.1 ≤ (s.size : Int) ∧ 0 ≤ p.2 ∧ p.2 ≤ 9223372036854775807}, fun p => nbSt s p.1.1 p.1.2, fun p => some (nbEnd (nbGo p.1.2 (s.data.toList.drop p.1.1.toNat))), fun p => ((s.size : Int) - p.1.1).toNat, ⟨(0, 0), by simp only; omega⟩, .inl rfl, rfl, ?_⟩
    rintro ⟨⟨i, n⟩, i0, i1, n0, n1⟩ o ho
    simp only at i0 i1 n0 n1 ho
    cases ho
    rcases nb_round gl i0 hs i1 n0 n1 with ⟨e, hr⟩ | ⟨hlt, c, hd, ⟨hc, hr⟩ | ⟨hc, hr⟩⟩
    · refine ⟨_, hr, ?_⟩
      have e2 : s.data.toList.drop i.toNat = [] := List.drop_eq_nil_of_le (by rw [data_len]; omega)
      show nbEnd (n, true) = nbEnd (nbGo n (s.data.toList.drop i.toNat))
      rw [e2]
      rfl
    · refine ⟨_, hr, ⟨(i + 1, 10 * n + ((c.toNat : Int) - 48)), by simp only; omega⟩, rfl, by simp only; omega, ?_⟩
      simp only
      rw [hd, nbGo, if_pos hc]
    · refine ⟨_, hr, ?_⟩
      show nbEnd (n, false) = nbEnd (nbGo n (s.data.toList.drop i.toNat))
      rw [hd, nbGo, if_neg hc]
  · cases h1
def HNb (g : ByteArray → Bool) (ok : ByteArray → Bool) (v : ByteArray → Int) : Hs := hsOf [] [] [(75, [(0, ⟨nbLive, nbOut, fun vs rows => match vs, rows with
  | [.int .i64 i, .int .i64 n, .string s, .int .i64 x, .bool y], [] => some (.br (decide (i = 0) && decide (n = 0) && decide (x = 0) && !y && decide (s.size ≤ 1000000)) (.br (ok s) (.ret (nbEnd (v s, true))) (.ret (nbEnd (v s, false)))) .fail)
  | _, _ => none⟩)])]
set_option maxRecDepth 100000 in
theorem r_nb (gl : Gl) (g : ByteArray → Bool) (ok : ByteArray → Bool) (v : ByteArray → Int) (s : ByteArray) : evT gl (HNb g ok v) 75 [.string s] =
 cond (s.toList == (⟨#[]⟩ : ByteArray).toList) (
  some (.tuple #[(.int IntKind.i64 0), (.bool false)])) (
  cond (decide ((↑s.size : Int) > 1)) (
   cond (decide (0 < (↑s.size : Int))) (
    cond (byteAt s 0 == 48) (
     some (.tuple #[(.int IntKind.i64 0), (.bool false)])) (
     cond (decide (s.size ≤ 1000000)) (
      cond (ok s) (
       some (.tuple #[(.int IntKind.i64 (v s)), (.bool true)])) (
       some (.tuple #[(.int IntKind.i64 0), (.bool false)]))) (
      none))) (
    none)) (
   cond (decide (s.size ≤ 1000000)) (
    cond (ok s) (
     some (.tuple #[(.int IntKind.i64 (v s)), (.bool true)])) (
     some (.tuple #[(.int IntKind.i64 0), (.bool false)]))) (
    none))) := by kernel_rfl
end Go.Proofs.YtgohnfkidkomhaaDoor

noncomputable section
namespace Go.Proofs.YtgohnfkidkomhaaDoor
open Go.Proofs.YtgohnfkidkomhaaDoor.Ev Go.RowKit

/-! The document's number answers; it is the one that is told so. -/
def nbOk (s : ByteArray) : Bool := (nbGo 0 s.data.toList).2
def nbN (s : ByteArray) : Int := (nbGo 0 s.data.toList).1
def nbBad (s : ByteArray) : Bool := decide (s = ⟨#[]⟩) || (decide ((s.size : Int) > 1) && decide (byteAt s 0 = 48))
def nbP (s : ByteArray) : Bool := !nbBad s && nbOk s
def nbV (s : ByteArray) : Int := cond (nbP s) (nbN s) 0
def afNb (g p : ByteArray → Bool) (v : ByteArray → Int) : AF := fun args _ => match args with
  | [.string s] => some (g s, .tuple #[.int .i64 (v s), .bool (p s)])
  | _ => none
def g6 (s : ByteArray) : Bool := decide (s.size ≤ 1000000)
theorem HNb_ok {gl : Gl} (hgl : Low gl) : (HNb (fun _ => true) nbOk nbN).OK Tryd.prog gl := hsOf_ok (fun _ h => by cases h) (fun _ h => by cases h) (fun p hp q hq => by
    simp only [List.mem_cons, List.not_mem_nil, or_false] at hp
    subst hp
    simp only [List.mem_cons, List.not_mem_nil, or_false] at hq
    subst hq
    exact nb_ok hgl)
theorem fn_nb {gl : Gl} (hgl : Low gl) : FnOK Tryd.prog gl 75 (afNb g6 nbP nbV) :=
  fn_of noSy_ok goodB hgl tglob (HNb_ok hgl) (L := 100) (G := 40) (d := 40) fun args σ v e => by
    unfold afNb at e
    split at e
    · rename_i s
      simp only [Option.some.injEq, Prod.mk.injEq] at e
      obtain ⟨h1, rfl⟩ := e
      refine ⟨rfl, (r_nb gl (fun _ => true) nbOk nbN s).trans ?_⟩
      have hs : s.size ≤ 1000000 := of_decide_eq_true h1
      unfold nbV nbP nbBad
      rw [beqS, decide_eq_true hs]
      by_cases h0 : s = ⟨#[]⟩
      · rw [decide_eq_true h0]; rfl
      rw [decide_eq_false h0]
      have hz : 0 < s.size := by
        rcases Nat.eq_zero_or_pos s.size with e | e
        · refine absurd (ba_ext ?_) h0
          have : s.data.toList.length = 0 := by rw [data_len]; exact e
          rw [List.length_eq_zero_iff.1 this]
        · exact e
      by_cases h1 : (s.size : Int) > 1
      · rw [decide_eq_true h1, decide_eq_true (show (0 : Int) < s.size by omega)]
        by_cases h2 : byteAt s 0 = 48
        · rw [show (byteAt s 0 == 48) = true by rw [h2]; rfl, decide_eq_true h2]; rfl
        · rw [show (byteAt s 0 == 48) = false by simpa using h2, decide_eq_false h2]
          cases nbOk s <;> rfl
      · rw [decide_eq_false h1]
        cases nbOk s <;> rfl
    · cases e
theorem nbGo_snoc : ∀ (l : List UInt8) (n m : Int) (c : UInt8), nbGo n l = (m, true) → (48 ≤ c.toNat ∧ c.toNat ≤ 57 ∧ m ≤ (9223372036854775807 - ((c.toNat : Int) - 48)) / 10) → nbGo n (l ++ [c]) = (10 * m + ((c.toNat : Int) - 48), true)
  | [], n, m, c, h, hc => by
    cases h
    show nbGo n [c] = _
    rw [nbGo, if_pos hc]
    rfl
  | b :: l, n, m, c, h, hc => by
    rw [nbGo] at h
    show nbGo n (b :: (l ++ [c])) = _
    rw [nbGo]
    split at h
    · rename_i hb
      rw [if_pos hb]
      exact nbGo_snoc l _ m c h hc
    · cases h
theorem nbGo_dec (n : Nat) : n ≤ 9223372036854775807 → nbGo 0 (Lib.decDigits n) = ((n : Int), true) := by
  refine dig_ind (P := fun n => n ≤ 9223372036854775807 → nbGo 0 (Lib.decDigits n) = ((n : Int), true)) (fun n h hn => ?_) (fun n h ih hn => ?_) n
  · have e := dig_nat8 h
    rw [Lib.decDigits_one h, nbGo, if_pos (by rw [e]; omega), e]
    show ((_ : Int), true) = _
    congr 1
    omega
  · have e := dig_nat8 (d := n % 10) (by omega)
    rw [decDigits_big h, nbGo_snoc _ 0 _ _ (ih (by omega)) (by rw [e]; omega), e]
    congr 1
    omega
theorem dec_head (n : Nat) : 1 ≤ n → ∃ c l, Lib.decDigits n = c :: l ∧ c.toNat ≠ 48 := by
  refine dig_ind (P := fun n => 1 ≤ n → ∃ c l, Lib.decDigits n = c :: l ∧ c.toNat ≠ 48) (fun n h hn => ?_) (fun n h ih hn => ?_) n
  · exact ⟨_, [], Lib.decDigits_one h, by rw [dig_nat8 h]; omega⟩
  · obtain ⟨c, l, h1, h2⟩ := ih (by omega)
    exact ⟨c, l ++ [UInt8.ofNat (48 + n % 10)], by rw [decDigits_big h, h1]; rfl, h2⟩
theorem nbGo_inv : ∀ (l : List UInt8) (n v : Int), 1 ≤ n → n ≤ 9223372036854775807 → nbGo n l = (v, true) → n ≤ v ∧ v ≤ 9223372036854775807 ∧ Lib.decDigits v.toNat = Lib.decDigits n.toNat ++ l
  | [], n, v, h0, h1, h => by
    cases h
    exact ⟨Int.le_refl _, h1, by simp⟩
  | c :: l, n, v, h0, h1, h => by
    rw [nbGo] at h
    split at h
    · rename_i hc
      obtain ⟨k1, k2, k3⟩ := nbGo_inv l _ v (by omega) (by omega) h
      refine ⟨by omega, k2, ?_⟩
      have e1 : (10 * n + ((c.toNat : Int) - 48)).toNat / 10 = n.toNat := by omega
      have e2 : 48 + (10 * n + ((c.toNat : Int) - 48)).toNat % 10 = c.toNat := by omega
      rw [k3, decDigits_big (n := (10 * n + ((c.toNat : Int) - 48)).toNat) (by omega), e1, e2, List.append_assoc]
      simp
    · cases h
theorem nb_canon {s : ByteArray} (h : nbP s = true) : 0 ≤ nbV s ∧ nbV s ≤ 9223372036854775807 ∧ s = itoaB (nbV s) := by
  have hv : nbV s = nbN s := by unfold nbV; rw [h]; rfl
  rw [hv]
  unfold nbP nbBad at h
  simp only [Bool.and_eq_true, Bool.not_eq_true', Bool.or_eq_false_iff, decide_eq_false_iff_not, Bool.and_eq_false_iff] at h
  obtain ⟨⟨h0, h1⟩, h2⟩ := h
  unfold nbOk at h2
  unfold nbN
  have key : ∃ c l, s.data.toList = c :: l := by
    cases hq : s.data.toList with
    | nil => exact absurd (ba_ext hq) h0
    | cons c l => exact ⟨c, l, rfl⟩
  obtain ⟨c, l, hl⟩ := key
  have hb0 : byteAt s 0 = c.toNat := by
    obtain ⟨c', hc, hb⟩ := drop_byte (s := s) (i := 0) (by decide) (by have := data_len s; rw [hl, List.length_cons] at this; omega)
    rw [hb]
    rw [show (0 : Int).toNat = 0 from rfl, List.drop_zero, hl] at hc
    cases hc; rfl
  have hsz : s.size = l.length + 1 := by rw [← data_len s, hl, List.length_cons]
  generalize hr : nbGo 0 s.data.toList = r at h2 ⊢
  obtain ⟨v, ok⟩ := r
  simp only at h2 ⊢
  subst h2
  rw [hl, nbGo] at hr
  split at hr
  · rename_i hc
    have fin : ∀ {v : Int}, 0 ≤ v → Lib.decDigits v.toNat = c :: l → s = itoaB v := fun h0 e => ba_ext (by rw [itoa_data h0, e, hl])
    cases l with
    | nil =>
      have e : 10 * 0 + ((c.toNat : Int) - 48) = v := congrArg Prod.fst hr
      refine ⟨by omega, by omega, fin (by omega) ?_⟩
      rw [Lib.decDigits_one (by omega)]
      have : 48 + v.toNat = c.toNat := by omega
      rw [this]
      simp
    | cons b l =>
      have hc48 : c.toNat ≠ 48 := fun e => by
        rcases h1 with h1 | h1
        · rw [hsz, List.length_cons] at h1; omega
        · rw [hb0, e] at h1; exact h1 rfl
      obtain ⟨k1, k2, k3⟩ := nbGo_inv (b :: l) _ v (by omega) (by omega) hr
      refine ⟨by omega, k2, fin (by omega) ?_⟩
      rw [k3, Lib.decDigits_one (by omega)]
      have : 48 + (10 * 0 + ((c.toNat : Int) - 48)).toNat = c.toNat := by omega
      rw [this]
      simp
  · cases hr
theorem nb_told {n : Int} (h0 : 0 ≤ n) (h1 : n ≤ 9223372036854775807) : nbP (itoaB n) = true ∧ nbV (itoaB n) = n := by
  have hg : nbGo 0 (itoaB n).data.toList = (n, true) := by
    rw [itoa_data h0, nbGo_dec n.toNat (by omega)]
    congr 1; omega
  have hp : nbP (itoaB n) = true := by
    unfold nbP nbBad nbOk
    rw [hg]
    simp only [Bool.and_true, Bool.not_eq_true', Bool.or_eq_false_iff, decide_eq_false_iff_not, Bool.and_eq_false_iff]
    have hne := dec_ne n.toNat
    refine ⟨fun e => ?_, ?_⟩
    · have := congrArg (fun x : ByteArray => x.data.toList) e
      simp only [itoa_data h0] at this
      exact hne this
    · by_cases hz : n < 10
      · left
        rw [itoa_small h0 hz]
        show ¬ ((1 : Nat) : Int) > 1
        omega
      · right
        obtain ⟨c, l, e1, e2⟩ := dec_head n.toNat (by omega)
        intro e
        have hl : (itoaB n).data.toList = c :: l := by rw [itoa_data h0, e1]
        obtain ⟨c', hc, hb⟩ := drop_byte (s := itoaB n) (i := 0) (by decide) (by have := data_len (itoaB n); rw [hl, List.length_cons] at this; omega)
        rw [show (0 : Int).toNat = 0 from rfl, List.drop_zero, hl] at hc
        cases hc
        rw [hb] at e
        omega
  refine ⟨hp, ?_⟩
  unfold nbV
  rw [hp]
  unfold nbN
  rw [hg]
  rfl
end Go.Proofs.YtgohnfkidkomhaaDoor

noncomputable section
namespace Go.Proofs.YtgohnfkidkomhaaDoor
open Go.Proofs.YtgohnfkidkomhaaDoor.Ev Go.RowKit

/-! The document's words: what stands between blanks. -/
theorem noB_of {c : UInt8} {s : ByteArray} (h : ∀ i : Int, 0 ≤ i → i < (s.size : Int) → byteAt s i ≠ c.toNat) : NoB c s := fun e => by
  obtain ⟨k, hk⟩ := List.getElem?_of_mem e
  obtain ⟨hlt, hget⟩ := List.getElem?_eq_some_iff.1 hk
  rw [data_len] at hlt
  refine h (k : Int) (by omega) (by omega) ?_
  rw [byteAt_lt (by omega) (by omega)]
  simp only [Int.toNat_natCast, hget]
theorem subS_all (s : ByteArray) : subS s 0 (s.size : Int) = s := by
  have z := subS_size (s := s) (l := 0) (h := (s.size : Int)) (by decide) (by omega) (by omega)
  refine ext_bytes (by omega) fun i i0 i1 => ?_
  rw [byteAt_subS (by decide) (by omega) (by omega) i0 (by omega), Int.zero_add]
theorem sub_cut {s : ByteArray} {a i : Int} {c : UInt8} (h0 : 0 ≤ a) (h1 : a ≤ i) (h2 : i < (s.size : Int)) (hb : byteAt s i = c.toNat) : subS s a (s.size : Int) = subS s a i ++ ((⟨#[c]⟩ : ByteArray) ++ subS s (i + 1) (s.size : Int)) := by
  have z := subS_size (s := s) (l := a) (h := (s.size : Int)) h0 (by omega) (by omega)
  have z1 := subS_size (s := s) (l := a) (h := i) h0 h1 (by omega)
  have z2 := subS_size (s := s) (l := i + 1) (h := (s.size : Int)) (by omega) (by omega) (by omega)
  have zc : (⟨#[c]⟩ : ByteArray).size = 1 := rfl
  have ez := app_size (subS s a i) ((⟨#[c]⟩ : ByteArray) ++ subS s (i + 1) (s.size : Int))
  have ez2 := app_size (⟨#[c]⟩ : ByteArray) (subS s (i + 1) (s.size : Int))
  refine ext_bytes (by omega) fun j j0 j1 => ?_
  rw [byteAt_subS h0 (by omega) (by omega) j0 (by omega)]
  by_cases g1 : j < i - a
  · rw [byteAt_l j0 (by omega), byteAt_subS h0 h1 (by omega) j0 g1]
  · rw [byteAt_r (by omega) (by omega)]
    by_cases g2 : j = i - a
    · rw [byteAt_l (by omega) (by omega), show j - ((subS s a i).size : Int) = 0 by omega, show a + j = i by omega, hb]
      rfl
    · rw [byteAt_r (by omega) (by omega), byteAt_subS (by omega) (by omega) (by omega) (by omega) (by omega)]
      congr 1
      omega
theorem noB_sub {s : ByteArray} {a i : Int} {c : UInt8} (h0 : 0 ≤ a) (h1 : a ≤ i) (h2 : i ≤ (s.size : Int)) (hn : ∀ j, a ≤ j → j < i → byteAt s j ≠ c.toNat) : NoB c (subS s a i) := noB_of fun j j0 j1 => by
  have z1 := subS_size (s := s) h0 h1 h2
  rw [byteAt_subS h0 h1 h2 j0 (by omega)]
  exact hn _ (by omega) (by omega)
def strC (ss : List ByteArray) : List Value := ss.map .string
theorem strC_all (ss : List ByteArray) : (strC ss).all (af 8) = true := by
  unfold strC
  rw [List.all_map]
  exact List.all_eq_true.2 fun _ _ => rfl
theorem strC_snoc (ss : List ByteArray) (x : ByteArray) : strC (ss ++ [x]) = strC ss ++ [.string x] := List.map_append
def wdSt (s : ByteArray) (i a : Int) (ss : List ByteArray) : LSt := match ss with
  | [] => wdSt0 s i a
  | _ :: _ => wdSt1 s i a (strC ss) ss.length
def wdEnd (ss : List ByteArray) : Out := match ss with
  | [] => (.exit 0, [.slice none 0 0], [])
  | _ :: _ => (.exit 0, [.slice (some ⟨1000, 0, none⟩) ss.length ss.length], [sgRow (strC ss)])
theorem wd_round (gl : Gl) {s : ByteArray} {i a : Int} (ss : List ByteArray) (hs : s.size ≤ 1000000) (i0 : 0 ≤ i) (a0 : 0 ≤ a) (ha : a ≤ i) (hl : ss.length ≤ 2000000) : rnd gl HB0 1000 74 0 wdLive wdOutL (wdSt s i a ss) =
    some (if i ≤ (s.size : Int) then (if i = (s.size : Int) ∨ byteAt s i = 32 then .inl (wdSt s (i + 1) (i + 1) (ss ++ [subS s a i])) else .inl (wdSt s (i + 1) a ss)) else .inr (wdEnd ss)) := by
  by_cases h : i ≤ (s.size : Int)
  case neg =>
    rw [if_neg h]
    cases ss with
    | nil => exact (q_wd0 gl s i a).trans (condE (decide_eq_false h) rfl)
    | cons x l => exact (q_wd1 gl s i a (strC (x :: l)) (x :: l).length).trans (condE (decide_eq_false h) (condI (andI (strC_all _) rfl) rfl))
  rw [if_pos h]
  have w : IntKind.i64.wrap (i + 1) = i + 1 := wrap_64 (by omega) (by omega)
  have hrng : (decide (0 ≤ a) && decide (a ≤ i) && true) = true := by rw [decide_eq_true a0, decide_eq_true ha]; rfl
  have hd := decide_eq_true h
  cases ss with
  | nil =>
    refine (q_wd0 gl s i a).trans ?_
    rw [hd, cond_true, hrng, cond_true, w]
    by_cases e : i = (s.size : Int)
    · rw [if_pos (.inl e), show (i == (s.size : Int)) = true by simpa using e]
      rfl
    · rw [show (i == (s.size : Int)) = false by simpa using e, cond_false]
      refine condI (by rw [decide_eq_true i0, decide_eq_true (show i < (s.size : Int) by omega)]; rfl) ?_
      by_cases hb : byteAt s i = 32
      · rw [if_pos (.inr hb), show (byteAt s i == 32) = true by simpa using hb]
        rfl
      · rw [if_neg (by simp [e, hb]), show (byteAt s i == 32) = false by simpa using hb]
        rfl
  | cons x l =>
    refine (q_wd1 gl s i a (strC (x :: l)) (x :: l).length).trans ?_
    have hA : (strC (x :: l) ++ [Value.string (subS s a i)]).all (af 8) = true := by rw [← strC_snoc]; exact strC_all _
    have key : (cond ((x :: l).length.ble (x :: l).length) (cond ((((x :: l).length + 1) * 16).ble 140737488355328 && (((x :: l).length + 1).ble 1099511627776)) (cond (((x :: l).length * 1).beq (strC (x :: l)).length) (cond ((strC (x :: l) ++ [Value.string (subS s a i)]).all (af 8) && true)
        (some (.inl ([.int .i64 (i + 1), .int .i64 (i + 1), .string s, .slice (some ⟨1000, 0, none⟩) ((x :: l).length + 1) ((x :: l).length + 1)], [some (.row ⟨strC (x :: l) ++ [Value.string (subS s a i)], 9, (0, 0), 1, false, false⟩)]))) none) none) none) none : Option (LSt ⊕ Out)) = some (.inl (wdSt s (i + 1) (i + 1) (x :: l ++ [subS s a i]))) := by
      refine condI (nble (Nat.le_refl _)) (condI (andI (nble (by omega)) (nble (by omega))) (condI ?_ (condI (andI hA rfl) ?_)))
      · rw [show (strC (x :: l)).length = (x :: l).length from List.length_map _, Nat.mul_one]
        exact Nat.beq_refl _
      · rw [← strC_snoc]
        show _ = some (Sum.inl (wdSt1 s (i + 1) (i + 1) (strC (x :: l ++ [subS s a i])) (x :: l ++ [subS s a i]).length))
        rw [show (x :: l ++ [subS s a i]).length = (x :: l).length + 1 by simp]
        rfl
    rw [hd, cond_true, hrng, cond_true, w]
    by_cases e : i = (s.size : Int)
    · rw [if_pos (.inl e), show (i == (s.size : Int)) = true by simpa using e]
      exact key
    · rw [show (i == (s.size : Int)) = false by simpa using e, cond_false]
      refine condI (by rw [decide_eq_true i0, decide_eq_true (show i < (s.size : Int) by omega)]; rfl) ?_
      by_cases hb : byteAt s i = 32
      · rw [if_pos (.inr hb), show (byteAt s i == 32) = true by simpa using hb]
        exact key
      · rw [if_neg (by simp [e, hb]), show (byteAt s i == 32) = false by simpa using hb]
        exact (show _ = _ from condI (b := (strC (x :: l)).all (af 8) && true) (andI (strC_all _) rfl) rfl)
def wdFin (s : ByteArray) (i a : Int) (ss : List ByteArray) : Out := wdEnd (if i ≤ (s.size : Int) then ss ++ splB (subS s a (s.size : Int)) spB else ss)
def wdO (x : Ex) (ss : List ByteArray) : Out := (x, [.slice (some ⟨1000, 0, none⟩) ss.length ss.length], [sgRow (strC ss)])
def wdH : Hd := fun vs rows => match vs, rows with
  | [.int .i64 i, .int .i64 a, .string s, .slice none x y], [] => some (.br (decide (i = 0) && decide (a = 0) && Nat.beq x 0 && Nat.beq y 0 && decide (s.size ≤ 1000000)) (.ret (wdO (.exit 0) (splB s spB))) .fail)
  | _, _ => none
theorem wdEnd_ne {ss : List ByteArray} (h : ss ≠ []) : wdEnd ss = wdO (.exit 0) ss := by
  cases ss with
  | nil => exact absurd rfl h
  | cons x l => rfl
theorem wd_ok {gl : Gl} (hgl : Low gl) : LpOK Tryd.prog gl 74 0 ⟨wdLive, wdOutL, wdH⟩ := loop_of noSy_ok goodT hgl tglob HB0_ok (L := 100) (G := 40) (d := 40) fun vs rows t r h1 h2 => by
  simp only [wdH] at h1
  split at h1
  · rename_i i a s x y
    cases h1
    obtain ⟨hg, h3⟩ := brT h2
    simp only [Bool.and_eq_true, decide_eq_true_eq, nbeq] at hg
    obtain ⟨⟨⟨⟨rfl, rfl⟩, rfl⟩, rfl⟩, hs⟩ := hg
    cases h3
    refine ⟨show 1000 ≤ most by decide, {p : Int × Int × List ByteArray // 0 ≤ p.1 ∧ p.1 ≤ (s.size : Int) + 1 ∧ 0 ≤ p.2.1 ∧ p.2.1 ≤ p.1 ∧ (∀ j, p.2.1 ≤ j → j < p.1 → j < (s.size : Int) → byteAt s j ≠ 32) ∧ p.2.2.length ≤ p.1}, fun p => wdSt s p.1.1 p.1.2.1 p.1.2.2, fun p => some (wdFin s p.1.1 p.1.2.1 p.1.2.2), fun p => ((s.size : Int) + 1 - p.1.1).toNat, ⟨(0, 0, []), by simp only; exact ⟨by omega, by omega, by omega, by omega, fun j j0 j1 => by omega, by simp⟩⟩, .inl rfl, ?_, ?_⟩
    · show some (wdFin s 0 0 []) = _
      unfold wdFin
      rw [if_pos (by omega), List.nil_append, subS_all]
      exact congrArg some (wdEnd_ne (splB_ne s 32))
    rintro ⟨⟨i, a, ss⟩, i0, i1, a0, ha, hn, hl⟩ o ho
    simp only at i0 i1 a0 ha hn hl ho
    cases ho
    refine ⟨_, wd_round gl ss hs i0 a0 ha (by omega), ?_⟩
    by_cases h : i ≤ (s.size : Int)
    case neg =>
      rw [if_neg h]
      show wdEnd ss = wdFin s i a ss
      unfold wdFin
      rw [if_neg h]
    rw [if_pos h]
    by_cases hb : i = (s.size : Int) ∨ byteAt s i = 32
    · rw [if_pos hb]
      refine ⟨⟨(i + 1, i + 1, ss ++ [subS s a i]), by simp only; exact ⟨by omega, by omega, by omega, by omega, fun j j0 j1 => by omega, by rw [List.length_append]; simp; omega⟩⟩, rfl, by simp only; omega, ?_⟩
      simp only
      unfold wdFin
      rw [if_pos h]
      have hno : NoB 32 (subS s a i) := noB_sub a0 ha h fun j j0 j1 => hn j j0 j1 (by omega)
      by_cases e : i = (s.size : Int)
      · rw [if_neg (by omega), ← e]
        exact congrArg (fun l => some (wdEnd (ss ++ l))) (splB_one hno).symm
      · have hb : byteAt s i = 32 := by
          rcases hb with hb | hb
          · exact absurd hb e
          · exact hb
        rw [if_pos (by omega), sub_cut (c := 32) a0 ha (by omega) hb]
        show some (wdEnd _) = some (wdEnd (ss ++ splB (subS s a i ++ ((⟨#[32]⟩ : ByteArray) ++ subS s (i + 1) (s.size : Int))) ⟨#[32]⟩))
        rw [splB_app _ hno, List.append_assoc]
        rfl
    · rw [if_neg hb]
      have hb1 : i ≠ (s.size : Int) := fun e => hb (.inl e)
      have hb2 : byteAt s i ≠ 32 := fun e => hb (.inr e)
      refine ⟨⟨(i + 1, a, ss), by simp only; exact ⟨by omega, by omega, a0, by omega, fun j j0 j1 j2 => by
        by_cases e : j = i
        · rw [e]; exact hb2
        · exact hn j j0 (by omega) j2, by omega⟩⟩, rfl, by simp only; omega, ?_⟩
      simp only
      unfold wdFin
      rw [if_pos h, if_pos (by omega)]
  · cases h1
def HWd (sp : ByteArray → List ByteArray) : Hs := hsOf [] [] [(74, [(0, ⟨wdLive, wdOutL, fun vs rows => match vs, rows with
  | [.int .i64 i, .int .i64 a, .string s, .slice none x y], [] => some (.br (decide (i = 0) && decide (a = 0) && Nat.beq x 0 && Nat.beq y 0 && decide (s.size ≤ 1000000)) (.ret (wdO (.exit 0) (sp s))) .fail)
  | _, _ => none⟩)])]
set_option maxRecDepth 100000 in
theorem r_wds (gl : Gl) (sp : ByteArray → List ByteArray) (s : ByteArray) : callSK noSy Tryd.prog gl exB (HWd sp) 100 40 40 (.fn 74) [.string s] (rowsOf []) (exitK Tryd.prog 1000) =
 cond (decide (s.size ≤ 1000000)) (
  cond (List.all (strC (sp s)) (af 8) && true) (
   cond (List.all (strC (sp s)) (af 8) && true) (
    some (.normal, ([(.slice (some ⟨1000, 0, none⟩) ((sp s).length) ((sp s).length))], [some (.row ⟨(strC (sp s)), 9, (0, 0), 1, false, false⟩)]))) (
    none)) (
   none)) (
  none) := by kernel_rfl
end Go.Proofs.YtgohnfkidkomhaaDoor

noncomputable section
namespace Go.Proofs.YtgohnfkidkomhaaDoor
open Go.Proofs.YtgohnfkidkomhaaDoor.Ev Go.RowKit

/-! The document's words answer; kinds; Read. -/
def wdHd (g : ByteArray → Bool) (sp : ByteArray → List ByteArray) : Hd := fun vs rows => match vs, rows with
  | [.string s], [] => some (.br (g s) (.ret (wdO .normal (sp s))) .fail)
  | _, _ => none
theorem HWd_ok {gl : Gl} (hgl : Low gl) : (HWd (fun s => splB s spB)).OK Tryd.prog gl := hsOf_ok (fun _ h => by cases h) (fun _ h => by cases h) (fun p hp q hq => by
    simp only [List.mem_cons, List.not_mem_nil, or_false] at hp
    subst hp
    simp only [List.mem_cons, List.not_mem_nil, or_false] at hq
    subst hq
    exact wd_ok hgl)
theorem words_sub {gl : Gl} (hgl : Low gl) : SubOK Tryd.prog gl 74 (wdHd g6 (fun s => splB s spB)) :=
  sub_of noSy_ok goodB hgl tglob (HWd_ok hgl) (L := 100) (G := 40) (d := 40) fun vs rows t r h1 h2 => by
    unfold wdHd at h1
    split at h1
    case h_2 => cases h1
    rename_i s
    cases h1
    obtain ⟨hg, h3⟩ := brT h2
    cases h3
    exact ⟨show 1000 ≤ most by decide, (r_wds gl (fun s => splB s spB) s).trans (condI hg (condI (andI (strC_all _) rfl) (condI (andI (strC_all _) rfl) rfl)))⟩
/-- Words, by how many there are. -/
def wdH2 (g : ByteArray → Bool) (a b : ByteArray → ByteArray) : Hd := fun vs rows => match vs, rows with
  | [.string s], [] => some (.br (g s) (.ret (wdO .normal [a s, b s])) .fail)
  | _, _ => none
def wdH3 (g : ByteArray → Bool) (a b c : ByteArray → ByteArray) : Hd := fun vs rows => match vs, rows with
  | [.string s], [] => some (.br (g s) (.ret (wdO .normal [a s, b s, c s])) .fail)
  | _, _ => none
def wdH1 (g : ByteArray → Bool) (a : ByteArray → ByteArray) : Hd := fun vs rows => match vs, rows with
  | [.string s], [] => some (.br (g s) (.ret (wdO .normal [a s])) .fail)
  | _, _ => none
def wdH4 (g : ByteArray → Bool) (a b c d : ByteArray → ByteArray) (r : ByteArray → List ByteArray) : Hd := fun vs rows => match vs, rows with
  | [.string s], [] => some (.br (g s) (.ret (wdO .normal (a s :: b s :: c s :: d s :: r s))) .fail)
  | _, _ => none
theorem fn_word {gl : Gl} (hgl : Low gl) : FnOK Tryd.prog gl 69 (afWd kindB) :=
  fn_of noSy_ok goodB hgl tglob HB0_ok (L := 100) (G := 40) (d := 40) fun args σ v e => by
    unfold afWd at e
    split at e
    · rename_i k
      simp only [Option.some.injEq, Prod.mk.injEq, Bool.and_eq_true, decide_eq_true_eq] at e
      obtain ⟨⟨h0, h1⟩, rfl⟩ := e
      refine ⟨rfl, ?_⟩
      rcases (show k = 1 ∨ k = 2 ∨ k = 3 ∨ k = 4 ∨ k = 5 ∨ k = 6 ∨ k = 7 ∨ k = 8 ∨ k = 9 ∨ k = 10 ∨ k = 11 ∨ k = 12 by omega) with rfl | rfl | rfl | rfl | rfl | rfl | rfl | rfl | rfl | rfl | rfl | rfl <;> kernel_rfl
    · cases e
/-- The last kind whose word it is. -/
def kkGo (b : ByteArray) : Nat → Int → Int → Int
  | 0, _, e => e
  | f + 1, k, e => kkGo b f (k + 1) (cond (decide (kindB k = b)) k e)
def kkRows (n : Nat) (cs : List Value) (e c : Int) : List (Option LObj) := (kkSt 1 n cs e c).2
def kkO (n : Nat) (cs : List Value) (e c : Int) : Out := (.exit 0, [.pointer (some ⟨1002, 0, none⟩), .pointer (some ⟨1003, 0, none⟩), .pointer (some ⟨1000, 0, none⟩), .slice (some ⟨1001, 0, none⟩) n n], kkRows n cs e c)
/-- How the loop is come to. -/
def KKG (n : Nat) (cs : List Value) (c : Int) (vs : List Value) (rows : List (Option LObj)) : Prop := (vs, rows) = kkSt 1 n cs 0 c
def kkH (kd : ByteArray → Int) : Hd := fun vs rows => match rows with
  | [some (.row ⟨[_, .int _ c, _, _], _, _, _, _, _⟩), some (.row ⟨[.string x, .string y], _, _, _, _, _⟩), _, _] => some (.br (cl (KKG 2 [.string x, .string y] c vs rows)) (.ret (kkO 2 [.string x, .string y] (kd y) c)) .fail)
  | [some (.row ⟨[_, .int _ c, _, _], _, _, _, _, _⟩), some (.row ⟨[.string x, .string y, .string z], _, _, _, _, _⟩), _, _] => some (.br (cl (KKG 3 [.string x, .string y, .string z] c vs rows)) (.ret (kkO 3 [.string x, .string y, .string z] (kd y) c)) .fail)
  | _ => none
theorem kk_round2 {gl : Gl} {k e c : Int} (x y : ByteArray) (h0 : 1 ≤ k) (h1 : k ≤ 13) : rnd gl (HKk kindB) 1004 35 0 kkLive kkOut (kkSt k 2 [.string x, .string y] e c) =
    some (if k ≤ 12 then .inl (kkSt (k + 1) 2 [.string x, .string y] (cond (decide (kindB k = y)) k e) c) else .inr (kkO 2 [.string x, .string y] e c)) := by
  refine (q_kk2 gl kindB k e c x y).trans ?_
  by_cases h : k ≤ 12
  case neg => rw [if_neg h]; exact condE (decide_eq_false h) rfl
  rw [if_pos h, beqS, wrap_u8 (by omega) (by omega)]
  refine condI (decide_eq_true h) (condI (by rw [decide_eq_true h0, decide_eq_true h]; rfl) ?_)
  cases decide (kindB k = y) with
  | true => exact condI (b := veq 8 (.string y) (.string y)) (veq_str y) (condI (b := veq 8 (.string y) (.string y)) (veq_str y) rfl)
  | false => exact condI (b := veq 8 (.string y) (.string y)) (veq_str y) (condI (b := veq 8 (.string y) (.string y)) (veq_str y) rfl)
theorem kk_round3 {gl : Gl} {k e c : Int} (x y z : ByteArray) (h0 : 1 ≤ k) (h1 : k ≤ 13) : rnd gl (HKk kindB) 1004 35 0 kkLive kkOut (kkSt k 3 [.string x, .string y, .string z] e c) =
    some (if k ≤ 12 then .inl (kkSt (k + 1) 3 [.string x, .string y, .string z] (cond (decide (kindB k = y)) k e) c) else .inr (kkO 3 [.string x, .string y, .string z] e c)) := by
  refine (q_kk3 gl kindB k e c x y z).trans ?_
  by_cases h : k ≤ 12
  case neg => rw [if_neg h]; exact condE (decide_eq_false h) rfl
  rw [if_pos h, beqS, wrap_u8 (by omega) (by omega)]
  refine condI (decide_eq_true h) (condI (by rw [decide_eq_true h0, decide_eq_true h]; rfl) ?_)
  cases decide (kindB k = y) with
  | true => exact condI (b := veq 8 (.string y) (.string y)) (veq_str y) (condI (b := veq 8 (.string y) (.string y)) (veq_str y) rfl)
  | false => exact condI (b := veq 8 (.string y) (.string y)) (veq_str y) (condI (b := veq 8 (.string y) (.string y)) (veq_str y) rfl)
def kkI (y : ByteArray) : Int := kkGo y 12 1 0
theorem HKk_ok {gl : Gl} (hgl : Low gl) : (HKk kindB).OK Tryd.prog gl := one_ok fun p h => by
  simp only [List.mem_cons, List.not_mem_nil, or_false] at h
  subst h
  exact fn_word hgl
theorem kk_ok {gl : Gl} (hgl : Low gl) : LpOK Tryd.prog gl 35 0 ⟨kkLive, kkOut, kkH kkI⟩ := loop_of noSy_ok goodT hgl tglob (HKk_ok hgl) (L := 100) (G := 40) (d := 40) fun vs rows t r h1 h2 => by
  simp only [kkH] at h1
  split at h1
  · rename_i v0 k1 c v2 v3 e1 e2 e3 e4 e5 x y g1 g2 g3 g4 g5 o3 o4
    cases h1
    obtain ⟨hg, h3⟩ := brT h2
    have he := of_cl hg
    have hlen := congrArg (fun p : LSt => p.2.length) he
    simp only at hlen
    cases h3
    refine ⟨by show 1000 + 4 ≤ most; decide, {p : Int × Int // 1 ≤ p.1 ∧ p.1 ≤ 13}, fun p => kkSt p.1.1 2 [.string x, .string y] p.1.2 c, fun p => some (kkO 2 [.string x, .string y] (kkGo y (13 - p.1.1).toNat p.1.1 p.1.2) c), fun p => (14 - p.1.1).toNat, ⟨(1, 0), by simp only; omega⟩, .inl he, rfl, ?_⟩
    rintro ⟨⟨k, e⟩, k0, k1⟩ o ho
    simp only at k0 k1 ho
    cases ho
    refine ⟨_, kk_round2 x y k0 k1, ?_⟩
    by_cases h : k ≤ 12
    · rw [if_pos h]
      refine ⟨⟨(k + 1, _), by simp only; omega⟩, rfl, by simp only; omega, ?_⟩
      simp only
      rw [show (13 - k).toNat = (13 - (k + 1)).toNat + 1 by omega]
      rfl
    · rw [if_neg h]
      show kkO _ _ _ _ = kkO _ _ _ _
      rw [show (13 - k).toNat = 0 by omega]
      rfl
  · rename_i v0 k1 c v2 v3 e1 e2 e3 e4 e5 x y z g1 g2 g3 g4 g5 o3 o4
    cases h1
    obtain ⟨hg, h3⟩ := brT h2
    have he := of_cl hg
    cases h3
    refine ⟨by show 1000 + 4 ≤ most; decide, {p : Int × Int // 1 ≤ p.1 ∧ p.1 ≤ 13}, fun p => kkSt p.1.1 3 [.string x, .string y, .string z] p.1.2 c, fun p => some (kkO 3 [.string x, .string y, .string z] (kkGo y (13 - p.1.1).toNat p.1.1 p.1.2) c), fun p => (14 - p.1.1).toNat, ⟨(1, 0), by simp only; omega⟩, .inl he, rfl, ?_⟩
    rintro ⟨⟨k, e⟩, k0, k1⟩ o ho
    simp only at k0 k1 ho
    cases ho
    refine ⟨_, kk_round3 x y z k0 k1, ?_⟩
    by_cases h : k ≤ 12
    · rw [if_pos h]
      refine ⟨⟨(k + 1, _), by simp only; omega⟩, rfl, by simp only; omega, ?_⟩
      simp only
      rw [show (13 - k).toNat = (13 - (k + 1)).toNat + 1 by omega]
      rfl
    · rw [if_neg h]
      show kkO _ _ _ _ = kkO _ _ _ _
      rw [show (13 - k).toNat = 0 by omega]
      rfl
  · cases h1
structure RdN where
  g : ByteArray → Bool
  sp : ByteArray → List ByteArray
  a : ByteArray → ByteArray
  b : ByteArray → ByteArray
  c : ByteArray → ByteArray
  gn : ByteArray → Bool
  p : ByteArray → Bool
  v : ByteArray → Int
  kd : ByteArray → Int
  gm : C4 Bool
  m : C4 Bool
def HRn (wd : Hd) (F : RdN) : Hs := hsOf [(75, afNb F.gn F.p F.v), (33, afEv F.gm fun k c n u => .bool (F.m k c n u))] [(74, wd)] [(35, [(0, ⟨kkLive, kkOut, kkH F.kd⟩)])]
set_option maxRecDepth 100000 in
theorem r_nrd2 (gl : Gl) (F : RdN) (s : ByteArray) : evT gl (HRn (wdH2 F.g F.a F.b) F) 35 [.string s] =
 cond (F.g s) (
  cond ((F.a s).toList == (⟨#[104, 111, 109, 101]⟩ : ByteArray).toList) (
   cond (cl   (KKG 2 [Value.string (F.a s), Value.string (F.b s)] (-1)     [Value.int IntKind.u8 1, Value.pointer (some (⟨1000, 0, none⟩ : Addr)),       Value.slice (some (⟨1001, 0, none⟩ : Addr)) [F.a s, F.b s].length [F.a s, F.b s].length,       Value.pointer (some (⟨1002, 0, none⟩ : Addr)), Value.pointer (some (⟨1003, 0, none⟩ : Addr))]     [some         (LObj.row           {             cells :=               splice [Value.int IntKind.u8 0, Value.int IntKind.i64 0, Value.int IntKind.i64 0, Value.int IntKind.u32 0]                 0                 (splice                   [Value.int IntKind.u8 0, Value.int IntKind.i64 0, Value.int IntKind.i64 0, Value.int IntKind.u32 0] 1                   [Value.int IntKind.i64 (-1)]),             elem := 31, fz := (0, 0), esz := 0, ro := false, tail := false }),       some (LObj.row { cells := strC [F.a s, F.b s], elem := 9, fz := (0, 0), esz := 1, ro := false, tail := false }),       some         (LObj.row           {             cells :=               [Value.int IntKind.u8 0, Value.int IntKind.i64 0, Value.int IntKind.i64 0, Value.int IntKind.u32 0],             elem := 31, fz := (0, 0), esz := 0, ro := false, tail := false }),       some         (LObj.row           {             cells :=               splice [Value.int IntKind.u8 0, Value.int IntKind.i64 0, Value.int IntKind.i64 0, Value.int IntKind.u32 0]                 0 [Value.int IntKind.u8 0, Value.int IntKind.i64 0, Value.int IntKind.i64 0, Value.int IntKind.u32 0],             elem := 31, fz := (0, 0), esz := 0, ro := false, tail := false })])) (
    cond (F.kd (F.b s) == 4) (
     some (.tuple #[(.agg #[(.int IntKind.u8 0), (.int IntKind.i64 0), (.int IntKind.i64 0), (.int IntKind.u32 0)]), (.int IntKind.i64 6)])) (
     cond (F.kd (F.b s) == 5) (
      some (.tuple #[(.agg #[(.int IntKind.u8 0), (.int IntKind.i64 0), (.int IntKind.i64 0), (.int IntKind.u32 0)]), (.int IntKind.i64 6)])) (
      cond (F.kd (F.b s) == 7) (
       some (.tuple #[(.agg #[(.int IntKind.u8 0), (.int IntKind.i64 0), (.int IntKind.i64 0), (.int IntKind.u32 0)]), (.int IntKind.i64 6)])) (
       cond (F.kd (F.b s) == 11) (
        some (.tuple #[(.agg #[(.int IntKind.u8 0), (.int IntKind.i64 0), (.int IntKind.i64 0), (.int IntKind.u32 0)]), (.int IntKind.i64 6)])) (
        cond (F.gm (F.kd (F.b s)) (-1) 0 0) (
         cond (F.m (F.kd (F.b s)) (-1) 0 0) (
          some (.tuple #[(.agg #[(.int IntKind.u8 (F.kd (F.b s))), (.int IntKind.i64 (-1)), (.int IntKind.i64 0), (.int IntKind.u32 0)]), (.int IntKind.i64 0)])) (
          some (.tuple #[(.agg #[(.int IntKind.u8 0), (.int IntKind.i64 0), (.int IntKind.i64 0), (.int IntKind.u32 0)]), (.int IntKind.i64 6)]))) (
         none)))))) (
    none)) (
   cond (F.gn (F.a s)) (
    cond (F.p (F.a s)) (
     cond (cl   (KKG 2 [Value.string (F.a s), Value.string (F.b s)] (F.v (F.a s))     [Value.int IntKind.u8 1, Value.pointer (some (⟨1000, 0, none⟩ : Addr)),       Value.slice (some (⟨1001, 0, none⟩ : Addr)) [F.a s, F.b s].length [F.a s, F.b s].length,       Value.pointer (some (⟨1002, 0, none⟩ : Addr)), Value.pointer (some (⟨1003, 0, none⟩ : Addr))]     [some         (LObj.row           {             cells :=               splice                 (splice                   [Value.int IntKind.u8 0, Value.int IntKind.i64 0, Value.int IntKind.i64 0, Value.int IntKind.u32 0] 0                   (splice                     [Value.int IntKind.u8 0, Value.int IntKind.i64 0, Value.int IntKind.i64 0, Value.int IntKind.u32 0]                     1 [Value.int IntKind.i64 (-1)]))                 1 [Value.int IntKind.i64 (F.v (F.a s))],             elem := 31, fz := (0, 0), esz := 0, ro := false, tail := false }),       some (LObj.row { cells := strC [F.a s, F.b s], elem := 9, fz := (0, 0), esz := 1, ro := false, tail := false }),       some         (LObj.row           {             cells :=               [Value.int IntKind.u8 0, Value.int IntKind.i64 0, Value.int IntKind.i64 0, Value.int IntKind.u32 0],             elem := 31, fz := (0, 0), esz := 0, ro := false, tail := false }),       some         (LObj.row           {             cells :=               splice [Value.int IntKind.u8 0, Value.int IntKind.i64 0, Value.int IntKind.i64 0, Value.int IntKind.u32 0]                 0 [Value.int IntKind.u8 0, Value.int IntKind.i64 0, Value.int IntKind.i64 0, Value.int IntKind.u32 0],             elem := 31, fz := (0, 0), esz := 0, ro := false, tail := false })])) (
      cond (F.kd (F.b s) == 4) (
       some (.tuple #[(.agg #[(.int IntKind.u8 0), (.int IntKind.i64 0), (.int IntKind.i64 0), (.int IntKind.u32 0)]), (.int IntKind.i64 6)])) (
       cond (F.kd (F.b s) == 5) (
        some (.tuple #[(.agg #[(.int IntKind.u8 0), (.int IntKind.i64 0), (.int IntKind.i64 0), (.int IntKind.u32 0)]), (.int IntKind.i64 6)])) (
        cond (F.kd (F.b s) == 7) (
         some (.tuple #[(.agg #[(.int IntKind.u8 0), (.int IntKind.i64 0), (.int IntKind.i64 0), (.int IntKind.u32 0)]), (.int IntKind.i64 6)])) (
         cond (F.kd (F.b s) == 11) (
          some (.tuple #[(.agg #[(.int IntKind.u8 0), (.int IntKind.i64 0), (.int IntKind.i64 0), (.int IntKind.u32 0)]), (.int IntKind.i64 6)])) (
          cond (F.gm (F.kd (F.b s)) (F.v (F.a s)) 0 0) (
           cond (F.m (F.kd (F.b s)) (F.v (F.a s)) 0 0) (
            some (.tuple #[(.agg #[(.int IntKind.u8 (F.kd (F.b s))), (.int IntKind.i64 (F.v (F.a s))), (.int IntKind.i64 0), (.int IntKind.u32 0)]), (.int IntKind.i64 0)])) (
            some (.tuple #[(.agg #[(.int IntKind.u8 0), (.int IntKind.i64 0), (.int IntKind.i64 0), (.int IntKind.u32 0)]), (.int IntKind.i64 6)]))) (
           none)))))) (
      none)) (
     some (.tuple #[(.agg #[(.int IntKind.u8 0), (.int IntKind.i64 0), (.int IntKind.i64 0), (.int IntKind.u32 0)]), (.int IntKind.i64 6)]))) (
    none))) (
  none) := by kernel_rfl
set_option maxRecDepth 100000 in
theorem r_nrd3 (gl : Gl) (F : RdN) (s : ByteArray) : evT gl (HRn (wdH3 F.g F.a F.b F.c) F) 35 [.string s] =
 cond (F.g s) (
  cond ((F.a s).toList == (⟨#[104, 111, 109, 101]⟩ : ByteArray).toList) (
   cond (cl   (KKG 3 [Value.string (F.a s), Value.string (F.b s), Value.string (F.c s)] (-1)     [Value.int IntKind.u8 1, Value.pointer (some (⟨1000, 0, none⟩ : Addr)),       Value.slice (some (⟨1001, 0, none⟩ : Addr)) [F.a s, F.b s, F.c s].length [F.a s, F.b s, F.c s].length,       Value.pointer (some (⟨1002, 0, none⟩ : Addr)), Value.pointer (some (⟨1003, 0, none⟩ : Addr))]     [some         (LObj.row           {             cells :=               splice [Value.int IntKind.u8 0, Value.int IntKind.i64 0, Value.int IntKind.i64 0, Value.int IntKind.u32 0]                 0                 (splice                   [Value.int IntKind.u8 0, Value.int IntKind.i64 0, Value.int IntKind.i64 0, Value.int IntKind.u32 0] 1                   [Value.int IntKind.i64 (-1)]),             elem := 31, fz := (0, 0), esz := 0, ro := false, tail := false }),       some         (LObj.row           { cells := strC [F.a s, F.b s, F.c s], elem := 9, fz := (0, 0), esz := 1, ro := false, tail := false }),       some         (LObj.row           {             cells :=               [Value.int IntKind.u8 0, Value.int IntKind.i64 0, Value.int IntKind.i64 0, Value.int IntKind.u32 0],             elem := 31, fz := (0, 0), esz := 0, ro := false, tail := false }),       some         (LObj.row           {             cells :=               splice [Value.int IntKind.u8 0, Value.int IntKind.i64 0, Value.int IntKind.i64 0, Value.int IntKind.u32 0]                 0 [Value.int IntKind.u8 0, Value.int IntKind.i64 0, Value.int IntKind.i64 0, Value.int IntKind.u32 0],             elem := 31, fz := (0, 0), esz := 0, ro := false, tail := false })])) (
    cond (F.kd (F.b s) == 4) (
     cond (F.gn (F.c s)) (
      cond (F.p (F.c s)) (
       cond (F.kd (F.b s) != 4) (
        cond (decide (F.v (F.c s) > 4294967295)) (
         some (.tuple #[(.agg #[(.int IntKind.u8 0), (.int IntKind.i64 0), (.int IntKind.i64 0), (.int IntKind.u32 0)]), (.int IntKind.i64 6)])) (
         cond (F.kd (F.b s) == 4) (
          cond (F.gm (F.kd (F.b s)) (-1) (F.v (F.c s)) 0) (
           cond (F.m (F.kd (F.b s)) (-1) (F.v (F.c s)) 0) (
            some (.tuple #[(.agg #[(.int IntKind.u8 (F.kd (F.b s))), (.int IntKind.i64 (-1)), (.int IntKind.i64 (F.v (F.c s))), (.int IntKind.u32 0)]), (.int IntKind.i64 0)])) (
            some (.tuple #[(.agg #[(.int IntKind.u8 0), (.int IntKind.i64 0), (.int IntKind.i64 0), (.int IntKind.u32 0)]), (.int IntKind.i64 6)]))) (
           none)) (
          cond (F.gm (F.kd (F.b s)) (-1) 0 (IntKind.u32.wrap (F.v (F.c s)))) (
           cond (F.m (F.kd (F.b s)) (-1) 0 (IntKind.u32.wrap (F.v (F.c s)))) (
            some (.tuple #[(.agg #[(.int IntKind.u8 (F.kd (F.b s))), (.int IntKind.i64 (-1)), (.int IntKind.i64 0), (.int IntKind.u32 (IntKind.u32.wrap (F.v (F.c s))))]), (.int IntKind.i64 0)])) (
            some (.tuple #[(.agg #[(.int IntKind.u8 0), (.int IntKind.i64 0), (.int IntKind.i64 0), (.int IntKind.u32 0)]), (.int IntKind.i64 6)]))) (
           none)))) (
        cond (F.kd (F.b s) == 4) (
         cond (F.gm (F.kd (F.b s)) (-1) (F.v (F.c s)) 0) (
          cond (F.m (F.kd (F.b s)) (-1) (F.v (F.c s)) 0) (
           some (.tuple #[(.agg #[(.int IntKind.u8 (F.kd (F.b s))), (.int IntKind.i64 (-1)), (.int IntKind.i64 (F.v (F.c s))), (.int IntKind.u32 0)]), (.int IntKind.i64 0)])) (
           some (.tuple #[(.agg #[(.int IntKind.u8 0), (.int IntKind.i64 0), (.int IntKind.i64 0), (.int IntKind.u32 0)]), (.int IntKind.i64 6)]))) (
          none)) (
         cond (F.gm (F.kd (F.b s)) (-1) 0 (IntKind.u32.wrap (F.v (F.c s)))) (
          cond (F.m (F.kd (F.b s)) (-1) 0 (IntKind.u32.wrap (F.v (F.c s)))) (
           some (.tuple #[(.agg #[(.int IntKind.u8 (F.kd (F.b s))), (.int IntKind.i64 (-1)), (.int IntKind.i64 0), (.int IntKind.u32 (IntKind.u32.wrap (F.v (F.c s))))]), (.int IntKind.i64 0)])) (
           some (.tuple #[(.agg #[(.int IntKind.u8 0), (.int IntKind.i64 0), (.int IntKind.i64 0), (.int IntKind.u32 0)]), (.int IntKind.i64 6)]))) (
          none)))) (
       some (.tuple #[(.agg #[(.int IntKind.u8 0), (.int IntKind.i64 0), (.int IntKind.i64 0), (.int IntKind.u32 0)]), (.int IntKind.i64 6)]))) (
      none)) (
     cond (F.kd (F.b s) == 5) (
      cond (F.gn (F.c s)) (
       cond (F.p (F.c s)) (
        cond (F.kd (F.b s) != 4) (
         cond (decide (F.v (F.c s) > 4294967295)) (
          some (.tuple #[(.agg #[(.int IntKind.u8 0), (.int IntKind.i64 0), (.int IntKind.i64 0), (.int IntKind.u32 0)]), (.int IntKind.i64 6)])) (
          cond (F.kd (F.b s) == 4) (
           cond (F.gm (F.kd (F.b s)) (-1) (F.v (F.c s)) 0) (
            cond (F.m (F.kd (F.b s)) (-1) (F.v (F.c s)) 0) (
             some (.tuple #[(.agg #[(.int IntKind.u8 (F.kd (F.b s))), (.int IntKind.i64 (-1)), (.int IntKind.i64 (F.v (F.c s))), (.int IntKind.u32 0)]), (.int IntKind.i64 0)])) (
             some (.tuple #[(.agg #[(.int IntKind.u8 0), (.int IntKind.i64 0), (.int IntKind.i64 0), (.int IntKind.u32 0)]), (.int IntKind.i64 6)]))) (
            none)) (
           cond (F.gm (F.kd (F.b s)) (-1) 0 (IntKind.u32.wrap (F.v (F.c s)))) (
            cond (F.m (F.kd (F.b s)) (-1) 0 (IntKind.u32.wrap (F.v (F.c s)))) (
             some (.tuple #[(.agg #[(.int IntKind.u8 (F.kd (F.b s))), (.int IntKind.i64 (-1)), (.int IntKind.i64 0), (.int IntKind.u32 (IntKind.u32.wrap (F.v (F.c s))))]), (.int IntKind.i64 0)])) (
             some (.tuple #[(.agg #[(.int IntKind.u8 0), (.int IntKind.i64 0), (.int IntKind.i64 0), (.int IntKind.u32 0)]), (.int IntKind.i64 6)]))) (
            none)))) (
         cond (F.kd (F.b s) == 4) (
          cond (F.gm (F.kd (F.b s)) (-1) (F.v (F.c s)) 0) (
           cond (F.m (F.kd (F.b s)) (-1) (F.v (F.c s)) 0) (
            some (.tuple #[(.agg #[(.int IntKind.u8 (F.kd (F.b s))), (.int IntKind.i64 (-1)), (.int IntKind.i64 (F.v (F.c s))), (.int IntKind.u32 0)]), (.int IntKind.i64 0)])) (
            some (.tuple #[(.agg #[(.int IntKind.u8 0), (.int IntKind.i64 0), (.int IntKind.i64 0), (.int IntKind.u32 0)]), (.int IntKind.i64 6)]))) (
           none)) (
          cond (F.gm (F.kd (F.b s)) (-1) 0 (IntKind.u32.wrap (F.v (F.c s)))) (
           cond (F.m (F.kd (F.b s)) (-1) 0 (IntKind.u32.wrap (F.v (F.c s)))) (
            some (.tuple #[(.agg #[(.int IntKind.u8 (F.kd (F.b s))), (.int IntKind.i64 (-1)), (.int IntKind.i64 0), (.int IntKind.u32 (IntKind.u32.wrap (F.v (F.c s))))]), (.int IntKind.i64 0)])) (
            some (.tuple #[(.agg #[(.int IntKind.u8 0), (.int IntKind.i64 0), (.int IntKind.i64 0), (.int IntKind.u32 0)]), (.int IntKind.i64 6)]))) (
           none)))) (
        some (.tuple #[(.agg #[(.int IntKind.u8 0), (.int IntKind.i64 0), (.int IntKind.i64 0), (.int IntKind.u32 0)]), (.int IntKind.i64 6)]))) (
       none)) (
      cond (F.kd (F.b s) == 7) (
       cond (F.gn (F.c s)) (
        cond (F.p (F.c s)) (
         cond (F.kd (F.b s) != 4) (
          cond (decide (F.v (F.c s) > 4294967295)) (
           some (.tuple #[(.agg #[(.int IntKind.u8 0), (.int IntKind.i64 0), (.int IntKind.i64 0), (.int IntKind.u32 0)]), (.int IntKind.i64 6)])) (
           cond (F.kd (F.b s) == 4) (
            cond (F.gm (F.kd (F.b s)) (-1) (F.v (F.c s)) 0) (
             cond (F.m (F.kd (F.b s)) (-1) (F.v (F.c s)) 0) (
              some (.tuple #[(.agg #[(.int IntKind.u8 (F.kd (F.b s))), (.int IntKind.i64 (-1)), (.int IntKind.i64 (F.v (F.c s))), (.int IntKind.u32 0)]), (.int IntKind.i64 0)])) (
              some (.tuple #[(.agg #[(.int IntKind.u8 0), (.int IntKind.i64 0), (.int IntKind.i64 0), (.int IntKind.u32 0)]), (.int IntKind.i64 6)]))) (
             none)) (
            cond (F.gm (F.kd (F.b s)) (-1) 0 (IntKind.u32.wrap (F.v (F.c s)))) (
             cond (F.m (F.kd (F.b s)) (-1) 0 (IntKind.u32.wrap (F.v (F.c s)))) (
              some (.tuple #[(.agg #[(.int IntKind.u8 (F.kd (F.b s))), (.int IntKind.i64 (-1)), (.int IntKind.i64 0), (.int IntKind.u32 (IntKind.u32.wrap (F.v (F.c s))))]), (.int IntKind.i64 0)])) (
              some (.tuple #[(.agg #[(.int IntKind.u8 0), (.int IntKind.i64 0), (.int IntKind.i64 0), (.int IntKind.u32 0)]), (.int IntKind.i64 6)]))) (
             none)))) (
          cond (F.kd (F.b s) == 4) (
           cond (F.gm (F.kd (F.b s)) (-1) (F.v (F.c s)) 0) (
            cond (F.m (F.kd (F.b s)) (-1) (F.v (F.c s)) 0) (
             some (.tuple #[(.agg #[(.int IntKind.u8 (F.kd (F.b s))), (.int IntKind.i64 (-1)), (.int IntKind.i64 (F.v (F.c s))), (.int IntKind.u32 0)]), (.int IntKind.i64 0)])) (
             some (.tuple #[(.agg #[(.int IntKind.u8 0), (.int IntKind.i64 0), (.int IntKind.i64 0), (.int IntKind.u32 0)]), (.int IntKind.i64 6)]))) (
            none)) (
           cond (F.gm (F.kd (F.b s)) (-1) 0 (IntKind.u32.wrap (F.v (F.c s)))) (
            cond (F.m (F.kd (F.b s)) (-1) 0 (IntKind.u32.wrap (F.v (F.c s)))) (
             some (.tuple #[(.agg #[(.int IntKind.u8 (F.kd (F.b s))), (.int IntKind.i64 (-1)), (.int IntKind.i64 0), (.int IntKind.u32 (IntKind.u32.wrap (F.v (F.c s))))]), (.int IntKind.i64 0)])) (
             some (.tuple #[(.agg #[(.int IntKind.u8 0), (.int IntKind.i64 0), (.int IntKind.i64 0), (.int IntKind.u32 0)]), (.int IntKind.i64 6)]))) (
            none)))) (
         some (.tuple #[(.agg #[(.int IntKind.u8 0), (.int IntKind.i64 0), (.int IntKind.i64 0), (.int IntKind.u32 0)]), (.int IntKind.i64 6)]))) (
        none)) (
       cond (F.kd (F.b s) == 11) (
        cond (F.gn (F.c s)) (
         cond (F.p (F.c s)) (
          cond (F.kd (F.b s) != 4) (
           cond (decide (F.v (F.c s) > 4294967295)) (
            some (.tuple #[(.agg #[(.int IntKind.u8 0), (.int IntKind.i64 0), (.int IntKind.i64 0), (.int IntKind.u32 0)]), (.int IntKind.i64 6)])) (
            cond (F.kd (F.b s) == 4) (
             cond (F.gm (F.kd (F.b s)) (-1) (F.v (F.c s)) 0) (
              cond (F.m (F.kd (F.b s)) (-1) (F.v (F.c s)) 0) (
               some (.tuple #[(.agg #[(.int IntKind.u8 (F.kd (F.b s))), (.int IntKind.i64 (-1)), (.int IntKind.i64 (F.v (F.c s))), (.int IntKind.u32 0)]), (.int IntKind.i64 0)])) (
               some (.tuple #[(.agg #[(.int IntKind.u8 0), (.int IntKind.i64 0), (.int IntKind.i64 0), (.int IntKind.u32 0)]), (.int IntKind.i64 6)]))) (
              none)) (
             cond (F.gm (F.kd (F.b s)) (-1) 0 (IntKind.u32.wrap (F.v (F.c s)))) (
              cond (F.m (F.kd (F.b s)) (-1) 0 (IntKind.u32.wrap (F.v (F.c s)))) (
               some (.tuple #[(.agg #[(.int IntKind.u8 (F.kd (F.b s))), (.int IntKind.i64 (-1)), (.int IntKind.i64 0), (.int IntKind.u32 (IntKind.u32.wrap (F.v (F.c s))))]), (.int IntKind.i64 0)])) (
               some (.tuple #[(.agg #[(.int IntKind.u8 0), (.int IntKind.i64 0), (.int IntKind.i64 0), (.int IntKind.u32 0)]), (.int IntKind.i64 6)]))) (
              none)))) (
           cond (F.kd (F.b s) == 4) (
            cond (F.gm (F.kd (F.b s)) (-1) (F.v (F.c s)) 0) (
             cond (F.m (F.kd (F.b s)) (-1) (F.v (F.c s)) 0) (
              some (.tuple #[(.agg #[(.int IntKind.u8 (F.kd (F.b s))), (.int IntKind.i64 (-1)), (.int IntKind.i64 (F.v (F.c s))), (.int IntKind.u32 0)]), (.int IntKind.i64 0)])) (
              some (.tuple #[(.agg #[(.int IntKind.u8 0), (.int IntKind.i64 0), (.int IntKind.i64 0), (.int IntKind.u32 0)]), (.int IntKind.i64 6)]))) (
             none)) (
            cond (F.gm (F.kd (F.b s)) (-1) 0 (IntKind.u32.wrap (F.v (F.c s)))) (
             cond (F.m (F.kd (F.b s)) (-1) 0 (IntKind.u32.wrap (F.v (F.c s)))) (
              some (.tuple #[(.agg #[(.int IntKind.u8 (F.kd (F.b s))), (.int IntKind.i64 (-1)), (.int IntKind.i64 0), (.int IntKind.u32 (IntKind.u32.wrap (F.v (F.c s))))]), (.int IntKind.i64 0)])) (
              some (.tuple #[(.agg #[(.int IntKind.u8 0), (.int IntKind.i64 0), (.int IntKind.i64 0), (.int IntKind.u32 0)]), (.int IntKind.i64 6)]))) (
             none)))) (
          some (.tuple #[(.agg #[(.int IntKind.u8 0), (.int IntKind.i64 0), (.int IntKind.i64 0), (.int IntKind.u32 0)]), (.int IntKind.i64 6)]))) (
         none)) (
        some (.tuple #[(.agg #[(.int IntKind.u8 0), (.int IntKind.i64 0), (.int IntKind.i64 0), (.int IntKind.u32 0)]), (.int IntKind.i64 6)])))))) (
    none)) (
   cond (F.gn (F.a s)) (
    cond (F.p (F.a s)) (
     cond (cl   (KKG 3 [Value.string (F.a s), Value.string (F.b s), Value.string (F.c s)] (F.v (F.a s))     [Value.int IntKind.u8 1, Value.pointer (some (⟨1000, 0, none⟩ : Addr)),       Value.slice (some (⟨1001, 0, none⟩ : Addr)) [F.a s, F.b s, F.c s].length [F.a s, F.b s, F.c s].length,       Value.pointer (some (⟨1002, 0, none⟩ : Addr)), Value.pointer (some (⟨1003, 0, none⟩ : Addr))]     [some         (LObj.row           {             cells :=               splice                 (splice                   [Value.int IntKind.u8 0, Value.int IntKind.i64 0, Value.int IntKind.i64 0, Value.int IntKind.u32 0] 0                   (splice                     [Value.int IntKind.u8 0, Value.int IntKind.i64 0, Value.int IntKind.i64 0, Value.int IntKind.u32 0]                     1 [Value.int IntKind.i64 (-1)]))                 1 [Value.int IntKind.i64 (F.v (F.a s))],             elem := 31, fz := (0, 0), esz := 0, ro := false, tail := false }),       some         (LObj.row           { cells := strC [F.a s, F.b s, F.c s], elem := 9, fz := (0, 0), esz := 1, ro := false, tail := false }),       some         (LObj.row           {             cells :=               [Value.int IntKind.u8 0, Value.int IntKind.i64 0, Value.int IntKind.i64 0, Value.int IntKind.u32 0],             elem := 31, fz := (0, 0), esz := 0, ro := false, tail := false }),       some         (LObj.row           {             cells :=               splice [Value.int IntKind.u8 0, Value.int IntKind.i64 0, Value.int IntKind.i64 0, Value.int IntKind.u32 0]                 0 [Value.int IntKind.u8 0, Value.int IntKind.i64 0, Value.int IntKind.i64 0, Value.int IntKind.u32 0],             elem := 31, fz := (0, 0), esz := 0, ro := false, tail := false })])) (
      cond (F.kd (F.b s) == 4) (
       cond (F.gn (F.c s)) (
        cond (F.p (F.c s)) (
         cond (F.kd (F.b s) != 4) (
          cond (decide (F.v (F.c s) > 4294967295)) (
           some (.tuple #[(.agg #[(.int IntKind.u8 0), (.int IntKind.i64 0), (.int IntKind.i64 0), (.int IntKind.u32 0)]), (.int IntKind.i64 6)])) (
           cond (F.kd (F.b s) == 4) (
            cond (F.gm (F.kd (F.b s)) (F.v (F.a s)) (F.v (F.c s)) 0) (
             cond (F.m (F.kd (F.b s)) (F.v (F.a s)) (F.v (F.c s)) 0) (
              some (.tuple #[(.agg #[(.int IntKind.u8 (F.kd (F.b s))), (.int IntKind.i64 (F.v (F.a s))), (.int IntKind.i64 (F.v (F.c s))), (.int IntKind.u32 0)]), (.int IntKind.i64 0)])) (
              some (.tuple #[(.agg #[(.int IntKind.u8 0), (.int IntKind.i64 0), (.int IntKind.i64 0), (.int IntKind.u32 0)]), (.int IntKind.i64 6)]))) (
             none)) (
            cond (F.gm (F.kd (F.b s)) (F.v (F.a s)) 0 (IntKind.u32.wrap (F.v (F.c s)))) (
             cond (F.m (F.kd (F.b s)) (F.v (F.a s)) 0 (IntKind.u32.wrap (F.v (F.c s)))) (
              some (.tuple #[(.agg #[(.int IntKind.u8 (F.kd (F.b s))), (.int IntKind.i64 (F.v (F.a s))), (.int IntKind.i64 0), (.int IntKind.u32 (IntKind.u32.wrap (F.v (F.c s))))]), (.int IntKind.i64 0)])) (
              some (.tuple #[(.agg #[(.int IntKind.u8 0), (.int IntKind.i64 0), (.int IntKind.i64 0), (.int IntKind.u32 0)]), (.int IntKind.i64 6)]))) (
             none)))) (
          cond (F.kd (F.b s) == 4) (
           cond (F.gm (F.kd (F.b s)) (F.v (F.a s)) (F.v (F.c s)) 0) (
            cond (F.m (F.kd (F.b s)) (F.v (F.a s)) (F.v (F.c s)) 0) (
             some (.tuple #[(.agg #[(.int IntKind.u8 (F.kd (F.b s))), (.int IntKind.i64 (F.v (F.a s))), (.int IntKind.i64 (F.v (F.c s))), (.int IntKind.u32 0)]), (.int IntKind.i64 0)])) (
             some (.tuple #[(.agg #[(.int IntKind.u8 0), (.int IntKind.i64 0), (.int IntKind.i64 0), (.int IntKind.u32 0)]), (.int IntKind.i64 6)]))) (
            none)) (
           cond (F.gm (F.kd (F.b s)) (F.v (F.a s)) 0 (IntKind.u32.wrap (F.v (F.c s)))) (
            cond (F.m (F.kd (F.b s)) (F.v (F.a s)) 0 (IntKind.u32.wrap (F.v (F.c s)))) (
             some (.tuple #[(.agg #[(.int IntKind.u8 (F.kd (F.b s))), (.int IntKind.i64 (F.v (F.a s))), (.int IntKind.i64 0), (.int IntKind.u32 (IntKind.u32.wrap (F.v (F.c s))))]), (.int IntKind.i64 0)])) (
             some (.tuple #[(.agg #[(.int IntKind.u8 0), (.int IntKind.i64 0), (.int IntKind.i64 0), (.int IntKind.u32 0)]), (.int IntKind.i64 6)]))) (
            none)))) (
         some (.tuple #[(.agg #[(.int IntKind.u8 0), (.int IntKind.i64 0), (.int IntKind.i64 0), (.int IntKind.u32 0)]), (.int IntKind.i64 6)]))) (
        none)) (
       cond (F.kd (F.b s) == 5) (
        cond (F.gn (F.c s)) (
         cond (F.p (F.c s)) (
          cond (F.kd (F.b s) != 4) (
           cond (decide (F.v (F.c s) > 4294967295)) (
            some (.tuple #[(.agg #[(.int IntKind.u8 0), (.int IntKind.i64 0), (.int IntKind.i64 0), (.int IntKind.u32 0)]), (.int IntKind.i64 6)])) (
            cond (F.kd (F.b s) == 4) (
             cond (F.gm (F.kd (F.b s)) (F.v (F.a s)) (F.v (F.c s)) 0) (
              cond (F.m (F.kd (F.b s)) (F.v (F.a s)) (F.v (F.c s)) 0) (
               some (.tuple #[(.agg #[(.int IntKind.u8 (F.kd (F.b s))), (.int IntKind.i64 (F.v (F.a s))), (.int IntKind.i64 (F.v (F.c s))), (.int IntKind.u32 0)]), (.int IntKind.i64 0)])) (
               some (.tuple #[(.agg #[(.int IntKind.u8 0), (.int IntKind.i64 0), (.int IntKind.i64 0), (.int IntKind.u32 0)]), (.int IntKind.i64 6)]))) (
              none)) (
             cond (F.gm (F.kd (F.b s)) (F.v (F.a s)) 0 (IntKind.u32.wrap (F.v (F.c s)))) (
              cond (F.m (F.kd (F.b s)) (F.v (F.a s)) 0 (IntKind.u32.wrap (F.v (F.c s)))) (
               some (.tuple #[(.agg #[(.int IntKind.u8 (F.kd (F.b s))), (.int IntKind.i64 (F.v (F.a s))), (.int IntKind.i64 0), (.int IntKind.u32 (IntKind.u32.wrap (F.v (F.c s))))]), (.int IntKind.i64 0)])) (
               some (.tuple #[(.agg #[(.int IntKind.u8 0), (.int IntKind.i64 0), (.int IntKind.i64 0), (.int IntKind.u32 0)]), (.int IntKind.i64 6)]))) (
              none)))) (
           cond (F.kd (F.b s) == 4) (
            cond (F.gm (F.kd (F.b s)) (F.v (F.a s)) (F.v (F.c s)) 0) (
             cond (F.m (F.kd (F.b s)) (F.v (F.a s)) (F.v (F.c s)) 0) (
              some (.tuple #[(.agg #[(.int IntKind.u8 (F.kd (F.b s))), (.int IntKind.i64 (F.v (F.a s))), (.int IntKind.i64 (F.v (F.c s))), (.int IntKind.u32 0)]), (.int IntKind.i64 0)])) (
              some (.tuple #[(.agg #[(.int IntKind.u8 0), (.int IntKind.i64 0), (.int IntKind.i64 0), (.int IntKind.u32 0)]), (.int IntKind.i64 6)]))) (
             none)) (
            cond (F.gm (F.kd (F.b s)) (F.v (F.a s)) 0 (IntKind.u32.wrap (F.v (F.c s)))) (
             cond (F.m (F.kd (F.b s)) (F.v (F.a s)) 0 (IntKind.u32.wrap (F.v (F.c s)))) (
              some (.tuple #[(.agg #[(.int IntKind.u8 (F.kd (F.b s))), (.int IntKind.i64 (F.v (F.a s))), (.int IntKind.i64 0), (.int IntKind.u32 (IntKind.u32.wrap (F.v (F.c s))))]), (.int IntKind.i64 0)])) (
              some (.tuple #[(.agg #[(.int IntKind.u8 0), (.int IntKind.i64 0), (.int IntKind.i64 0), (.int IntKind.u32 0)]), (.int IntKind.i64 6)]))) (
             none)))) (
          some (.tuple #[(.agg #[(.int IntKind.u8 0), (.int IntKind.i64 0), (.int IntKind.i64 0), (.int IntKind.u32 0)]), (.int IntKind.i64 6)]))) (
         none)) (
        cond (F.kd (F.b s) == 7) (
         cond (F.gn (F.c s)) (
          cond (F.p (F.c s)) (
           cond (F.kd (F.b s) != 4) (
            cond (decide (F.v (F.c s) > 4294967295)) (
             some (.tuple #[(.agg #[(.int IntKind.u8 0), (.int IntKind.i64 0), (.int IntKind.i64 0), (.int IntKind.u32 0)]), (.int IntKind.i64 6)])) (
             cond (F.kd (F.b s) == 4) (
              cond (F.gm (F.kd (F.b s)) (F.v (F.a s)) (F.v (F.c s)) 0) (
               cond (F.m (F.kd (F.b s)) (F.v (F.a s)) (F.v (F.c s)) 0) (
                some (.tuple #[(.agg #[(.int IntKind.u8 (F.kd (F.b s))), (.int IntKind.i64 (F.v (F.a s))), (.int IntKind.i64 (F.v (F.c s))), (.int IntKind.u32 0)]), (.int IntKind.i64 0)])) (
                some (.tuple #[(.agg #[(.int IntKind.u8 0), (.int IntKind.i64 0), (.int IntKind.i64 0), (.int IntKind.u32 0)]), (.int IntKind.i64 6)]))) (
               none)) (
              cond (F.gm (F.kd (F.b s)) (F.v (F.a s)) 0 (IntKind.u32.wrap (F.v (F.c s)))) (
               cond (F.m (F.kd (F.b s)) (F.v (F.a s)) 0 (IntKind.u32.wrap (F.v (F.c s)))) (
                some (.tuple #[(.agg #[(.int IntKind.u8 (F.kd (F.b s))), (.int IntKind.i64 (F.v (F.a s))), (.int IntKind.i64 0), (.int IntKind.u32 (IntKind.u32.wrap (F.v (F.c s))))]), (.int IntKind.i64 0)])) (
                some (.tuple #[(.agg #[(.int IntKind.u8 0), (.int IntKind.i64 0), (.int IntKind.i64 0), (.int IntKind.u32 0)]), (.int IntKind.i64 6)]))) (
               none)))) (
            cond (F.kd (F.b s) == 4) (
             cond (F.gm (F.kd (F.b s)) (F.v (F.a s)) (F.v (F.c s)) 0) (
              cond (F.m (F.kd (F.b s)) (F.v (F.a s)) (F.v (F.c s)) 0) (
               some (.tuple #[(.agg #[(.int IntKind.u8 (F.kd (F.b s))), (.int IntKind.i64 (F.v (F.a s))), (.int IntKind.i64 (F.v (F.c s))), (.int IntKind.u32 0)]), (.int IntKind.i64 0)])) (
               some (.tuple #[(.agg #[(.int IntKind.u8 0), (.int IntKind.i64 0), (.int IntKind.i64 0), (.int IntKind.u32 0)]), (.int IntKind.i64 6)]))) (
              none)) (
             cond (F.gm (F.kd (F.b s)) (F.v (F.a s)) 0 (IntKind.u32.wrap (F.v (F.c s)))) (
              cond (F.m (F.kd (F.b s)) (F.v (F.a s)) 0 (IntKind.u32.wrap (F.v (F.c s)))) (
               some (.tuple #[(.agg #[(.int IntKind.u8 (F.kd (F.b s))), (.int IntKind.i64 (F.v (F.a s))), (.int IntKind.i64 0), (.int IntKind.u32 (IntKind.u32.wrap (F.v (F.c s))))]), (.int IntKind.i64 0)])) (
               some (.tuple #[(.agg #[(.int IntKind.u8 0), (.int IntKind.i64 0), (.int IntKind.i64 0), (.int IntKind.u32 0)]), (.int IntKind.i64 6)]))) (
              none)))) (
           some (.tuple #[(.agg #[(.int IntKind.u8 0), (.int IntKind.i64 0), (.int IntKind.i64 0), (.int IntKind.u32 0)]), (.int IntKind.i64 6)]))) (
          none)) (
         cond (F.kd (F.b s) == 11) (
          cond (F.gn (F.c s)) (
           cond (F.p (F.c s)) (
            cond (F.kd (F.b s) != 4) (
             cond (decide (F.v (F.c s) > 4294967295)) (
              some (.tuple #[(.agg #[(.int IntKind.u8 0), (.int IntKind.i64 0), (.int IntKind.i64 0), (.int IntKind.u32 0)]), (.int IntKind.i64 6)])) (
              cond (F.kd (F.b s) == 4) (
               cond (F.gm (F.kd (F.b s)) (F.v (F.a s)) (F.v (F.c s)) 0) (
                cond (F.m (F.kd (F.b s)) (F.v (F.a s)) (F.v (F.c s)) 0) (
                 some (.tuple #[(.agg #[(.int IntKind.u8 (F.kd (F.b s))), (.int IntKind.i64 (F.v (F.a s))), (.int IntKind.i64 (F.v (F.c s))), (.int IntKind.u32 0)]), (.int IntKind.i64 0)])) (
                 some (.tuple #[(.agg #[(.int IntKind.u8 0), (.int IntKind.i64 0), (.int IntKind.i64 0), (.int IntKind.u32 0)]), (.int IntKind.i64 6)]))) (
                none)) (
               cond (F.gm (F.kd (F.b s)) (F.v (F.a s)) 0 (IntKind.u32.wrap (F.v (F.c s)))) (
                cond (F.m (F.kd (F.b s)) (F.v (F.a s)) 0 (IntKind.u32.wrap (F.v (F.c s)))) (
                 some (.tuple #[(.agg #[(.int IntKind.u8 (F.kd (F.b s))), (.int IntKind.i64 (F.v (F.a s))), (.int IntKind.i64 0), (.int IntKind.u32 (IntKind.u32.wrap (F.v (F.c s))))]), (.int IntKind.i64 0)])) (
                 some (.tuple #[(.agg #[(.int IntKind.u8 0), (.int IntKind.i64 0), (.int IntKind.i64 0), (.int IntKind.u32 0)]), (.int IntKind.i64 6)]))) (
                none)))) (
             cond (F.kd (F.b s) == 4) (
              cond (F.gm (F.kd (F.b s)) (F.v (F.a s)) (F.v (F.c s)) 0) (
               cond (F.m (F.kd (F.b s)) (F.v (F.a s)) (F.v (F.c s)) 0) (
                some (.tuple #[(.agg #[(.int IntKind.u8 (F.kd (F.b s))), (.int IntKind.i64 (F.v (F.a s))), (.int IntKind.i64 (F.v (F.c s))), (.int IntKind.u32 0)]), (.int IntKind.i64 0)])) (
                some (.tuple #[(.agg #[(.int IntKind.u8 0), (.int IntKind.i64 0), (.int IntKind.i64 0), (.int IntKind.u32 0)]), (.int IntKind.i64 6)]))) (
               none)) (
              cond (F.gm (F.kd (F.b s)) (F.v (F.a s)) 0 (IntKind.u32.wrap (F.v (F.c s)))) (
               cond (F.m (F.kd (F.b s)) (F.v (F.a s)) 0 (IntKind.u32.wrap (F.v (F.c s)))) (
                some (.tuple #[(.agg #[(.int IntKind.u8 (F.kd (F.b s))), (.int IntKind.i64 (F.v (F.a s))), (.int IntKind.i64 0), (.int IntKind.u32 (IntKind.u32.wrap (F.v (F.c s))))]), (.int IntKind.i64 0)])) (
                some (.tuple #[(.agg #[(.int IntKind.u8 0), (.int IntKind.i64 0), (.int IntKind.i64 0), (.int IntKind.u32 0)]), (.int IntKind.i64 6)]))) (
               none)))) (
            some (.tuple #[(.agg #[(.int IntKind.u8 0), (.int IntKind.i64 0), (.int IntKind.i64 0), (.int IntKind.u32 0)]), (.int IntKind.i64 6)]))) (
           none)) (
          some (.tuple #[(.agg #[(.int IntKind.u8 0), (.int IntKind.i64 0), (.int IntKind.i64 0), (.int IntKind.u32 0)]), (.int IntKind.i64 6)])))))) (
      none)) (
     some (.tuple #[(.agg #[(.int IntKind.u8 0), (.int IntKind.i64 0), (.int IntKind.i64 0), (.int IntKind.u32 0)]), (.int IntKind.i64 6)]))) (
    none))) (
  none) := by kernel_rfl
set_option maxRecDepth 100000 in
theorem r_nrd1 (gl : Gl) (F : RdN) (s : ByteArray) : evT gl (HRn (wdH1 F.g F.a) F) 35 [.string s] =
 cond (F.g s) (
  some (.tuple #[(.agg #[(.int IntKind.u8 0), (.int IntKind.i64 0), (.int IntKind.i64 0), (.int IntKind.u32 0)]), (.int IntKind.i64 6)])) (
  none) := by kernel_rfl
set_option maxRecDepth 100000 in
theorem r_nrd4 (gl : Gl) (F : RdN) (d : ByteArray → ByteArray) (s : ByteArray) : evT gl (HRn (wdH4 F.g F.a F.b F.c d F.sp) F) 35 [.string s] =
 cond (F.g s) (
  cond (List.all (strC (F.a s :: F.b s :: F.c s :: d s :: F.sp s)) (af 8) && true) (
   cond (decide ((↑(F.a s :: F.b s :: F.c s :: d s :: F.sp s).length : Int) > 3)) (
    some (.tuple #[(.agg #[(.int IntKind.u8 0), (.int IntKind.i64 0), (.int IntKind.i64 0), (.int IntKind.u32 0)]), (.int IntKind.i64 6)])) (
    cond (decide (0 < (↑(F.a s :: F.b s :: F.c s :: d s :: F.sp s).length : Int)) && ((F.a s :: F.b s :: F.c s :: d s :: F.sp s).length.ble (F.a s :: F.b s :: F.c s :: d s :: F.sp s).length)) (
     cond ((F.a s).toList == (⟨#[104, 111, 109, 101]⟩ : ByteArray).toList) (
      none) (
      cond (decide (0 < (↑(F.a s :: F.b s :: F.c s :: d s :: F.sp s).length : Int)) && ((F.a s :: F.b s :: F.c s :: d s :: F.sp s).length.ble (F.a s :: F.b s :: F.c s :: d s :: F.sp s).length)) (
       cond (F.gn (F.a s)) (
        cond (F.p (F.a s)) (
         none) (
         some (.tuple #[(.agg #[(.int IntKind.u8 0), (.int IntKind.i64 0), (.int IntKind.i64 0), (.int IntKind.u32 0)]), (.int IntKind.i64 6)]))) (
        none)) (
       none))) (
     none))) (
   none)) (
  none) := by kernel_rfl
end Go.Proofs.YtgohnfkidkomhaaDoor

noncomputable section
namespace Go.Proofs.YtgohnfkidkomhaaDoor
open Go.Proofs.YtgohnfkidkomhaaDoor.Ev Go.RowKit

/-! The document's reading is trace.Read's. -/
theorem kkGo_cases (b : ByteArray) : ∀ (f : Nat) (k e : Int), kkGo b f k e = e ∨ (k ≤ kkGo b f k e ∧ kkGo b f k e < k + f ∧ kindB (kkGo b f k e) = b)
  | 0, k, e => .inl rfl
  | f + 1, k, e => by
    rw [kkGo]
    rcases kkGo_cases b f (k + 1) (cond (decide (kindB k = b)) k e) with h | ⟨h1, h2, h3⟩
    · rw [h]
      by_cases hb : kindB k = b
      · rw [decide_eq_true hb, cond_true]
        exact .inr ⟨Int.le_refl _, by omega, hb⟩
      · rw [decide_eq_false hb]
        exact .inl rfl
    · exact .inr ⟨by omega, by omega, h3⟩
theorem kkI_bd (b : ByteArray) : 0 ≤ kkI b ∧ kkI b ≤ 12 ∧ (1 ≤ kkI b → b = kindB (kkI b)) := by
  rcases kkGo_cases b 12 1 0 with h | ⟨h1, h2, h3⟩
  · have e : kkI b = 0 := h
    rw [e]
    exact ⟨by decide, by decide, fun h => by omega⟩
  · have h1 : 1 ≤ kkI b := h1
    have h2 : kkI b < 1 + 12 := h2
    exact ⟨by omega, by omega, fun _ => h3.symm⟩
theorem kkI_word {k : Int} (h0 : 1 ≤ k) (h1 : k ≤ 12) : kkI (kindB k) = k := by
  rcases (show k = 1 ∨ k = 2 ∨ k = 3 ∨ k = 4 ∨ k = 5 ∨ k = 6 ∨ k = 7 ∨ k = 8 ∨ k = 9 ∨ k = 10 ∨ k = 11 ∨ k = 12 by omega) with rfl | rfl | rfl | rfl | rfl | rfl | rfl | rfl | rfl | rfl | rfl | rfl <;> (unfold kkI; decide)
theorem who_is {a : ByteArray} {co : Int} (h : (a = homeB ∧ co = -1) ∨ (nbP a = true ∧ co = nbV a)) : a = whoB co := by
  rcases h with ⟨rfl, rfl⟩ | ⟨h, rfl⟩
  · rfl
  · obtain ⟨h1, h2, h3⟩ := nb_canon h
    have e : whoB (nbV a) = itoaB (nbV a) := by unfold whoB; rw [decide_eq_false (by omega)]; rfl
    rw [e, ← h3]
theorem join2 {s a b : ByteArray} (h : splB s spB = [a, b]) : s = a ++ ((⟨#[32]⟩ : ByteArray) ++ b) := by
  have := splB_join s 32
  rw [show splB s ⟨#[32]⟩ = [a, b] from h] at this
  exact this.symm
theorem join3 {s a b c : ByteArray} (h : splB s spB = [a, b, c]) : s = a ++ ((⟨#[32]⟩ : ByteArray) ++ (b ++ ((⟨#[32]⟩ : ByteArray) ++ c))) := by
  have := splB_join s 32
  rw [show splB s ⟨#[32]⟩ = [a, b, c] from h] at this
  exact this.symm
theorem okE2 {s a b : ByteArray} (hq : splB s spB = [a, b]) {k co : Int} (hm : emay k co 0 0 = true) (hk : kkI b = k) (hco : (a = homeB ∧ co = -1) ∨ (nbP a = true ∧ co = nbV a)) (h4 : k ≠ 4) (h5 : k ≠ 5) (h7 : k ≠ 7) (h11 : k ≠ 11) : rdV s = .tuple #[evV k co 0 0, .int .i64 0] := by
  have hE : EMay k co 0 0 := of_decide_eq_true hm
  have hE2 := hE
  unfold EMay at hE2
  have hb : b = kindB k := by
    have := (kkI_bd b).2.2 (by omega)
    rwa [hk] at this
  have hs : tlB k co 0 0 = s := by
    rw [join2 hq]
    unfold tlB restB
    rw [decide_eq_false h4, decide_eq_false h5, decide_eq_false h7, decide_eq_false h11, ← who_is hco, ← hb]
    show a ++ ((⟨#[32]⟩ : ByteArray) ++ (b ++ (⟨#[]⟩ : ByteArray))) = _
    rw [app_empty]
  rw [← hs]
  exact rd_told hE (by decide) (by decide) (by decide)
theorem okE3 {s a b c : ByteArray} (hq : splB s spB = [a, b, c]) {k co n u : Int} (hm : emay k co n u = true) (hk : kkI b = k) (hco : (a = homeB ∧ co = -1) ∨ (nbP a = true ∧ co = nbV a)) (hp : nbP c = true)
    (hnu : (k = 4 ∧ n = nbV c ∧ u = 0) ∨ (k ≠ 4 ∧ n = 0 ∧ u = nbV c ∧ nbV c ≤ 4294967295)) (hk2 : k = 4 ∨ k = 5 ∨ k = 7 ∨ k = 11) : rdV s = .tuple #[evV k co n u, .int .i64 0] := by
  have hE : EMay k co n u := of_decide_eq_true hm
  have hb : b = kindB k := by
    have := (kkI_bd b).2.2 (by omega)
    rwa [hk] at this
  obtain ⟨c0, c1, c2⟩ := nb_canon hp
  have hs : tlB k co n u = s := by
    rw [join3 hq]
    unfold tlB restB
    rw [← who_is hco, ← hb]
    rcases hnu with ⟨h4, hn, hu⟩ | ⟨h4, hn, hu, _⟩
    · rw [decide_eq_true h4, cond_true, hn, ← c2]
    · rw [decide_eq_false h4, cond_false, show (decide (k = 5) || decide (k = 7) || decide (k = 11)) = true by simp only [Bool.or_eq_true, decide_eq_true_eq]; omega, cond_true, hu, ← c2]
  rw [← hs]
  exact rd_told hE (by omega) (by omega) (by omega)
/-- An event's line, parted. -/
theorem told_parts {k c n u : Int} (h : EMay k c n u) (hu : 0 ≤ u) :
    ((k = 4 ∧ u = 0 ∧ 2 ≤ n ∧ splB (tlB k c n u) spB = [whoB c, kindB k, itoaB n]) ∨ ((k = 5 ∨ k = 7 ∨ k = 11) ∧ n = 0 ∧ splB (tlB k c n u) spB = [whoB c, kindB k, itoaB u])) ∨
    (k ≠ 4 ∧ k ≠ 5 ∧ k ≠ 7 ∧ k ≠ 11 ∧ n = 0 ∧ u = 0 ∧ splB (tlB k c n u) spB = [whoB c, kindB k]) := by
  unfold EMay at h
  obtain ⟨k0, k1, c0, c1, _, h4, h5, h6⟩ := h
  obtain ⟨w1, w2⟩ := who_core c0 c1
  obtain ⟨d1, d2⟩ := kd_word k0 k1
  generalize hs : tlB k c n u = s
  unfold tlB restB at hs
  by_cases e4 : k = 4
  · subst e4
    have hu0 : u = 0 := by omega
    refine .inl (.inl ⟨rfl, hu0, by omega, ?_⟩)
    rw [← hs]
    have e : splB (itoaB n) spB = [itoaB n] := splB_one (itoa_no (by omega) (by decide))
    show splB (whoB c ++ ((⟨#[32]⟩ : ByteArray) ++ (kindB 4 ++ ((⟨#[32]⟩ : ByteArray) ++ itoaB n)))) ⟨#[32]⟩ = _
    rw [splB_app _ w2, splB_app _ d2]
    exact congrArg (fun l => whoB c :: kindB 4 :: l) e
  · rw [decide_eq_false e4, cond_false] at hs
    by_cases eu : k = 5 ∨ k = 7 ∨ k = 11
    · rw [show (decide (k = 5) || decide (k = 7) || decide (k = 11)) = true by simp only [Bool.or_eq_true, decide_eq_true_eq]; omega, cond_true] at hs
      refine .inl (.inr ⟨eu, h5 e4, ?_⟩)
      rw [← hs]
      have e : splB (itoaB u) spB = [itoaB u] := splB_one (itoa_no (by omega) (by decide))
      show splB (whoB c ++ ((⟨#[32]⟩ : ByteArray) ++ (kindB k ++ ((⟨#[32]⟩ : ByteArray) ++ itoaB u)))) ⟨#[32]⟩ = _
      rw [splB_app _ w2, splB_app _ d2]
      exact congrArg (fun l => whoB c :: kindB k :: l) e
    · rw [show (decide (k = 5) || decide (k = 7) || decide (k = 11)) = false by rw [Bool.eq_false_iff]; simp only [ne_eq, Bool.or_eq_true, decide_eq_true_eq]; omega, cond_false] at hs
      refine .inr ⟨e4, by omega, by omega, by omega, h5 e4, by omega, ?_⟩
      rw [← hs, app_empty]
      show splB (whoB c ++ ((⟨#[32]⟩ : ByteArray) ++ kindB k)) ⟨#[32]⟩ = _
      rw [splB_app _ w2, splB_one d2]
def HRN (g : ByteArray → Bool) : RdN := ⟨g, fun s => (splB s spB).drop 4, fun s => nthS (splB s spB) 0, fun s => nthS (splB s spB) 1, fun s => nthS (splB s spB) 2, g6, nbP, nbV, kkI, tt4, emay⟩
def gW (n : Nat) (s : ByteArray) : Bool := g6 s && decide ((splB s spB).length = n)
def gW4 (s : ByteArray) : Bool := g6 s && decide (4 ≤ (splB s spB).length)
theorem wd_w {gl : Gl} (hgl : Low gl) {h : Hd} (hh : ∀ vs rows t r, h vs rows = some t → t.run = some r → ∃ s, vs = [.string s] ∧ rows = [] ∧ g6 s = true ∧ r = wdO .normal (splB s spB)) : SubOK Tryd.prog gl 74 h := by
  intro vs rows t e v rows' h1 h2
  obtain ⟨s, rfl, rfl, hg, hr⟩ := hh vs rows t _ h1 h2
  refine words_sub hgl _ _ (.br (g6 s) (.ret (wdO .normal (splB s spB))) .fail) e v rows' rfl ?_
  show cond (g6 s) _ _ = _
  rw [hg, hr]
  rfl
theorem wd1_sub {gl : Gl} (hgl : Low gl) : SubOK Tryd.prog gl 74 (wdH1 (gW 1) (HRN (gW 1)).a) := wd_w hgl fun vs rows t r h1 h2 => by
  unfold wdH1 at h1
  split at h1
  case h_2 => cases h1
  rename_i s
  cases h1
  obtain ⟨hg, h3⟩ := brT h2
  simp only [gW, Bool.and_eq_true, decide_eq_true_eq] at hg
  cases h3
  refine ⟨s, rfl, rfl, hg.1, ?_⟩
  show wdO .normal [nthS (splB s spB) 0] = wdO .normal (splB s spB)
  match splB s spB, hg.2 with
  | [a], _ => rfl
theorem wd2_sub {gl : Gl} (hgl : Low gl) : SubOK Tryd.prog gl 74 (wdH2 (gW 2) (HRN (gW 2)).a (HRN (gW 2)).b) := wd_w hgl fun vs rows t r h1 h2 => by
  unfold wdH2 at h1
  split at h1
  case h_2 => cases h1
  rename_i s
  cases h1
  obtain ⟨hg, h3⟩ := brT h2
  simp only [gW, Bool.and_eq_true, decide_eq_true_eq] at hg
  cases h3
  refine ⟨s, rfl, rfl, hg.1, ?_⟩
  show wdO .normal [nthS (splB s spB) 0, nthS (splB s spB) 1] = wdO .normal (splB s spB)
  match splB s spB, hg.2 with
  | [a, b], _ => rfl
theorem wd3_sub {gl : Gl} (hgl : Low gl) : SubOK Tryd.prog gl 74 (wdH3 (gW 3) (HRN (gW 3)).a (HRN (gW 3)).b (HRN (gW 3)).c) := wd_w hgl fun vs rows t r h1 h2 => by
  unfold wdH3 at h1
  split at h1
  case h_2 => cases h1
  rename_i s
  cases h1
  obtain ⟨hg, h3⟩ := brT h2
  simp only [gW, Bool.and_eq_true, decide_eq_true_eq] at hg
  cases h3
  refine ⟨s, rfl, rfl, hg.1, ?_⟩
  show wdO .normal [nthS (splB s spB) 0, nthS (splB s spB) 1, nthS (splB s spB) 2] = wdO .normal (splB s spB)
  match splB s spB, hg.2 with
  | [a, b, c], _ => rfl
def dW (s : ByteArray) : ByteArray := nthS (splB s spB) 3
theorem wd4_sub {gl : Gl} (hgl : Low gl) : SubOK Tryd.prog gl 74 (wdH4 gW4 (HRN gW4).a (HRN gW4).b (HRN gW4).c dW (HRN gW4).sp) := wd_w hgl fun vs rows t r h1 h2 => by
  unfold wdH4 at h1
  split at h1
  case h_2 => cases h1
  rename_i s
  cases h1
  obtain ⟨hg, h3⟩ := brT h2
  simp only [gW4, Bool.and_eq_true, decide_eq_true_eq] at hg
  cases h3
  refine ⟨s, rfl, rfl, hg.1, ?_⟩
  show wdO .normal (nthS (splB s spB) 0 :: nthS (splB s spB) 1 :: nthS (splB s spB) 2 :: nthS (splB s spB) 3 :: (splB s spB).drop 4) = wdO .normal (splB s spB)
  match splB s spB, hg.2 with
  | [_], h | [_, _], h | [_, _, _], h => simp at h
  | a :: b :: c :: d :: l, _ => rfl
theorem HRn_ok {gl : Gl} (hgl : Low gl) {wd : Hd} (hw : SubOK Tryd.prog gl 74 wd) (g : ByteArray → Bool) : (HRn wd (HRN g)).OK Tryd.prog gl := hsOf_ok (fun p h => by
    simp only [List.mem_cons, List.not_mem_nil, or_false] at h
    rcases h with rfl | rfl
    · exact fn_nb hgl
    · exact fn_tmayR hgl) (fun p h => by
    simp only [List.mem_cons, List.not_mem_nil, or_false] at h
    subst h
    exact hw) (fun p hp q hq => by
    simp only [List.mem_cons, List.not_mem_nil, or_false] at hp
    subst hp
    simp only [List.mem_cons, List.not_mem_nil, or_false] at hq
    subst hq
    exact kk_ok hgl)
end Go.Proofs.YtgohnfkidkomhaaDoor

noncomputable section
namespace Go.Proofs.YtgohnfkidkomhaaDoor
open Go.Proofs.YtgohnfkidkomhaaDoor.Ev Go.RowKit

/-! The document's Read answers as trace.Read does. -/
theorem errA {s : ByteArray} (h : ∀ k c n u : Int, EMay k c n u → n ≤ 9223372036854775807 → 0 ≤ u → u < 4294967296 → tlB k c n u = s → False) : rdV s = zeroEv := by
  rcases rd_cases s with ⟨k, c, n, u, g1, g2, g3, g4, g5, _⟩ | g
  · exact (h k c n u g1 g2 g3 g4 g5).elim
  · exact g
theorem home_no : nbP homeB = false := by decide
theorem emay_c {k c n u : Int} (h : EMay k c n u) : 1 ≤ k ∧ k ≤ 12 ∧ -1 ≤ c ∧ c ≤ 15 := by unfold EMay at h; omega
theorem who_cases {c : Int} : (c = -1 ∧ whoB c = homeB) ∨ (c ≠ -1 ∧ whoB c = itoaB c) := by
  by_cases h : c = -1
  · subst h; exact .inl ⟨rfl, rfl⟩
  · exact .inr ⟨h, by unfold whoB; rw [decide_eq_false h]; rfl⟩
theorem co_is {a : ByteArray} {co c : Int} (h : (a = homeB ∧ co = -1) ∨ (nbP a = true ∧ co = nbV a)) (ha : a = whoB c) (h0 : -1 ≤ c) (h1 : c ≤ 15) : co = c := by
  have hc := (who_core h0 h1).1
  rcases h with ⟨e, rfl⟩ | ⟨hp, rfl⟩
  · rw [← ha, e] at hc
    have := (who_core (c := -1) (by decide) (by decide)).1
    have e2 : whoB (-1) = homeB := rfl
    rw [e2] at this
    omega
  · rcases who_cases (c := c) with ⟨_, e⟩ | ⟨hne, e⟩
    · rw [ha, e, home_no] at hp; cases hp
    · rw [ha, e]
      exact (nb_told (by omega) (by omega)).2
theorem who_p {a : ByteArray} {c : Int} (ha : a = whoB c) (hh : a ≠ homeB) (h0 : -1 ≤ c) (h1 : c ≤ 15) : nbP a = true := by
  rcases who_cases (c := c) with ⟨_, e⟩ | ⟨hne, e⟩
  · exact absurd (ha.trans e) hh
  · rw [ha, e]
    exact (nb_told (by omega) (by omega)).1
theorem parts2 {s a b : ByteArray} (hq : splB s spB = [a, b]) {k c n u : Int} (h : EMay k c n u) (hu : 0 ≤ u) (hs : tlB k c n u = s) : k ≠ 4 ∧ k ≠ 5 ∧ k ≠ 7 ∧ k ≠ 11 ∧ n = 0 ∧ u = 0 ∧ a = whoB c ∧ b = kindB k := by
  rcases told_parts h hu with (⟨_, _, _, e⟩ | ⟨_, _, e⟩) | ⟨h1, h2, h3, h4, h5, h6, e⟩
  · rw [hs, hq] at e; simp at e
  · rw [hs, hq] at e; simp at e
  · rw [hs, hq] at e
    simp only [List.cons.injEq, and_true] at e
    exact ⟨h1, h2, h3, h4, h5, h6, e.1, e.2⟩
theorem parts3 {s a b c : ByteArray} (hq : splB s spB = [a, b, c]) {k co n u : Int} (h : EMay k co n u) (hu : 0 ≤ u) (hs : tlB k co n u = s) : ((k = 4 ∧ u = 0 ∧ 2 ≤ n ∧ c = itoaB n) ∨ ((k = 5 ∨ k = 7 ∨ k = 11) ∧ n = 0 ∧ c = itoaB u)) ∧ a = whoB co ∧ b = kindB k := by
  rcases told_parts h hu with (⟨h1, h2, h3, e⟩ | ⟨h1, h2, e⟩) | ⟨h1, h2, h3, h4, h5, h6, e⟩
  · rw [hs, hq] at e
    simp only [List.cons.injEq, and_true] at e
    exact ⟨.inl ⟨h1, h2, h3, e.2.2⟩, e.1, by rw [h1]; rw [h1] at e; exact e.2.1⟩
  · rw [hs, hq] at e
    simp only [List.cons.injEq, and_true] at e
    exact ⟨.inr ⟨h1, h2, e.2.2⟩, e.1, e.2.1⟩
  · rw [hs, hq] at e; simp at e
theorem tail2 {s a b : ByteArray} (hq : splB s spB = [a, b]) {co : Int} (hco : (a = homeB ∧ co = -1) ∨ (nbP a = true ∧ co = nbV a)) :
    (cond (kkI b == 4) (some zeroEv) (cond (kkI b == 5) (some zeroEv) (cond (kkI b == 7) (some zeroEv) (cond (kkI b == 11) (some zeroEv) (cond (tt4 (kkI b) co 0 0) (cond (emay (kkI b) co 0 0) (some (.tuple #[evV (kkI b) co 0 0, .int .i64 0])) (some zeroEv)) none)))) : Option Value) = some (rdV s) := by
  have bad : (kkI b = 4 ∨ kkI b = 5 ∨ kkI b = 7 ∨ kkI b = 11 ∨ emay (kkI b) co 0 0 = false) → some zeroEv = some (rdV s) := fun h => by
    rw [errA]
    intro k c n u g1 g2 g3 g4 g5
    obtain ⟨h4, h5, h7, h11, hn, hu, ha, hb⟩ := parts2 hq g1 g3 g5
    obtain ⟨k0, k1, c0, c1⟩ := emay_c g1
    have hk : kkI b = k := by rw [hb]; exact kkI_word k0 k1
    have hc := co_is hco ha c0 c1
    rw [hk, hc] at h
    rcases h with h | h | h | h | h
    · omega
    · omega
    · omega
    · omega
    · subst hn; subst hu
      have : emay k c 0 0 = true := decide_eq_true g1
      rw [this] at h; cases h
  refine condC (fun h => bad (.inl (by simpa using h))) (fun h4 => condC (fun h => bad (.inr (.inl (by simpa using h)))) (fun h5 => condC (fun h => bad (.inr (.inr (.inl (by simpa using h))))) (fun h7 => condC (fun h => bad (.inr (.inr (.inr (.inl (by simpa using h)))))) (fun h11 => condI rfl (condC (fun h => ?_) (fun h => bad (.inr (.inr (.inr (.inr h)))))))))) 
  rw [okE2 hq h rfl hco (by simpa using h4) (by simpa using h5) (by simpa using h7) (by simpa using h11)]
theorem tail3 {s a b c : ByteArray} (hq : splB s spB = [a, b, c]) (hc6 : g6 c = true) {co : Int} (hco : (a = homeB ∧ co = -1) ∨ (nbP a = true ∧ co = nbV a)) (hk4 : kkI b = 4 ∨ kkI b = 5 ∨ kkI b = 7 ∨ kkI b = 11) :
    (cond (g6 c) (cond (nbP c) (cond (kkI b != 4) (cond (decide (nbV c > 4294967295)) (some zeroEv) (cond (kkI b == 4) (cond (tt4 (kkI b) co (nbV c) 0) (cond (emay (kkI b) co (nbV c) 0) (some (.tuple #[evV (kkI b) co (nbV c) 0, .int .i64 0])) (some zeroEv)) none)
        (cond (tt4 (kkI b) co 0 (IntKind.u32.wrap (nbV c))) (cond (emay (kkI b) co 0 (IntKind.u32.wrap (nbV c))) (some (.tuple #[evV (kkI b) co 0 (IntKind.u32.wrap (nbV c)), .int .i64 0])) (some zeroEv)) none)))
      (cond (kkI b == 4) (cond (tt4 (kkI b) co (nbV c) 0) (cond (emay (kkI b) co (nbV c) 0) (some (.tuple #[evV (kkI b) co (nbV c) 0, .int .i64 0])) (some zeroEv)) none)
        (cond (tt4 (kkI b) co 0 (IntKind.u32.wrap (nbV c))) (cond (emay (kkI b) co 0 (IntKind.u32.wrap (nbV c))) (some (.tuple #[evV (kkI b) co 0 (IntKind.u32.wrap (nbV c)), .int .i64 0])) (some zeroEv)) none))) (some zeroEv)) none : Option Value) = some (rdV s) := by
  rw [hc6, cond_true]
  -- what an event with this line would be
  have ev : ∀ k c' n u : Int, EMay k c' n u → n ≤ 9223372036854775807 → 0 ≤ u → u < 4294967296 → tlB k c' n u = s → kkI b = k ∧ co = c' ∧ nbP c = true ∧ ((k = 4 ∧ u = 0 ∧ n = nbV c) ∨ (k ≠ 4 ∧ n = 0 ∧ u = nbV c)) := fun k c' n u g1 g2 g3 g4 g5 => by
    obtain ⟨hp, ha, hb⟩ := parts3 hq g1 g3 g5
    obtain ⟨k0, k1, c0, c1⟩ := emay_c g1
    refine ⟨by rw [hb]; exact kkI_word k0 k1, co_is hco ha c0 c1, ?_, ?_⟩
    · rcases hp with ⟨_, _, h, e⟩ | ⟨_, _, e⟩
      · rw [e]; exact (nb_told (by omega) g2).1
      · rw [e]; exact (nb_told g3 (by omega)).1
    · rcases hp with ⟨h4, hu, h, e⟩ | ⟨h4, hn, e⟩
      · exact .inl ⟨h4, hu, by rw [e]; exact (nb_told (by omega) g2).2.symm⟩
      · exact .inr ⟨by omega, hn, by rw [e]; exact (nb_told g3 (by omega)).2.symm⟩
  refine condC (fun hp => ?pos) (fun hp => ?neg)
  case neg =>
    rw [errA]
    intro k c' n u g1 g2 g3 g4 g5
    have := (ev k c' n u g1 g2 g3 g4 g5).2.2.1
    rw [hp] at this; cases this
  obtain ⟨v0, v1, _⟩ := nb_canon hp
  by_cases h4 : kkI b = 4
  · have e1 : (kkI b != 4) = false := by rw [h4]; rfl
    have e2 : (kkI b == 4) = true := by rw [h4]; rfl
    rw [e1, e2, cond_false, cond_true]
    refine condI rfl (condC (fun h => ?_) (fun h => ?_))
    · rw [okE3 hq h rfl hco hp (.inl ⟨h4, rfl, rfl⟩) (.inl h4)]
    · rw [errA]
      intro k c' n u g1 g2 g3 g4 g5
      obtain ⟨q1, q2, _, q4⟩ := ev k c' n u g1 g2 g3 g4 g5
      have q5 : u = 0 ∧ n = nbV c := by omega
      have : emay k c' n u = true := decide_eq_true g1
      rw [q1, q2, ← q5.2, ← q5.1, this] at h
      cases h
  · have e1 : (kkI b != 4) = true := by simpa using h4
    have e2 : (kkI b == 4) = false := by simpa using h4
    rw [e1, e2, cond_true, cond_false]
    refine condC (fun h => ?_) (fun hu => condI rfl (condC (fun h => ?_) (fun h => ?_)))
    · have h := of_decide_eq_true h
      rw [errA]
      intro k c' n u g1 g2 g3 g4 g5
      obtain ⟨q1, q2, _, q4⟩ := ev k c' n u g1 g2 g3 g4 g5
      omega
    · have hu := of_decide_eq_false hu
      have w : IntKind.u32.wrap (nbV c) = nbV c := wrap_u32 v0 (by omega)
      rw [w] at h ⊢
      rw [okE3 hq h rfl hco hp (.inr ⟨h4, rfl, rfl, by omega⟩) hk4]
    · have hu := of_decide_eq_false hu
      have w : IntKind.u32.wrap (nbV c) = nbV c := wrap_u32 v0 (by omega)
      rw [w] at h
      rw [errA]
      intro k c' n u g1 g2 g3 g4 g5
      obtain ⟨q1, q2, _, q4⟩ := ev k c' n u g1 g2 g3 g4 g5
      have q5 : u = nbV c ∧ n = 0 := by omega
      have : emay k c' n u = true := decide_eq_true g1
      rw [q1, q2, ← q5.1, ← q5.2] at h
      rw [this] at h
      cases h
theorem nrd2_eq (gl : Gl) {s : ByteArray} (hs : s.size ≤ 100000) (hl : (splB s spB).length = 2) : evT gl (HRn (wdH2 (gW 2) (HRN (gW 2)).a (HRN (gW 2)).b) (HRN (gW 2))) 35 [.string s] = some (rdV s) := by
  obtain ⟨a, b, hq⟩ : ∃ a b, splB s spB = [a, b] := by
    match hq : splB s spB, hl with
    | [a, b], _ => exact ⟨a, b, rfl⟩
  have za : a.size ≤ s.size := splB_le (c := 32) (by show a ∈ splB s spB; rw [hq]; simp)
  have ea : (HRN (gW 2)).a s = a := by show nthS (splB s spB) 0 = a; rw [hq]; rfl
  have eb : (HRN (gW 2)).b s = b := by show nthS (splB s spB) 1 = b; rw [hq]; rfl
  refine (r_nrd2 gl (HRN (gW 2)) s).trans ?_
  rw [ea, eb, beqS]
  refine condI (andI (decide_eq_true (by omega)) (decide_eq_true hl)) (condC (fun h => ?_) (fun h => ?_))
  · exact condI (cl_t rfl) (tail2 hq (.inl ⟨of_decide_eq_true h, rfl⟩))
  · have hh : a ≠ homeB := of_decide_eq_false h
    refine condI (show g6 a = true from decide_eq_true (by omega)) (condC (fun hp => condI (cl_t rfl) (tail2 hq (.inr ⟨hp, rfl⟩))) (fun hp => ?_))
    rw [errA]
    · rfl
    intro k c n u g1 g2 g3 g4 g5
    obtain ⟨_, _, _, _, _, _, ha, _⟩ := parts2 hq g1 g3 g5
    obtain ⟨k0, k1, c0, c1⟩ := emay_c g1
    have := who_p ha hh c0 c1
    rw [show nbP a = false from hp] at this; cases this
theorem nrd3_eq (gl : Gl) {s : ByteArray} (hs : s.size ≤ 100000) (hl : (splB s spB).length = 3) : evT gl (HRn (wdH3 (gW 3) (HRN (gW 3)).a (HRN (gW 3)).b (HRN (gW 3)).c) (HRN (gW 3))) 35 [.string s] = some (rdV s) := by
  obtain ⟨a, b, c, hq⟩ : ∃ a b c, splB s spB = [a, b, c] := by
    match hq : splB s spB, hl with
    | [a, b, c], _ => exact ⟨a, b, c, rfl⟩
  have za : a.size ≤ s.size := splB_le (c := 32) (by show a ∈ splB s spB; rw [hq]; simp)
  have zc : c.size ≤ s.size := splB_le (c := 32) (by show c ∈ splB s spB; rw [hq]; simp)
  have gc : g6 c = true := decide_eq_true (by omega)
  have ea : (HRN (gW 3)).a s = a := by show nthS (splB s spB) 0 = a; rw [hq]; rfl
  have eb : (HRN (gW 3)).b s = b := by show nthS (splB s spB) 1 = b; rw [hq]; rfl
  have ec : (HRN (gW 3)).c s = c := by show nthS (splB s spB) 2 = c; rw [hq]; rfl
  have none4 : kkI b ≠ 4 → kkI b ≠ 5 → kkI b ≠ 7 → kkI b ≠ 11 → some zeroEv = some (rdV s) := fun h4 h5 h7 h11 => by
    rw [errA]
    intro k co n u g1 g2 g3 g4 g5
    obtain ⟨hp, ha, hb⟩ := parts3 hq g1 g3 g5
    obtain ⟨k0, k1, c0, c1⟩ := emay_c g1
    have hk : kkI b = k := by rw [hb]; exact kkI_word k0 k1
    omega
  refine (r_nrd3 gl (HRN (gW 3)) s).trans ?_
  rw [ea, eb, ec, beqS, show (HRN (gW 3)).kd = kkI from rfl]
  refine condI (andI (decide_eq_true (by omega)) (decide_eq_true hl)) (condC (fun h => ?_) (fun h => ?_))
  · have hco : (a = homeB ∧ (-1 : Int) = -1) ∨ (nbP a = true ∧ (-1 : Int) = nbV a) := .inl ⟨of_decide_eq_true h, rfl⟩
    exact condI (cl_t rfl) (condC (fun h4 => tail3 hq gc hco (.inl (by simpa using h4))) (fun h4 => condC (fun h5 => tail3 hq gc hco (.inr (.inl (by simpa using h5)))) (fun h5 => condC (fun h7 => tail3 hq gc hco (.inr (.inr (.inl (by simpa using h7))))) (fun h7 => condC (fun h11 => tail3 hq gc hco (.inr (.inr (.inr (by simpa using h11))))) (fun h11 => none4 (by simpa using h4) (by simpa using h5) (by simpa using h7) (by simpa using h11))))))
  · have hh : a ≠ homeB := of_decide_eq_false h
    refine condI (show g6 a = true from decide_eq_true (by omega)) (condC (fun hp => ?_) (fun hp => ?_))
    · have hco : (a = homeB ∧ nbV a = -1) ∨ (nbP a = true ∧ nbV a = nbV a) := .inr ⟨hp, rfl⟩
      exact condI (cl_t rfl) (condC (fun h4 => tail3 hq gc hco (.inl (by simpa using h4))) (fun h4 => condC (fun h5 => tail3 hq gc hco (.inr (.inl (by simpa using h5)))) (fun h5 => condC (fun h7 => tail3 hq gc hco (.inr (.inr (.inl (by simpa using h7))))) (fun h7 => condC (fun h11 => tail3 hq gc hco (.inr (.inr (.inr (by simpa using h11))))) (fun h11 => none4 (by simpa using h4) (by simpa using h5) (by simpa using h7) (by simpa using h11))))))
    · rw [errA]
      · rfl
      intro k co n u g1 g2 g3 g4 g5
      obtain ⟨_, ha, _⟩ := parts3 hq g1 g3 g5
      obtain ⟨k0, k1, c0, c1⟩ := emay_c g1
      have := who_p ha hh c0 c1
      rw [show nbP a = false from hp] at this; cases this
theorem nrd1_eq (gl : Gl) {s : ByteArray} (hs : s.size ≤ 100000) (hl : (splB s spB).length = 1) : evT gl (HRn (wdH1 (gW 1) (HRN (gW 1)).a) (HRN (gW 1))) 35 [.string s] = some (rdV s) := by
  obtain ⟨a, hq⟩ : ∃ a, splB s spB = [a] := by
    match hq : splB s spB, hl with
    | [a], _ => exact ⟨a, rfl⟩
  have hR : rdV s = zeroEv := by unfold rdV; rw [hq]; rfl
  rw [hR]
  exact (r_nrd1 gl (HRN (gW 1)) s).trans (condI (andI (decide_eq_true (by omega)) (decide_eq_true hl)) rfl)
theorem nrd4_eq (gl : Gl) {s : ByteArray} (hs : s.size ≤ 100000) (hl : 4 ≤ (splB s spB).length) : evT gl (HRn (wdH4 gW4 (HRN gW4).a (HRN gW4).b (HRN gW4).c dW (HRN gW4).sp) (HRN gW4)) 35 [.string s] = some (rdV s) := by
  have hR : rdV s = zeroEv := by
    unfold rdV rdL
    split
    · rename_i h; rw [h] at hl; simp at hl
    · rename_i h; rw [h] at hl; simp at hl
    · rfl
  rw [hR]
  exact (r_nrd4 gl (HRN gW4) dW s).trans (condI (andI (decide_eq_true (by omega)) (decide_eq_true hl)) (condI (andI (strC_all _) rfl) (condI (decide_eq_true (by simp only [List.length_cons]; omega)) rfl)))
theorem fn_treadR {gl : Gl} (hgl : Low gl) : FnOK Tryd.prog gl 35 afRd :=
  FnOK.flat hgl tglob fun args σ v e => by
    unfold afRd at e
    split at e
    · rename_i s
      simp only [Option.some.injEq, Prod.mk.injEq, decide_eq_true_eq] at e
      obtain ⟨hs, rfl⟩ := e
      refine ⟨rfl, rdV_af s, fun w hw => ?_⟩
      have h1 := sp_len (s := s) (sep := spB) (by decide)
      rcases (show (splB s spB).length = 1 ∨ (splB s spB).length = 2 ∨ (splB s spB).length = 3 ∨ 4 ≤ (splB s spB).length by omega) with h | h | h | h
      · exact flatS noSy_ok goodB hgl tglob (HRn_ok hgl (wd1_sub hgl) _) rfl (nrd1_eq gl hs h) hw
      · exact flatS noSy_ok goodB hgl tglob (HRn_ok hgl (wd2_sub hgl) _) rfl (nrd2_eq gl hs h) hw
      · exact flatS noSy_ok goodB hgl tglob (HRn_ok hgl (wd3_sub hgl) _) rfl (nrd3_eq gl hs h) hw
      · exact flatS noSy_ok goodB hgl tglob (HRn_ok hgl (wd4_sub hgl) _) rfl (nrd4_eq gl hs h) hw
    · cases e
end Go.Proofs.YtgohnfkidkomhaaDoor

noncomputable section
namespace Go.Proofs.YtgohnfkidkomhaaDoor
open Go.Proofs.YtgohnfkidkomhaaDoor.Ev Go.RowKit

/-! TraceLines: true, of any event and any text. -/
def HTL (R : RdG) (gg : C4 Bool) (ls : C4 ByteArray) (le : C4 Int) (gm : C4 Bool) (mi : C4 Int) (mb : C4 Bool) : Hs := hsOf [(30, afEvF gg ls le), (31, afEvF gg ls le), (34, afRdG R), (35, afRdG R), (32, afEv gm fun k c n u => .int .i64 (mi k c n u)), (33, afEv gm fun k c n u => .bool (mb k c n u)), (16, afW)] [] []
set_option maxRecDepth 100000 in
theorem r_tlines (gl : Gl) (R : RdG) (gg : C4 Bool) (ls : C4 ByteArray) (le : C4 Int) (gm : C4 Bool) (mi : C4 Int) (mb : C4 Bool) (k c n u : Int) (s : ByteArray) : evT gl (HTL R gg ls le gm mi mb) 9 [evV k c n u, .string s] =
 cond (decide ((↑s.size : Int) > 1000)) (
  some (.bool true)) (
  cond (gg k c n u) (
   cond (gg k c n u) (
    cond ((ls k c n u).toList == (ls k c n u).toList) (
     cond (le k c n u != le k c n u) (
      some (.bool false)) (
      cond (gm k c n u) (
       cond (mi k c n u == 0) (
        cond (gm k c n u) (
         cond (mb k c n u) (
          qs [k, c, n, u, k, c, n, u, k, c, n, u] (
           cond (R.g s) (
            cond (R.g s) (
             cond (R.k s == R.k s && (R.c s == R.c s && (R.n s == R.n s && (R.u s == R.u s && true)))) (
              cond (R.e s == R.e s) (
               some (.bool true)) (
               some (.bool false))) (
              some (.bool false))) (
             none)) (
            none))) (
          qs [k, c, n, u, k, c, n, u, k, c, n, u] (
           some (.bool false)))) (
         none)) (
        cond (gm k c n u) (
         cond (mb k c n u) (
          qs [k, c, n, u, k, c, n, u, k, c, n, u] (
           some (.bool false))) (
          qs [k, c, n, u, k, c, n, u, k, c, n, u] (
           cond (R.g s) (
            cond (R.g s) (
             cond (R.k s == R.k s && (R.c s == R.c s && (R.n s == R.n s && (R.u s == R.u s && true)))) (
              cond (R.e s == R.e s) (
               some (.bool true)) (
               some (.bool false))) (
              some (.bool false))) (
             none)) (
            none)))) (
         none))) (
       none))) (
     some (.bool false))) (
    none)) (
   none)) := by kernel_rfl
theorem tlines_eq (gl : Gl) {k c n u : Int} (hn : n ≤ 9223372036854775807) (hu : 0 ≤ u) (hu2 : u < 4294967296) (s : ByteArray) : evT gl (HTL RD GT evS evE tt4 evE emay) 9 [evV k c n u, .string s] = some (.bool true) := by
  refine (r_tlines gl RD GT evS evE tt4 evE emay k c n u s).trans (condC (fun _ => rfl) (fun hs => ?_))
  have hs := of_decide_eq_false hs
  have hg := GT_i (k := k) (c := c) hn hu hu2
  have gs : RD.g s = true := decide_eq_true (by omega)
  have e1 : ((evS k c n u).toList == (evS k c n u).toList) = true := beq_self_eq_true _
  have e2 : (evE k c n u != evE k c n u) = false := by simp
  have fin : (cond (RD.g s) (cond (RD.g s) (cond (RD.k s == RD.k s && (RD.c s == RD.c s && (RD.n s == RD.n s && (RD.u s == RD.u s && true)))) (cond (RD.e s == RD.e s) (some (.bool true)) (some (.bool false))) (some (.bool false))) none) none : Option Value) = some (.bool true) := by
    rw [gs]
    simp only [eqI0, Bool.and_self, cond_true]
  rw [hg, e1, e2]
  cases he : emay k c n u with
  | true =>
    have ee : evE k c n u = 0 := by unfold evE; rw [he]; rfl
    rw [ee]
    exact (qs_eq _ _).trans fin
  | false =>
    have ee : evE k c n u = 2 := by unfold evE; rw [he]; rfl
    rw [ee]
    exact (qs_eq _ _).trans fin
theorem HTL_ok {gl : Gl} {m : Int} (hgl : Low gl) (hp : GlP gl) (hE : Errs gl) (hm : gl 1 0 = some (.int .i64 m)) : (HTL RD GT evS evE tt4 evE emay).OK Tryd.prog gl := one_ok fun p h => by
  simp only [List.mem_cons, List.not_mem_nil, or_false] at h
  rcases h with rfl | rfl | rfl | rfl | rfl | rfl | rfl
  · rw [← afEv_eq]; exact fn_tline hgl hp
  · rw [← afEv_eq]; exact fn_tlineR hgl
  · rw [← afRd_eq]; exact fn_tread hgl hp hE hm
  · rw [← afRd_eq]; exact fn_treadR hgl
  · exact fn_tmay hgl
  · exact fn_tmayR hgl
  · exact fn_works26 hgl hp
theorem traceLines_calls (m : Int) (u0 o0 u1 o1 : Nat) {W : World} (hw : Ready Tryd.prog (glE m u0 o0 u1 o1) W) {v : Value} (hv : OpenEv v) (s : ByteArray) : Calls Tryd.prog 9 #[v, .string s] W (fun e W' => e = .returned (.bool true) ∧ Below W.heap.size W W') := by
  obtain ⟨k, c, n, u, rfl, h1, h2, h3⟩ := hv
  exact flatS noSy_ok goodB (glE_low m u0 o0 u1 o1) tglob (HTL_ok (glE_low m u0 o0 u1 o1) (glE_P m u0 o0 u1 o1) (glE_E m u0 o0 u1 o1) (glE_m m u0 o0 u1 o1)) rfl (tlines_eq _ h1 h2 h3 s) hw
end Go.Proofs.YtgohnfkidkomhaaDoor
