/- strconv.ParseUint to the bases 10 and 16, of texts of at most a million bytes that are all digits of the base. -/
import Derived.Test.YtgohnfkidkomhaaDoorK1
import Derived.Test.YtgohnfkidkomhaaDoorShelf
noncomputable section
noncomputable section
namespace Go.Proofs.YtgohnfkidkomhaaDoor
open Go.Proofs.YtgohnfkidkomhaaDoor.Ev Go.RowKit

/-! Numbers in a text: strconv.ParseUint of such digits, as it will be shown. -/
def puH (ok : Int → ByteArray → Bool) (v : Int → ByteArray → Int) (m : Int → ByteArray → Int) : Hd := fun vs rows => match vs, rows with
  | [.string t, .int .i64 b, .int .i64 64], [] => some (.br (ok b t) (.ret (.normal, [.tuple #[.int .u64 (v b t), .nilIface]], [])) (.ret (.normal, [.tuple #[.int .u64 (m b t), .iface 165 (.pointer (some ⟨1000, 0, none⟩))]], [none])))
  | _, _ => none
def H2 (ok : Int → ByteArray → Bool) (v m : Int → ByteArray → Int) : Hs := hsOf afs1 [(73, puH ok v m)] [(51, [(0, ⟨runLive, runOut, runH⟩)])]
set_option maxRecDepth 100000 in
theorem r_number (gl : Gl) (ok : Int → ByteArray → Bool) (v m : Int → ByteArray → Int) (s : ByteArray) (a : Int) : ev gl (H2 ok v m) 56 [.string s, .int .i64 a] =
 cond (decide (0 ≤ a) && (decide (a < (↑s.size : Int)))) (
  cond (byteAt s a == 45) (
   cond (decide (0 ≤ IntKind.i64.wrap (a + 1)) && (decide (IntKind.i64.wrap (a + 1) ≤ (↑s.size : Int))) && (decide ((↑s.size : Int) ≤ (↑s.size : Int)))) (
    cond (decide ((↑(subS s (IntKind.i64.wrap (a + 1)) (↑s.size : Int)).size : Int) ≥ 2)) (
     cond (decide (2 ≤ (↑(subS s (IntKind.i64.wrap (a + 1)) (↑s.size : Int)).size : Int))) (
      cond ((subS (subS s (IntKind.i64.wrap (a + 1)) (↑s.size : Int)) 0 2).toList == (⟨#[48, 120]⟩ : ByteArray).toList) (
       cond (decide (0 ≤ IntKind.i64.wrap (IntKind.i64.wrap (a + 1) + 2)) && (decide (s.size ≤ 1000000))) (
        cond (IntKind.i64.wrap     (runE hexB s (IntKind.i64.wrap (IntKind.i64.wrap (a + 1) + 2)) - IntKind.i64.wrap (IntKind.i64.wrap (a + 1) + 2)) ==   0) (
         some (.tuple #[(.int IntKind.i64 0), (.int IntKind.i64 0), (.int IntKind.i64 200)])) (
         cond (decide (0 ≤ IntKind.i64.wrap (IntKind.i64.wrap (a + 1) + 2)) && (decide   (IntKind.i64.wrap (IntKind.i64.wrap (a + 1) + 2) ≤     IntKind.i64.wrap       (IntKind.i64.wrap (IntKind.i64.wrap (a + 1) + 2) +         IntKind.i64.wrap           (runE hexB s (IntKind.i64.wrap (IntKind.i64.wrap (a + 1) + 2)) -             IntKind.i64.wrap (IntKind.i64.wrap (a + 1) + 2))))) && (decide   (IntKind.i64.wrap       (IntKind.i64.wrap (IntKind.i64.wrap (a + 1) + 2) +         IntKind.i64.wrap           (runE hexB s (IntKind.i64.wrap (IntKind.i64.wrap (a + 1) + 2)) -             IntKind.i64.wrap (IntKind.i64.wrap (a + 1) + 2))) ≤     (↑s.size : Int)))) (
          cond (ok 16   (subS s (IntKind.i64.wrap (IntKind.i64.wrap (a + 1) + 2))     (IntKind.i64.wrap       (IntKind.i64.wrap (IntKind.i64.wrap (a + 1) + 2) +         IntKind.i64.wrap           (runE hexB s (IntKind.i64.wrap (IntKind.i64.wrap (a + 1) + 2)) -             IntKind.i64.wrap (IntKind.i64.wrap (a + 1) + 2)))))) (
           cond (decide   (v 16       (subS s (IntKind.i64.wrap (IntKind.i64.wrap (a + 1) + 2))         (IntKind.i64.wrap           (IntKind.i64.wrap (IntKind.i64.wrap (a + 1) + 2) +             IntKind.i64.wrap               (runE hexB s (IntKind.i64.wrap (IntKind.i64.wrap (a + 1) + 2)) -                 IntKind.i64.wrap (IntKind.i64.wrap (a + 1) + 2))))) >     4294967296)) (
            some (.tuple #[(.int IntKind.i64 0), (.int IntKind.i64 0), (.int IntKind.i64 201)])) (
            cond (decide (0 ≤ a) && (decide (a < (↑s.size : Int)))) (
             cond (byteAt s a == 45) (
              some (.tuple #[(.int IntKind.i64 (IntKind.i64.wrap   (0 -     IntKind.i64.wrap       (v 16         (subS s (IntKind.i64.wrap (IntKind.i64.wrap (a + 1) + 2))           (IntKind.i64.wrap             (IntKind.i64.wrap (IntKind.i64.wrap (a + 1) + 2) +               IntKind.i64.wrap                 (runE hexB s (IntKind.i64.wrap (IntKind.i64.wrap (a + 1) + 2)) -                   IntKind.i64.wrap (IntKind.i64.wrap (a + 1) + 2))))))))), (.int IntKind.i64 (IntKind.i64.wrap   (IntKind.i64.wrap       (IntKind.i64.wrap (IntKind.i64.wrap (a + 1) + 2) +         IntKind.i64.wrap           (runE hexB s (IntKind.i64.wrap (IntKind.i64.wrap (a + 1) + 2)) -             IntKind.i64.wrap (IntKind.i64.wrap (a + 1) + 2))) -     a))), (.int IntKind.i64 0)])) (
              some (.tuple #[(.int IntKind.i64 (IntKind.i64.wrap   (v 16     (subS s (IntKind.i64.wrap (IntKind.i64.wrap (a + 1) + 2))       (IntKind.i64.wrap         (IntKind.i64.wrap (IntKind.i64.wrap (a + 1) + 2) +           IntKind.i64.wrap             (runE hexB s (IntKind.i64.wrap (IntKind.i64.wrap (a + 1) + 2)) -               IntKind.i64.wrap (IntKind.i64.wrap (a + 1) + 2)))))))), (.int IntKind.i64 (IntKind.i64.wrap   (IntKind.i64.wrap       (IntKind.i64.wrap (IntKind.i64.wrap (a + 1) + 2) +         IntKind.i64.wrap           (runE hexB s (IntKind.i64.wrap (IntKind.i64.wrap (a + 1) + 2)) -             IntKind.i64.wrap (IntKind.i64.wrap (a + 1) + 2))) -     a))), (.int IntKind.i64 0)]))) (
             none))) (
           some (.tuple #[(.int IntKind.i64 0), (.int IntKind.i64 0), (.int IntKind.i64 201)]))) (
          none))) (
        none)) (
       cond (decide (0 ≤ IntKind.i64.wrap (a + 1)) && (decide (s.size ≤ 1000000))) (
        cond (IntKind.i64.wrap (runE digitB s (IntKind.i64.wrap (a + 1)) - IntKind.i64.wrap (a + 1)) == 0) (
         some (.tuple #[(.int IntKind.i64 0), (.int IntKind.i64 0), (.int IntKind.i64 200)])) (
         cond (decide (0 ≤ IntKind.i64.wrap (a + 1)) && (decide   (IntKind.i64.wrap (a + 1) ≤     IntKind.i64.wrap       (IntKind.i64.wrap (a + 1) +         IntKind.i64.wrap (runE digitB s (IntKind.i64.wrap (a + 1)) - IntKind.i64.wrap (a + 1))))) && (decide   (IntKind.i64.wrap       (IntKind.i64.wrap (a + 1) +         IntKind.i64.wrap (runE digitB s (IntKind.i64.wrap (a + 1)) - IntKind.i64.wrap (a + 1))) ≤     (↑s.size : Int)))) (
          cond (ok 10   (subS s (IntKind.i64.wrap (a + 1))     (IntKind.i64.wrap       (IntKind.i64.wrap (a + 1) +         IntKind.i64.wrap (runE digitB s (IntKind.i64.wrap (a + 1)) - IntKind.i64.wrap (a + 1)))))) (
           cond (decide   (v 10       (subS s (IntKind.i64.wrap (a + 1))         (IntKind.i64.wrap           (IntKind.i64.wrap (a + 1) +             IntKind.i64.wrap (runE digitB s (IntKind.i64.wrap (a + 1)) - IntKind.i64.wrap (a + 1))))) >     4294967296)) (
            some (.tuple #[(.int IntKind.i64 0), (.int IntKind.i64 0), (.int IntKind.i64 201)])) (
            cond (decide (0 ≤ a) && (decide (a < (↑s.size : Int)))) (
             cond (byteAt s a == 45) (
              some (.tuple #[(.int IntKind.i64 (IntKind.i64.wrap   (0 -     IntKind.i64.wrap       (v 10         (subS s (IntKind.i64.wrap (a + 1))           (IntKind.i64.wrap             (IntKind.i64.wrap (a + 1) +               IntKind.i64.wrap (runE digitB s (IntKind.i64.wrap (a + 1)) - IntKind.i64.wrap (a + 1))))))))), (.int IntKind.i64 (IntKind.i64.wrap   (IntKind.i64.wrap       (IntKind.i64.wrap (a + 1) +         IntKind.i64.wrap (runE digitB s (IntKind.i64.wrap (a + 1)) - IntKind.i64.wrap (a + 1))) -     a))), (.int IntKind.i64 0)])) (
              some (.tuple #[(.int IntKind.i64 (IntKind.i64.wrap   (v 10     (subS s (IntKind.i64.wrap (a + 1))       (IntKind.i64.wrap         (IntKind.i64.wrap (a + 1) +           IntKind.i64.wrap (runE digitB s (IntKind.i64.wrap (a + 1)) - IntKind.i64.wrap (a + 1)))))))), (.int IntKind.i64 (IntKind.i64.wrap   (IntKind.i64.wrap       (IntKind.i64.wrap (a + 1) +         IntKind.i64.wrap (runE digitB s (IntKind.i64.wrap (a + 1)) - IntKind.i64.wrap (a + 1))) -     a))), (.int IntKind.i64 0)]))) (
             none))) (
           some (.tuple #[(.int IntKind.i64 0), (.int IntKind.i64 0), (.int IntKind.i64 201)]))) (
          none))) (
        none))) (
      none)) (
     cond (decide (0 ≤ IntKind.i64.wrap (a + 1)) && (decide (s.size ≤ 1000000))) (
      cond (IntKind.i64.wrap (runE digitB s (IntKind.i64.wrap (a + 1)) - IntKind.i64.wrap (a + 1)) == 0) (
       some (.tuple #[(.int IntKind.i64 0), (.int IntKind.i64 0), (.int IntKind.i64 200)])) (
       cond (decide (0 ≤ IntKind.i64.wrap (a + 1)) && (decide   (IntKind.i64.wrap (a + 1) ≤     IntKind.i64.wrap       (IntKind.i64.wrap (a + 1) +         IntKind.i64.wrap (runE digitB s (IntKind.i64.wrap (a + 1)) - IntKind.i64.wrap (a + 1))))) && (decide   (IntKind.i64.wrap       (IntKind.i64.wrap (a + 1) +         IntKind.i64.wrap (runE digitB s (IntKind.i64.wrap (a + 1)) - IntKind.i64.wrap (a + 1))) ≤     (↑s.size : Int)))) (
        cond (ok 10   (subS s (IntKind.i64.wrap (a + 1))     (IntKind.i64.wrap       (IntKind.i64.wrap (a + 1) +         IntKind.i64.wrap (runE digitB s (IntKind.i64.wrap (a + 1)) - IntKind.i64.wrap (a + 1)))))) (
         cond (decide   (v 10       (subS s (IntKind.i64.wrap (a + 1))         (IntKind.i64.wrap           (IntKind.i64.wrap (a + 1) +             IntKind.i64.wrap (runE digitB s (IntKind.i64.wrap (a + 1)) - IntKind.i64.wrap (a + 1))))) >     4294967296)) (
          some (.tuple #[(.int IntKind.i64 0), (.int IntKind.i64 0), (.int IntKind.i64 201)])) (
          cond (decide (0 ≤ a) && (decide (a < (↑s.size : Int)))) (
           cond (byteAt s a == 45) (
            some (.tuple #[(.int IntKind.i64 (IntKind.i64.wrap   (0 -     IntKind.i64.wrap       (v 10         (subS s (IntKind.i64.wrap (a + 1))           (IntKind.i64.wrap             (IntKind.i64.wrap (a + 1) +               IntKind.i64.wrap (runE digitB s (IntKind.i64.wrap (a + 1)) - IntKind.i64.wrap (a + 1))))))))), (.int IntKind.i64 (IntKind.i64.wrap   (IntKind.i64.wrap       (IntKind.i64.wrap (a + 1) +         IntKind.i64.wrap (runE digitB s (IntKind.i64.wrap (a + 1)) - IntKind.i64.wrap (a + 1))) -     a))), (.int IntKind.i64 0)])) (
            some (.tuple #[(.int IntKind.i64 (IntKind.i64.wrap   (v 10     (subS s (IntKind.i64.wrap (a + 1))       (IntKind.i64.wrap         (IntKind.i64.wrap (a + 1) +           IntKind.i64.wrap (runE digitB s (IntKind.i64.wrap (a + 1)) - IntKind.i64.wrap (a + 1)))))))), (.int IntKind.i64 (IntKind.i64.wrap   (IntKind.i64.wrap       (IntKind.i64.wrap (a + 1) +         IntKind.i64.wrap (runE digitB s (IntKind.i64.wrap (a + 1)) - IntKind.i64.wrap (a + 1))) -     a))), (.int IntKind.i64 0)]))) (
           none))) (
         some (.tuple #[(.int IntKind.i64 0), (.int IntKind.i64 0), (.int IntKind.i64 201)]))) (
        none))) (
      none))) (
    none)) (
   cond (decide (0 ≤ a) && (decide (a ≤ (↑s.size : Int))) && (decide ((↑s.size : Int) ≤ (↑s.size : Int)))) (
    cond (decide ((↑(subS s a (↑s.size : Int)).size : Int) ≥ 2)) (
     cond (decide (2 ≤ (↑(subS s a (↑s.size : Int)).size : Int))) (
      cond ((subS (subS s a (↑s.size : Int)) 0 2).toList == (⟨#[48, 120]⟩ : ByteArray).toList) (
       cond (decide (0 ≤ IntKind.i64.wrap (a + 2)) && (decide (s.size ≤ 1000000))) (
        cond (IntKind.i64.wrap (runE hexB s (IntKind.i64.wrap (a + 2)) - IntKind.i64.wrap (a + 2)) == 0) (
         some (.tuple #[(.int IntKind.i64 0), (.int IntKind.i64 0), (.int IntKind.i64 200)])) (
         cond (decide (0 ≤ IntKind.i64.wrap (a + 2)) && (decide   (IntKind.i64.wrap (a + 2) ≤     IntKind.i64.wrap       (IntKind.i64.wrap (a + 2) + IntKind.i64.wrap (runE hexB s (IntKind.i64.wrap (a + 2)) - IntKind.i64.wrap (a + 2))))) && (decide   (IntKind.i64.wrap       (IntKind.i64.wrap (a + 2) +         IntKind.i64.wrap (runE hexB s (IntKind.i64.wrap (a + 2)) - IntKind.i64.wrap (a + 2))) ≤     (↑s.size : Int)))) (
          cond (ok 16   (subS s (IntKind.i64.wrap (a + 2))     (IntKind.i64.wrap       (IntKind.i64.wrap (a + 2) +         IntKind.i64.wrap (runE hexB s (IntKind.i64.wrap (a + 2)) - IntKind.i64.wrap (a + 2)))))) (
           cond (decide   (v 16       (subS s (IntKind.i64.wrap (a + 2))         (IntKind.i64.wrap           (IntKind.i64.wrap (a + 2) +             IntKind.i64.wrap (runE hexB s (IntKind.i64.wrap (a + 2)) - IntKind.i64.wrap (a + 2))))) >     4294967296)) (
            some (.tuple #[(.int IntKind.i64 0), (.int IntKind.i64 0), (.int IntKind.i64 201)])) (
            cond (decide (0 ≤ a) && (decide (a < (↑s.size : Int)))) (
             cond (byteAt s a == 45) (
              some (.tuple #[(.int IntKind.i64 (IntKind.i64.wrap   (0 -     IntKind.i64.wrap       (v 16         (subS s (IntKind.i64.wrap (a + 2))           (IntKind.i64.wrap             (IntKind.i64.wrap (a + 2) +               IntKind.i64.wrap (runE hexB s (IntKind.i64.wrap (a + 2)) - IntKind.i64.wrap (a + 2))))))))), (.int IntKind.i64 (IntKind.i64.wrap   (IntKind.i64.wrap       (IntKind.i64.wrap (a + 2) +         IntKind.i64.wrap (runE hexB s (IntKind.i64.wrap (a + 2)) - IntKind.i64.wrap (a + 2))) -     a))), (.int IntKind.i64 0)])) (
              some (.tuple #[(.int IntKind.i64 (IntKind.i64.wrap   (v 16     (subS s (IntKind.i64.wrap (a + 2))       (IntKind.i64.wrap         (IntKind.i64.wrap (a + 2) +           IntKind.i64.wrap (runE hexB s (IntKind.i64.wrap (a + 2)) - IntKind.i64.wrap (a + 2)))))))), (.int IntKind.i64 (IntKind.i64.wrap   (IntKind.i64.wrap       (IntKind.i64.wrap (a + 2) +         IntKind.i64.wrap (runE hexB s (IntKind.i64.wrap (a + 2)) - IntKind.i64.wrap (a + 2))) -     a))), (.int IntKind.i64 0)]))) (
             none))) (
           some (.tuple #[(.int IntKind.i64 0), (.int IntKind.i64 0), (.int IntKind.i64 201)]))) (
          none))) (
        none)) (
       cond (decide (0 ≤ a) && (decide (s.size ≤ 1000000))) (
        cond (IntKind.i64.wrap (runE digitB s a - a) == 0) (
         some (.tuple #[(.int IntKind.i64 0), (.int IntKind.i64 0), (.int IntKind.i64 200)])) (
         cond (decide (0 ≤ a) && (decide (a ≤ IntKind.i64.wrap (a + IntKind.i64.wrap (runE digitB s a - a)))) && (decide (IntKind.i64.wrap (a + IntKind.i64.wrap (runE digitB s a - a)) ≤ (↑s.size : Int)))) (
          cond (ok 10 (subS s a (IntKind.i64.wrap (a + IntKind.i64.wrap (runE digitB s a - a))))) (
           cond (decide (v 10 (subS s a (IntKind.i64.wrap (a + IntKind.i64.wrap (runE digitB s a - a)))) > 4294967296)) (
            some (.tuple #[(.int IntKind.i64 0), (.int IntKind.i64 0), (.int IntKind.i64 201)])) (
            cond (decide (0 ≤ a) && (decide (a < (↑s.size : Int)))) (
             cond (byteAt s a == 45) (
              some (.tuple #[(.int IntKind.i64 (IntKind.i64.wrap   (0 - IntKind.i64.wrap (v 10 (subS s a (IntKind.i64.wrap (a + IntKind.i64.wrap (runE digitB s a - a)))))))), (.int IntKind.i64 (IntKind.i64.wrap (IntKind.i64.wrap (a + IntKind.i64.wrap (runE digitB s a - a)) - a))), (.int IntKind.i64 0)])) (
              some (.tuple #[(.int IntKind.i64 (IntKind.i64.wrap (v 10 (subS s a (IntKind.i64.wrap (a + IntKind.i64.wrap (runE digitB s a - a))))))), (.int IntKind.i64 (IntKind.i64.wrap (IntKind.i64.wrap (a + IntKind.i64.wrap (runE digitB s a - a)) - a))), (.int IntKind.i64 0)]))) (
             none))) (
           some (.tuple #[(.int IntKind.i64 0), (.int IntKind.i64 0), (.int IntKind.i64 201)]))) (
          none))) (
        none))) (
      none)) (
     cond (decide (0 ≤ a) && (decide (s.size ≤ 1000000))) (
      cond (IntKind.i64.wrap (runE digitB s a - a) == 0) (
       some (.tuple #[(.int IntKind.i64 0), (.int IntKind.i64 0), (.int IntKind.i64 200)])) (
       cond (decide (0 ≤ a) && (decide (a ≤ IntKind.i64.wrap (a + IntKind.i64.wrap (runE digitB s a - a)))) && (decide (IntKind.i64.wrap (a + IntKind.i64.wrap (runE digitB s a - a)) ≤ (↑s.size : Int)))) (
        cond (ok 10 (subS s a (IntKind.i64.wrap (a + IntKind.i64.wrap (runE digitB s a - a))))) (
         cond (decide (v 10 (subS s a (IntKind.i64.wrap (a + IntKind.i64.wrap (runE digitB s a - a)))) > 4294967296)) (
          some (.tuple #[(.int IntKind.i64 0), (.int IntKind.i64 0), (.int IntKind.i64 201)])) (
          cond (decide (0 ≤ a) && (decide (a < (↑s.size : Int)))) (
           cond (byteAt s a == 45) (
            some (.tuple #[(.int IntKind.i64 (IntKind.i64.wrap   (0 - IntKind.i64.wrap (v 10 (subS s a (IntKind.i64.wrap (a + IntKind.i64.wrap (runE digitB s a - a)))))))), (.int IntKind.i64 (IntKind.i64.wrap (IntKind.i64.wrap (a + IntKind.i64.wrap (runE digitB s a - a)) - a))), (.int IntKind.i64 0)])) (
            some (.tuple #[(.int IntKind.i64 (IntKind.i64.wrap (v 10 (subS s a (IntKind.i64.wrap (a + IntKind.i64.wrap (runE digitB s a - a))))))), (.int IntKind.i64 (IntKind.i64.wrap (IntKind.i64.wrap (a + IntKind.i64.wrap (runE digitB s a - a)) - a))), (.int IntKind.i64 0)]))) (
           none))) (
         some (.tuple #[(.int IntKind.i64 0), (.int IntKind.i64 0), (.int IntKind.i64 201)]))) (
        none))) (
      none))) (
    none))) (
  none) := by kernel_rfl
end Go.Proofs.YtgohnfkidkomhaaDoor

noncomputable section
namespace Go.Proofs.YtgohnfkidkomhaaDoor
open Go.Proofs.YtgohnfkidkomhaaDoor.Ev Go.RowKit

/-! A row of a string's bytes. -/
def bytesSym (s : ByteArray) : Sym := ⟨Lib.byteCells s.data.toList, fun _ o => byteI (nthB s.data.toList o), fun _ => ByteArray.empty, fun k o => decide (k = .u8) && decide (o < s.data.toList.length), fun _ => false⟩
def syB (s : ByteArray) : Sy := fun i => cond (Nat.beq i 1000) (some (bytesSym s)) none
def bytesRow (s : ByteArray) : Option LObj := some (.row ⟨Lib.byteCells s.data.toList, 5, (0, 0), 1, false, true⟩)
theorem byteCells_get (l : List UInt8) (o : Nat) : (Lib.byteCells l)[o]? = (l[o]?).map fun b => .int .u8 b.toNat := by
  unfold Lib.byteCells
  rw [List.getElem?_map]
theorem bytesSym_ok (s : ByteArray) : (bytesSym s).OK where
  int := fun k o h => by
    simp only [bytesSym, Bool.and_eq_true, decide_eq_true_eq] at h
    obtain ⟨rfl, h⟩ := h
    show (Lib.byteCells s.data.toList)[o]? = some (.int .u8 (byteI (nthB s.data.toList o)))
    rw [byteCells_get, nthB_eq, List.getElem?_eq_getElem h]
    rfl
  str := fun o h => by cases h
theorem syB_ok {gl : Gl} (s : ByteArray) : SyOK gl (syB s) := fun i S h => by
  unfold syB at h
  rw [Bool.cond_eq_ite] at h
  split at h
  · rename_i e
    cases h
    have := Nat.eq_of_beq_eq_true e
    exact ⟨fun _ => bytesSym_ok s, fun hl => by omega⟩
  · cases h
theorem bytes_all (l : List UInt8) : (Lib.byteCells l).all (af 8) = true := by
  rw [List.all_eq_true]
  intro v hv
  obtain ⟨i, hi⟩ := List.getElem?_of_mem hv
  rw [byteCells_get] at hi
  obtain ⟨b, _, rfl⟩ := Option.map_eq_some_iff.1 hi
  rfl
theorem size_len (s : ByteArray) : s.data.toList.length = s.size := by simp
theorem bs_int (s : ByteArray) (i : Int) : (bytesSym s).int .u8 (0 + i.toNat * 1) = byteAt s i := by
  unfold bytesSym byteAt
  rw [Nat.zero_add, Nat.mul_one]
theorem bs_ok (s : ByteArray) {i : Int} (h0 : 0 ≤ i) (h1 : i < (s.size : Int)) : (bytesSym s).okI .u8 (0 + i.toNat * 1) = true := by
  unfold bytesSym
  simp only [decide_true, Bool.true_and, decide_eq_true_eq]
  have := size_len s
  omega
theorem ble_self (n : Nat) : Nat.ble n n = true := Nat.ble_eq_true_of_le (Nat.le_refl n)
theorem byteAt_range (s : ByteArray) (i : Int) : 0 ≤ byteAt s i ∧ byteAt s i ≤ 255 := by
  unfold byteAt byteI
  split
  · rename_i b _
    have := b.toNat_lt
    omega
  · omega

/-! internal/strconv.ParseUint: its loop. -/
def puLive : List Nat := [101, 11, 1, 13, 10, 8, 99, 9, 12, 100, 6, 7]
def puOut : List Nat := [13, 9, 12, 6, 7]
def puSt (b cut : Int) (s : ByteArray) (i n : Int) : LSt := ([.int .i64 i, .int .u64 18446744073709551615, .int .i64 b, .int .u64 n, .int .u64 cut, .bool false, .slice (some ⟨1000, 0, none⟩) s.data.toList.length s.data.toList.length, .string s, .bool false, .int .i64 (s.data.toList.length : Int), .int .u64 0, .nilIface], [bytesRow s])
set_option maxRecDepth 100000 in
theorem r_pu16 (gl : Gl) (s : ByteArray) (i n : Int) : roundK (syB s) Tryd.prog gl (fun _ => none) H1 100 40 40 106 0 puLive (puSt 16 1152921504606846976 s i n) (rndK Tryd.prog 1001 puLive puOut) =
 cond (decide (i < (↑s.data.toList.length : Int))) (
  cond (decide (0 ≤ i) && (decide (i < (↑s.data.toList.length : Int))) && (s.data.toList.length.ble s.data.toList.length)) (
   cond (sameL (Lib.byteCells s.data.toList) (Lib.byteCells s.data.toList)) (
    cond ((bytesSym s).okI IntKind.u8 (0 + i.toNat * 1)) (
     cond ((bytesSym s).int IntKind.u8 (0 + i.toNat * 1) == 95) (
      cond (decide (48 ≤ (bytesSym s).int IntKind.u8 (0 + i.toNat * 1))) (
       cond (decide ((bytesSym s).int IntKind.u8 (0 + i.toNat * 1) ≤ 57)) (
        cond (decide (IntKind.u8.wrap ((bytesSym s).int IntKind.u8 (0 + i.toNat * 1) - 48) ≥ 16)) (
         cond (List.all (Lib.byteCells s.data.toList) (af 8) && true) (
          some (.inr (.ret, ([(.int IntKind.u64 (n)), (.string (s)), (.bool false), (.int IntKind.u64 0), (Value.iface 162 (Value.int IntKind.i64 2))], [some (.row ⟨(Lib.byteCells s.data.toList), 5, (0, 0), 1, false, true⟩)])))) (
          none)) (
         cond (decide (n ≥ 1152921504606846976)) (
          cond (List.all (Lib.byteCells s.data.toList) (af 8) && true) (
           some (.inr (.ret, ([(.int IntKind.u64 (n)), (.string (s)), (.bool false), (.int IntKind.u64 18446744073709551615), (Value.iface 162 (Value.int IntKind.i64 1))], [some (.row ⟨(Lib.byteCells s.data.toList), 5, (0, 0), 1, false, true⟩)])))) (
           none)) (
          cond (decide   (IntKind.u64.wrap       (IntKind.u64.wrap (n * 16) +         IntKind.u64.wrap (IntKind.u8.wrap ((bytesSym s).int IntKind.u8 (0 + i.toNat * 1) - 48))) <     IntKind.u64.wrap (n * 16))) (
           cond (List.all (Lib.byteCells s.data.toList) (af 8) && true) (
            some (.inr (.ret, ([(.int IntKind.u64 (IntKind.u64.wrap (n * 16))), (.string (s)), (.bool false), (.int IntKind.u64 18446744073709551615), (Value.iface 162 (Value.int IntKind.i64 1))], [some (.row ⟨(Lib.byteCells s.data.toList), 5, (0, 0), 1, false, true⟩)])))) (
            none)) (
           cond (decide   (IntKind.u64.wrap       (IntKind.u64.wrap (n * 16) +         IntKind.u64.wrap (IntKind.u8.wrap ((bytesSym s).int IntKind.u8 (0 + i.toNat * 1) - 48))) >     18446744073709551615)) (
            cond (List.all (Lib.byteCells s.data.toList) (af 8) && true) (
             some (.inr (.ret, ([(.int IntKind.u64 (IntKind.u64.wrap (n * 16))), (.string (s)), (.bool false), (.int IntKind.u64 18446744073709551615), (Value.iface 162 (Value.int IntKind.i64 1))], [some (.row ⟨(Lib.byteCells s.data.toList), 5, (0, 0), 1, false, true⟩)])))) (
             none)) (
            cond (List.all (Lib.byteCells s.data.toList) (af 8) && true) (
             some (.inl ([(.int IntKind.i64 (IntKind.i64.wrap (i + 1))), (.int IntKind.u64 18446744073709551615), (.int IntKind.i64 16), (.int IntKind.u64 (IntKind.u64.wrap   (IntKind.u64.wrap (n * 16) + IntKind.u64.wrap (IntKind.u8.wrap ((bytesSym s).int IntKind.u8 (0 + i.toNat * 1) - 48))))), (.int IntKind.u64 1152921504606846976), (.bool false), (.slice (some ⟨1000, 0, none⟩) (s.data.toList.length) (s.data.toList.length)), (.string (s)), (.bool false), (.int IntKind.i64 ((↑s.data.toList.length : Int))), (.int IntKind.u64 0), (Value.nilIface)], [some (.row ⟨(Lib.byteCells s.data.toList), 5, (0, 0), 1, false, true⟩)]))) (
             none)))))) (
        cond (decide   (97 ≤     IntKind.u8.wrap       (↑(BitVec.ofInt 8 ((bytesSym s).int IntKind.u8 (0 + i.toNat * 1)) ||| BitVec.ofInt 8 32).toNat : Int))) (
         cond (decide   (IntKind.u8.wrap       (↑(BitVec.ofInt 8 ((bytesSym s).int IntKind.u8 (0 + i.toNat * 1)) ||| BitVec.ofInt 8 32).toNat : Int) ≤     122)) (
          cond (decide   (IntKind.u8.wrap       (IntKind.u8.wrap           (IntKind.u8.wrap               (↑(BitVec.ofInt 8 ((bytesSym s).int IntKind.u8 (0 + i.toNat * 1)) ||| BitVec.ofInt 8 32).toNat : Int) -             97) +         10) ≥     16)) (
           cond (List.all (Lib.byteCells s.data.toList) (af 8) && true) (
            some (.inr (.ret, ([(.int IntKind.u64 (n)), (.string (s)), (.bool false), (.int IntKind.u64 0), (Value.iface 162 (Value.int IntKind.i64 2))], [some (.row ⟨(Lib.byteCells s.data.toList), 5, (0, 0), 1, false, true⟩)])))) (
            none)) (
           cond (decide (n ≥ 1152921504606846976)) (
            cond (List.all (Lib.byteCells s.data.toList) (af 8) && true) (
             some (.inr (.ret, ([(.int IntKind.u64 (n)), (.string (s)), (.bool false), (.int IntKind.u64 18446744073709551615), (Value.iface 162 (Value.int IntKind.i64 1))], [some (.row ⟨(Lib.byteCells s.data.toList), 5, (0, 0), 1, false, true⟩)])))) (
             none)) (
            cond (decide   (IntKind.u64.wrap       (IntKind.u64.wrap (n * 16) +         IntKind.u64.wrap           (IntKind.u8.wrap             (IntKind.u8.wrap                 (IntKind.u8.wrap                     (↑(BitVec.ofInt 8 ((bytesSym s).int IntKind.u8 (0 + i.toNat * 1)) ||| BitVec.ofInt 8 32).toNat :                       Int) -                   97) +               10))) <     IntKind.u64.wrap (n * 16))) (
             cond (List.all (Lib.byteCells s.data.toList) (af 8) && true) (
              some (.inr (.ret, ([(.int IntKind.u64 (IntKind.u64.wrap (n * 16))), (.string (s)), (.bool false), (.int IntKind.u64 18446744073709551615), (Value.iface 162 (Value.int IntKind.i64 1))], [some (.row ⟨(Lib.byteCells s.data.toList), 5, (0, 0), 1, false, true⟩)])))) (
              none)) (
             cond (decide   (IntKind.u64.wrap       (IntKind.u64.wrap (n * 16) +         IntKind.u64.wrap           (IntKind.u8.wrap             (IntKind.u8.wrap                 (IntKind.u8.wrap                     (↑(BitVec.ofInt 8 ((bytesSym s).int IntKind.u8 (0 + i.toNat * 1)) ||| BitVec.ofInt 8 32).toNat :                       Int) -                   97) +               10))) >     18446744073709551615)) (
              cond (List.all (Lib.byteCells s.data.toList) (af 8) && true) (
               some (.inr (.ret, ([(.int IntKind.u64 (IntKind.u64.wrap (n * 16))), (.string (s)), (.bool false), (.int IntKind.u64 18446744073709551615), (Value.iface 162 (Value.int IntKind.i64 1))], [some (.row ⟨(Lib.byteCells s.data.toList), 5, (0, 0), 1, false, true⟩)])))) (
               none)) (
              cond (List.all (Lib.byteCells s.data.toList) (af 8) && true) (
               some (.inl ([(.int IntKind.i64 (IntKind.i64.wrap (i + 1))), (.int IntKind.u64 18446744073709551615), (.int IntKind.i64 16), (.int IntKind.u64 (IntKind.u64.wrap   (IntKind.u64.wrap (n * 16) +     IntKind.u64.wrap       (IntKind.u8.wrap         (IntKind.u8.wrap             (IntKind.u8.wrap                 (↑(BitVec.ofInt 8 ((bytesSym s).int IntKind.u8 (0 + i.toNat * 1)) ||| BitVec.ofInt 8 32).toNat : Int) -               97) +           10))))), (.int IntKind.u64 1152921504606846976), (.bool false), (.slice (some ⟨1000, 0, none⟩) (s.data.toList.length) (s.data.toList.length)), (.string (s)), (.bool false), (.int IntKind.i64 ((↑s.data.toList.length : Int))), (.int IntKind.u64 0), (Value.nilIface)], [some (.row ⟨(Lib.byteCells s.data.toList), 5, (0, 0), 1, false, true⟩)]))) (
               none)))))) (
          cond (List.all (Lib.byteCells s.data.toList) (af 8) && true) (
           some (.inr (.ret, ([(.int IntKind.u64 (n)), (.string (s)), (.bool false), (.int IntKind.u64 0), (Value.iface 162 (Value.int IntKind.i64 2))], [some (.row ⟨(Lib.byteCells s.data.toList), 5, (0, 0), 1, false, true⟩)])))) (
           none))) (
         cond (List.all (Lib.byteCells s.data.toList) (af 8) && true) (
          some (.inr (.ret, ([(.int IntKind.u64 (n)), (.string (s)), (.bool false), (.int IntKind.u64 0), (Value.iface 162 (Value.int IntKind.i64 2))], [some (.row ⟨(Lib.byteCells s.data.toList), 5, (0, 0), 1, false, true⟩)])))) (
          none)))) (
       cond (decide   (97 ≤     IntKind.u8.wrap       (↑(BitVec.ofInt 8 ((bytesSym s).int IntKind.u8 (0 + i.toNat * 1)) ||| BitVec.ofInt 8 32).toNat : Int))) (
        cond (decide   (IntKind.u8.wrap       (↑(BitVec.ofInt 8 ((bytesSym s).int IntKind.u8 (0 + i.toNat * 1)) ||| BitVec.ofInt 8 32).toNat : Int) ≤     122)) (
         cond (decide   (IntKind.u8.wrap       (IntKind.u8.wrap           (IntKind.u8.wrap               (↑(BitVec.ofInt 8 ((bytesSym s).int IntKind.u8 (0 + i.toNat * 1)) ||| BitVec.ofInt 8 32).toNat : Int) -             97) +         10) ≥     16)) (
          cond (List.all (Lib.byteCells s.data.toList) (af 8) && true) (
           some (.inr (.ret, ([(.int IntKind.u64 (n)), (.string (s)), (.bool false), (.int IntKind.u64 0), (Value.iface 162 (Value.int IntKind.i64 2))], [some (.row ⟨(Lib.byteCells s.data.toList), 5, (0, 0), 1, false, true⟩)])))) (
           none)) (
          cond (decide (n ≥ 1152921504606846976)) (
           cond (List.all (Lib.byteCells s.data.toList) (af 8) && true) (
            some (.inr (.ret, ([(.int IntKind.u64 (n)), (.string (s)), (.bool false), (.int IntKind.u64 18446744073709551615), (Value.iface 162 (Value.int IntKind.i64 1))], [some (.row ⟨(Lib.byteCells s.data.toList), 5, (0, 0), 1, false, true⟩)])))) (
            none)) (
           cond (decide   (IntKind.u64.wrap       (IntKind.u64.wrap (n * 16) +         IntKind.u64.wrap           (IntKind.u8.wrap             (IntKind.u8.wrap                 (IntKind.u8.wrap                     (↑(BitVec.ofInt 8 ((bytesSym s).int IntKind.u8 (0 + i.toNat * 1)) ||| BitVec.ofInt 8 32).toNat :                       Int) -                   97) +               10))) <     IntKind.u64.wrap (n * 16))) (
            cond (List.all (Lib.byteCells s.data.toList) (af 8) && true) (
             some (.inr (.ret, ([(.int IntKind.u64 (IntKind.u64.wrap (n * 16))), (.string (s)), (.bool false), (.int IntKind.u64 18446744073709551615), (Value.iface 162 (Value.int IntKind.i64 1))], [some (.row ⟨(Lib.byteCells s.data.toList), 5, (0, 0), 1, false, true⟩)])))) (
             none)) (
            cond (decide   (IntKind.u64.wrap       (IntKind.u64.wrap (n * 16) +         IntKind.u64.wrap           (IntKind.u8.wrap             (IntKind.u8.wrap                 (IntKind.u8.wrap                     (↑(BitVec.ofInt 8 ((bytesSym s).int IntKind.u8 (0 + i.toNat * 1)) ||| BitVec.ofInt 8 32).toNat :                       Int) -                   97) +               10))) >     18446744073709551615)) (
             cond (List.all (Lib.byteCells s.data.toList) (af 8) && true) (
              some (.inr (.ret, ([(.int IntKind.u64 (IntKind.u64.wrap (n * 16))), (.string (s)), (.bool false), (.int IntKind.u64 18446744073709551615), (Value.iface 162 (Value.int IntKind.i64 1))], [some (.row ⟨(Lib.byteCells s.data.toList), 5, (0, 0), 1, false, true⟩)])))) (
              none)) (
             cond (List.all (Lib.byteCells s.data.toList) (af 8) && true) (
              some (.inl ([(.int IntKind.i64 (IntKind.i64.wrap (i + 1))), (.int IntKind.u64 18446744073709551615), (.int IntKind.i64 16), (.int IntKind.u64 (IntKind.u64.wrap   (IntKind.u64.wrap (n * 16) +     IntKind.u64.wrap       (IntKind.u8.wrap         (IntKind.u8.wrap             (IntKind.u8.wrap                 (↑(BitVec.ofInt 8 ((bytesSym s).int IntKind.u8 (0 + i.toNat * 1)) ||| BitVec.ofInt 8 32).toNat : Int) -               97) +           10))))), (.int IntKind.u64 1152921504606846976), (.bool false), (.slice (some ⟨1000, 0, none⟩) (s.data.toList.length) (s.data.toList.length)), (.string (s)), (.bool false), (.int IntKind.i64 ((↑s.data.toList.length : Int))), (.int IntKind.u64 0), (Value.nilIface)], [some (.row ⟨(Lib.byteCells s.data.toList), 5, (0, 0), 1, false, true⟩)]))) (
              none)))))) (
         cond (List.all (Lib.byteCells s.data.toList) (af 8) && true) (
          some (.inr (.ret, ([(.int IntKind.u64 (n)), (.string (s)), (.bool false), (.int IntKind.u64 0), (Value.iface 162 (Value.int IntKind.i64 2))], [some (.row ⟨(Lib.byteCells s.data.toList), 5, (0, 0), 1, false, true⟩)])))) (
          none))) (
        cond (List.all (Lib.byteCells s.data.toList) (af 8) && true) (
         some (.inr (.ret, ([(.int IntKind.u64 (n)), (.string (s)), (.bool false), (.int IntKind.u64 0), (Value.iface 162 (Value.int IntKind.i64 2))], [some (.row ⟨(Lib.byteCells s.data.toList), 5, (0, 0), 1, false, true⟩)])))) (
         none)))) (
      cond (decide (48 ≤ (bytesSym s).int IntKind.u8 (0 + i.toNat * 1))) (
       cond (decide ((bytesSym s).int IntKind.u8 (0 + i.toNat * 1) ≤ 57)) (
        cond (decide (IntKind.u8.wrap ((bytesSym s).int IntKind.u8 (0 + i.toNat * 1) - 48) ≥ 16)) (
         cond (List.all (Lib.byteCells s.data.toList) (af 8) && true) (
          some (.inr (.ret, ([(.int IntKind.u64 (n)), (.string (s)), (.bool false), (.int IntKind.u64 0), (Value.iface 162 (Value.int IntKind.i64 2))], [some (.row ⟨(Lib.byteCells s.data.toList), 5, (0, 0), 1, false, true⟩)])))) (
          none)) (
         cond (decide (n ≥ 1152921504606846976)) (
          cond (List.all (Lib.byteCells s.data.toList) (af 8) && true) (
           some (.inr (.ret, ([(.int IntKind.u64 (n)), (.string (s)), (.bool false), (.int IntKind.u64 18446744073709551615), (Value.iface 162 (Value.int IntKind.i64 1))], [some (.row ⟨(Lib.byteCells s.data.toList), 5, (0, 0), 1, false, true⟩)])))) (
           none)) (
          cond (decide   (IntKind.u64.wrap       (IntKind.u64.wrap (n * 16) +         IntKind.u64.wrap (IntKind.u8.wrap ((bytesSym s).int IntKind.u8 (0 + i.toNat * 1) - 48))) <     IntKind.u64.wrap (n * 16))) (
           cond (List.all (Lib.byteCells s.data.toList) (af 8) && true) (
            some (.inr (.ret, ([(.int IntKind.u64 (IntKind.u64.wrap (n * 16))), (.string (s)), (.bool false), (.int IntKind.u64 18446744073709551615), (Value.iface 162 (Value.int IntKind.i64 1))], [some (.row ⟨(Lib.byteCells s.data.toList), 5, (0, 0), 1, false, true⟩)])))) (
            none)) (
           cond (decide   (IntKind.u64.wrap       (IntKind.u64.wrap (n * 16) +         IntKind.u64.wrap (IntKind.u8.wrap ((bytesSym s).int IntKind.u8 (0 + i.toNat * 1) - 48))) >     18446744073709551615)) (
            cond (List.all (Lib.byteCells s.data.toList) (af 8) && true) (
             some (.inr (.ret, ([(.int IntKind.u64 (IntKind.u64.wrap (n * 16))), (.string (s)), (.bool false), (.int IntKind.u64 18446744073709551615), (Value.iface 162 (Value.int IntKind.i64 1))], [some (.row ⟨(Lib.byteCells s.data.toList), 5, (0, 0), 1, false, true⟩)])))) (
             none)) (
            cond (List.all (Lib.byteCells s.data.toList) (af 8) && true) (
             some (.inl ([(.int IntKind.i64 (IntKind.i64.wrap (i + 1))), (.int IntKind.u64 18446744073709551615), (.int IntKind.i64 16), (.int IntKind.u64 (IntKind.u64.wrap   (IntKind.u64.wrap (n * 16) + IntKind.u64.wrap (IntKind.u8.wrap ((bytesSym s).int IntKind.u8 (0 + i.toNat * 1) - 48))))), (.int IntKind.u64 1152921504606846976), (.bool false), (.slice (some ⟨1000, 0, none⟩) (s.data.toList.length) (s.data.toList.length)), (.string (s)), (.bool false), (.int IntKind.i64 ((↑s.data.toList.length : Int))), (.int IntKind.u64 0), (Value.nilIface)], [some (.row ⟨(Lib.byteCells s.data.toList), 5, (0, 0), 1, false, true⟩)]))) (
             none)))))) (
        cond (decide   (97 ≤     IntKind.u8.wrap       (↑(BitVec.ofInt 8 ((bytesSym s).int IntKind.u8 (0 + i.toNat * 1)) ||| BitVec.ofInt 8 32).toNat : Int))) (
         cond (decide   (IntKind.u8.wrap       (↑(BitVec.ofInt 8 ((bytesSym s).int IntKind.u8 (0 + i.toNat * 1)) ||| BitVec.ofInt 8 32).toNat : Int) ≤     122)) (
          cond (decide   (IntKind.u8.wrap       (IntKind.u8.wrap           (IntKind.u8.wrap               (↑(BitVec.ofInt 8 ((bytesSym s).int IntKind.u8 (0 + i.toNat * 1)) ||| BitVec.ofInt 8 32).toNat : Int) -             97) +         10) ≥     16)) (
           cond (List.all (Lib.byteCells s.data.toList) (af 8) && true) (
            some (.inr (.ret, ([(.int IntKind.u64 (n)), (.string (s)), (.bool false), (.int IntKind.u64 0), (Value.iface 162 (Value.int IntKind.i64 2))], [some (.row ⟨(Lib.byteCells s.data.toList), 5, (0, 0), 1, false, true⟩)])))) (
            none)) (
           cond (decide (n ≥ 1152921504606846976)) (
            cond (List.all (Lib.byteCells s.data.toList) (af 8) && true) (
             some (.inr (.ret, ([(.int IntKind.u64 (n)), (.string (s)), (.bool false), (.int IntKind.u64 18446744073709551615), (Value.iface 162 (Value.int IntKind.i64 1))], [some (.row ⟨(Lib.byteCells s.data.toList), 5, (0, 0), 1, false, true⟩)])))) (
             none)) (
            cond (decide   (IntKind.u64.wrap       (IntKind.u64.wrap (n * 16) +         IntKind.u64.wrap           (IntKind.u8.wrap             (IntKind.u8.wrap                 (IntKind.u8.wrap                     (↑(BitVec.ofInt 8 ((bytesSym s).int IntKind.u8 (0 + i.toNat * 1)) ||| BitVec.ofInt 8 32).toNat :                       Int) -                   97) +               10))) <     IntKind.u64.wrap (n * 16))) (
             cond (List.all (Lib.byteCells s.data.toList) (af 8) && true) (
              some (.inr (.ret, ([(.int IntKind.u64 (IntKind.u64.wrap (n * 16))), (.string (s)), (.bool false), (.int IntKind.u64 18446744073709551615), (Value.iface 162 (Value.int IntKind.i64 1))], [some (.row ⟨(Lib.byteCells s.data.toList), 5, (0, 0), 1, false, true⟩)])))) (
              none)) (
             cond (decide   (IntKind.u64.wrap       (IntKind.u64.wrap (n * 16) +         IntKind.u64.wrap           (IntKind.u8.wrap             (IntKind.u8.wrap                 (IntKind.u8.wrap                     (↑(BitVec.ofInt 8 ((bytesSym s).int IntKind.u8 (0 + i.toNat * 1)) ||| BitVec.ofInt 8 32).toNat :                       Int) -                   97) +               10))) >     18446744073709551615)) (
              cond (List.all (Lib.byteCells s.data.toList) (af 8) && true) (
               some (.inr (.ret, ([(.int IntKind.u64 (IntKind.u64.wrap (n * 16))), (.string (s)), (.bool false), (.int IntKind.u64 18446744073709551615), (Value.iface 162 (Value.int IntKind.i64 1))], [some (.row ⟨(Lib.byteCells s.data.toList), 5, (0, 0), 1, false, true⟩)])))) (
               none)) (
              cond (List.all (Lib.byteCells s.data.toList) (af 8) && true) (
               some (.inl ([(.int IntKind.i64 (IntKind.i64.wrap (i + 1))), (.int IntKind.u64 18446744073709551615), (.int IntKind.i64 16), (.int IntKind.u64 (IntKind.u64.wrap   (IntKind.u64.wrap (n * 16) +     IntKind.u64.wrap       (IntKind.u8.wrap         (IntKind.u8.wrap             (IntKind.u8.wrap                 (↑(BitVec.ofInt 8 ((bytesSym s).int IntKind.u8 (0 + i.toNat * 1)) ||| BitVec.ofInt 8 32).toNat : Int) -               97) +           10))))), (.int IntKind.u64 1152921504606846976), (.bool false), (.slice (some ⟨1000, 0, none⟩) (s.data.toList.length) (s.data.toList.length)), (.string (s)), (.bool false), (.int IntKind.i64 ((↑s.data.toList.length : Int))), (.int IntKind.u64 0), (Value.nilIface)], [some (.row ⟨(Lib.byteCells s.data.toList), 5, (0, 0), 1, false, true⟩)]))) (
               none)))))) (
          cond (List.all (Lib.byteCells s.data.toList) (af 8) && true) (
           some (.inr (.ret, ([(.int IntKind.u64 (n)), (.string (s)), (.bool false), (.int IntKind.u64 0), (Value.iface 162 (Value.int IntKind.i64 2))], [some (.row ⟨(Lib.byteCells s.data.toList), 5, (0, 0), 1, false, true⟩)])))) (
           none))) (
         cond (List.all (Lib.byteCells s.data.toList) (af 8) && true) (
          some (.inr (.ret, ([(.int IntKind.u64 (n)), (.string (s)), (.bool false), (.int IntKind.u64 0), (Value.iface 162 (Value.int IntKind.i64 2))], [some (.row ⟨(Lib.byteCells s.data.toList), 5, (0, 0), 1, false, true⟩)])))) (
          none)))) (
       cond (decide   (97 ≤     IntKind.u8.wrap       (↑(BitVec.ofInt 8 ((bytesSym s).int IntKind.u8 (0 + i.toNat * 1)) ||| BitVec.ofInt 8 32).toNat : Int))) (
        cond (decide   (IntKind.u8.wrap       (↑(BitVec.ofInt 8 ((bytesSym s).int IntKind.u8 (0 + i.toNat * 1)) ||| BitVec.ofInt 8 32).toNat : Int) ≤     122)) (
         cond (decide   (IntKind.u8.wrap       (IntKind.u8.wrap           (IntKind.u8.wrap               (↑(BitVec.ofInt 8 ((bytesSym s).int IntKind.u8 (0 + i.toNat * 1)) ||| BitVec.ofInt 8 32).toNat : Int) -             97) +         10) ≥     16)) (
          cond (List.all (Lib.byteCells s.data.toList) (af 8) && true) (
           some (.inr (.ret, ([(.int IntKind.u64 (n)), (.string (s)), (.bool false), (.int IntKind.u64 0), (Value.iface 162 (Value.int IntKind.i64 2))], [some (.row ⟨(Lib.byteCells s.data.toList), 5, (0, 0), 1, false, true⟩)])))) (
           none)) (
          cond (decide (n ≥ 1152921504606846976)) (
           cond (List.all (Lib.byteCells s.data.toList) (af 8) && true) (
            some (.inr (.ret, ([(.int IntKind.u64 (n)), (.string (s)), (.bool false), (.int IntKind.u64 18446744073709551615), (Value.iface 162 (Value.int IntKind.i64 1))], [some (.row ⟨(Lib.byteCells s.data.toList), 5, (0, 0), 1, false, true⟩)])))) (
            none)) (
           cond (decide   (IntKind.u64.wrap       (IntKind.u64.wrap (n * 16) +         IntKind.u64.wrap           (IntKind.u8.wrap             (IntKind.u8.wrap                 (IntKind.u8.wrap                     (↑(BitVec.ofInt 8 ((bytesSym s).int IntKind.u8 (0 + i.toNat * 1)) ||| BitVec.ofInt 8 32).toNat :                       Int) -                   97) +               10))) <     IntKind.u64.wrap (n * 16))) (
            cond (List.all (Lib.byteCells s.data.toList) (af 8) && true) (
             some (.inr (.ret, ([(.int IntKind.u64 (IntKind.u64.wrap (n * 16))), (.string (s)), (.bool false), (.int IntKind.u64 18446744073709551615), (Value.iface 162 (Value.int IntKind.i64 1))], [some (.row ⟨(Lib.byteCells s.data.toList), 5, (0, 0), 1, false, true⟩)])))) (
             none)) (
            cond (decide   (IntKind.u64.wrap       (IntKind.u64.wrap (n * 16) +         IntKind.u64.wrap           (IntKind.u8.wrap             (IntKind.u8.wrap                 (IntKind.u8.wrap                     (↑(BitVec.ofInt 8 ((bytesSym s).int IntKind.u8 (0 + i.toNat * 1)) ||| BitVec.ofInt 8 32).toNat :                       Int) -                   97) +               10))) >     18446744073709551615)) (
             cond (List.all (Lib.byteCells s.data.toList) (af 8) && true) (
              some (.inr (.ret, ([(.int IntKind.u64 (IntKind.u64.wrap (n * 16))), (.string (s)), (.bool false), (.int IntKind.u64 18446744073709551615), (Value.iface 162 (Value.int IntKind.i64 1))], [some (.row ⟨(Lib.byteCells s.data.toList), 5, (0, 0), 1, false, true⟩)])))) (
              none)) (
             cond (List.all (Lib.byteCells s.data.toList) (af 8) && true) (
              some (.inl ([(.int IntKind.i64 (IntKind.i64.wrap (i + 1))), (.int IntKind.u64 18446744073709551615), (.int IntKind.i64 16), (.int IntKind.u64 (IntKind.u64.wrap   (IntKind.u64.wrap (n * 16) +     IntKind.u64.wrap       (IntKind.u8.wrap         (IntKind.u8.wrap             (IntKind.u8.wrap                 (↑(BitVec.ofInt 8 ((bytesSym s).int IntKind.u8 (0 + i.toNat * 1)) ||| BitVec.ofInt 8 32).toNat : Int) -               97) +           10))))), (.int IntKind.u64 1152921504606846976), (.bool false), (.slice (some ⟨1000, 0, none⟩) (s.data.toList.length) (s.data.toList.length)), (.string (s)), (.bool false), (.int IntKind.i64 ((↑s.data.toList.length : Int))), (.int IntKind.u64 0), (Value.nilIface)], [some (.row ⟨(Lib.byteCells s.data.toList), 5, (0, 0), 1, false, true⟩)]))) (
              none)))))) (
         cond (List.all (Lib.byteCells s.data.toList) (af 8) && true) (
          some (.inr (.ret, ([(.int IntKind.u64 (n)), (.string (s)), (.bool false), (.int IntKind.u64 0), (Value.iface 162 (Value.int IntKind.i64 2))], [some (.row ⟨(Lib.byteCells s.data.toList), 5, (0, 0), 1, false, true⟩)])))) (
          none))) (
        cond (List.all (Lib.byteCells s.data.toList) (af 8) && true) (
         some (.inr (.ret, ([(.int IntKind.u64 (n)), (.string (s)), (.bool false), (.int IntKind.u64 0), (Value.iface 162 (Value.int IntKind.i64 2))], [some (.row ⟨(Lib.byteCells s.data.toList), 5, (0, 0), 1, false, true⟩)])))) (
         none))))) (
     none)) (
    none)) (
   none)) (
  cond (List.all (Lib.byteCells s.data.toList) (af 8) && true) (
   some (.inr (.exit 3, ([(.int IntKind.u64 (n)), (.string (s)), (.bool false), (.int IntKind.u64 0), (Value.nilIface)], [some (.row ⟨(Lib.byteCells s.data.toList), 5, (0, 0), 1, false, true⟩)])))) (
   none)) := by kernel_rfl
set_option maxRecDepth 100000 in
theorem r_pu10 (gl : Gl) (s : ByteArray) (i n : Int) : roundK (syB s) Tryd.prog gl (fun _ => none) H1 100 40 40 106 0 puLive (puSt 10 1844674407370955162 s i n) (rndK Tryd.prog 1001 puLive puOut) =
 cond (decide (i < (↑s.data.toList.length : Int))) (
  cond (decide (0 ≤ i) && (decide (i < (↑s.data.toList.length : Int))) && (s.data.toList.length.ble s.data.toList.length)) (
   cond (sameL (Lib.byteCells s.data.toList) (Lib.byteCells s.data.toList)) (
    cond ((bytesSym s).okI IntKind.u8 (0 + i.toNat * 1)) (
     cond ((bytesSym s).int IntKind.u8 (0 + i.toNat * 1) == 95) (
      cond (decide (48 ≤ (bytesSym s).int IntKind.u8 (0 + i.toNat * 1))) (
       cond (decide ((bytesSym s).int IntKind.u8 (0 + i.toNat * 1) ≤ 57)) (
        cond (decide (IntKind.u8.wrap ((bytesSym s).int IntKind.u8 (0 + i.toNat * 1) - 48) ≥ 10)) (
         cond (List.all (Lib.byteCells s.data.toList) (af 8) && true) (
          some (.inr (.ret, ([(.int IntKind.u64 (n)), (.string (s)), (.bool false), (.int IntKind.u64 0), (Value.iface 162 (Value.int IntKind.i64 2))], [some (.row ⟨(Lib.byteCells s.data.toList), 5, (0, 0), 1, false, true⟩)])))) (
          none)) (
         cond (decide (n ≥ 1844674407370955162)) (
          cond (List.all (Lib.byteCells s.data.toList) (af 8) && true) (
           some (.inr (.ret, ([(.int IntKind.u64 (n)), (.string (s)), (.bool false), (.int IntKind.u64 18446744073709551615), (Value.iface 162 (Value.int IntKind.i64 1))], [some (.row ⟨(Lib.byteCells s.data.toList), 5, (0, 0), 1, false, true⟩)])))) (
           none)) (
          cond (decide   (IntKind.u64.wrap       (IntKind.u64.wrap (n * 10) +         IntKind.u64.wrap (IntKind.u8.wrap ((bytesSym s).int IntKind.u8 (0 + i.toNat * 1) - 48))) <     IntKind.u64.wrap (n * 10))) (
           cond (List.all (Lib.byteCells s.data.toList) (af 8) && true) (
            some (.inr (.ret, ([(.int IntKind.u64 (IntKind.u64.wrap (n * 10))), (.string (s)), (.bool false), (.int IntKind.u64 18446744073709551615), (Value.iface 162 (Value.int IntKind.i64 1))], [some (.row ⟨(Lib.byteCells s.data.toList), 5, (0, 0), 1, false, true⟩)])))) (
            none)) (
           cond (decide   (IntKind.u64.wrap       (IntKind.u64.wrap (n * 10) +         IntKind.u64.wrap (IntKind.u8.wrap ((bytesSym s).int IntKind.u8 (0 + i.toNat * 1) - 48))) >     18446744073709551615)) (
            cond (List.all (Lib.byteCells s.data.toList) (af 8) && true) (
             some (.inr (.ret, ([(.int IntKind.u64 (IntKind.u64.wrap (n * 10))), (.string (s)), (.bool false), (.int IntKind.u64 18446744073709551615), (Value.iface 162 (Value.int IntKind.i64 1))], [some (.row ⟨(Lib.byteCells s.data.toList), 5, (0, 0), 1, false, true⟩)])))) (
             none)) (
            cond (List.all (Lib.byteCells s.data.toList) (af 8) && true) (
             some (.inl ([(.int IntKind.i64 (IntKind.i64.wrap (i + 1))), (.int IntKind.u64 18446744073709551615), (.int IntKind.i64 10), (.int IntKind.u64 (IntKind.u64.wrap   (IntKind.u64.wrap (n * 10) + IntKind.u64.wrap (IntKind.u8.wrap ((bytesSym s).int IntKind.u8 (0 + i.toNat * 1) - 48))))), (.int IntKind.u64 1844674407370955162), (.bool false), (.slice (some ⟨1000, 0, none⟩) (s.data.toList.length) (s.data.toList.length)), (.string (s)), (.bool false), (.int IntKind.i64 ((↑s.data.toList.length : Int))), (.int IntKind.u64 0), (Value.nilIface)], [some (.row ⟨(Lib.byteCells s.data.toList), 5, (0, 0), 1, false, true⟩)]))) (
             none)))))) (
        cond (decide   (97 ≤     IntKind.u8.wrap       (↑(BitVec.ofInt 8 ((bytesSym s).int IntKind.u8 (0 + i.toNat * 1)) ||| BitVec.ofInt 8 32).toNat : Int))) (
         cond (decide   (IntKind.u8.wrap       (↑(BitVec.ofInt 8 ((bytesSym s).int IntKind.u8 (0 + i.toNat * 1)) ||| BitVec.ofInt 8 32).toNat : Int) ≤     122)) (
          cond (decide   (IntKind.u8.wrap       (IntKind.u8.wrap           (IntKind.u8.wrap               (↑(BitVec.ofInt 8 ((bytesSym s).int IntKind.u8 (0 + i.toNat * 1)) ||| BitVec.ofInt 8 32).toNat : Int) -             97) +         10) ≥     10)) (
           cond (List.all (Lib.byteCells s.data.toList) (af 8) && true) (
            some (.inr (.ret, ([(.int IntKind.u64 (n)), (.string (s)), (.bool false), (.int IntKind.u64 0), (Value.iface 162 (Value.int IntKind.i64 2))], [some (.row ⟨(Lib.byteCells s.data.toList), 5, (0, 0), 1, false, true⟩)])))) (
            none)) (
           cond (decide (n ≥ 1844674407370955162)) (
            cond (List.all (Lib.byteCells s.data.toList) (af 8) && true) (
             some (.inr (.ret, ([(.int IntKind.u64 (n)), (.string (s)), (.bool false), (.int IntKind.u64 18446744073709551615), (Value.iface 162 (Value.int IntKind.i64 1))], [some (.row ⟨(Lib.byteCells s.data.toList), 5, (0, 0), 1, false, true⟩)])))) (
             none)) (
            cond (decide   (IntKind.u64.wrap       (IntKind.u64.wrap (n * 10) +         IntKind.u64.wrap           (IntKind.u8.wrap             (IntKind.u8.wrap                 (IntKind.u8.wrap                     (↑(BitVec.ofInt 8 ((bytesSym s).int IntKind.u8 (0 + i.toNat * 1)) ||| BitVec.ofInt 8 32).toNat :                       Int) -                   97) +               10))) <     IntKind.u64.wrap (n * 10))) (
             cond (List.all (Lib.byteCells s.data.toList) (af 8) && true) (
              some (.inr (.ret, ([(.int IntKind.u64 (IntKind.u64.wrap (n * 10))), (.string (s)), (.bool false), (.int IntKind.u64 18446744073709551615), (Value.iface 162 (Value.int IntKind.i64 1))], [some (.row ⟨(Lib.byteCells s.data.toList), 5, (0, 0), 1, false, true⟩)])))) (
              none)) (
             cond (decide   (IntKind.u64.wrap       (IntKind.u64.wrap (n * 10) +         IntKind.u64.wrap           (IntKind.u8.wrap             (IntKind.u8.wrap                 (IntKind.u8.wrap                     (↑(BitVec.ofInt 8 ((bytesSym s).int IntKind.u8 (0 + i.toNat * 1)) ||| BitVec.ofInt 8 32).toNat :                       Int) -                   97) +               10))) >     18446744073709551615)) (
              cond (List.all (Lib.byteCells s.data.toList) (af 8) && true) (
               some (.inr (.ret, ([(.int IntKind.u64 (IntKind.u64.wrap (n * 10))), (.string (s)), (.bool false), (.int IntKind.u64 18446744073709551615), (Value.iface 162 (Value.int IntKind.i64 1))], [some (.row ⟨(Lib.byteCells s.data.toList), 5, (0, 0), 1, false, true⟩)])))) (
               none)) (
              cond (List.all (Lib.byteCells s.data.toList) (af 8) && true) (
               some (.inl ([(.int IntKind.i64 (IntKind.i64.wrap (i + 1))), (.int IntKind.u64 18446744073709551615), (.int IntKind.i64 10), (.int IntKind.u64 (IntKind.u64.wrap   (IntKind.u64.wrap (n * 10) +     IntKind.u64.wrap       (IntKind.u8.wrap         (IntKind.u8.wrap             (IntKind.u8.wrap                 (↑(BitVec.ofInt 8 ((bytesSym s).int IntKind.u8 (0 + i.toNat * 1)) ||| BitVec.ofInt 8 32).toNat : Int) -               97) +           10))))), (.int IntKind.u64 1844674407370955162), (.bool false), (.slice (some ⟨1000, 0, none⟩) (s.data.toList.length) (s.data.toList.length)), (.string (s)), (.bool false), (.int IntKind.i64 ((↑s.data.toList.length : Int))), (.int IntKind.u64 0), (Value.nilIface)], [some (.row ⟨(Lib.byteCells s.data.toList), 5, (0, 0), 1, false, true⟩)]))) (
               none)))))) (
          cond (List.all (Lib.byteCells s.data.toList) (af 8) && true) (
           some (.inr (.ret, ([(.int IntKind.u64 (n)), (.string (s)), (.bool false), (.int IntKind.u64 0), (Value.iface 162 (Value.int IntKind.i64 2))], [some (.row ⟨(Lib.byteCells s.data.toList), 5, (0, 0), 1, false, true⟩)])))) (
           none))) (
         cond (List.all (Lib.byteCells s.data.toList) (af 8) && true) (
          some (.inr (.ret, ([(.int IntKind.u64 (n)), (.string (s)), (.bool false), (.int IntKind.u64 0), (Value.iface 162 (Value.int IntKind.i64 2))], [some (.row ⟨(Lib.byteCells s.data.toList), 5, (0, 0), 1, false, true⟩)])))) (
          none)))) (
       cond (decide   (97 ≤     IntKind.u8.wrap       (↑(BitVec.ofInt 8 ((bytesSym s).int IntKind.u8 (0 + i.toNat * 1)) ||| BitVec.ofInt 8 32).toNat : Int))) (
        cond (decide   (IntKind.u8.wrap       (↑(BitVec.ofInt 8 ((bytesSym s).int IntKind.u8 (0 + i.toNat * 1)) ||| BitVec.ofInt 8 32).toNat : Int) ≤     122)) (
         cond (decide   (IntKind.u8.wrap       (IntKind.u8.wrap           (IntKind.u8.wrap               (↑(BitVec.ofInt 8 ((bytesSym s).int IntKind.u8 (0 + i.toNat * 1)) ||| BitVec.ofInt 8 32).toNat : Int) -             97) +         10) ≥     10)) (
          cond (List.all (Lib.byteCells s.data.toList) (af 8) && true) (
           some (.inr (.ret, ([(.int IntKind.u64 (n)), (.string (s)), (.bool false), (.int IntKind.u64 0), (Value.iface 162 (Value.int IntKind.i64 2))], [some (.row ⟨(Lib.byteCells s.data.toList), 5, (0, 0), 1, false, true⟩)])))) (
           none)) (
          cond (decide (n ≥ 1844674407370955162)) (
           cond (List.all (Lib.byteCells s.data.toList) (af 8) && true) (
            some (.inr (.ret, ([(.int IntKind.u64 (n)), (.string (s)), (.bool false), (.int IntKind.u64 18446744073709551615), (Value.iface 162 (Value.int IntKind.i64 1))], [some (.row ⟨(Lib.byteCells s.data.toList), 5, (0, 0), 1, false, true⟩)])))) (
            none)) (
           cond (decide   (IntKind.u64.wrap       (IntKind.u64.wrap (n * 10) +         IntKind.u64.wrap           (IntKind.u8.wrap             (IntKind.u8.wrap                 (IntKind.u8.wrap                     (↑(BitVec.ofInt 8 ((bytesSym s).int IntKind.u8 (0 + i.toNat * 1)) ||| BitVec.ofInt 8 32).toNat :                       Int) -                   97) +               10))) <     IntKind.u64.wrap (n * 10))) (
            cond (List.all (Lib.byteCells s.data.toList) (af 8) && true) (
             some (.inr (.ret, ([(.int IntKind.u64 (IntKind.u64.wrap (n * 10))), (.string (s)), (.bool false), (.int IntKind.u64 18446744073709551615), (Value.iface 162 (Value.int IntKind.i64 1))], [some (.row ⟨(Lib.byteCells s.data.toList), 5, (0, 0), 1, false, true⟩)])))) (
             none)) (
            cond (decide   (IntKind.u64.wrap       (IntKind.u64.wrap (n * 10) +         IntKind.u64.wrap           (IntKind.u8.wrap             (IntKind.u8.wrap                 (IntKind.u8.wrap                     (↑(BitVec.ofInt 8 ((bytesSym s).int IntKind.u8 (0 + i.toNat * 1)) ||| BitVec.ofInt 8 32).toNat :                       Int) -                   97) +               10))) >     18446744073709551615)) (
             cond (List.all (Lib.byteCells s.data.toList) (af 8) && true) (
              some (.inr (.ret, ([(.int IntKind.u64 (IntKind.u64.wrap (n * 10))), (.string (s)), (.bool false), (.int IntKind.u64 18446744073709551615), (Value.iface 162 (Value.int IntKind.i64 1))], [some (.row ⟨(Lib.byteCells s.data.toList), 5, (0, 0), 1, false, true⟩)])))) (
              none)) (
             cond (List.all (Lib.byteCells s.data.toList) (af 8) && true) (
              some (.inl ([(.int IntKind.i64 (IntKind.i64.wrap (i + 1))), (.int IntKind.u64 18446744073709551615), (.int IntKind.i64 10), (.int IntKind.u64 (IntKind.u64.wrap   (IntKind.u64.wrap (n * 10) +     IntKind.u64.wrap       (IntKind.u8.wrap         (IntKind.u8.wrap             (IntKind.u8.wrap                 (↑(BitVec.ofInt 8 ((bytesSym s).int IntKind.u8 (0 + i.toNat * 1)) ||| BitVec.ofInt 8 32).toNat : Int) -               97) +           10))))), (.int IntKind.u64 1844674407370955162), (.bool false), (.slice (some ⟨1000, 0, none⟩) (s.data.toList.length) (s.data.toList.length)), (.string (s)), (.bool false), (.int IntKind.i64 ((↑s.data.toList.length : Int))), (.int IntKind.u64 0), (Value.nilIface)], [some (.row ⟨(Lib.byteCells s.data.toList), 5, (0, 0), 1, false, true⟩)]))) (
              none)))))) (
         cond (List.all (Lib.byteCells s.data.toList) (af 8) && true) (
          some (.inr (.ret, ([(.int IntKind.u64 (n)), (.string (s)), (.bool false), (.int IntKind.u64 0), (Value.iface 162 (Value.int IntKind.i64 2))], [some (.row ⟨(Lib.byteCells s.data.toList), 5, (0, 0), 1, false, true⟩)])))) (
          none))) (
        cond (List.all (Lib.byteCells s.data.toList) (af 8) && true) (
         some (.inr (.ret, ([(.int IntKind.u64 (n)), (.string (s)), (.bool false), (.int IntKind.u64 0), (Value.iface 162 (Value.int IntKind.i64 2))], [some (.row ⟨(Lib.byteCells s.data.toList), 5, (0, 0), 1, false, true⟩)])))) (
         none)))) (
      cond (decide (48 ≤ (bytesSym s).int IntKind.u8 (0 + i.toNat * 1))) (
       cond (decide ((bytesSym s).int IntKind.u8 (0 + i.toNat * 1) ≤ 57)) (
        cond (decide (IntKind.u8.wrap ((bytesSym s).int IntKind.u8 (0 + i.toNat * 1) - 48) ≥ 10)) (
         cond (List.all (Lib.byteCells s.data.toList) (af 8) && true) (
          some (.inr (.ret, ([(.int IntKind.u64 (n)), (.string (s)), (.bool false), (.int IntKind.u64 0), (Value.iface 162 (Value.int IntKind.i64 2))], [some (.row ⟨(Lib.byteCells s.data.toList), 5, (0, 0), 1, false, true⟩)])))) (
          none)) (
         cond (decide (n ≥ 1844674407370955162)) (
          cond (List.all (Lib.byteCells s.data.toList) (af 8) && true) (
           some (.inr (.ret, ([(.int IntKind.u64 (n)), (.string (s)), (.bool false), (.int IntKind.u64 18446744073709551615), (Value.iface 162 (Value.int IntKind.i64 1))], [some (.row ⟨(Lib.byteCells s.data.toList), 5, (0, 0), 1, false, true⟩)])))) (
           none)) (
          cond (decide   (IntKind.u64.wrap       (IntKind.u64.wrap (n * 10) +         IntKind.u64.wrap (IntKind.u8.wrap ((bytesSym s).int IntKind.u8 (0 + i.toNat * 1) - 48))) <     IntKind.u64.wrap (n * 10))) (
           cond (List.all (Lib.byteCells s.data.toList) (af 8) && true) (
            some (.inr (.ret, ([(.int IntKind.u64 (IntKind.u64.wrap (n * 10))), (.string (s)), (.bool false), (.int IntKind.u64 18446744073709551615), (Value.iface 162 (Value.int IntKind.i64 1))], [some (.row ⟨(Lib.byteCells s.data.toList), 5, (0, 0), 1, false, true⟩)])))) (
            none)) (
           cond (decide   (IntKind.u64.wrap       (IntKind.u64.wrap (n * 10) +         IntKind.u64.wrap (IntKind.u8.wrap ((bytesSym s).int IntKind.u8 (0 + i.toNat * 1) - 48))) >     18446744073709551615)) (
            cond (List.all (Lib.byteCells s.data.toList) (af 8) && true) (
             some (.inr (.ret, ([(.int IntKind.u64 (IntKind.u64.wrap (n * 10))), (.string (s)), (.bool false), (.int IntKind.u64 18446744073709551615), (Value.iface 162 (Value.int IntKind.i64 1))], [some (.row ⟨(Lib.byteCells s.data.toList), 5, (0, 0), 1, false, true⟩)])))) (
             none)) (
            cond (List.all (Lib.byteCells s.data.toList) (af 8) && true) (
             some (.inl ([(.int IntKind.i64 (IntKind.i64.wrap (i + 1))), (.int IntKind.u64 18446744073709551615), (.int IntKind.i64 10), (.int IntKind.u64 (IntKind.u64.wrap   (IntKind.u64.wrap (n * 10) + IntKind.u64.wrap (IntKind.u8.wrap ((bytesSym s).int IntKind.u8 (0 + i.toNat * 1) - 48))))), (.int IntKind.u64 1844674407370955162), (.bool false), (.slice (some ⟨1000, 0, none⟩) (s.data.toList.length) (s.data.toList.length)), (.string (s)), (.bool false), (.int IntKind.i64 ((↑s.data.toList.length : Int))), (.int IntKind.u64 0), (Value.nilIface)], [some (.row ⟨(Lib.byteCells s.data.toList), 5, (0, 0), 1, false, true⟩)]))) (
             none)))))) (
        cond (decide   (97 ≤     IntKind.u8.wrap       (↑(BitVec.ofInt 8 ((bytesSym s).int IntKind.u8 (0 + i.toNat * 1)) ||| BitVec.ofInt 8 32).toNat : Int))) (
         cond (decide   (IntKind.u8.wrap       (↑(BitVec.ofInt 8 ((bytesSym s).int IntKind.u8 (0 + i.toNat * 1)) ||| BitVec.ofInt 8 32).toNat : Int) ≤     122)) (
          cond (decide   (IntKind.u8.wrap       (IntKind.u8.wrap           (IntKind.u8.wrap               (↑(BitVec.ofInt 8 ((bytesSym s).int IntKind.u8 (0 + i.toNat * 1)) ||| BitVec.ofInt 8 32).toNat : Int) -             97) +         10) ≥     10)) (
           cond (List.all (Lib.byteCells s.data.toList) (af 8) && true) (
            some (.inr (.ret, ([(.int IntKind.u64 (n)), (.string (s)), (.bool false), (.int IntKind.u64 0), (Value.iface 162 (Value.int IntKind.i64 2))], [some (.row ⟨(Lib.byteCells s.data.toList), 5, (0, 0), 1, false, true⟩)])))) (
            none)) (
           cond (decide (n ≥ 1844674407370955162)) (
            cond (List.all (Lib.byteCells s.data.toList) (af 8) && true) (
             some (.inr (.ret, ([(.int IntKind.u64 (n)), (.string (s)), (.bool false), (.int IntKind.u64 18446744073709551615), (Value.iface 162 (Value.int IntKind.i64 1))], [some (.row ⟨(Lib.byteCells s.data.toList), 5, (0, 0), 1, false, true⟩)])))) (
             none)) (
            cond (decide   (IntKind.u64.wrap       (IntKind.u64.wrap (n * 10) +         IntKind.u64.wrap           (IntKind.u8.wrap             (IntKind.u8.wrap                 (IntKind.u8.wrap                     (↑(BitVec.ofInt 8 ((bytesSym s).int IntKind.u8 (0 + i.toNat * 1)) ||| BitVec.ofInt 8 32).toNat :                       Int) -                   97) +               10))) <     IntKind.u64.wrap (n * 10))) (
             cond (List.all (Lib.byteCells s.data.toList) (af 8) && true) (
              some (.inr (.ret, ([(.int IntKind.u64 (IntKind.u64.wrap (n * 10))), (.string (s)), (.bool false), (.int IntKind.u64 18446744073709551615), (Value.iface 162 (Value.int IntKind.i64 1))], [some (.row ⟨(Lib.byteCells s.data.toList), 5, (0, 0), 1, false, true⟩)])))) (
              none)) (
             cond (decide   (IntKind.u64.wrap       (IntKind.u64.wrap (n * 10) +         IntKind.u64.wrap           (IntKind.u8.wrap             (IntKind.u8.wrap                 (IntKind.u8.wrap                     (↑(BitVec.ofInt 8 ((bytesSym s).int IntKind.u8 (0 + i.toNat * 1)) ||| BitVec.ofInt 8 32).toNat :                       Int) -                   97) +               10))) >     18446744073709551615)) (
              cond (List.all (Lib.byteCells s.data.toList) (af 8) && true) (
               some (.inr (.ret, ([(.int IntKind.u64 (IntKind.u64.wrap (n * 10))), (.string (s)), (.bool false), (.int IntKind.u64 18446744073709551615), (Value.iface 162 (Value.int IntKind.i64 1))], [some (.row ⟨(Lib.byteCells s.data.toList), 5, (0, 0), 1, false, true⟩)])))) (
               none)) (
              cond (List.all (Lib.byteCells s.data.toList) (af 8) && true) (
               some (.inl ([(.int IntKind.i64 (IntKind.i64.wrap (i + 1))), (.int IntKind.u64 18446744073709551615), (.int IntKind.i64 10), (.int IntKind.u64 (IntKind.u64.wrap   (IntKind.u64.wrap (n * 10) +     IntKind.u64.wrap       (IntKind.u8.wrap         (IntKind.u8.wrap             (IntKind.u8.wrap                 (↑(BitVec.ofInt 8 ((bytesSym s).int IntKind.u8 (0 + i.toNat * 1)) ||| BitVec.ofInt 8 32).toNat : Int) -               97) +           10))))), (.int IntKind.u64 1844674407370955162), (.bool false), (.slice (some ⟨1000, 0, none⟩) (s.data.toList.length) (s.data.toList.length)), (.string (s)), (.bool false), (.int IntKind.i64 ((↑s.data.toList.length : Int))), (.int IntKind.u64 0), (Value.nilIface)], [some (.row ⟨(Lib.byteCells s.data.toList), 5, (0, 0), 1, false, true⟩)]))) (
               none)))))) (
          cond (List.all (Lib.byteCells s.data.toList) (af 8) && true) (
           some (.inr (.ret, ([(.int IntKind.u64 (n)), (.string (s)), (.bool false), (.int IntKind.u64 0), (Value.iface 162 (Value.int IntKind.i64 2))], [some (.row ⟨(Lib.byteCells s.data.toList), 5, (0, 0), 1, false, true⟩)])))) (
           none))) (
         cond (List.all (Lib.byteCells s.data.toList) (af 8) && true) (
          some (.inr (.ret, ([(.int IntKind.u64 (n)), (.string (s)), (.bool false), (.int IntKind.u64 0), (Value.iface 162 (Value.int IntKind.i64 2))], [some (.row ⟨(Lib.byteCells s.data.toList), 5, (0, 0), 1, false, true⟩)])))) (
          none)))) (
       cond (decide   (97 ≤     IntKind.u8.wrap       (↑(BitVec.ofInt 8 ((bytesSym s).int IntKind.u8 (0 + i.toNat * 1)) ||| BitVec.ofInt 8 32).toNat : Int))) (
        cond (decide   (IntKind.u8.wrap       (↑(BitVec.ofInt 8 ((bytesSym s).int IntKind.u8 (0 + i.toNat * 1)) ||| BitVec.ofInt 8 32).toNat : Int) ≤     122)) (
         cond (decide   (IntKind.u8.wrap       (IntKind.u8.wrap           (IntKind.u8.wrap               (↑(BitVec.ofInt 8 ((bytesSym s).int IntKind.u8 (0 + i.toNat * 1)) ||| BitVec.ofInt 8 32).toNat : Int) -             97) +         10) ≥     10)) (
          cond (List.all (Lib.byteCells s.data.toList) (af 8) && true) (
           some (.inr (.ret, ([(.int IntKind.u64 (n)), (.string (s)), (.bool false), (.int IntKind.u64 0), (Value.iface 162 (Value.int IntKind.i64 2))], [some (.row ⟨(Lib.byteCells s.data.toList), 5, (0, 0), 1, false, true⟩)])))) (
           none)) (
          cond (decide (n ≥ 1844674407370955162)) (
           cond (List.all (Lib.byteCells s.data.toList) (af 8) && true) (
            some (.inr (.ret, ([(.int IntKind.u64 (n)), (.string (s)), (.bool false), (.int IntKind.u64 18446744073709551615), (Value.iface 162 (Value.int IntKind.i64 1))], [some (.row ⟨(Lib.byteCells s.data.toList), 5, (0, 0), 1, false, true⟩)])))) (
            none)) (
           cond (decide   (IntKind.u64.wrap       (IntKind.u64.wrap (n * 10) +         IntKind.u64.wrap           (IntKind.u8.wrap             (IntKind.u8.wrap                 (IntKind.u8.wrap                     (↑(BitVec.ofInt 8 ((bytesSym s).int IntKind.u8 (0 + i.toNat * 1)) ||| BitVec.ofInt 8 32).toNat :                       Int) -                   97) +               10))) <     IntKind.u64.wrap (n * 10))) (
            cond (List.all (Lib.byteCells s.data.toList) (af 8) && true) (
             some (.inr (.ret, ([(.int IntKind.u64 (IntKind.u64.wrap (n * 10))), (.string (s)), (.bool false), (.int IntKind.u64 18446744073709551615), (Value.iface 162 (Value.int IntKind.i64 1))], [some (.row ⟨(Lib.byteCells s.data.toList), 5, (0, 0), 1, false, true⟩)])))) (
             none)) (
            cond (decide   (IntKind.u64.wrap       (IntKind.u64.wrap (n * 10) +         IntKind.u64.wrap           (IntKind.u8.wrap             (IntKind.u8.wrap                 (IntKind.u8.wrap                     (↑(BitVec.ofInt 8 ((bytesSym s).int IntKind.u8 (0 + i.toNat * 1)) ||| BitVec.ofInt 8 32).toNat :                       Int) -                   97) +               10))) >     18446744073709551615)) (
             cond (List.all (Lib.byteCells s.data.toList) (af 8) && true) (
              some (.inr (.ret, ([(.int IntKind.u64 (IntKind.u64.wrap (n * 10))), (.string (s)), (.bool false), (.int IntKind.u64 18446744073709551615), (Value.iface 162 (Value.int IntKind.i64 1))], [some (.row ⟨(Lib.byteCells s.data.toList), 5, (0, 0), 1, false, true⟩)])))) (
              none)) (
             cond (List.all (Lib.byteCells s.data.toList) (af 8) && true) (
              some (.inl ([(.int IntKind.i64 (IntKind.i64.wrap (i + 1))), (.int IntKind.u64 18446744073709551615), (.int IntKind.i64 10), (.int IntKind.u64 (IntKind.u64.wrap   (IntKind.u64.wrap (n * 10) +     IntKind.u64.wrap       (IntKind.u8.wrap         (IntKind.u8.wrap             (IntKind.u8.wrap                 (↑(BitVec.ofInt 8 ((bytesSym s).int IntKind.u8 (0 + i.toNat * 1)) ||| BitVec.ofInt 8 32).toNat : Int) -               97) +           10))))), (.int IntKind.u64 1844674407370955162), (.bool false), (.slice (some ⟨1000, 0, none⟩) (s.data.toList.length) (s.data.toList.length)), (.string (s)), (.bool false), (.int IntKind.i64 ((↑s.data.toList.length : Int))), (.int IntKind.u64 0), (Value.nilIface)], [some (.row ⟨(Lib.byteCells s.data.toList), 5, (0, 0), 1, false, true⟩)]))) (
              none)))))) (
         cond (List.all (Lib.byteCells s.data.toList) (af 8) && true) (
          some (.inr (.ret, ([(.int IntKind.u64 (n)), (.string (s)), (.bool false), (.int IntKind.u64 0), (Value.iface 162 (Value.int IntKind.i64 2))], [some (.row ⟨(Lib.byteCells s.data.toList), 5, (0, 0), 1, false, true⟩)])))) (
          none))) (
        cond (List.all (Lib.byteCells s.data.toList) (af 8) && true) (
         some (.inr (.ret, ([(.int IntKind.u64 (n)), (.string (s)), (.bool false), (.int IntKind.u64 0), (Value.iface 162 (Value.int IntKind.i64 2))], [some (.row ⟨(Lib.byteCells s.data.toList), 5, (0, 0), 1, false, true⟩)])))) (
         none))))) (
     none)) (
    none)) (
   none)) (
  cond (List.all (Lib.byteCells s.data.toList) (af 8) && true) (
   some (.inr (.exit 3, ([(.int IntKind.u64 (n)), (.string (s)), (.bool false), (.int IntKind.u64 0), (Value.nilIface)], [some (.row ⟨(Lib.byteCells s.data.toList), 5, (0, 0), 1, false, true⟩)])))) (
   none)) := by kernel_rfl

def puMax : Int := 18446744073709551615
/-- What a digit tells. -/
def dg (c : Int) : Int := if c ≤ 57 then c - 48 else c - 87
def puDone (s : ByteArray) (n : Int) : Out := (.exit 3, [.int .u64 n, .string s, .bool false, .int .u64 0, .nilIface], [bytesRow s])
def puRng (s : ByteArray) (n : Int) : Out := (.ret, [.int .u64 n, .string s, .bool false, .int .u64 puMax, .iface 162 (.int .i64 1)], [bytesRow s])
def puStep (b cut : Int) (s : ByteArray) (i n : Int) : LSt ⊕ Out :=
  if i < (s.size : Int) then (if n ≥ cut then .inr (puRng s n) else if n * b + dg (byteAt s i) > puMax then .inr (puRng s (n * b)) else .inl (puSt b cut s (i + 1) (n * b + dg (byteAt s i)))) else .inr (puDone s n)
theorem wrapU_id (n : Int) (h : 0 ≤ n ∧ n ≤ 18446744073709551615) : IntKind.u64.wrap n = n := by
  simp only [IntKind.wrap, IntKind.bits, IntKind.signed]
  simp
  omega
theorem wrapU_over (n : Int) (h : 18446744073709551616 ≤ n ∧ n < 36893488147419103232) : IntKind.u64.wrap n = n - 18446744073709551616 := by
  simp only [IntKind.wrap, IntKind.bits, IntKind.signed]
  simp
  omega
theorem wrap8_id (n : Int) (h : 0 ≤ n ∧ n ≤ 255) : IntKind.u8.wrap n = n := by
  simp only [IntKind.wrap, IntKind.bits, IntKind.signed]
  simp
  omega
theorem lower_hex (c : Int) (h : 97 ≤ c ∧ c ≤ 102) : ((BitVec.ofInt 8 c ||| BitVec.ofInt 8 32).toNat : Int) = c := by
  have : c = 97 ∨ c = 98 ∨ c = 99 ∨ c = 100 ∨ c = 101 ∨ c = 102 := by omega
  rcases this with rfl | rfl | rfl | rfl | rfl | rfl <;> rfl
theorem digitB_iff {c : Int} : digitB c = true ↔ 48 ≤ c ∧ c ≤ 57 := by simp [digitB]
theorem hexB_iff {c : Int} : hexB c = true ↔ (48 ≤ c ∧ c ≤ 57) ∨ (97 ≤ c ∧ c ≤ 102) := by simp [hexB, digitB]

theorem pu10_round (gl : Gl) (s : ByteArray) (i n : Int) (h0 : 0 ≤ i) (hn : 0 ≤ n ∧ n ≤ puMax) (hs : s.size ≤ 1000000) (hd : i < (s.size : Int) → digitB (byteAt s i) = true) :
    roundK (syB s) Tryd.prog gl (fun _ => none) H1 100 40 40 106 0 puLive (puSt 10 1844674407370955162 s i n) (rndK Tryd.prog 1001 puLive puOut) = some (puStep 10 1844674407370955162 s i n) := by
  rw [r_pu10]
  unfold puStep
  have hL : (s.data.toList.length : Int) = (s.size : Int) := by rw [size_len]
  unfold puMax at hn
  by_cases h : i < (s.size : Int)
  · have hc := digitB_iff.1 (hd h)
    rw [hL]
    simp only [h, h0, decide_true, ble_self, sameL_self, bs_ok s h0 h, bs_int, bytes_all, Bool.and_true, Bool.and_self, cond_true, if_true]
    generalize byteAt s i = c at hc
    have e1 : (c == 95) = false := by simp; omega
    have e2 : dg c = c - 48 := by unfold dg; rw [if_pos hc.2]
    have e3 : IntKind.u8.wrap (c - 48) = c - 48 := wrap8_id _ (by omega)
    have e4 : ¬ (c - 48 ≥ 10) := by omega
    simp only [e1, e2, e3, e4, hc.1, hc.2, decide_true, decide_false, cond_true, cond_false]
    by_cases hcut : n ≥ 1844674407370955162
    · simp only [hcut, decide_true, cond_true, if_true]
      rfl
    · have w1 : IntKind.u64.wrap (n * 10) = n * 10 := wrapU_id _ (by omega)
      have w2 : IntKind.u64.wrap (c - 48) = c - 48 := wrapU_id _ (by omega)
      have w4 : IntKind.i64.wrap (i + 1) = i + 1 := wrap_id _ (by omega)
      simp only [hcut, decide_false, cond_false, if_false, w1, w2, w4]
      by_cases ho : n * 10 + (c - 48) > puMax
      · unfold puMax at ho
        have w3 : IntKind.u64.wrap (n * 10 + (c - 48)) = n * 10 + (c - 48) - 18446744073709551616 := wrapU_over _ (by omega)
        have e5 : n * 10 + (c - 48) - 18446744073709551616 < n * 10 := by omega
        have ho' : n * 10 + (c - 48) > puMax := ho
        simp only [w3, e5, ho', decide_true, cond_true, if_true]
        rfl
      · have ho' := ho
        unfold puMax at ho
        have w3 : IntKind.u64.wrap (n * 10 + (c - 48)) = n * 10 + (c - 48) := wrapU_id _ (by omega)
        have e5 : ¬ (n * 10 + (c - 48) < n * 10) := by omega
        simp only [w3, e5, ho, ho', decide_false, cond_false, if_false]
        rfl
  · have h2 : ¬ (i < (s.data.toList.length : Int)) := by rw [hL]; exact h
    simp only [h, h2, decide_false, cond_false, bytes_all, Bool.and_true, cond_true, if_false]
    rfl
theorem pu16_round (gl : Gl) (s : ByteArray) (i n : Int) (h0 : 0 ≤ i) (hn : 0 ≤ n ∧ n ≤ puMax) (hs : s.size ≤ 1000000) (hd : i < (s.size : Int) → hexB (byteAt s i) = true) :
    roundK (syB s) Tryd.prog gl (fun _ => none) H1 100 40 40 106 0 puLive (puSt 16 1152921504606846976 s i n) (rndK Tryd.prog 1001 puLive puOut) = some (puStep 16 1152921504606846976 s i n) := by
  rw [r_pu16]
  unfold puStep
  have hL : (s.data.toList.length : Int) = (s.size : Int) := by rw [size_len]
  unfold puMax at hn
  by_cases h : i < (s.size : Int)
  · have hc := hexB_iff.1 (hd h)
    rw [hL]
    simp only [h, h0, decide_true, ble_self, sameL_self, bs_ok s h0 h, bs_int, bytes_all, Bool.and_true, Bool.and_self, cond_true, if_true]
    generalize byteAt s i = c at hc
    have e1 : (c == 95) = false := by simp; omega
    have fin : ∀ d : Int, 0 ≤ d ∧ d < 16 → n * 16 + d = n * 16 + d → ¬ (n ≥ 1152921504606846976) → IntKind.u64.wrap (n * 16) = n * 16 ∧ IntKind.u64.wrap d = d ∧ IntKind.u64.wrap (n * 16 + d) = n * 16 + d ∧ ¬ (n * 16 + d < n * 16) ∧ ¬ (n * 16 + d > 18446744073709551615) ∧ ¬ (n * 16 + d > puMax) := fun d hd _ hcut =>
      ⟨wrapU_id _ (by omega), wrapU_id _ (by omega), wrapU_id _ (by omega), by omega, by omega, by unfold puMax; omega⟩
    have w4 : IntKind.i64.wrap (i + 1) = i + 1 := wrap_id _ (by omega)
    rcases hc with hc | hc
    · have e2 : dg c = c - 48 := by unfold dg; rw [if_pos hc.2]
      have e3 : IntKind.u8.wrap (c - 48) = c - 48 := wrap8_id _ (by omega)
      have e4 : ¬ (c - 48 ≥ 16) := by omega
      simp only [e1, e2, e3, e4, hc.1, hc.2, decide_true, decide_false, cond_true, cond_false]
      by_cases hcut : n ≥ 1152921504606846976
      · simp only [hcut, decide_true, cond_true, if_true]
        rfl
      · obtain ⟨w1, w2, w3, e5, e6, e7⟩ := fin (c - 48) (by omega) rfl hcut
        simp only [hcut, decide_false, cond_false, if_false, w1, w2, w3, w4, e5, e6, e7]
        rfl
    · have e2 : dg c = c - 87 := by unfold dg; rw [if_neg (by omega)]
      have a1 : 48 ≤ c := by omega
      have a2 : ¬ (c ≤ 57) := by omega
      have l1 := lower_hex c hc
      have l2 : IntKind.u8.wrap c = c := wrap8_id _ (by omega)
      have l3 : IntKind.u8.wrap (c - 97) = c - 97 := wrap8_id _ (by omega)
      have l4 : IntKind.u8.wrap (c - 97 + 10) = c - 87 := by rw [wrap8_id _ (by omega)]; omega
      have e4 : ¬ (c - 87 ≥ 16) := by omega
      have a3 : c ≤ 122 := by omega
      simp only [e1, e2, a1, a2, l1, l2, l3, l4, e4, hc.1, a3, decide_true, decide_false, cond_true, cond_false]
      by_cases hcut : n ≥ 1152921504606846976
      · simp only [hcut, decide_true, cond_true, if_true]
        rfl
      · obtain ⟨w1, w2, w3, e5, e6, e7⟩ := fin (c - 87) (by omega) rfl hcut
        simp only [hcut, decide_false, cond_false, if_false, w1, w2, w3, w4, e5, e6, e7]
        rfl
  · have h2 : ¬ (i < (s.data.toList.length : Int)) := by rw [hL]; exact h
    simp only [h, h2, decide_false, cond_false, bytes_all, Bool.and_true, cond_true, if_false]
    rfl
end Go.Proofs.YtgohnfkidkomhaaDoor

noncomputable section
namespace Go.Proofs.YtgohnfkidkomhaaDoor
open Go.Proofs.YtgohnfkidkomhaaDoor.Ev Go.RowKit

/-- What ParseUint's loop comes to: whether it fits, the number. -/
def puGo (b cut : Int) (s : ByteArray) : Nat → Int → Int → Bool × Int
  | 0, _, n => (true, n)
  | f + 1, i, n => if i < (s.size : Int) then (if n ≥ cut then (false, n) else if n * b + dg (byteAt s i) > puMax then (false, n * b) else puGo b cut s f (i + 1) (n * b + dg (byteAt s i))) else (true, n)
def puAll (b cut : Int) (s : ByteArray) : Bool × Int := puGo b cut s s.size 0 0
def allB (p : Int → Bool) (s : ByteArray) : Bool := decide (runE p s 0 = (s.size : Int))
theorem runE_all {p : Int → Bool} {s : ByteArray} : ∀ (f : Nat) (n : Int), ((s.size : Int) - n).toNat = f → n ≤ (s.size : Int) → runE p s n = (s.size : Int) → ∀ i, n ≤ i → i < (s.size : Int) → p (byteAt s i) = true
  | 0, n, hf, hn, h, i, h1, h2 => by omega
  | f + 1, n, hf, hn, h, i, h1, h2 => by
    rw [runE_eq] at h
    by_cases hc : (decide (n < (s.size : Int)) && p (byteAt s n)) = true
    · rw [hc, cond_true] at h
      simp only [Bool.and_eq_true, decide_eq_true_eq] at hc
      rcases Int.lt_or_le n i with hlt | hle
      · exact runE_all f (n + 1) (by omega) (by omega) h i (by omega) h2
      · have : i = n := by omega
        subst this
        exact hc.2
    · rw [Bool.eq_false_iff.2 hc, cond_false] at h
      omega
theorem allB_spec {p : Int → Bool} {s : ByteArray} (h : allB p s = true) {i : Int} (h0 : 0 ≤ i) (h1 : i < (s.size : Int)) : p (byteAt s i) = true :=
  runE_all _ 0 rfl (by omega) (of_decide_eq_true h) i h0 h1
def cutOf (b : Int) : Int := if b = 16 then 1152921504606846976 else 1844674407370955162
def predB (b : Int) : Int → Bool := if b = 16 then hexB else digitB
def puLH : Hd := fun vs rows => match vs, rows with
  | [.int .i64 i, .int .u64 M, .int .i64 b, .int .u64 n, .int .u64 cut, .bool false, .slice (some ⟨id, off, none⟩) L C, .string s, .bool false, .int .i64 L2, .int .u64 z, .nilIface], [some (.row ⟨cells, el, fz, es, false, true⟩)] =>
    some (.br (decide (i = 0) && decide (M = 18446744073709551615) && decide (n = 0) && decide (z = 0) && decide (id = 1000) && decide (off = 0) && decide (el = 5) && decide (fz.1 = 0) && decide (fz.2 = 0) && decide (es = 1) && (decide (b = 10) || decide (b = 16)) && decide (cut = cutOf b))
      (.br (decide (L = s.data.toList.length) && decide (C = s.data.toList.length) && decide (L2 = (s.data.toList.length : Int)) && sameL cells (Lib.byteCells s.data.toList))
        (.br (decide (s.size ≤ 1000000) && allB (predB b) s) (.br (puAll b (cutOf b) s).1 (.ret (puDone s (puAll b (cutOf b) s).2)) (.ret (puRng s (puAll b (cutOf b) s).2))) .fail) .fail) .fail)
  | _, _ => none
theorem pu_round (gl : Gl) {b : Int} (hb : b = 10 ∨ b = 16) (s : ByteArray) (i n : Int) (h0 : 0 ≤ i) (hn : 0 ≤ n ∧ n ≤ puMax) (hs : s.size ≤ 1000000) (hd : i < (s.size : Int) → predB b (byteAt s i) = true) :
    roundK (syB s) Tryd.prog gl (fun _ => none) H1 100 40 40 106 0 puLive (puSt b (cutOf b) s i n) (rndK Tryd.prog 1001 puLive puOut) = some (puStep b (cutOf b) s i n) := by
  rcases hb with rfl | rfl
  · exact pu10_round gl s i n h0 hn hs hd
  · exact pu16_round gl s i n h0 hn hs hd
theorem dg_range {b c : Int} (hb : b = 10 ∨ b = 16) (h : predB b c = true) : 0 ≤ dg c ∧ dg c < b := by
  unfold dg
  rcases hb with rfl | rfl
  · have := digitB_iff.1 h
    split <;> omega
  · have := hexB_iff.1 h
    split <;> omega
theorem run_lt {x : Bool × Int} {t e : DT Out} {r : Out} : DT.run (.br x.1 t e) = some r → (x.1 = true ∧ t.run = some r) ∨ (x.1 = false ∧ e.run = some r) := by
  intro h
  cases hx : x.1 with
  | true => rw [hx] at h; exact .inl ⟨rfl, h⟩
  | false => rw [hx] at h; exact .inr ⟨rfl, h⟩
theorem brT {c : Bool} {t : DT Out} {r : Out} (h : DT.run (.br c t .fail) = some r) : c = true ∧ t.run = some r := condT h
open Classical in
theorem pu_ok {gl : Gl} (hgl : ∀ g k v, gl g k = some v → g < 1000 ∧ lowV 8 v = true) : LpOK Tryd.prog gl 106 0 ⟨puLive, puOut, puLH⟩ := by
  intro fn body x hf hb hx vs rows t e vs' rows' h1 h2
  -- the string that is parsed is needed for the rows that are looked at
  have key : ∀ (s : ByteArray) (b : Int) (r : Out), (b = 10 ∨ b = 16) → s.size ≤ 1000000 → allB (predB b) s = true → (vs, rows) = puSt b (cutOf b) s 0 0 → r = (if (puAll b (cutOf b) s).1 = true then puDone s (puAll b (cutOf b) s).2 else puRng s (puAll b (cutOf b) s).2) →
      LoopOK Tryd.prog gl fn.ntmps x ⟨puLive, puOut, fun vs' rows' => if (vs', rows') = (vs, rows) then some (.ret r) else none⟩ := by
    intro s b r hb1 hs hall hst hr
    refine loop_of (syB_ok s) goodT hgl tglob (H1_ok hgl) (L := 100) (G := 40) (d := 40) (f := 106) (n := 0) (fun vs1 rows1 t1 r1 h1 h2 => ?_) fn body x hf hb hx
    simp only at h1
    split at h1
    · rename_i he
      cases h1
      cases h2
      rw [← he] at hst
      have hrow : rows1 = [bytesRow s] := by
        have := congrArg Prod.snd hst
        exact this
      have hl : 1000 + rows1.length = 1001 := by rw [hrow]; rfl
      refine ⟨by rw [hl]; decide, {q : Nat × Int × Int // 0 ≤ q.2.1 ∧ 0 ≤ q.2.2 ∧ q.2.2 ≤ puMax ∧ q.2.1 + q.1 = s.size}, fun q => puSt b (cutOf b) s q.1.2.1 q.1.2.2,
        fun q => some (if (puGo b (cutOf b) s q.1.1 q.1.2.1 q.1.2.2).1 = true then puDone s (puGo b (cutOf b) s q.1.1 q.1.2.1 q.1.2.2).2 else puRng s (puGo b (cutOf b) s q.1.1 q.1.2.1 q.1.2.2).2), fun q => q.1.1, ⟨(s.size, 0, 0), by simp, by simp, by show (0 : Int) ≤ 18446744073709551615; decide, by simp⟩, .inl hst, ?_, ?_⟩
      · show some _ = some _
        rw [hr]
        rfl
      · rintro ⟨⟨f, i, n⟩, q1, q2, q3, q4⟩ o ho
        simp only at q1 q2 q3 q4 ho ⊢
        rw [hl]
        refine ⟨_, pu_round gl hb1 s i n q1 ⟨q2, q3⟩ hs (fun hi => allB_spec hall q1 hi), ?_⟩
        unfold puStep
        cases f with
        | zero =>
          rw [if_neg (by omega)]
          simp only [puGo, if_true] at ho
          cases ho
          rfl
        | succ f =>
          have hi : i < (s.size : Int) := by omega
          have hd := dg_range hb1 (allB_spec hall q1 hi)
          rw [if_pos hi]
          simp only [puGo, if_pos hi] at ho
          by_cases hcut : n ≥ cutOf b
          · rw [if_pos hcut] at ho ⊢
            cases ho
            rfl
          · rw [if_neg hcut] at ho ⊢
            by_cases hov : n * b + dg (byteAt s i) > puMax
            · rw [if_pos hov] at ho ⊢
              cases ho
              rfl
            · rw [if_neg hov] at ho ⊢
              have hnb : 0 ≤ n * b := by rcases hb1 with rfl | rfl <;> omega
              exact ⟨⟨(f, i + 1, n * b + dg (byteAt s i)), by simp only; omega, by simp only; omega, by simp only; omega, by simp only; omega⟩, rfl, by simp only; omega, ho⟩
    · cases h1
  simp only [puLH] at h1
  split at h1
  · rename_i i M b n cut id off L C s L2 z cells el fz es
    cases h1
    obtain ⟨c1, h3⟩ := brT h2
    obtain ⟨c2, h4⟩ := brT h3
    obtain ⟨c3, h5⟩ := brT h4
    simp only [Bool.and_eq_true, decide_eq_true_eq, Bool.or_eq_true] at c1 c2 c3
    obtain ⟨⟨⟨⟨⟨⟨⟨⟨⟨⟨⟨rfl, rfl⟩, rfl⟩, rfl⟩, rfl⟩, rfl⟩, rfl⟩, f1⟩, f2⟩, rfl⟩, hb1⟩, rfl⟩ := c1
    obtain ⟨⟨⟨rfl, rfl⟩, rfl⟩, c24⟩ := c2
    have hcell := sameL_eq c24
    subst hcell
    obtain ⟨fz1, fz2⟩ := fz
    simp only at f1 f2
    subst f1; subst f2
    have hr : (e, vs', rows') = (if (puAll b (cutOf b) s).1 = true then puDone s (puAll b (cutOf b) s).2 else puRng s (puAll b (cutOf b) s).2) := by
      rcases run_lt h5 with ⟨g1, g2⟩ | ⟨g1, g2⟩
      · rw [if_pos g1]; cases g2; rfl
      · rw [if_neg (by rw [g1]; decide)]; cases g2; rfl
    exact key s b _ hb1 c3.1 c3.2 rfl hr _ _ (.ret (e, vs', rows')) e vs' rows' (if_pos rfl) rfl
  · cases h1
end Go.Proofs.YtgohnfkidkomhaaDoor

noncomputable section
namespace Go.Proofs.YtgohnfkidkomhaaDoor
open Go.Proofs.YtgohnfkidkomhaaDoor.Ev Go.RowKit

theorem to_gl0 {gl : Gl} {w : World} (h : Ready Tryd.prog gl w) : Ready Tryd.prog gl0 w := h.gl_mono fun _ _ _ h => by cases h
def afClone : AF := fun args _ => match args with
  | [.string s] => some (decide (s.size ≤ 281474976710656), .string s)
  | _ => none
theorem fnClone {gl : Gl} (hgl : ∀ g k v, gl g k = some v → g < 1000 ∧ lowV 8 v = true) : FnOK Tryd.prog gl 144 afClone := FnOK.flat hgl tglob fun args σ v h => by
  unfold afClone at h
  split at h
  · simp only [Option.some.injEq, Prod.mk.injEq, decide_eq_true_eq] at h
    obtain ⟨h1, rfl⟩ := h
    exact ⟨rfl, rfl, fun w _ => Tryd.stringslite_Clone _ w h1⟩
  · cases h
/-- Where both errors of strconv stand. -/
def glS (u0 o0 u1 o1 : Nat) : Gl := glOf [(4, [.iface u0 (.pointer (some ⟨900, o0, none⟩))]), (3, [.iface u1 (.pointer (some ⟨901, o1, none⟩))])]
theorem glS_low (u0 o0 u1 o1 : Nat) : ∀ g k v, glS u0 o0 u1 o1 g k = some v → g < 1000 ∧ lowV 8 v = true := lowTabs (by rfl)
def afs4 : List (FuncId × AF) := (144, afClone) :: afs1
theorem afs4_ok {gl : Gl} (hgl : ∀ g k v, gl g k = some v → g < 1000 ∧ lowV 8 v = true) : ∀ p ∈ afs4, FnOK Tryd.prog gl p.1 p.2 := fun p hp => by
  rcases List.mem_cons.1 hp with rfl | hp
  · exact fnClone hgl
  · exact afs1_ok hgl p hp
def H4 : Hs := hsOf afs4 [] [(106, [(0, ⟨puLive, puOut, puLH⟩)])]
theorem H4_ok {gl : Gl} (hgl : ∀ g k v, gl g k = some v → g < 1000 ∧ lowV 8 v = true) : H4.OK Tryd.prog gl := hsOf_ok (afs4_ok hgl) (fun _ h => by cases h) (fun p hp q hq => by
  simp only [List.mem_cons, List.not_mem_nil, or_false] at hp
  subst hp
  simp only [List.mem_cons, List.not_mem_nil, or_false] at hq
  subst hq
  exact pu_ok hgl)
set_option maxRecDepth 100000 in
theorem r_w10 (u0 o0 u1 o1 : Nat) (s : ByteArray) : callSK noSy Tryd.prog (glS u0 o0 u1 o1) (fun _ => none) H4 100 40 40 (.fn 73) [.string s, .int .i64 10, .int .i64 64] LS.start (exitK Tryd.prog 1000) =
 cond (s.toList == (⟨#[]⟩ : ByteArray).toList) (
  cond (decide (s.size ≤ 281474976710656)) (
   cond (veq 8 (Value.iface u1 (Value.pointer (some (⟨901, o1, none⟩ : Addr))))   (Value.iface u1 (Value.pointer (some (⟨901, o1, none⟩ : Addr))))) (
    cond (veq 8 (Value.iface u1 (Value.pointer (some (⟨901, o1, none⟩ : Addr))))   (Value.iface u1 (Value.pointer (some (⟨901, o1, none⟩ : Addr))))) (
     some (.normal, ([(.tuple #[(.int IntKind.u64 0), (Value.iface 165 (Value.pointer (some (⟨1000, 0, none⟩ : Addr))))])], [some (.row ⟨[(.string ((⟨#[80, 97, 114, 115, 101, 85, 105, 110, 116]⟩ : ByteArray))), (.string (s)), (Value.iface u1 (Value.pointer (some (⟨901, o1, none⟩ : Addr))))], 181, (0, 0), 0, false, false⟩)]))) (
     none)) (
    none)) (
   none)) (
  cond (List.all (Lib.byteCells s.data.toList) (af 8) && true) (
   cond (decide (s.data.toList.length = s.data.toList.length) && (decide (s.data.toList.length = s.data.toList.length)) && (decide ((↑s.data.toList.length : Int) = (↑s.data.toList.length : Int))) && (sameL (Lib.byteCells s.data.toList) (Lib.byteCells s.data.toList))) (
    cond (decide (s.size ≤ 1000000) && (allB (predB 10) s)) (
     cond ((puAll 10 1844674407370955162 s).fst) (
      cond (List.all (Lib.byteCells s.data.toList) (af 8) && true) (
       some (.normal, ([(.tuple #[(.int IntKind.u64 ((puAll 10 1844674407370955162 s).snd)), (Value.nilIface)])], []))) (
       none)) (
      cond (List.all (Lib.byteCells s.data.toList) (af 8) && true) (
       cond (decide (s.size ≤ 281474976710656)) (
        cond (veq 8 (Value.iface u0 (Value.pointer (some (⟨900, o0, none⟩ : Addr))))   (Value.iface u0 (Value.pointer (some (⟨900, o0, none⟩ : Addr))))) (
         cond (veq 8 (Value.iface u0 (Value.pointer (some (⟨900, o0, none⟩ : Addr))))   (Value.iface u0 (Value.pointer (some (⟨900, o0, none⟩ : Addr))))) (
          some (.normal, ([(.tuple #[(.int IntKind.u64 18446744073709551615), (Value.iface 165 (Value.pointer (some (⟨1000, 0, none⟩ : Addr))))])], [some (.row ⟨[(.string ((⟨#[80, 97, 114, 115, 101, 85, 105, 110, 116]⟩ : ByteArray))), (.string (s)), (Value.iface u0 (Value.pointer (some (⟨900, o0, none⟩ : Addr))))], 181, (0, 0), 0, false, false⟩)]))) (
          none)) (
         none)) (
        none)) (
       none))) (
     none)) (
    none)) (
   none)) := by kernel_rfl
set_option maxRecDepth 100000 in
theorem r_w16 (u0 o0 u1 o1 : Nat) (s : ByteArray) : callSK noSy Tryd.prog (glS u0 o0 u1 o1) (fun _ => none) H4 100 40 40 (.fn 73) [.string s, .int .i64 16, .int .i64 64] LS.start (exitK Tryd.prog 1000) =
 cond (s.toList == (⟨#[]⟩ : ByteArray).toList) (
  cond (decide (s.size ≤ 281474976710656)) (
   cond (veq 8 (Value.iface u1 (Value.pointer (some (⟨901, o1, none⟩ : Addr))))   (Value.iface u1 (Value.pointer (some (⟨901, o1, none⟩ : Addr))))) (
    cond (veq 8 (Value.iface u1 (Value.pointer (some (⟨901, o1, none⟩ : Addr))))   (Value.iface u1 (Value.pointer (some (⟨901, o1, none⟩ : Addr))))) (
     some (.normal, ([(.tuple #[(.int IntKind.u64 0), (Value.iface 165 (Value.pointer (some (⟨1000, 0, none⟩ : Addr))))])], [some (.row ⟨[(.string ((⟨#[80, 97, 114, 115, 101, 85, 105, 110, 116]⟩ : ByteArray))), (.string (s)), (Value.iface u1 (Value.pointer (some (⟨901, o1, none⟩ : Addr))))], 181, (0, 0), 0, false, false⟩)]))) (
     none)) (
    none)) (
   none)) (
  cond (List.all (Lib.byteCells s.data.toList) (af 8) && true) (
   cond (decide (s.data.toList.length = s.data.toList.length) && (decide (s.data.toList.length = s.data.toList.length)) && (decide ((↑s.data.toList.length : Int) = (↑s.data.toList.length : Int))) && (sameL (Lib.byteCells s.data.toList) (Lib.byteCells s.data.toList))) (
    cond (decide (s.size ≤ 1000000) && (allB (predB 16) s)) (
     cond ((puAll 16 1152921504606846976 s).fst) (
      cond (List.all (Lib.byteCells s.data.toList) (af 8) && true) (
       some (.normal, ([(.tuple #[(.int IntKind.u64 ((puAll 16 1152921504606846976 s).snd)), (Value.nilIface)])], []))) (
       none)) (
      cond (List.all (Lib.byteCells s.data.toList) (af 8) && true) (
       cond (decide (s.size ≤ 281474976710656)) (
        cond (veq 8 (Value.iface u0 (Value.pointer (some (⟨900, o0, none⟩ : Addr))))   (Value.iface u0 (Value.pointer (some (⟨900, o0, none⟩ : Addr))))) (
         cond (veq 8 (Value.iface u0 (Value.pointer (some (⟨900, o0, none⟩ : Addr))))   (Value.iface u0 (Value.pointer (some (⟨900, o0, none⟩ : Addr))))) (
          some (.normal, ([(.tuple #[(.int IntKind.u64 18446744073709551615), (Value.iface 165 (Value.pointer (some (⟨1000, 0, none⟩ : Addr))))])], [some (.row ⟨[(.string ((⟨#[80, 97, 114, 115, 101, 85, 105, 110, 116]⟩ : ByteArray))), (.string (s)), (Value.iface u0 (Value.pointer (some (⟨900, o0, none⟩ : Addr))))], 181, (0, 0), 0, false, false⟩)]))) (
          none)) (
         none)) (
        none)) (
       none))) (
     none)) (
    none)) (
   none)) := by kernel_rfl
end Go.Proofs.YtgohnfkidkomhaaDoor

noncomputable section
namespace Go.Proofs.YtgohnfkidkomhaaDoor
open Go.Proofs.YtgohnfkidkomhaaDoor.Ev Go.RowKit

def neRow (u o id : Nat) (t : ByteArray) : Option LObj := some (.row ⟨[.string (⟨#[80, 97, 114, 115, 101, 85, 105, 110, 116]⟩ : ByteArray), .string t, .iface u (.pointer (some ⟨id, o, none⟩))], 181, (0, 0), 0, false, false⟩)
def puHd (u0 o0 : Nat) : Hd := fun vs rows => match vs, rows with
  | [.string t, .int .i64 b, .int .i64 n], [] => some (.br (decide (n = 64) && (decide (b = 10) || decide (b = 16))) (.br (decide (t.size ≤ 1000000) && decide (1 ≤ t.size) && allB (predB b) t)
      (.br (puAll b (cutOf b) t).1 (.ret (.normal, [.tuple #[.int .u64 (puAll b (cutOf b) t).2, .nilIface]], []))
        (.ret (.normal, [.tuple #[.int .u64 18446744073709551615, .iface 165 (.pointer (some ⟨1000, 0, none⟩))]], [neRow u0 o0 900 t]))) .fail) .fail)
  | _, _ => none
theorem veq_self (u i o : Nat) : veq 8 (.iface u (.pointer (some ⟨i, o, none⟩))) (.iface u (.pointer (some ⟨i, o, none⟩))) = true := by
  simp [veq]
theorem toList_empty {t : ByteArray} (h : 1 ≤ t.size) : (t.toList == (⟨#[]⟩ : ByteArray).toList) = false := by
  rw [beqS]
  refine decide_eq_false fun e => ?_
  subst e
  exact absurd h (by decide)
theorem puHd_ok (u0 o0 u1 o1 : Nat) : SubOK Tryd.prog (glS u0 o0 u1 o1) 73 (puHd u0 o0) := by
  refine sub_of noSy_ok goodT (glS_low u0 o0 u1 o1) tglob (H4_ok (glS_low u0 o0 u1 o1)) (L := 100) (G := 40) (d := 40) fun vs rows t r h1 h2 => ?_
  unfold puHd at h1
  split at h1
  · rename_i s b n
    cases h1
    obtain ⟨c1, h3⟩ := brT h2
    obtain ⟨c2, h4⟩ := brT h3
    simp only [Bool.and_eq_true, decide_eq_true_eq, Bool.or_eq_true] at c1 c2
    obtain ⟨rfl, hb⟩ := c1
    obtain ⟨⟨c3, c4⟩, c5⟩ := c2
    refine ⟨by decide, ?_⟩
    have e0 := toList_empty c4
    have e1 : s.size ≤ 281474976710656 := by omega
    rcases hb with rfl | rfl
    · refine Eq.trans (r_w10 u0 o0 u1 o1 s) ?_
      simp only [e0, cond_false, bytes_all, Bool.and_true, cond_true, decide_true, sameL_self, Bool.and_self, c3, c5, e1, veq_self]
      rcases run_lt h4 with ⟨g1, g2⟩ | ⟨g1, g2⟩
      · rw [show (puAll 10 1844674407370955162 s).1 = true from g1]
        exact g2
      · rw [show (puAll 10 1844674407370955162 s).1 = false from g1]
        exact g2
    · refine Eq.trans (r_w16 u0 o0 u1 o1 s) ?_
      simp only [e0, cond_false, bytes_all, Bool.and_true, cond_true, decide_true, sameL_self, Bool.and_self, c3, c5, e1, veq_self]
      rcases run_lt h4 with ⟨g1, g2⟩ | ⟨g1, g2⟩
      · rw [show (puAll 16 1152921504606846976 s).1 = true from g1]
        exact g2
      · rw [show (puAll 16 1152921504606846976 s).1 = false from g1]
        exact g2
  · cases h1
def H5 (u0 o0 : Nat) : Hs := hsOf afs1 [(73, puHd u0 o0)] [(51, [(0, ⟨runLive, runOut, runH⟩)])]
end Go.Proofs.YtgohnfkidkomhaaDoor
