/- Bytes of strings, decimal numbers, strings.Builder, strconv.Itoa by the shelf, known cells of a row that came in. No condition but those of the texts. -/
import Derived.Test.YtgohnfkidkomhaaDoorEv6
import Derived.Test.YtgohnfkidkomhaaDoorProg
import Derived.Laws.Strings
import Derived.Test.YtgohnfkidkomhaaDoorShelf
import Derived.Lib.AtoiErrMem
import Derived.Lib.ItoaMem
import Derived.ChangeArms
import Derived.WideShapes
import Derived.ChangeShapes
noncomputable section
noncomputable section
namespace Go.Proofs.YtgohnfkidkomhaaDoor
open Go.Proofs.YtgohnfkidkomhaaDoor.Ev Go.RowKit

theorem tglob : Tryd.prog.globals.size ≤ 900 := of_decide_eq_true (by kernel_rfl)
def qs {R : Type} : List Int → Option R → Option R
  | [], k => k
  | a :: l, k => cond (decide (a = a)) (qs l k) none
theorem qs_eq {R : Type} : ∀ (l : List Int) (k : Option R), qs l k = k
  | [], _ => rfl
  | _ :: l, k => by simp [qs, qs_eq l k]
theorem wrap_id (n : Int) (h : -9223372036854775808 ≤ n ∧ n ≤ 9223372036854775807) : IntKind.i64.wrap n = n := by
  simp only [IntKind.wrap, IntKind.bits, IntKind.signed]
  simp
  omega
end Go.Proofs.YtgohnfkidkomhaaDoor

noncomputable section
namespace Go.Proofs.YtgohnfkidkomhaaDoor
open Go.Proofs.YtgohnfkidkomhaaDoor.Ev Go.RowKit

/-! Strings, byte by byte. -/
theorem nthB_lt {l : List UInt8} {n : Nat} (h : n < l.length) : nthB l n = some l[n] := by rw [nthB_eq]; exact List.getElem?_eq_getElem h
theorem data_len (s : ByteArray) : s.data.toList.length = s.size := by simp
theorem byteAt_lt {s : ByteArray} {i : Int} (h0 : 0 ≤ i) (h1 : i < (s.size : Int)) : byteAt s i = ((s.data.toList[i.toNat]'(by rw [data_len]; omega)).toNat : Int) := by
  unfold byteAt
  rw [nthB_lt (by rw [data_len]; omega)]
  rfl
theorem ext_bytes {a b : ByteArray} (hs : a.size = b.size) (h : ∀ i : Int, 0 ≤ i → i < (a.size : Int) → byteAt a i = byteAt b i) : a = b := by
  have : a.data.toList = b.data.toList := by
    apply List.ext_getElem (by rw [data_len, data_len, hs])
    intro n h1 h2
    rw [data_len] at h1 h2
    have := h (n : Int) (by omega) (by omega)
    rw [byteAt_lt (by omega) (by omega), byteAt_lt (by omega) (by omega)] at this
    simp only [Int.toNat_natCast] at this
    exact UInt8.toNat_inj.1 (by omega)
  obtain ⟨⟨la⟩⟩ := a
  obtain ⟨⟨lb⟩⟩ := b
  simp only at this
  rw [this]
theorem subS_size {s : ByteArray} {l h : Int} (h0 : 0 ≤ l) (h1 : l ≤ h) (h2 : h ≤ (s.size : Int)) : ((subS s l h).size : Int) = h - l := by
  unfold subS
  rw [ByteArray.size_extract]
  omega
theorem byteAt_subS {s : ByteArray} {l h : Int} (h0 : 0 ≤ l) (h1 : l ≤ h) (h2 : h ≤ (s.size : Int)) {i : Int} (i0 : 0 ≤ i) (i1 : i < h - l) : byteAt (subS s l h) i = byteAt s (l + i) := by
  have hs := subS_size h0 h1 h2
  rw [byteAt_lt i0 (by omega), byteAt_lt (by omega) (by omega)]
  congr 2
  unfold subS
  have e : (s.extract l.toNat h.toNat).data.toList = (s.data.toList.take h.toNat).drop l.toNat := by
    rw [ByteArray.data_extract]
    simp [List.drop_take]
  simp only [e, List.getElem_drop, List.getElem_take]
  congr 1
  omega
end Go.Proofs.YtgohnfkidkomhaaDoor

noncomputable section
namespace Go.Proofs.YtgohnfkidkomhaaDoor
open Go.Proofs.YtgohnfkidkomhaaDoor.Ev Go.RowKit

/-! A row of a string's bytes. -/
theorem byteCells_get (l : List UInt8) (o : Nat) : (Lib.byteCells l)[o]? = (l[o]?).map fun b => .int .u8 b.toNat := by
  unfold Lib.byteCells
  rw [List.getElem?_map]
theorem bytes_all (l : List UInt8) : (Lib.byteCells l).all (af 8) = true := by
  rw [List.all_eq_true]
  intro v hv
  obtain ⟨i, hi⟩ := List.getElem?_of_mem hv
  rw [byteCells_get] at hi
  obtain ⟨b, _, rfl⟩ := Option.map_eq_some_iff.1 hi
  rfl
/-! internal/strconv.ParseUint: its loop. -/
end Go.Proofs.YtgohnfkidkomhaaDoor

noncomputable section
namespace Go.Proofs.YtgohnfkidkomhaaDoor
open Go.Proofs.YtgohnfkidkomhaaDoor.Ev Go.RowKit

theorem brT {c : Bool} {t : DT Out} {r : Out} (h : DT.run (.br c t .fail) = some r) : c = true ∧ t.run = some r := condT h
end Go.Proofs.YtgohnfkidkomhaaDoor

noncomputable section
namespace Go.Proofs.YtgohnfkidkomhaaDoor
open Go.Proofs.YtgohnfkidkomhaaDoor.Ev Go.RowKit

/-! token.Line: its loop. -/
structure Tok where
  kind : Int
  text : ByteArray
  n : Int
  at_ : Int
end Go.Proofs.YtgohnfkidkomhaaDoor

noncomputable section
namespace Go.Proofs.YtgohnfkidkomhaaDoor
open Go.Proofs.YtgohnfkidkomhaaDoor.Ev Go.RowKit

/-! token.Line: its loop's answer, and its own. -/
theorem nbeq (a b : Nat) : (Nat.beq a b = true) = (a = b) := propext ⟨Nat.eq_of_beq_eq_true, fun h => h ▸ Nat.beq_refl a⟩
end Go.Proofs.YtgohnfkidkomhaaDoor

noncomputable section
namespace Go.Proofs.YtgohnfkidkomhaaDoor
open Go.Proofs.YtgohnfkidkomhaaDoor.Ev Go.RowKit

/-! The document's line: the inner loop, and rounds of the outer. -/
structure TCell where
  z : Int
  e : ByteArray
  y : Int
  x : Int
end Go.Proofs.YtgohnfkidkomhaaDoor

noncomputable section
namespace Go.Proofs.YtgohnfkidkomhaaDoor
open Go.Proofs.YtgohnfkidkomhaaDoor.Ev Go.RowKit

/-! slices.Equal: tokens that are the same. -/
def cellI : Option Value → Int
  | some (.int _ n) => n
  | _ => 0
def cellS : Option Value → ByteArray
  | some (.string s) => s
  | _ => ByteArray.empty
def cellIsI (k : IntKind) : Option Value → Bool
  | some (.int k' _) => decide (k' = k)
  | _ => false
def cellIsS : Option Value → Bool
  | some (.string _) => true
  | _ => false
/-! The law. -/
def afW : AF := fun args _ => match args with
  | [] => some (true, .bool true)
  | _ => none
end Go.Proofs.YtgohnfkidkomhaaDoor

noncomputable section
namespace Go.Proofs.YtgohnfkidkomhaaDoor
open Go.Proofs.YtgohnfkidkomhaaDoor.Ev Go.RowKit

/-! Blanks ahead of a line, a remark behind it: the same tokens. -/
structure LExt (S s : ByteArray) (n : Int) : Prop where
  n0 : 0 ≤ n
  size : n + (s.size : Int) + 2 ≤ (S.size : Int)
  mid : ∀ i, 0 ≤ i → i < (s.size : Int) → byteAt S (i + n) = byteAt s i
  pre : ∀ i, 0 ≤ i → i < n → byteAt S i = 32
  tab : byteAt S ((s.size : Int) + n) = 9
  hash : byteAt S ((s.size : Int) + n + 1) = 35

section
variable {S s : ByteArray} {n : Int}
end
end Go.Proofs.YtgohnfkidkomhaaDoor

noncomputable section
namespace Go.Proofs.YtgohnfkidkomhaaDoor
open Go.Proofs.YtgohnfkidkomhaaDoor.Ev Go.RowKit

/-! Strings put together, byte by byte. -/
theorem app_size (a b : ByteArray) : ((a ++ b).size : Int) = a.size + b.size := by rw [ByteArray.size_append]; omega
theorem byteAt_l {a b : ByteArray} {i : Int} (h0 : 0 ≤ i) (h1 : i < (a.size : Int)) : byteAt (a ++ b) i = byteAt a i := by
  have := app_size a b
  rw [byteAt_lt h0 (by omega), byteAt_lt h0 h1]
  have e : (a ++ b).data.toList = a.data.toList ++ b.data.toList := by simp [ByteArray.data_append]
  simp only [e]
  rw [List.getElem_append_left (by rw [data_len]; omega)]
theorem byteAt_r {a b : ByteArray} {i : Int} (h0 : (a.size : Int) ≤ i) (h1 : i < (a.size : Int) + b.size) : byteAt (a ++ b) i = byteAt b (i - a.size) := by
  have := app_size a b
  rw [byteAt_lt (by omega) (by omega), byteAt_lt (by omega) (by omega)]
  have e : (a ++ b).data.toList = a.data.toList ++ b.data.toList := by simp [ByteArray.data_append]
  simp only [e]
  rw [List.getElem_append_right (by rw [data_len]; omega)]
  have e2 : i.toNat - a.data.toList.length = (i - (a.size : Int)).toNat := by rw [data_len]; omega
  simp only [e2]
/-! A text that stands at a place. -/
structure AtS (S : ByteArray) (a : Int) (t : ByteArray) : Prop where
  a0 : 0 ≤ a
  le : a + t.size ≤ (S.size : Int)
  eq : ∀ i, 0 ≤ i → i < (t.size : Int) → byteAt S (a + i) = byteAt t i
theorem AtS.l {S : ByteArray} {a : Int} {t u : ByteArray} (h : AtS S a (t ++ u)) : AtS S a t := by
  have := app_size t u
  have := h.le
  exact ⟨h.a0, by omega, fun i i0 i1 => by rw [h.eq i i0 (by omega), byteAt_l i0 i1]⟩
theorem AtS.r {S : ByteArray} {a : Int} {t u : ByteArray} (h : AtS S a (t ++ u)) : AtS S (a + t.size) u := by
  have e := app_size t u
  have := h.le
  have := h.a0
  refine ⟨by omega, by omega, fun i i0 i1 => ?_⟩
  rw [show a + (t.size : Int) + i = a + ((t.size : Int) + i) by omega, h.eq _ (by omega) (by omega), byteAt_r (by omega) (by omega)]
  congr 1; omega
theorem AtS.sub {S : ByteArray} {a : Int} {t : ByteArray} (h : AtS S a t) : subS S a (a + t.size) = t := by
  have := h.le
  have := h.a0
  have z := subS_size (s := S) h.a0 (show a ≤ a + (t.size : Int) by omega) h.le
  refine ext_bytes (by omega) fun i i0 i1 => ?_
  rw [byteAt_subS h.a0 (by omega) h.le i0 (by omega), h.eq i i0 (by omega)]
/-! Numbers told and read. -/
def itoaB (n : Int) : ByteArray := ⟨(Lib.itoa n).toArray⟩
def decB (m : Nat) : ByteArray := ⟨(Lib.decDigits m).toArray⟩
theorem itoaB_pos {n : Int} (h : 0 ≤ n) : itoaB n = decB n.toNat := by
  unfold itoaB decB Lib.itoa
  rw [if_neg (by omega)]
theorem itoaB_neg {n : Int} (h : n < 0) : itoaB n = (⟨#[45]⟩ : ByteArray) ++ decB n.natAbs := by
  unfold itoaB decB Lib.itoa
  rw [if_pos h]
  apply ByteArray.ext
  simp

/-! What stands behind a token. -/
/-! Tokens told. -/
end Go.Proofs.YtgohnfkidkomhaaDoor

noncomputable section
namespace Go.Proofs.YtgohnfkidkomhaaDoor
open Go.Proofs.YtgohnfkidkomhaaDoor.Ev Go.RowKit

/-! Tokens that came in: known cells of the block 902. -/
def symK (off : Nat) (cs : List Value) : Sym := ⟨[], fun _ o => cellI cs[o - off]?, fun o => cellS cs[o - off]?, fun k o => Nat.ble off o && cellIsI k cs[o - off]?, fun o => Nat.ble off o && cellIsS cs[o - off]?⟩
theorem cellIsI_eq {k : IntKind} {x : Option Value} (h : cellIsI k x = true) : x = some (.int k (cellI x)) := by
  unfold cellIsI at h
  split at h
  · simp only [decide_eq_true_eq] at h
    subst h; rfl
  · cases h
theorem cellIsS_eq {x : Option Value} (h : cellIsS x = true) : x = some (.string (cellS x)) := by
  unfold cellIsS at h
  split at h
  · rfl
  · cases h
theorem symK_of {gl : Gl} {b off : Nat} {cs : List Value} : (symK off cs).Of (glK gl b off cs b) where
  int := fun k o h => by
    simp only [symK, Bool.and_eq_true] at h ⊢
    unfold glK
    rw [Nat.beq_refl, cond_true, h.1, cond_true]
    exact cellIsI_eq h.2
  str := fun o h => by
    simp only [symK, Bool.and_eq_true] at h ⊢
    unfold glK
    rw [Nat.beq_refl, cond_true, h.1, cond_true]
    exact cellIsS_eq h.2
def syK (b off : Nat) (cs : List Value) : Sy := fun i => cond (Nat.beq i b) (some (symK off cs)) none
theorem syK_ok {gl : Gl} {b off : Nat} {cs : List Value} (hb : b < 1000) : SyOK (glK gl b off cs) (syK b off cs) := fun i S h => by
  unfold syK at h
  rw [Bool.cond_eq_ite] at h
  split at h
  · rename_i e
    cases h
    rw [nbeq] at e
    subst e
    exact ⟨fun hl => by omega, fun _ => symK_of⟩
  · cases h
theorem xNE : XkOK Tryd.prog 116 .same := ⟨Tryd.f116, Tryd.func116, by kernel_rfl, by kernel_rfl, (show Extern.find Tryd.f116 = some Extern.AbiNoEscape.same by kernel_rfl)⟩
def exB : Ext := extOf [(116, .same)]
theorem goodB : Go.Proofs.YtgohnfkidkomhaaDoor.Ev.Good Tryd.prog exB := good_of (by kernel_rfl) (by kernel_rfl) (by
  intro x hx
  simp only [List.mem_cons, List.not_mem_nil, or_false] at hx
  subst hx
  exact xNE)
end Go.Proofs.YtgohnfkidkomhaaDoor

noncomputable section
namespace Go.Proofs.YtgohnfkidkomhaaDoor
open Go.Proofs.YtgohnfkidkomhaaDoor.Ev Go.RowKit

/-! strings.Builder: bytes and strings written behind what is there; what was written, as a string. -/
def byC (B : ByteArray) : List Value := Lib.byteCells B.data.toList
def bRow (cs : List Value) : Option LObj := some (.row ⟨cs, 5, (0, 0), 1, false, false⟩)
def bldC (a : Value) (s : Value) : Option LObj := some (.row ⟨[a, s], 79, (0, 0), 0, false, false⟩)
def b0Row : Option LObj := bldC (.pointer none) (.slice none 0 0)
def b1Row (q m : Nat) : Option LObj := bldC (.pointer (some ⟨1000, 0, none⟩)) (.slice (some ⟨q, 0, none⟩) m m)
theorem byC_app (A B : ByteArray) : byC (A ++ B) = byC A ++ byC B := by
  unfold byC Lib.byteCells
  simp [ByteArray.data_append]
theorem byC_len (B : ByteArray) : (byC B).length = B.size := by
  unfold byC
  rw [Lib.byteCells_length]
  simp
theorem byC_all (B : ByteArray) : (byC B).all (af 8) = true := bytes_all _
theorem byC_single (B : ByteArray) : (byC B).all single = true := by
  unfold byC
  rw [List.all_eq_true]
  intro v hv
  obtain ⟨i, hi⟩ := List.getElem?_of_mem hv
  rw [byteCells_get] at hi
  obtain ⟨b, _, rfl⟩ := Option.map_eq_some_iff.1 hi
  rfl
theorem byC_take (s : ByteArray) : ((s.data.toList.take s.size).map fun b => Value.int .u8 (b.toNat : Int)) = byC s := by
  rw [List.take_of_length_le (by rw [data_len]; exact Nat.le_refl _)]
  rfl
theorem bytesV_all : ∀ l : List UInt8, bytesV (Lib.byteCells l) = some l
  | [] => rfl
  | b :: l => by
    have ih := bytesV_all l
    have e : Lib.byteCells (b :: l) = .int .u8 (b.toNat : Int) :: Lib.byteCells l := rfl
    have hb : byteV (.int .u8 (b.toNat : Int)) = some b := by
      have h := b.toNat_lt
      show cond (Nat.ble b.toNat 255) (some (UInt8.ofNat b.toNat)) none = some b
      rw [Nat.ble_eq_true_of_le (by omega), cond_true]
      simp
    rw [e]
    simp only [bytesV, hb, ih, Option.bind_some, Option.map_some]
theorem ofCells_by (B : ByteArray) : ofCells (byC B) = B := by
  unfold ofCells byC
  rw [bytesV_all]
  rfl
def HB0 : Hs := hsOf [] [] []
theorem HB0_ok {gl : Gl} : HB0.OK Tryd.prog gl := hsOf_ok (fun _ h => by cases h) (fun _ h => by cases h) (fun _ h => by cases h)
noncomputable abbrev sub (H : Hs) (gl : Gl) (ext : Ext) (b : Nat) (f : FuncId) (args : List Value) (rows : List (Option LObj)) : Option Out := callSK noSy Tryd.prog gl ext H 100 40 40 (.fn f) args (rowsOf rows) (exitK Tryd.prog b)
set_option maxRecDepth 100000 in
theorem r_ws0 (gl : Gl) (s : ByteArray) : sub HB0 gl exB 1001 45 [.pointer (some ⟨1000, 0, none⟩), .string s] [b0Row] =
 cond ((List.map (fun b => Value.int IntKind.u8 (↑b.toNat : Int)) (List.take s.size s.data.toList)).length.beq (s.size * 1)) (
  cond ((s.size * 1).ble 140737488355328 && (s.size.ble 1099511627776)) (
   cond (s.size.beq 0) (
    some (.normal, ([(.tuple #[(.int IntKind.i64 ((↑s.size : Int))), (Value.nilIface)])], [some (.row ⟨[(.pointer (some ⟨1000, 0, none⟩)), (.slice none 0 0)], 79, (0, 0), 0, false, false⟩)]))) (
    cond (List.all (List.map (fun b => Value.int IntKind.u8 (↑b.toNat : Int)) (List.take s.size s.data.toList)) (af 8) && true) (
     some (.normal, ([(.tuple #[(.int IntKind.i64 ((↑s.size : Int))), (Value.nilIface)])], [some (.row ⟨[(.pointer (some ⟨1000, 0, none⟩)), (.slice (some ⟨1001, 0, none⟩) (s.size) (s.size))], 79, (0, 0), 0, false, false⟩), some (.row ⟨(List.map (fun b => Value.int IntKind.u8 (↑b.toNat : Int)) (List.take s.size s.data.toList)), 5, (0, 0), 1, false, false⟩)]))) (
     none))) (
   none)) (
  none) := by kernel_rfl
set_option maxRecDepth 100000 in
theorem r_ws1 (gl : Gl) (s : ByteArray) (cs : List Value) (m : Nat) : sub HB0 gl exB 1002 45 [.pointer (some ⟨1000, 0, none⟩), .string s] [b1Row 1001 m, bRow cs] =
 cond ((List.map (fun b => Value.int IntKind.u8 (↑b.toNat : Int)) (List.take s.size s.data.toList)).length.beq (s.size * 1)) (
  cond (m.ble m) (
   cond (((m + s.size) * 1).ble 140737488355328 && ((m + s.size).ble 1099511627776)) (
    cond (s.size.beq 0) (
     cond (List.all cs (af 8) && true) (
      some (.normal, ([(.tuple #[(.int IntKind.i64 ((↑s.size : Int))), (Value.nilIface)])], [some (.row ⟨[(.pointer (some ⟨1000, 0, none⟩)), (.slice (some ⟨1001, 0, none⟩) (m) (m))], 79, (0, 0), 0, false, false⟩), some (.row ⟨cs, 5, (0, 0), 1, false, false⟩)]))) (
      none)) (
     cond ((m * 1).beq cs.length) (
      cond (List.all (List.map (fun b => Value.int IntKind.u8 (↑b.toNat : Int)) (List.take s.size s.data.toList)) (single)) (
       cond (List.all (cs ++ (List.map (fun b => Value.int IntKind.u8 (↑b.toNat : Int)) (List.take s.size s.data.toList))) (af 8) && true) (
        some (.normal, ([(.tuple #[(.int IntKind.i64 ((↑s.size : Int))), (Value.nilIface)])], [some (.row ⟨[(.pointer (some ⟨1000, 0, none⟩)), (.slice (some ⟨1002, 0, none⟩) (m + s.size) (m + s.size))], 79, (0, 0), 0, false, false⟩), none, some (.row ⟨(cs ++ (List.map (fun b => Value.int IntKind.u8 (↑b.toNat : Int)) (List.take s.size s.data.toList))), 5, (0, 0), 1, false, false⟩)]))) (
        none)) (
       none)) (
      none))) (
    none)) (
   none)) (
  none) := by kernel_rfl
set_option maxRecDepth 100000 in
theorem r_bs0 (gl : Gl) : sub HB0 gl exB 1001 46 [.pointer (some ⟨1000, 0, none⟩)] [b0Row] =
 some (.normal, ([(.string (ByteArray.empty))], [some (.row ⟨[(.pointer none), (.slice none 0 0)], 79, (0, 0), 0, false, false⟩)])) := by kernel_rfl
set_option maxRecDepth 100000 in
theorem r_bs1 (gl : Gl) (cs : List Value) (m : Nat) : sub HB0 gl exB 1002 46 [.pointer (some ⟨1000, 0, none⟩)] [b1Row 1001 m, bRow cs] =
 cond (Nat.ble 1 m && (Nat.ble 1 m)) (
  cond (decide ((↑m : Int) = (↑cs.length : Int)) && (Nat.ble 1 cs.length) && (cs.length.ble most) && (cs.length.ble cs.length) && ((bytesV cs).isSome)) (
   qs [(↑m : Int), (↑m : Int)] (
    cond (veq 8 (Value.slice (some (⟨1001, 0, none⟩ : Addr)) m m) (Value.slice (some (⟨1001, 0, none⟩ : Addr)) m m)) (
     cond (veq 8 (Value.slice (some (⟨1001, 0, none⟩ : Addr)) m m) (Value.slice (some (⟨1001, 0, none⟩ : Addr)) m m)) (
      cond (veq 8 (Value.slice (some (⟨1001, 0, none⟩ : Addr)) m m) (Value.slice (some (⟨1001, 0, none⟩ : Addr)) m m)) (
       cond (List.all cs (af 8) && true) (
        some (.normal, ([(.string (ofCells cs))], [some (.row ⟨[(.pointer (some ⟨1000, 0, none⟩)), (.slice (some ⟨1001, 0, none⟩) (m) (m))], 79, (0, 0), 0, false, false⟩), some (.row ⟨cs, 5, (0, cs.length), 1, false, false⟩)]))) (
        none)) (
       none)) (
      none)) (
     none))) (
   none)) (
  none) := by kernel_rfl
end Go.Proofs.YtgohnfkidkomhaaDoor

noncomputable section
namespace Go.Proofs.YtgohnfkidkomhaaDoor
open Go.Proofs.YtgohnfkidkomhaaDoor.Ev Go.RowKit

theorem condI {R : Type} {b : Bool} {x y r : Option R} (h : b = true) (k : x = r) : cond b x y = r := by rw [h]; exact k
theorem condE {R : Type} {b : Bool} {x y r : Option R} (h : b = false) (k : y = r) : cond b x y = r := by rw [h]; exact k
abbrev p0 : Value := .pointer (some ⟨1000, 0, none⟩)
def wsG0 (vs : List Value) (rows : List (Option LObj)) (s : ByteArray) : Prop := vs = [p0, .string s] ∧ rows = [b0Row] ∧ 1 ≤ s.size ∧ s.size ≤ 1000000
def wsG1 (vs : List Value) (rows : List (Option LObj)) (s : ByteArray) (m : Nat) (cs : List Value) : Prop := ∃ B : ByteArray, vs = [p0, .string s] ∧ rows = [b1Row 1001 m, bRow cs] ∧ m = B.size ∧ cs = byC B ∧ 1 ≤ s.size ∧ s.size ≤ 1000000 ∧ B.size ≤ 1000000000
def wsH : Hd := fun vs rows => match vs, rows with
  | [_, .string s], [some (.row ⟨[.pointer none, _], _, _, _, _, _⟩)] => some (.br (cl (wsG0 vs rows s)) (.ret (.normal, [.tuple #[.int .i64 (s.size : Int), .nilIface]], [b1Row 1001 s.size, bRow (byC s)])) .fail)
  | [_, .string s], [some (.row ⟨[.pointer (some _), .slice _ m _], _, _, _, _, _⟩), some (.row ⟨cs, _, _, _, _, _⟩)] => some (.br (cl (wsG1 vs rows s m cs)) (.ret (.normal, [.tuple #[.int .i64 (s.size : Int), .nilIface]], [b1Row 1002 (m + s.size), none, bRow (cs ++ byC s)])) .fail)
  | _, _ => none
theorem nbeq_f {a b : Nat} (h : a ≠ b) : Nat.beq a b = false := Bool.eq_false_iff.2 fun e => h (Nat.eq_of_beq_eq_true e)
theorem nble {a b : Nat} (h : a ≤ b) : Nat.ble a b = true := Nat.ble_eq_true_of_le h
theorem andI {a b : Bool} (h : a = true) (k : b = true) : (a && b) = true := by rw [h, k]; rfl
theorem ws_ok {gl : Gl} (hgl : ∀ g k v, gl g k = some v → g < 1000 ∧ lowV 8 v = true) : SubOK Tryd.prog gl 45 wsH := sub_of noSy_ok goodB hgl tglob HB0_ok (L := 100) (G := 40) (d := 40) fun vs rows t r h1 h2 => by
  simp only [wsH] at h1
  split at h1
  · rename_i s _ _ _ _ _ _
    cases h1
    obtain ⟨hg, h3⟩ := brT h2
    obtain ⟨e1, e2, h4, h5⟩ := of_cl hg
    rw [e1, e2]
    refine ⟨show 1001 ≤ most by decide, (r_ws0 gl s).trans ?_⟩
    cases h3
    rw [byC_take]
    refine condI (by rw [byC_len, Nat.mul_one, Nat.beq_refl]) (condI (andI (nble (by omega)) (nble (by omega))) (condE (nbeq_f (by omega)) (condI (andI (byC_all s) rfl) rfl)))
  · rename_i s _ _ m _ _ _ _ _ _ cs _ _ _ _ _
    cases h1
    obtain ⟨hg, h3⟩ := brT h2
    obtain ⟨B, e1, e2, rfl, rfl, h4, h5, h6⟩ := of_cl hg
    rw [e1, e2]
    refine ⟨show 1002 ≤ most by decide, (r_ws1 gl s (byC B) B.size).trans ?_⟩
    cases h3
    rw [byC_take, ← byC_app]
    refine condI (by rw [byC_len, Nat.mul_one, Nat.beq_refl]) (condI (nble (Nat.le_refl _)) (condI (andI (nble (by omega)) (nble (by omega))) (condE (nbeq_f (by omega)) (condI (by rw [byC_len, Nat.mul_one, Nat.beq_refl]) (condI (byC_single s) (condI (andI (byC_all _) rfl) rfl))))))
  · cases h1
def bsG1 (vs : List Value) (rows : List (Option LObj)) (m : Nat) (cs : List Value) : Prop := ∃ B : ByteArray, vs = [p0] ∧ rows = [b1Row 1001 m, bRow cs] ∧ m = B.size ∧ cs = byC B ∧ 1 ≤ B.size ∧ B.size ≤ 1000000000
def bfRow (cs : List Value) : Option LObj := some (.row ⟨cs, 5, (0, cs.length), 1, false, false⟩)
def bsH : Hd := fun vs rows => match vs, rows with
  | [_], [some (.row ⟨[.pointer none, _], _, _, _, _, _⟩)] => some (.br (cl (vs = [p0] ∧ rows = [b0Row])) (.ret (.normal, [.string ByteArray.empty], [b0Row])) .fail)
  | [_], [some (.row ⟨[.pointer (some _), .slice _ m _], _, _, _, _, _⟩), some (.row ⟨cs, _, _, _, _, _⟩)] => some (.br (cl (bsG1 vs rows m cs)) (.ret (.normal, [.string (ofCells cs)], [b1Row 1001 m, bfRow cs])) .fail)
  | _, _ => none
theorem veq_sl (i n c : Nat) : veq 8 (.slice (some (⟨i, 0, none⟩ : Addr)) n c) (.slice (some (⟨i, 0, none⟩ : Addr)) n c) = true := by
  simp [veq]
theorem bs_sub {gl : Gl} (hgl : ∀ g k v, gl g k = some v → g < 1000 ∧ lowV 8 v = true) : SubOK Tryd.prog gl 46 bsH := sub_of noSy_ok goodB hgl tglob HB0_ok (L := 100) (G := 40) (d := 40) fun vs rows t r h1 h2 => by
  simp only [bsH] at h1
  split at h1
  · cases h1
    obtain ⟨hg, h3⟩ := brT h2
    obtain ⟨e1, e2⟩ := of_cl hg
    rw [e1, e2]
    cases h3
    exact ⟨show 1001 ≤ most by decide, r_bs0 gl⟩
  · rename_i _ m _ _ _ _ _ _ cs _ _ _ _ _
    cases h1
    obtain ⟨hg, h3⟩ := brT h2
    obtain ⟨B, e1, e2, rfl, rfl, h4, h5⟩ := of_cl hg
    rw [e1, e2]
    refine ⟨show 1002 ≤ most by decide, (r_bs1 gl (byC B) B.size).trans ?_⟩
    cases h3
    simp only [qs_eq]
    have hb : (bytesV (byC B)).isSome = true := by unfold byC; rw [bytesV_all]; rfl
    refine condI (andI (nble h4) (nble h4)) (condI (andI (andI (andI (andI (decide_eq_true (by rw [byC_len])) (nble (by rw [byC_len]; exact h4))) (nble (by rw [byC_len]; unfold most; omega))) (nble (Nat.le_refl _))) hb) (condI (veq_sl _ _ _) (condI (veq_sl _ _ _) (condI (veq_sl _ _ _) (condI (andI (byC_all _) rfl) rfl)))))
  · cases h1
end Go.Proofs.YtgohnfkidkomhaaDoor

noncomputable section
namespace Go.Proofs.YtgohnfkidkomhaaDoor
open Go.Proofs.YtgohnfkidkomhaaDoor.Ev Go.RowKit

/-! token.Text: its loop. -/
def afItoa (it : Int → ByteArray) : AF := fun args _ => match args with
  | [.int .i64 n] => some (decide (-9223372036854775808 ≤ n) && decide (n ≤ 9223372036854775807), .string (it n))
  | _ => none
end Go.Proofs.YtgohnfkidkomhaaDoor

noncomputable section
namespace Go.Proofs.YtgohnfkidkomhaaDoor
open Go.Proofs.YtgohnfkidkomhaaDoor.Ev Go.RowKit

/-! token.Text: its rounds. -/
theorem empty_iff (s : ByteArray) : (s = ⟨#[]⟩) ↔ s.size = 0 := by
  constructor
  · rintro rfl; rfl
  · intro h
    exact ext_bytes (by rw [h]; rfl) fun i i0 i1 => by omega
end Go.Proofs.YtgohnfkidkomhaaDoor

noncomputable section
namespace Go.Proofs.YtgohnfkidkomhaaDoor
open Go.Proofs.YtgohnfkidkomhaaDoor.Ev Go.RowKit

/-! token.Text: its loop's answer, and its own. -/
structure TokB (t : Tok) : Prop where
  tx : t.text.size ≤ 1000
  n : -9223372036854775808 ≤ t.n ∧ t.n ≤ 9223372036854775807
theorem fnItoa {gl : Gl} (hgl : ∀ g k v, gl g k = some v → g < 1000 ∧ lowV 8 v = true) (hp : ∀ (i : Nat) z, Lib.pow10Tab[i]? = some z → gl 2 i = some (.int .u64 z)) : FnOK Tryd.prog gl 62 (afItoa itoaB) := FnOK.flat hgl tglob fun args σ v h => by
  unfold afItoa at h
  split at h
  · rename_i n
    simp only [Option.some.injEq, Prod.mk.injEq, Bool.and_eq_true, decide_eq_true_eq] at h
    obtain ⟨⟨h1, h2⟩, rfl⟩ := h
    refine ⟨rfl, rfl, fun w hw => ?_⟩
    obtain ⟨φ, hr⟩ := hw
    have ht := tab_gl hr (name := "internal/strconv.uint64pow10") (k := .u64) (zs := Lib.pow10Tab) (g := 2) (by kernel_rfl) (Nat.le_of_ble_eq_true (by kernel_rfl)) hp (by kernel_rfl)
    refine Calls.mono (Tryd.strconv_Itoa n h1 h2 w ht) ?_
    rintro e w' ⟨rfl, k, os, rfl⟩
    refine ⟨rfl, ?_⟩
    have e : (w.drewN k).heap = w.heap := by simp
    refine ⟨rfl, rfl, rfl, by simp [Go.Sort.grow], fun i hi => ?_⟩
    show ((w.drewN k).heap ++ os)[i]? = _
    rw [e, Array.getElem?_append_left hi]
  · cases h
end Go.Proofs.YtgohnfkidkomhaaDoor

noncomputable section
namespace Go.Proofs.YtgohnfkidkomhaaDoor
open Go.Proofs.YtgohnfkidkomhaaDoor.Ev Go.RowKit

/-! TokenBack: true, of any tokens. -/
/-! What is known of the package's variables. -/
def pow10L : List Int := [1, 10, 100, 1000, 10000, 100000, 1000000, 10000000, 100000000, 1000000000, 10000000000, 100000000000, 1000000000000, 10000000000000, 100000000000000, 1000000000000000, 10000000000000000, 100000000000000000, 1000000000000000000, 10000000000000000000]
theorem pow10L_eq : pow10L = Lib.pow10Tab := by decide +kernel
theorem glK_mono {gl : Gl} {b off : Nat} {cs : List Value} (hb : ∀ k, gl b k = none) : ∀ g k v, gl g k = some v → glK gl b off cs g k = some v := by
  intro g k v h
  unfold glK
  rw [Bool.cond_eq_ite, if_neg]
  · exact h
  · intro e
    have e := Nat.eq_of_beq_eq_true e
    subst e
    rw [hb] at h; cases h
/-! A row that came in. -/
open Go.ChangeShapes Go.WideShapes Go.ChangeAt
theorem addr_add (blk off n : Nat) : (⟨blk, off, none⟩ : Addr).add n = ⟨blk, off + n, none⟩ := by
  unfold Addr.add
  split
  · rename_i h; subst h; rfl
  · rfl
theorem list_of {α : Type} {Q : Nat → α → Prop} : ∀ n : Nat, (∀ i, i < n → ∃ e, Q i e) → ∃ zs : List α, zs.length = n ∧ ∀ i e, zs[i]? = some e → Q i e
  | 0, _ => ⟨[], rfl, fun i e h => by simp at h⟩
  | n + 1, h => by
    obtain ⟨zs, h1, h2⟩ := list_of n fun i hi => h i (by omega)
    obtain ⟨e, he⟩ := h n (by omega)
    refine ⟨zs ++ [e], by simp [h1], fun i e' h3 => ?_⟩
    rcases Nat.lt_or_ge i n with hi | hi
    · rw [List.getElem?_append_left (by omega)] at h3
      exact h2 i e' h3
    · rw [List.getElem?_append_right (by omega), h1] at h3
      rcases Nat.eq_or_lt_of_le hi with rfl | hi
      · simp at h3; subst h3; exact he
      · rw [List.getElem?_eq_none (by simp; omega)] at h3; cases h3
set_option maxRecDepth 100000 in
/-- A parameter that is a row: nil, or its elements' cells. -/
theorem open_rows {H : Type} {enc : TypeId × Value → H} {w : World} {sp : Nat → Bool} {held : Bool} {rc : Reach} {base : Nat} {v : Value} {d : DataW H} {p : List MemPlace} {t e n : Nat} (ht : Tryd.prog.underlying t = some (.slice e)) (hn : Tryd.prog.cellsOf e = n)
    (hv : Value.okWide Tryd.prog w rc base t v) (h : DataW.Trod enc Tryd.prog w 0 sp held t v d p) :
    v = .slice none 0 0 ∨ ∃ (blk off len cap : Nat) (m : Nat), v = .slice (some ⟨blk, off, none⟩) len cap ∧ len ≤ cap ∧ cap ≤ maxLen ∧ blk < w.heap.size ∧ ∀ i, i < len → ∃ cs x, cs.length = n ∧ (∀ j, j < n → ∃ y, cs[j]? = some y ∧ w.cell? ⟨blk, off + i * n + j, none⟩ = some y) ∧ DataW.trod enc Tryd.prog w 0 sp held m e cs = some x := by
  obtain ⟨a, len, cap, rfl⟩ := okWide_slice ht hv
  obtain ⟨fuel, h⟩ := h
  rcases DataW.trod_slice ht h with ⟨hn, _⟩ | ⟨a', len', cap', elems, rest, m, _, hcs, _, _, hlc, hcm, hel, hi, _⟩
  · left
    simpa [Value.cells] using hn
  · right
    have e0 : Value.slice a len cap = .slice (some a') len' cap' := by simpa [Value.cells] using hcs
    cases e0
    have hok : Cell.ok Tryd.prog w rc base t (.slice (some a') len cap) := by
      simpa only [Value.okWide, Cell.okWide, ht] using hv
    have hhas : w.has Tryd.prog rc base a' e cap := by
      simp only [Cell.ok, ht] at hok
      exact hok.2.2
    obtain ⟨_, hs, row, cells, hsh, _⟩ := hhas
    obtain ⟨blk, off, spot⟩ := a'
    simp only at hs
    subst hs
    have hb : blk < w.heap.size := by
      rcases Nat.lt_or_ge blk w.heap.size with h1 | h1
      · exact h1
      · simp [World.shape?, Array.getElem?_eq_none h1] at hsh
    refine ⟨blk, off, len, cap, m, rfl, hlc, hcm, hb, fun i hlt => ?_⟩
    have h1 := hi i hlt
    rw [List.getElem?_eq_getElem (by omega)] at h1
    obtain ⟨cs, h2, h3⟩ := Option.bind_eq_some_iff.1 h1
    rw [hn] at h2
    obtain ⟨_, hl, hat⟩ := World.cells?_some h2
    refine ⟨cs, _, hl, fun j hj => ⟨cs[j]'(by omega), List.getElem?_eq_getElem (by omega), ?_⟩, h3⟩
    have := hat j (by omega)
    rw [addr_add, addr_add] at this
    rw [this]
    exact List.getElem?_eq_getElem (by omega)
end Go.Proofs.YtgohnfkidkomhaaDoor
