/- token.Text's rounds: of a row of tokens of moderate texts. -/
import Derived.Test.YtgohnfkidkomhaaDoorL2
noncomputable section
noncomputable section
namespace Go.Proofs.YtgohnfkidkomhaaDoor
open Go.Proofs.YtgohnfkidkomhaaDoor.Ev Go.RowKit

/-! Tokens that came in: known cells of the block 902. -/
def symK (off : Nat) (cs : List Value) : Sym := ⟨[], fun _ o => cellI cs[o - off]?, fun o => cellS cs[o - off]?, fun k o => Nat.ble off o && cellIsI k cs[o - off]?, fun o => Nat.ble off o && cellIsS cs[o - off]?⟩
theorem cellIsI_eq {k : IntKind} {x : Option Value} (h : cellIsI k x = true) : x = some (.int k (cellI x)) := by
  unfold cellIsI at h
  split at h
  · simp only [decide_eq_true_eq] at h
    subst h; rfl
  · cases h
theorem cellIsS_eq {x : Option Value} (h : cellIsS x = true) : x = some (.string (cellS x)) := by
  unfold cellIsS at h
  split at h
  · rfl
  · cases h
theorem symK_of {gl : Gl} {b off : Nat} {cs : List Value} : (symK off cs).Of (glK gl b off cs b) where
  int := fun k o h => by
    simp only [symK, Bool.and_eq_true] at h ⊢
    unfold glK
    rw [Nat.beq_refl, cond_true, h.1, cond_true]
    exact cellIsI_eq h.2
  str := fun o h => by
    simp only [symK, Bool.and_eq_true] at h ⊢
    unfold glK
    rw [Nat.beq_refl, cond_true, h.1, cond_true]
    exact cellIsS_eq h.2
def syK (b off : Nat) (cs : List Value) : Sy := fun i => cond (Nat.beq i b) (some (symK off cs)) none
theorem syK_ok {gl : Gl} {b off : Nat} {cs : List Value} (hb : b < 1000) : SyOK (glK gl b off cs) (syK b off cs) := fun i S h => by
  unfold syK at h
  rw [Bool.cond_eq_ite] at h
  split at h
  · rename_i e
    cases h
    rw [nbeq] at e
    subst e
    exact ⟨fun hl => by omega, fun _ => symK_of⟩
  · cases h
theorem xNE : XkOK Tryd.prog 116 .same := ⟨Tryd.f116, Tryd.func116, by kernel_rfl, by kernel_rfl, (show Extern.find Tryd.f116 = some Extern.AbiNoEscape.same by kernel_rfl)⟩
def exB : Ext := extOf [(116, .same)]
theorem goodB : Go.Proofs.YtgohnfkidkomhaaDoor.Ev.Good Tryd.prog exB := good_of (by kernel_rfl) (by kernel_rfl) (by
  intro x hx
  simp only [List.mem_cons, List.not_mem_nil, or_false] at hx
  subst hx
  exact xNE)
end Go.Proofs.YtgohnfkidkomhaaDoor

noncomputable section
namespace Go.Proofs.YtgohnfkidkomhaaDoor
open Go.Proofs.YtgohnfkidkomhaaDoor.Ev Go.RowKit

/-! strings.Builder: bytes and strings written behind what is there; what was written, as a string. -/
def byC (B : ByteArray) : List Value := Lib.byteCells B.data.toList
def bRow (cs : List Value) : Option LObj := some (.row ⟨cs, 5, (0, 0), 1, false, false⟩)
def bldC (a : Value) (s : Value) : Option LObj := some (.row ⟨[a, s], 79, (0, 0), 0, false, false⟩)
def b0Row : Option LObj := bldC (.pointer none) (.slice none 0 0)
def b1Row (q m : Nat) : Option LObj := bldC (.pointer (some ⟨1000, 0, none⟩)) (.slice (some ⟨q, 0, none⟩) m m)
theorem byC_app (A B : ByteArray) : byC (A ++ B) = byC A ++ byC B := by
  unfold byC Lib.byteCells
  simp [ByteArray.data_append]
theorem byC_len (B : ByteArray) : (byC B).length = B.size := by
  unfold byC
  rw [Lib.byteCells_length]
  simp
theorem byC_all (B : ByteArray) : (byC B).all (af 8) = true := bytes_all _
theorem byC_single (B : ByteArray) : (byC B).all single = true := by
  unfold byC
  rw [List.all_eq_true]
  intro v hv
  obtain ⟨i, hi⟩ := List.getElem?_of_mem hv
  rw [byteCells_get] at hi
  obtain ⟨b, _, rfl⟩ := Option.map_eq_some_iff.1 hi
  rfl
theorem byC_take (s : ByteArray) : ((s.data.toList.take s.size).map fun b => Value.int .u8 (b.toNat : Int)) = byC s := by
  rw [List.take_of_length_le (by rw [data_len]; exact Nat.le_refl _)]
  rfl
theorem bytesV_all : ∀ l : List UInt8, bytesV (Lib.byteCells l) = some l
  | [] => rfl
  | b :: l => by
    have ih := bytesV_all l
    have e : Lib.byteCells (b :: l) = .int .u8 (b.toNat : Int) :: Lib.byteCells l := rfl
    have hb : byteV (.int .u8 (b.toNat : Int)) = some b := by
      have h := b.toNat_lt
      show cond (Nat.ble b.toNat 255) (some (UInt8.ofNat b.toNat)) none = some b
      rw [Nat.ble_eq_true_of_le (by omega), cond_true]
      simp
    rw [e]
    simp only [bytesV, hb, ih, Option.bind_some, Option.map_some]
theorem ofCells_by (B : ByteArray) : ofCells (byC B) = B := by
  unfold ofCells byC
  rw [bytesV_all]
  rfl
def HB0 : Hs := hsOf [] [] []
theorem HB0_ok {gl : Gl} : HB0.OK Tryd.prog gl := hsOf_ok (fun _ h => by cases h) (fun _ h => by cases h) (fun _ h => by cases h)
noncomputable abbrev sub (H : Hs) (gl : Gl) (ext : Ext) (b : Nat) (f : FuncId) (args : List Value) (rows : List (Option LObj)) : Option Out := callSK noSy Tryd.prog gl ext H 100 40 40 (.fn f) args (rowsOf rows) (exitK Tryd.prog b)
set_option maxRecDepth 100000 in
theorem r_ws0 (gl : Gl) (s : ByteArray) : sub HB0 gl exB 1001 45 [.pointer (some ⟨1000, 0, none⟩), .string s] [b0Row] =
 cond ((List.map (fun b => Value.int IntKind.u8 (↑b.toNat : Int)) (List.take s.size s.data.toList)).length.beq (s.size * 1)) (
  cond ((s.size * 1).ble 140737488355328 && (s.size.ble 1099511627776)) (
   cond (s.size.beq 0) (
    some (.normal, ([(.tuple #[(.int IntKind.i64 ((↑s.size : Int))), (Value.nilIface)])], [some (.row ⟨[(.pointer (some ⟨1000, 0, none⟩)), (.slice none 0 0)], 79, (0, 0), 0, false, false⟩)]))) (
    cond (List.all (List.map (fun b => Value.int IntKind.u8 (↑b.toNat : Int)) (List.take s.size s.data.toList)) (af 8) && true) (
     some (.normal, ([(.tuple #[(.int IntKind.i64 ((↑s.size : Int))), (Value.nilIface)])], [some (.row ⟨[(.pointer (some ⟨1000, 0, none⟩)), (.slice (some ⟨1001, 0, none⟩) (s.size) (s.size))], 79, (0, 0), 0, false, false⟩), some (.row ⟨(List.map (fun b => Value.int IntKind.u8 (↑b.toNat : Int)) (List.take s.size s.data.toList)), 5, (0, 0), 1, false, false⟩)]))) (
     none))) (
   none)) (
  none) := by kernel_rfl
set_option maxRecDepth 100000 in
theorem r_ws1 (gl : Gl) (s : ByteArray) (cs : List Value) (m : Nat) : sub HB0 gl exB 1002 45 [.pointer (some ⟨1000, 0, none⟩), .string s] [b1Row 1001 m, bRow cs] =
 cond ((List.map (fun b => Value.int IntKind.u8 (↑b.toNat : Int)) (List.take s.size s.data.toList)).length.beq (s.size * 1)) (
  cond (m.ble m) (
   cond (((m + s.size) * 1).ble 140737488355328 && ((m + s.size).ble 1099511627776)) (
    cond (s.size.beq 0) (
     cond (List.all cs (af 8) && true) (
      some (.normal, ([(.tuple #[(.int IntKind.i64 ((↑s.size : Int))), (Value.nilIface)])], [some (.row ⟨[(.pointer (some ⟨1000, 0, none⟩)), (.slice (some ⟨1001, 0, none⟩) (m) (m))], 79, (0, 0), 0, false, false⟩), some (.row ⟨cs, 5, (0, 0), 1, false, false⟩)]))) (
      none)) (
     cond ((m * 1).beq cs.length) (
      cond (List.all (List.map (fun b => Value.int IntKind.u8 (↑b.toNat : Int)) (List.take s.size s.data.toList)) (single)) (
       cond (List.all (cs ++ (List.map (fun b => Value.int IntKind.u8 (↑b.toNat : Int)) (List.take s.size s.data.toList))) (af 8) && true) (
        some (.normal, ([(.tuple #[(.int IntKind.i64 ((↑s.size : Int))), (Value.nilIface)])], [some (.row ⟨[(.pointer (some ⟨1000, 0, none⟩)), (.slice (some ⟨1002, 0, none⟩) (m + s.size) (m + s.size))], 79, (0, 0), 0, false, false⟩), none, some (.row ⟨(cs ++ (List.map (fun b => Value.int IntKind.u8 (↑b.toNat : Int)) (List.take s.size s.data.toList))), 5, (0, 0), 1, false, false⟩)]))) (
        none)) (
       none)) (
      none))) (
    none)) (
   none)) (
  none) := by kernel_rfl
set_option maxRecDepth 100000 in
theorem r_wb0 (gl : Gl) (x : Int) : sub HB0 gl exB 1001 63 [.pointer (some ⟨1000, 0, none⟩), .int .u8 x] [b0Row] =
 some (.normal, ([(Value.nilIface)], [some (.row ⟨[(.pointer (some ⟨1000, 0, none⟩)), (.slice (some ⟨1001, 0, none⟩) 1 1)], 79, (0, 0), 0, false, false⟩), some (.row ⟨[(.int IntKind.u8 (x))], 5, (0, 0), 1, false, false⟩)])) := by kernel_rfl
set_option maxRecDepth 100000 in
theorem r_wb1 (gl : Gl) (x : Int) (cs : List Value) (m : Nat) : sub HB0 gl exB 1002 63 [.pointer (some ⟨1000, 0, none⟩), .int .u8 x] [b1Row 1001 m, bRow cs] =
 cond (m.ble m) (
  cond (((m + 1) * 1).ble 140737488355328 && ((m + 1).ble 1099511627776)) (
   cond ((m * 1).beq cs.length) (
    cond (List.all (cs ++ [(.int IntKind.u8 (x))]) (af 8) && true) (
     some (.normal, ([(Value.nilIface)], [some (.row ⟨[(.pointer (some ⟨1000, 0, none⟩)), (.slice (some ⟨1002, 0, none⟩) (m + 1) (m + 1))], 79, (0, 0), 0, false, false⟩), none, some (.row ⟨(cs ++ [(.int IntKind.u8 (x))]), 5, (0, 0), 1, false, false⟩)]))) (
     none)) (
    none)) (
   none)) (
  none) := by kernel_rfl
set_option maxRecDepth 100000 in
theorem r_bs0 (gl : Gl) : sub HB0 gl exB 1001 46 [.pointer (some ⟨1000, 0, none⟩)] [b0Row] =
 some (.normal, ([(.string (ByteArray.empty))], [some (.row ⟨[(.pointer none), (.slice none 0 0)], 79, (0, 0), 0, false, false⟩)])) := by kernel_rfl
set_option maxRecDepth 100000 in
theorem r_bs1 (gl : Gl) (cs : List Value) (m : Nat) : sub HB0 gl exB 1002 46 [.pointer (some ⟨1000, 0, none⟩)] [b1Row 1001 m, bRow cs] =
 cond (Nat.ble 1 m && (Nat.ble 1 m)) (
  cond (decide ((↑m : Int) = (↑cs.length : Int)) && (Nat.ble 1 cs.length) && (cs.length.ble most) && (cs.length.ble cs.length) && ((bytesV cs).isSome)) (
   qs [(↑m : Int), (↑m : Int)] (
    cond (veq 8 (Value.slice (some (⟨1001, 0, none⟩ : Addr)) m m) (Value.slice (some (⟨1001, 0, none⟩ : Addr)) m m)) (
     cond (veq 8 (Value.slice (some (⟨1001, 0, none⟩ : Addr)) m m) (Value.slice (some (⟨1001, 0, none⟩ : Addr)) m m)) (
      cond (veq 8 (Value.slice (some (⟨1001, 0, none⟩ : Addr)) m m) (Value.slice (some (⟨1001, 0, none⟩ : Addr)) m m)) (
       cond (List.all cs (af 8) && true) (
        some (.normal, ([(.string (ofCells cs))], [some (.row ⟨[(.pointer (some ⟨1000, 0, none⟩)), (.slice (some ⟨1001, 0, none⟩) (m) (m))], 79, (0, 0), 0, false, false⟩), some (.row ⟨cs, 5, (0, cs.length), 1, false, false⟩)]))) (
        none)) (
       none)) (
      none)) (
     none))) (
   none)) (
  none) := by kernel_rfl
end Go.Proofs.YtgohnfkidkomhaaDoor

noncomputable section
namespace Go.Proofs.YtgohnfkidkomhaaDoor
open Go.Proofs.YtgohnfkidkomhaaDoor.Ev Go.RowKit

theorem condI {R : Type} {b : Bool} {x y r : Option R} (h : b = true) (k : x = r) : cond b x y = r := by rw [h]; exact k
theorem condE {R : Type} {b : Bool} {x y r : Option R} (h : b = false) (k : y = r) : cond b x y = r := by rw [h]; exact k
abbrev p0 : Value := .pointer (some ⟨1000, 0, none⟩)
def wsG0 (vs : List Value) (rows : List (Option LObj)) (s : ByteArray) : Prop := vs = [p0, .string s] ∧ rows = [b0Row] ∧ 1 ≤ s.size ∧ s.size ≤ 1000000
def wsG1 (vs : List Value) (rows : List (Option LObj)) (s : ByteArray) (m : Nat) (cs : List Value) : Prop := ∃ B : ByteArray, vs = [p0, .string s] ∧ rows = [b1Row 1001 m, bRow cs] ∧ m = B.size ∧ cs = byC B ∧ 1 ≤ s.size ∧ s.size ≤ 1000000 ∧ B.size ≤ 1000000000
def wsH : Hd := fun vs rows => match vs, rows with
  | [_, .string s], [some (.row ⟨[.pointer none, _], _, _, _, _, _⟩)] => some (.br (cl (wsG0 vs rows s)) (.ret (.normal, [.tuple #[.int .i64 (s.size : Int), .nilIface]], [b1Row 1001 s.size, bRow (byC s)])) .fail)
  | [_, .string s], [some (.row ⟨[.pointer (some _), .slice _ m _], _, _, _, _, _⟩), some (.row ⟨cs, _, _, _, _, _⟩)] => some (.br (cl (wsG1 vs rows s m cs)) (.ret (.normal, [.tuple #[.int .i64 (s.size : Int), .nilIface]], [b1Row 1002 (m + s.size), none, bRow (cs ++ byC s)])) .fail)
  | _, _ => none
theorem nbeq_f {a b : Nat} (h : a ≠ b) : Nat.beq a b = false := Bool.eq_false_iff.2 fun e => h (Nat.eq_of_beq_eq_true e)
theorem nble {a b : Nat} (h : a ≤ b) : Nat.ble a b = true := Nat.ble_eq_true_of_le h
theorem andI {a b : Bool} (h : a = true) (k : b = true) : (a && b) = true := by rw [h, k]; rfl
theorem ws_ok {gl : Gl} (hgl : ∀ g k v, gl g k = some v → g < 1000 ∧ lowV 8 v = true) : SubOK Tryd.prog gl 45 wsH := sub_of noSy_ok goodB hgl tglob HB0_ok (L := 100) (G := 40) (d := 40) fun vs rows t r h1 h2 => by
  simp only [wsH] at h1
  split at h1
  · rename_i s _ _ _ _ _ _
    cases h1
    obtain ⟨hg, h3⟩ := brT h2
    obtain ⟨e1, e2, h4, h5⟩ := of_cl hg
    rw [e1, e2]
    refine ⟨show 1001 ≤ most by decide, (r_ws0 gl s).trans ?_⟩
    cases h3
    rw [byC_take]
    refine condI (by rw [byC_len, Nat.mul_one, Nat.beq_refl]) (condI (andI (nble (by omega)) (nble (by omega))) (condE (nbeq_f (by omega)) (condI (andI (byC_all s) rfl) rfl)))
  · rename_i s _ _ m _ _ _ _ _ _ cs _ _ _ _ _
    cases h1
    obtain ⟨hg, h3⟩ := brT h2
    obtain ⟨B, e1, e2, rfl, rfl, h4, h5, h6⟩ := of_cl hg
    rw [e1, e2]
    refine ⟨show 1002 ≤ most by decide, (r_ws1 gl s (byC B) B.size).trans ?_⟩
    cases h3
    rw [byC_take, ← byC_app]
    refine condI (by rw [byC_len, Nat.mul_one, Nat.beq_refl]) (condI (nble (Nat.le_refl _)) (condI (andI (nble (by omega)) (nble (by omega))) (condE (nbeq_f (by omega)) (condI (by rw [byC_len, Nat.mul_one, Nat.beq_refl]) (condI (byC_single s) (condI (andI (byC_all _) rfl) rfl))))))
  · cases h1
def wbG1 (vs : List Value) (rows : List (Option LObj)) (x : Int) (m : Nat) (cs : List Value) : Prop := ∃ B : ByteArray, vs = [p0, .int .u8 x] ∧ rows = [b1Row 1001 m, bRow cs] ∧ m = B.size ∧ cs = byC B ∧ B.size ≤ 1000000000
def wbH : Hd := fun vs rows => match vs, rows with
  | [_, .int .u8 x], [some (.row ⟨[.pointer (some _), .slice _ m _], _, _, _, _, _⟩), some (.row ⟨cs, _, _, _, _, _⟩)] => some (.br (cl (wbG1 vs rows x m cs)) (.ret (.normal, [.nilIface], [b1Row 1002 (m + 1), none, bRow (cs ++ [.int .u8 x])])) .fail)
  | _, _ => none
theorem wb_ok {gl : Gl} (hgl : ∀ g k v, gl g k = some v → g < 1000 ∧ lowV 8 v = true) : SubOK Tryd.prog gl 63 wbH := sub_of noSy_ok goodB hgl tglob HB0_ok (L := 100) (G := 40) (d := 40) fun vs rows t r h1 h2 => by
  simp only [wbH] at h1
  split at h1
  · rename_i x _ _ m _ _ _ _ _ _ cs _ _ _ _ _
    cases h1
    obtain ⟨hg, h3⟩ := brT h2
    obtain ⟨B, e1, e2, rfl, rfl, h6⟩ := of_cl hg
    rw [e1, e2]
    refine ⟨show 1002 ≤ most by decide, (r_wb1 gl x (byC B) B.size).trans ?_⟩
    cases h3
    refine condI (nble (Nat.le_refl _)) (condI (andI (nble (by omega)) (nble (by omega))) (condI (by rw [byC_len, Nat.mul_one, Nat.beq_refl]) (condI (andI (by rw [List.all_append, byC_all]; rfl) rfl) rfl)))
  · cases h1
def bsG1 (vs : List Value) (rows : List (Option LObj)) (m : Nat) (cs : List Value) : Prop := ∃ B : ByteArray, vs = [p0] ∧ rows = [b1Row 1001 m, bRow cs] ∧ m = B.size ∧ cs = byC B ∧ 1 ≤ B.size ∧ B.size ≤ 1000000000
def bfRow (cs : List Value) : Option LObj := some (.row ⟨cs, 5, (0, cs.length), 1, false, false⟩)
def bsH : Hd := fun vs rows => match vs, rows with
  | [_], [some (.row ⟨[.pointer none, _], _, _, _, _, _⟩)] => some (.br (cl (vs = [p0] ∧ rows = [b0Row])) (.ret (.normal, [.string ByteArray.empty], [b0Row])) .fail)
  | [_], [some (.row ⟨[.pointer (some _), .slice _ m _], _, _, _, _, _⟩), some (.row ⟨cs, _, _, _, _, _⟩)] => some (.br (cl (bsG1 vs rows m cs)) (.ret (.normal, [.string (ofCells cs)], [b1Row 1001 m, bfRow cs])) .fail)
  | _, _ => none
theorem veq_sl (i n c : Nat) : veq 8 (.slice (some (⟨i, 0, none⟩ : Addr)) n c) (.slice (some (⟨i, 0, none⟩ : Addr)) n c) = true := by
  simp [veq]
theorem bs_sub {gl : Gl} (hgl : ∀ g k v, gl g k = some v → g < 1000 ∧ lowV 8 v = true) : SubOK Tryd.prog gl 46 bsH := sub_of noSy_ok goodB hgl tglob HB0_ok (L := 100) (G := 40) (d := 40) fun vs rows t r h1 h2 => by
  simp only [bsH] at h1
  split at h1
  · cases h1
    obtain ⟨hg, h3⟩ := brT h2
    obtain ⟨e1, e2⟩ := of_cl hg
    rw [e1, e2]
    cases h3
    exact ⟨show 1001 ≤ most by decide, r_bs0 gl⟩
  · rename_i _ m _ _ _ _ _ _ cs _ _ _ _ _
    cases h1
    obtain ⟨hg, h3⟩ := brT h2
    obtain ⟨B, e1, e2, rfl, rfl, h4, h5⟩ := of_cl hg
    rw [e1, e2]
    refine ⟨show 1002 ≤ most by decide, (r_bs1 gl (byC B) B.size).trans ?_⟩
    cases h3
    simp only [qs_eq]
    have hb : (bytesV (byC B)).isSome = true := by unfold byC; rw [bytesV_all]; rfl
    refine condI (andI (nble h4) (nble h4)) (condI (andI (andI (andI (andI (decide_eq_true (by rw [byC_len])) (nble (by rw [byC_len]; exact h4))) (nble (by rw [byC_len]; unfold most; omega))) (nble (Nat.le_refl _))) hb) (condI (veq_sl _ _ _) (condI (veq_sl _ _ _) (condI (veq_sl _ _ _) (condI (andI (byC_all _) rfl) rfl)))))
  · cases h1
end Go.Proofs.YtgohnfkidkomhaaDoor

noncomputable section
namespace Go.Proofs.YtgohnfkidkomhaaDoor
open Go.Proofs.YtgohnfkidkomhaaDoor.Ev Go.RowKit

/-! token.Text: its loop. -/
def afItoa (it : Int → ByteArray) : AF := fun args _ => match args with
  | [.int .i64 n] => some (decide (-9223372036854775808 ≤ n) && decide (n ≤ 9223372036854775807), .string (it n))
  | _ => none
def H21 (it : Int → ByteArray) (rg : ByteArray → Int) : Hs := hsOf ((62, afItoa it) :: (54, afReg rg) :: afs1) [(45, wsH), (63, wbH)] [(51, [(0, ⟨runLive, runOut, runH⟩)])]
def txLive : List Nat := [12, 4, 10, 11, 2, 3]
def txOut : List Nat := [4, 2, 3]
def txSt0 (off n c : Nat) : LSt := ([.int .i64 0, p0, .slice (some ⟨902, off, none⟩) n c, .int .i64 (n : Int), .string ⟨#[]⟩, .int .i64 0], [b0Row])
def txSt1 (i : Int) (off n c : Nat) (bs : List Value) (m : Nat) : LSt := ([.int .i64 i, p0, .slice (some ⟨902, off, none⟩) n c, .int .i64 (n : Int), .string ⟨#[]⟩, .int .i64 0], [b1Row 1001 m, bRow bs])
set_option maxRecDepth 100000 in
theorem r_tx0 (gl : Gl) (it : Int → ByteArray) (rg : ByteArray → Int) (off n c : Nat) (cs : List Value) : roundK (syK 902 off cs) Tryd.prog (glK gl 902 off cs) exB (H21 it rg) 100 40 40 29 0 txLive (txSt0 off n c) (rndK Tryd.prog 1001 txLive txOut) =
 cond (decide (0 < (↑n : Int))) (
  cond (decide (0 < (↑n : Int)) && (n.ble c)) (
   cond ((symK off cs).okI IntKind.u8 (off + 0 + 0) && ((symK off cs).okS (off + 0 + 1) && ((symK off cs).okI IntKind.i64 (off + 0 + 2) && ((symK off cs).okI IntKind.i64 (off + 0 + 3) && true)))) (
    cond ((symK off cs).int IntKind.u8 (off + 0 + 0) == 1) (
     cond (veq 8 (Value.string ((symK off cs).str (off + 0 + 1))) (Value.string ((symK off cs).str (off + 0 + 1)))) (
      cond (veq 8 (Value.string ((symK off cs).str (off + 0 + 1))) (Value.string ((symK off cs).str (off + 0 + 1)))) (
       cond (((symK off cs).str (off + 0 + 1)).toList == (⟨#[]⟩ : ByteArray).toList) (
        some (.inr (.ret, ([(.pointer (some ⟨1000, 0, none⟩)), (.string ((⟨#[]⟩ : ByteArray))), (.int IntKind.i64 2)], [some (.row ⟨[(.pointer none), (.slice none 0 0)], 79, (0, 0), 0, false, false⟩)])))) (
        cond (decide (0 < (↑((symK off cs).str (off + 0 + 1)).size : Int))) (
         cond (letterB (byteAt ((symK off cs).str (off + 0 + 1)) 0)) (
          cond (decide (((symK off cs).str (off + 0 + 1)).size ≤ 1000000)) (
           cond (IntKind.i64.wrap (runE partB ((symK off cs).str (off + 0 + 1)) 0 - 0) != (↑((symK off cs).str (off + 0 + 1)).size : Int)) (
            some (.inr (.ret, ([(.pointer (some ⟨1000, 0, none⟩)), (.string ((⟨#[]⟩ : ByteArray))), (.int IntKind.i64 2)], [some (.row ⟨[(.pointer none), (.slice none 0 0)], 79, (0, 0), 0, false, false⟩)])))) (
            cond (decide (((symK off cs).str (off + 0 + 1)).size ≤ 1000000)) (
             cond (decide (rg ((symK off cs).str (off + 0 + 1)) ≥ 0)) (
              some (.inr (.ret, ([(.pointer (some ⟨1000, 0, none⟩)), (.string ((⟨#[]⟩ : ByteArray))), (.int IntKind.i64 2)], [some (.row ⟨[(.pointer none), (.slice none 0 0)], 79, (0, 0), 0, false, false⟩)])))) (
              cond (!((symK off cs).int IntKind.u8 (off + 0 + 0) == (symK off cs).int IntKind.u8 (off + 0 + 0) &&     ((symK off cs).str (off + 0 + 1) == (symK off cs).str (off + 0 + 1) &&       ((symK off cs).int IntKind.i64 (off + 0 + 2) == 0 &&         ((symK off cs).int IntKind.i64 (off + 0 + 3) == (symK off cs).int IntKind.i64 (off + 0 + 3) && true))))) (
               some (.inr (.ret, ([(.pointer (some ⟨1000, 0, none⟩)), (.string ((⟨#[]⟩ : ByteArray))), (.int IntKind.i64 2)], [some (.row ⟨[(.pointer none), (.slice none 0 0)], 79, (0, 0), 0, false, false⟩)])))) (
               cond (cl   (wsG0 [Value.pointer (some (⟨1000, 0, none⟩ : Addr)), Value.string ((symK off cs).str (off + 0 + 1))]     [some         (LObj.row           { cells := [Value.pointer none, Value.slice none 0 0], elem := 79, fz := (0, 0), esz := 0, ro := false,             tail := false })]     ((symK off cs).str (off + 0 + 1)))) (
                cond (List.all (byC ((symK off cs).str (off + 0 + 1))) (af 8) && true) (
                 cond (List.all (byC ((symK off cs).str (off + 0 + 1))) (af 8) && true) (
                  some (.inl ([(.int IntKind.i64 1), (.pointer (some ⟨1000, 0, none⟩)), (.slice (some ⟨902, (off), none⟩) (n) (c)), (.int IntKind.i64 ((↑n : Int))), (.string ((⟨#[]⟩ : ByteArray))), (.int IntKind.i64 0)], [some (.row ⟨[(.pointer (some ⟨1000, 0, none⟩)), (.slice (some ⟨1001, 0, none⟩) (((symK off cs).str (off + 0 + 1)).size) (((symK off cs).str (off + 0 + 1)).size))], 79, (0, 0), 0, false, false⟩), some (.row ⟨(byC ((symK off cs).str (off + 0 + 1))), 5, (0, 0), 1, false, false⟩)]))) (
                  none)) (
                 none)) (
                none)))) (
             none))) (
           none)) (
          some (.inr (.ret, ([(.pointer (some ⟨1000, 0, none⟩)), (.string ((⟨#[]⟩ : ByteArray))), (.int IntKind.i64 2)], [some (.row ⟨[(.pointer none), (.slice none 0 0)], 79, (0, 0), 0, false, false⟩)]))))) (
         none))) (
       none)) (
      none)) (
     cond ((symK off cs).int IntKind.u8 (off + 0 + 0) == 2) (
      cond (decide (-9223372036854775808 ≤ (symK off cs).int IntKind.i64 (off + 0 + 2)) && (decide ((symK off cs).int IntKind.i64 (off + 0 + 2) ≤ 9223372036854775807))) (
       cond ((1 + (it ((symK off cs).int IntKind.i64 (off + 0 + 2))).size).ble 9223372036854775807) (
        qs [(symK off cs).int IntKind.i64 (off + 0 + (1 + 1)), (symK off cs).int IntKind.i64 (off + 0 + (1 + 1)), (symK off cs).int IntKind.i64 (off + 0 + (1 + 1))] (
         cond (decide ((symK off cs).int IntKind.i64 (off + 0 + 2) < 0)) (
          some (.inr (.ret, ([(.pointer (some ⟨1000, 0, none⟩)), (.string ((⟨#[]⟩ : ByteArray))), (.int IntKind.i64 2)], [some (.row ⟨[(.pointer none), (.slice none 0 0)], 79, (0, 0), 0, false, false⟩)])))) (
          cond (decide ((symK off cs).int IntKind.i64 (off + 0 + 2) ≥ 16)) (
           some (.inr (.ret, ([(.pointer (some ⟨1000, 0, none⟩)), (.string ((⟨#[]⟩ : ByteArray))), (.int IntKind.i64 2)], [some (.row ⟨[(.pointer none), (.slice none 0 0)], 79, (0, 0), 0, false, false⟩)])))) (
           cond (!((symK off cs).int IntKind.u8 (off + 0 + 0) == (symK off cs).int IntKind.u8 (off + 0 + 0) &&     ((symK off cs).str (off + 0 + 1) == (⟨#[]⟩ : ByteArray) &&       ((symK off cs).int IntKind.i64 (off + 0 + 2) == (symK off cs).int IntKind.i64 (off + 0 + 2) &&         ((symK off cs).int IntKind.i64 (off + 0 + 3) == (symK off cs).int IntKind.i64 (off + 0 + 3) && true))))) (
            some (.inr (.ret, ([(.pointer (some ⟨1000, 0, none⟩)), (.string ((⟨#[]⟩ : ByteArray))), (.int IntKind.i64 2)], [some (.row ⟨[(.pointer none), (.slice none 0 0)], 79, (0, 0), 0, false, false⟩)])))) (
            cond (cl   (wsG0     [Value.pointer (some (⟨1000, 0, none⟩ : Addr)),       Value.string ((⟨#[114]⟩ : ByteArray) ++ it ((symK off cs).int IntKind.i64 (off + 0 + 2)))]     [some         (LObj.row           { cells := [Value.pointer none, Value.slice none 0 0], elem := 79, fz := (0, 0), esz := 0, ro := false,             tail := false })]     ((⟨#[114]⟩ : ByteArray) ++ it ((symK off cs).int IntKind.i64 (off + 0 + 2))))) (
             cond (List.all (byC ((⟨#[114]⟩ : ByteArray) ++ it ((symK off cs).int IntKind.i64 (off + 0 + 2)))) (af 8) && true) (
              cond (List.all (byC ((⟨#[114]⟩ : ByteArray) ++ it ((symK off cs).int IntKind.i64 (off + 0 + 2)))) (af 8) && true) (
               some (.inl ([(.int IntKind.i64 1), (.pointer (some ⟨1000, 0, none⟩)), (.slice (some ⟨902, (off), none⟩) (n) (c)), (.int IntKind.i64 ((↑n : Int))), (.string ((⟨#[]⟩ : ByteArray))), (.int IntKind.i64 0)], [some (.row ⟨[(.pointer (some ⟨1000, 0, none⟩)), (.slice (some ⟨1001, 0, none⟩) (((⟨#[114]⟩ : ByteArray) ++ it ((symK off cs).int IntKind.i64 (off + 0 + 2))).size) (((⟨#[114]⟩ : ByteArray) ++ it ((symK off cs).int IntKind.i64 (off + 0 + 2))).size))], 79, (0, 0), 0, false, false⟩), some (.row ⟨(byC ((⟨#[114]⟩ : ByteArray) ++ it ((symK off cs).int IntKind.i64 (off + 0 + 2)))), 5, (0, 0), 1, false, false⟩)]))) (
               none)) (
              none)) (
             none)))))) (
        none)) (
       none)) (
      cond ((symK off cs).int IntKind.u8 (off + 0 + 0) == 3) (
       cond (decide (-9223372036854775808 ≤ (symK off cs).int IntKind.i64 (off + 0 + 2)) && (decide ((symK off cs).int IntKind.i64 (off + 0 + 2) ≤ 9223372036854775807))) (
        qs [(symK off cs).int IntKind.i64 (off + 0 + (1 + 1)), (symK off cs).int IntKind.i64 (off + 0 + (1 + 1)), (symK off cs).int IntKind.i64 (off + 0 + (1 + 1))] (
         cond (decide ((symK off cs).int IntKind.i64 (off + 0 + 2) < -4294967296)) (
          some (.inr (.ret, ([(.pointer (some ⟨1000, 0, none⟩)), (.string ((⟨#[]⟩ : ByteArray))), (.int IntKind.i64 2)], [some (.row ⟨[(.pointer none), (.slice none 0 0)], 79, (0, 0), 0, false, false⟩)])))) (
          cond (decide ((symK off cs).int IntKind.i64 (off + 0 + 2) > 4294967296)) (
           some (.inr (.ret, ([(.pointer (some ⟨1000, 0, none⟩)), (.string ((⟨#[]⟩ : ByteArray))), (.int IntKind.i64 2)], [some (.row ⟨[(.pointer none), (.slice none 0 0)], 79, (0, 0), 0, false, false⟩)])))) (
           cond (!((symK off cs).int IntKind.u8 (off + 0 + 0) == (symK off cs).int IntKind.u8 (off + 0 + 0) &&     ((symK off cs).str (off + 0 + 1) == (⟨#[]⟩ : ByteArray) &&       ((symK off cs).int IntKind.i64 (off + 0 + 2) == (symK off cs).int IntKind.i64 (off + 0 + 2) &&         ((symK off cs).int IntKind.i64 (off + 0 + 3) == (symK off cs).int IntKind.i64 (off + 0 + 3) && true))))) (
            some (.inr (.ret, ([(.pointer (some ⟨1000, 0, none⟩)), (.string ((⟨#[]⟩ : ByteArray))), (.int IntKind.i64 2)], [some (.row ⟨[(.pointer none), (.slice none 0 0)], 79, (0, 0), 0, false, false⟩)])))) (
            cond (cl   (wsG0     [Value.pointer (some (⟨1000, 0, none⟩ : Addr)), Value.string (it ((symK off cs).int IntKind.i64 (off + 0 + 2)))]     [some         (LObj.row           { cells := [Value.pointer none, Value.slice none 0 0], elem := 79, fz := (0, 0), esz := 0, ro := false,             tail := false })]     (it ((symK off cs).int IntKind.i64 (off + 0 + 2))))) (
             cond (List.all (byC (it ((symK off cs).int IntKind.i64 (off + 0 + 2)))) (af 8) && true) (
              cond (List.all (byC (it ((symK off cs).int IntKind.i64 (off + 0 + 2)))) (af 8) && true) (
               some (.inl ([(.int IntKind.i64 1), (.pointer (some ⟨1000, 0, none⟩)), (.slice (some ⟨902, (off), none⟩) (n) (c)), (.int IntKind.i64 ((↑n : Int))), (.string ((⟨#[]⟩ : ByteArray))), (.int IntKind.i64 0)], [some (.row ⟨[(.pointer (some ⟨1000, 0, none⟩)), (.slice (some ⟨1001, 0, none⟩) ((it ((symK off cs).int IntKind.i64 (off + 0 + 2))).size) ((it ((symK off cs).int IntKind.i64 (off + 0 + 2))).size))], 79, (0, 0), 0, false, false⟩), some (.row ⟨(byC (it ((symK off cs).int IntKind.i64 (off + 0 + 2)))), 5, (0, 0), 1, false, false⟩)]))) (
               none)) (
              none)) (
             none)))))) (
        none)) (
       cond ((symK off cs).int IntKind.u8 (off + 0 + 0) == 4) (
        cond (!((symK off cs).int IntKind.u8 (off + 0 + 0) == (symK off cs).int IntKind.u8 (off + 0 + 0) &&     ((symK off cs).str (off + 0 + 1) == (⟨#[]⟩ : ByteArray) &&       ((symK off cs).int IntKind.i64 (off + 0 + 2) == 0 &&         ((symK off cs).int IntKind.i64 (off + 0 + 3) == (symK off cs).int IntKind.i64 (off + 0 + 3) && true))))) (
         some (.inr (.ret, ([(.pointer (some ⟨1000, 0, none⟩)), (.string ((⟨#[]⟩ : ByteArray))), (.int IntKind.i64 2)], [some (.row ⟨[(.pointer none), (.slice none 0 0)], 79, (0, 0), 0, false, false⟩)])))) (
         cond (cl   (wsG0 [Value.pointer (some (⟨1000, 0, none⟩ : Addr)), Value.string (⟨#[44]⟩ : ByteArray)]     [some         (LObj.row           { cells := [Value.pointer none, Value.slice none 0 0], elem := 79, fz := (0, 0), esz := 0, ro := false,             tail := false })]     (⟨#[44]⟩ : ByteArray))) (
          some (.inl ([(.int IntKind.i64 1), (.pointer (some ⟨1000, 0, none⟩)), (.slice (some ⟨902, (off), none⟩) (n) (c)), (.int IntKind.i64 ((↑n : Int))), (.string ((⟨#[]⟩ : ByteArray))), (.int IntKind.i64 0)], [some (.row ⟨[(.pointer (some ⟨1000, 0, none⟩)), (.slice (some ⟨1001, 0, none⟩) 1 1)], 79, (0, 0), 0, false, false⟩), some (.row ⟨[(.int IntKind.u8 44)], 5, (0, 0), 1, false, false⟩)]))) (
          none))) (
        cond ((symK off cs).int IntKind.u8 (off + 0 + 0) == 5) (
         cond (!((symK off cs).int IntKind.u8 (off + 0 + 0) == (symK off cs).int IntKind.u8 (off + 0 + 0) &&     ((symK off cs).str (off + 0 + 1) == (⟨#[]⟩ : ByteArray) &&       ((symK off cs).int IntKind.i64 (off + 0 + 2) == 0 &&         ((symK off cs).int IntKind.i64 (off + 0 + 3) == (symK off cs).int IntKind.i64 (off + 0 + 3) && true))))) (
          some (.inr (.ret, ([(.pointer (some ⟨1000, 0, none⟩)), (.string ((⟨#[]⟩ : ByteArray))), (.int IntKind.i64 2)], [some (.row ⟨[(.pointer none), (.slice none 0 0)], 79, (0, 0), 0, false, false⟩)])))) (
          cond (cl   (wsG0 [Value.pointer (some (⟨1000, 0, none⟩ : Addr)), Value.string (⟨#[58]⟩ : ByteArray)]     [some         (LObj.row           { cells := [Value.pointer none, Value.slice none 0 0], elem := 79, fz := (0, 0), esz := 0, ro := false,             tail := false })]     (⟨#[58]⟩ : ByteArray))) (
           some (.inl ([(.int IntKind.i64 1), (.pointer (some ⟨1000, 0, none⟩)), (.slice (some ⟨902, (off), none⟩) (n) (c)), (.int IntKind.i64 ((↑n : Int))), (.string ((⟨#[]⟩ : ByteArray))), (.int IntKind.i64 0)], [some (.row ⟨[(.pointer (some ⟨1000, 0, none⟩)), (.slice (some ⟨1001, 0, none⟩) 1 1)], 79, (0, 0), 0, false, false⟩), some (.row ⟨[(.int IntKind.u8 58)], 5, (0, 0), 1, false, false⟩)]))) (
           none))) (
         some (.inr (.ret, ([(.pointer (some ⟨1000, 0, none⟩)), (.string ((⟨#[]⟩ : ByteArray))), (.int IntKind.i64 2)], [some (.row ⟨[(.pointer none), (.slice none 0 0)], 79, (0, 0), 0, false, false⟩)]))))))))) (
    none)) (
   none)) (
  some (.inr (.exit 0, ([(.pointer (some ⟨1000, 0, none⟩)), (.string ((⟨#[]⟩ : ByteArray))), (.int IntKind.i64 0)], [some (.row ⟨[(.pointer none), (.slice none 0 0)], 79, (0, 0), 0, false, false⟩)])))) := by kernel_rfl
set_option maxRecDepth 100000 in
theorem r_tx1 (gl : Gl) (it : Int → ByteArray) (rg : ByteArray → Int) (i : Int) (off n c : Nat) (cs : List Value) (bs : List Value) (m : Nat) : roundK (syK 902 off cs) Tryd.prog (glK gl 902 off cs) exB (H21 it rg) 100 40 40 29 0 txLive (txSt1 i off n c bs m) (rndK Tryd.prog 1001 txLive txOut) =
 cond (decide (i < (↑n : Int))) (
  cond (decide (0 ≤ i) && (decide (i < (↑n : Int))) && (n.ble c)) (
   cond ((symK off cs).okI IntKind.u8 (off + i.toNat * 4 + 0) && ((symK off cs).okS (off + i.toNat * 4 + 1) && ((symK off cs).okI IntKind.i64 (off + i.toNat * 4 + 2) && ((symK off cs).okI IntKind.i64 (off + i.toNat * 4 + 3) && true)))) (
    cond (decide (i > 0)) (
     cond ((symK off cs).int IntKind.u8 (off + i.toNat * 4 + 0) == 1) (
      cond (veq 8 (Value.string ((symK off cs).str (off + i.toNat * 4 + 1)))   (Value.string ((symK off cs).str (off + i.toNat * 4 + 1)))) (
       cond (veq 8 (Value.string ((symK off cs).str (off + i.toNat * 4 + 1)))   (Value.string ((symK off cs).str (off + i.toNat * 4 + 1)))) (
        cond (((symK off cs).str (off + i.toNat * 4 + 1)).toList == (⟨#[]⟩ : ByteArray).toList) (
         cond (List.all bs (af 8) && true) (
          some (.inr (.ret, ([(.pointer (some ⟨1000, 0, none⟩)), (.string ((⟨#[]⟩ : ByteArray))), (.int IntKind.i64 2)], [some (.row ⟨[(.pointer (some ⟨1000, 0, none⟩)), (.slice (some ⟨1001, 0, none⟩) (m) (m))], 79, (0, 0), 0, false, false⟩), some (.row ⟨bs, 5, (0, 0), 1, false, false⟩)])))) (
          none)) (
         cond (decide (0 < (↑((symK off cs).str (off + i.toNat * 4 + 1)).size : Int))) (
          cond (letterB (byteAt ((symK off cs).str (off + i.toNat * 4 + 1)) 0)) (
           cond (decide (((symK off cs).str (off + i.toNat * 4 + 1)).size ≤ 1000000)) (
            cond (IntKind.i64.wrap (runE partB ((symK off cs).str (off + i.toNat * 4 + 1)) 0 - 0) !=   (↑((symK off cs).str (off + i.toNat * 4 + 1)).size : Int)) (
             cond (List.all bs (af 8) && true) (
              some (.inr (.ret, ([(.pointer (some ⟨1000, 0, none⟩)), (.string ((⟨#[]⟩ : ByteArray))), (.int IntKind.i64 2)], [some (.row ⟨[(.pointer (some ⟨1000, 0, none⟩)), (.slice (some ⟨1001, 0, none⟩) (m) (m))], 79, (0, 0), 0, false, false⟩), some (.row ⟨bs, 5, (0, 0), 1, false, false⟩)])))) (
              none)) (
             cond (decide (((symK off cs).str (off + i.toNat * 4 + 1)).size ≤ 1000000)) (
              cond (decide (rg ((symK off cs).str (off + i.toNat * 4 + 1)) ≥ 0)) (
               cond (List.all bs (af 8) && true) (
                some (.inr (.ret, ([(.pointer (some ⟨1000, 0, none⟩)), (.string ((⟨#[]⟩ : ByteArray))), (.int IntKind.i64 2)], [some (.row ⟨[(.pointer (some ⟨1000, 0, none⟩)), (.slice (some ⟨1001, 0, none⟩) (m) (m))], 79, (0, 0), 0, false, false⟩), some (.row ⟨bs, 5, (0, 0), 1, false, false⟩)])))) (
                none)) (
               cond (!((symK off cs).int IntKind.u8 (off + i.toNat * 4 + 0) == (symK off cs).int IntKind.u8 (off + i.toNat * 4 + 0) &&     ((symK off cs).str (off + i.toNat * 4 + 1) == (symK off cs).str (off + i.toNat * 4 + 1) &&       ((symK off cs).int IntKind.i64 (off + i.toNat * 4 + 2) == 0 &&         ((symK off cs).int IntKind.i64 (off + i.toNat * 4 + 3) ==             (symK off cs).int IntKind.i64 (off + i.toNat * 4 + 3) &&           true))))) (
                cond (List.all bs (af 8) && true) (
                 some (.inr (.ret, ([(.pointer (some ⟨1000, 0, none⟩)), (.string ((⟨#[]⟩ : ByteArray))), (.int IntKind.i64 2)], [some (.row ⟨[(.pointer (some ⟨1000, 0, none⟩)), (.slice (some ⟨1001, 0, none⟩) (m) (m))], 79, (0, 0), 0, false, false⟩), some (.row ⟨bs, 5, (0, 0), 1, false, false⟩)])))) (
                 none)) (
                cond (List.all bs (af 8) && true) (
                 cond (cl   (wbG1 [Value.pointer (some (⟨1000, 0, none⟩ : Addr)), Value.int IntKind.u8 32]     [some         (LObj.row           {             cells :=               [Value.pointer (some (⟨1000, 0, none⟩ : Addr)), Value.slice (some (⟨1001, 0, none⟩ : Addr)) m m],             elem := 79, fz := (0, 0), esz := 0, ro := false, tail := false }),       some (LObj.row { cells := bs, elem := 5, fz := (0, 0), esz := 1, ro := false, tail := false })]     32 m bs)) (
                  cond (List.all (bs ++ [(.int IntKind.u8 32)]) (af 8) && true) (
                   cond (List.all (bs ++ [(.int IntKind.u8 32)]) (af 8) && true) (
                    cond (cl   (wsG1 [Value.pointer (some (⟨1000, 0, none⟩ : Addr)), Value.string ((symK off cs).str (off + i.toNat * 4 + 1))]     [some         (LObj.row           {             cells :=               [Value.pointer (some (⟨1000, 0, none⟩ : Addr)),                 Value.slice (some (⟨1001, 0, none⟩ : Addr)) (m + 1) (m + 1)],             elem := 79, fz := (0, 0), esz := 0, ro := false, tail := false }),       some         (LObj.row           { cells := bs ++ [Value.int IntKind.u8 32], elem := 5, fz := (0, 0), esz := 1, ro := false, tail := false })]     ((symK off cs).str (off + i.toNat * 4 + 1)) (m + 1) (bs ++ [Value.int IntKind.u8 32]))) (
                     cond (List.all ((bs ++ [(.int IntKind.u8 32)]) ++ (byC ((symK off cs).str (off + i.toNat * 4 + 1)))) (af 8) && true) (
                      cond (List.all ((bs ++ [(.int IntKind.u8 32)]) ++ (byC ((symK off cs).str (off + i.toNat * 4 + 1)))) (af 8) && true) (
                       some (.inl ([(.int IntKind.i64 (IntKind.i64.wrap (i + 1))), (.pointer (some ⟨1000, 0, none⟩)), (.slice (some ⟨902, (off), none⟩) (n) (c)), (.int IntKind.i64 ((↑n : Int))), (.string ((⟨#[]⟩ : ByteArray))), (.int IntKind.i64 0)], [some (.row ⟨[(.pointer (some ⟨1000, 0, none⟩)), (.slice (some ⟨1001, 0, none⟩) (m + 1 + ((symK off cs).str (off + i.toNat * 4 + 1)).size) (m + 1 + ((symK off cs).str (off + i.toNat * 4 + 1)).size))], 79, (0, 0), 0, false, false⟩), some (.row ⟨((bs ++ [(.int IntKind.u8 32)]) ++ (byC ((symK off cs).str (off + i.toNat * 4 + 1)))), 5, (0, 0), 1, false, false⟩)]))) (
                       none)) (
                      none)) (
                     none)) (
                    none)) (
                   none)) (
                  none)) (
                 none)))) (
              none))) (
            none)) (
           cond (List.all bs (af 8) && true) (
            some (.inr (.ret, ([(.pointer (some ⟨1000, 0, none⟩)), (.string ((⟨#[]⟩ : ByteArray))), (.int IntKind.i64 2)], [some (.row ⟨[(.pointer (some ⟨1000, 0, none⟩)), (.slice (some ⟨1001, 0, none⟩) (m) (m))], 79, (0, 0), 0, false, false⟩), some (.row ⟨bs, 5, (0, 0), 1, false, false⟩)])))) (
            none))) (
          none))) (
        none)) (
       none)) (
      cond ((symK off cs).int IntKind.u8 (off + i.toNat * 4 + 0) == 2) (
       cond (decide (-9223372036854775808 ≤ (symK off cs).int IntKind.i64 (off + i.toNat * 4 + 2)) && (decide ((symK off cs).int IntKind.i64 (off + i.toNat * 4 + 2) ≤ 9223372036854775807))) (
        cond ((1 + (it ((symK off cs).int IntKind.i64 (off + i.toNat * 4 + 2))).size).ble 9223372036854775807) (
         qs [(symK off cs).int IntKind.i64 (off + i.toNat * 4 + (1 + 1)), (symK off cs).int IntKind.i64 (off + i.toNat * 4 + (1 + 1)), (symK off cs).int IntKind.i64 (off + i.toNat * 4 + (1 + 1))] (
          cond (decide ((symK off cs).int IntKind.i64 (off + i.toNat * 4 + 2) < 0)) (
           cond (List.all bs (af 8) && true) (
            some (.inr (.ret, ([(.pointer (some ⟨1000, 0, none⟩)), (.string ((⟨#[]⟩ : ByteArray))), (.int IntKind.i64 2)], [some (.row ⟨[(.pointer (some ⟨1000, 0, none⟩)), (.slice (some ⟨1001, 0, none⟩) (m) (m))], 79, (0, 0), 0, false, false⟩), some (.row ⟨bs, 5, (0, 0), 1, false, false⟩)])))) (
            none)) (
           cond (decide ((symK off cs).int IntKind.i64 (off + i.toNat * 4 + 2) ≥ 16)) (
            cond (List.all bs (af 8) && true) (
             some (.inr (.ret, ([(.pointer (some ⟨1000, 0, none⟩)), (.string ((⟨#[]⟩ : ByteArray))), (.int IntKind.i64 2)], [some (.row ⟨[(.pointer (some ⟨1000, 0, none⟩)), (.slice (some ⟨1001, 0, none⟩) (m) (m))], 79, (0, 0), 0, false, false⟩), some (.row ⟨bs, 5, (0, 0), 1, false, false⟩)])))) (
             none)) (
            cond (!((symK off cs).int IntKind.u8 (off + i.toNat * 4 + 0) == (symK off cs).int IntKind.u8 (off + i.toNat * 4 + 0) &&     ((symK off cs).str (off + i.toNat * 4 + 1) == (⟨#[]⟩ : ByteArray) &&       ((symK off cs).int IntKind.i64 (off + i.toNat * 4 + 2) == (symK off cs).int IntKind.i64 (off + i.toNat * 4 + 2) &&         ((symK off cs).int IntKind.i64 (off + i.toNat * 4 + 3) ==             (symK off cs).int IntKind.i64 (off + i.toNat * 4 + 3) &&           true))))) (
             cond (List.all bs (af 8) && true) (
              some (.inr (.ret, ([(.pointer (some ⟨1000, 0, none⟩)), (.string ((⟨#[]⟩ : ByteArray))), (.int IntKind.i64 2)], [some (.row ⟨[(.pointer (some ⟨1000, 0, none⟩)), (.slice (some ⟨1001, 0, none⟩) (m) (m))], 79, (0, 0), 0, false, false⟩), some (.row ⟨bs, 5, (0, 0), 1, false, false⟩)])))) (
              none)) (
             cond (List.all bs (af 8) && true) (
              cond (cl   (wbG1 [Value.pointer (some (⟨1000, 0, none⟩ : Addr)), Value.int IntKind.u8 32]     [some         (LObj.row           {             cells :=               [Value.pointer (some (⟨1000, 0, none⟩ : Addr)), Value.slice (some (⟨1001, 0, none⟩ : Addr)) m m],             elem := 79, fz := (0, 0), esz := 0, ro := false, tail := false }),       some (LObj.row { cells := bs, elem := 5, fz := (0, 0), esz := 1, ro := false, tail := false })]     32 m bs)) (
               cond (List.all (bs ++ [(.int IntKind.u8 32)]) (af 8) && true) (
                cond (List.all (bs ++ [(.int IntKind.u8 32)]) (af 8) && true) (
                 cond (cl   (wsG1     [Value.pointer (some (⟨1000, 0, none⟩ : Addr)),       Value.string ((⟨#[114]⟩ : ByteArray) ++ it ((symK off cs).int IntKind.i64 (off + i.toNat * 4 + 2)))]     [some         (LObj.row           {             cells :=               [Value.pointer (some (⟨1000, 0, none⟩ : Addr)),                 Value.slice (some (⟨1001, 0, none⟩ : Addr)) (m + 1) (m + 1)],             elem := 79, fz := (0, 0), esz := 0, ro := false, tail := false }),       some         (LObj.row           { cells := bs ++ [Value.int IntKind.u8 32], elem := 5, fz := (0, 0), esz := 1, ro := false, tail := false })]     ((⟨#[114]⟩ : ByteArray) ++ it ((symK off cs).int IntKind.i64 (off + i.toNat * 4 + 2))) (m + 1)     (bs ++ [Value.int IntKind.u8 32]))) (
                  cond (List.all ((bs ++ [(.int IntKind.u8 32)]) ++ (byC ((⟨#[114]⟩ : ByteArray) ++ it ((symK off cs).int IntKind.i64 (off + i.toNat * 4 + 2))))) (af 8) && true) (
                   cond (List.all ((bs ++ [(.int IntKind.u8 32)]) ++ (byC ((⟨#[114]⟩ : ByteArray) ++ it ((symK off cs).int IntKind.i64 (off + i.toNat * 4 + 2))))) (af 8) && true) (
                    some (.inl ([(.int IntKind.i64 (IntKind.i64.wrap (i + 1))), (.pointer (some ⟨1000, 0, none⟩)), (.slice (some ⟨902, (off), none⟩) (n) (c)), (.int IntKind.i64 ((↑n : Int))), (.string ((⟨#[]⟩ : ByteArray))), (.int IntKind.i64 0)], [some (.row ⟨[(.pointer (some ⟨1000, 0, none⟩)), (.slice (some ⟨1001, 0, none⟩) (m + 1 + ((⟨#[114]⟩ : ByteArray) ++ it ((symK off cs).int IntKind.i64 (off + i.toNat * 4 + 2))).size) (m + 1 + ((⟨#[114]⟩ : ByteArray) ++ it ((symK off cs).int IntKind.i64 (off + i.toNat * 4 + 2))).size))], 79, (0, 0), 0, false, false⟩), some (.row ⟨((bs ++ [(.int IntKind.u8 32)]) ++ (byC ((⟨#[114]⟩ : ByteArray) ++ it ((symK off cs).int IntKind.i64 (off + i.toNat * 4 + 2))))), 5, (0, 0), 1, false, false⟩)]))) (
                    none)) (
                   none)) (
                  none)) (
                 none)) (
                none)) (
               none)) (
              none)))))) (
         none)) (
        none)) (
       cond ((symK off cs).int IntKind.u8 (off + i.toNat * 4 + 0) == 3) (
        cond (decide (-9223372036854775808 ≤ (symK off cs).int IntKind.i64 (off + i.toNat * 4 + 2)) && (decide ((symK off cs).int IntKind.i64 (off + i.toNat * 4 + 2) ≤ 9223372036854775807))) (
         qs [(symK off cs).int IntKind.i64 (off + i.toNat * 4 + (1 + 1)), (symK off cs).int IntKind.i64 (off + i.toNat * 4 + (1 + 1)), (symK off cs).int IntKind.i64 (off + i.toNat * 4 + (1 + 1))] (
          cond (decide ((symK off cs).int IntKind.i64 (off + i.toNat * 4 + 2) < -4294967296)) (
           cond (List.all bs (af 8) && true) (
            some (.inr (.ret, ([(.pointer (some ⟨1000, 0, none⟩)), (.string ((⟨#[]⟩ : ByteArray))), (.int IntKind.i64 2)], [some (.row ⟨[(.pointer (some ⟨1000, 0, none⟩)), (.slice (some ⟨1001, 0, none⟩) (m) (m))], 79, (0, 0), 0, false, false⟩), some (.row ⟨bs, 5, (0, 0), 1, false, false⟩)])))) (
            none)) (
           cond (decide ((symK off cs).int IntKind.i64 (off + i.toNat * 4 + 2) > 4294967296)) (
            cond (List.all bs (af 8) && true) (
             some (.inr (.ret, ([(.pointer (some ⟨1000, 0, none⟩)), (.string ((⟨#[]⟩ : ByteArray))), (.int IntKind.i64 2)], [some (.row ⟨[(.pointer (some ⟨1000, 0, none⟩)), (.slice (some ⟨1001, 0, none⟩) (m) (m))], 79, (0, 0), 0, false, false⟩), some (.row ⟨bs, 5, (0, 0), 1, false, false⟩)])))) (
             none)) (
            cond (!((symK off cs).int IntKind.u8 (off + i.toNat * 4 + 0) == (symK off cs).int IntKind.u8 (off + i.toNat * 4 + 0) &&     ((symK off cs).str (off + i.toNat * 4 + 1) == (⟨#[]⟩ : ByteArray) &&       ((symK off cs).int IntKind.i64 (off + i.toNat * 4 + 2) == (symK off cs).int IntKind.i64 (off + i.toNat * 4 + 2) &&         ((symK off cs).int IntKind.i64 (off + i.toNat * 4 + 3) ==             (symK off cs).int IntKind.i64 (off + i.toNat * 4 + 3) &&           true))))) (
             cond (List.all bs (af 8) && true) (
              some (.inr (.ret, ([(.pointer (some ⟨1000, 0, none⟩)), (.string ((⟨#[]⟩ : ByteArray))), (.int IntKind.i64 2)], [some (.row ⟨[(.pointer (some ⟨1000, 0, none⟩)), (.slice (some ⟨1001, 0, none⟩) (m) (m))], 79, (0, 0), 0, false, false⟩), some (.row ⟨bs, 5, (0, 0), 1, false, false⟩)])))) (
              none)) (
             cond (List.all bs (af 8) && true) (
              cond (cl   (wbG1 [Value.pointer (some (⟨1000, 0, none⟩ : Addr)), Value.int IntKind.u8 32]     [some         (LObj.row           {             cells :=               [Value.pointer (some (⟨1000, 0, none⟩ : Addr)), Value.slice (some (⟨1001, 0, none⟩ : Addr)) m m],             elem := 79, fz := (0, 0), esz := 0, ro := false, tail := false }),       some (LObj.row { cells := bs, elem := 5, fz := (0, 0), esz := 1, ro := false, tail := false })]     32 m bs)) (
               cond (List.all (bs ++ [(.int IntKind.u8 32)]) (af 8) && true) (
                cond (List.all (bs ++ [(.int IntKind.u8 32)]) (af 8) && true) (
                 cond (cl   (wsG1     [Value.pointer (some (⟨1000, 0, none⟩ : Addr)),       Value.string (it ((symK off cs).int IntKind.i64 (off + i.toNat * 4 + 2)))]     [some         (LObj.row           {             cells :=               [Value.pointer (some (⟨1000, 0, none⟩ : Addr)),                 Value.slice (some (⟨1001, 0, none⟩ : Addr)) (m + 1) (m + 1)],             elem := 79, fz := (0, 0), esz := 0, ro := false, tail := false }),       some         (LObj.row           { cells := bs ++ [Value.int IntKind.u8 32], elem := 5, fz := (0, 0), esz := 1, ro := false, tail := false })]     (it ((symK off cs).int IntKind.i64 (off + i.toNat * 4 + 2))) (m + 1) (bs ++ [Value.int IntKind.u8 32]))) (
                  cond (List.all ((bs ++ [(.int IntKind.u8 32)]) ++ (byC (it ((symK off cs).int IntKind.i64 (off + i.toNat * 4 + 2))))) (af 8) && true) (
                   cond (List.all ((bs ++ [(.int IntKind.u8 32)]) ++ (byC (it ((symK off cs).int IntKind.i64 (off + i.toNat * 4 + 2))))) (af 8) && true) (
                    some (.inl ([(.int IntKind.i64 (IntKind.i64.wrap (i + 1))), (.pointer (some ⟨1000, 0, none⟩)), (.slice (some ⟨902, (off), none⟩) (n) (c)), (.int IntKind.i64 ((↑n : Int))), (.string ((⟨#[]⟩ : ByteArray))), (.int IntKind.i64 0)], [some (.row ⟨[(.pointer (some ⟨1000, 0, none⟩)), (.slice (some ⟨1001, 0, none⟩) (m + 1 + (it ((symK off cs).int IntKind.i64 (off + i.toNat * 4 + 2))).size) (m + 1 + (it ((symK off cs).int IntKind.i64 (off + i.toNat * 4 + 2))).size))], 79, (0, 0), 0, false, false⟩), some (.row ⟨((bs ++ [(.int IntKind.u8 32)]) ++ (byC (it ((symK off cs).int IntKind.i64 (off + i.toNat * 4 + 2))))), 5, (0, 0), 1, false, false⟩)]))) (
                    none)) (
                   none)) (
                  none)) (
                 none)) (
                none)) (
               none)) (
              none)))))) (
         none)) (
        cond ((symK off cs).int IntKind.u8 (off + i.toNat * 4 + 0) == 4) (
         cond (!((symK off cs).int IntKind.u8 (off + i.toNat * 4 + 0) == (symK off cs).int IntKind.u8 (off + i.toNat * 4 + 0) &&     ((symK off cs).str (off + i.toNat * 4 + 1) == (⟨#[]⟩ : ByteArray) &&       ((symK off cs).int IntKind.i64 (off + i.toNat * 4 + 2) == 0 &&         ((symK off cs).int IntKind.i64 (off + i.toNat * 4 + 3) ==             (symK off cs).int IntKind.i64 (off + i.toNat * 4 + 3) &&           true))))) (
          cond (List.all bs (af 8) && true) (
           some (.inr (.ret, ([(.pointer (some ⟨1000, 0, none⟩)), (.string ((⟨#[]⟩ : ByteArray))), (.int IntKind.i64 2)], [some (.row ⟨[(.pointer (some ⟨1000, 0, none⟩)), (.slice (some ⟨1001, 0, none⟩) (m) (m))], 79, (0, 0), 0, false, false⟩), some (.row ⟨bs, 5, (0, 0), 1, false, false⟩)])))) (
           none)) (
          cond (List.all bs (af 8) && true) (
           cond (cl   (wsG1 [Value.pointer (some (⟨1000, 0, none⟩ : Addr)), Value.string (⟨#[44]⟩ : ByteArray)]     [some         (LObj.row           {             cells :=               [Value.pointer (some (⟨1000, 0, none⟩ : Addr)), Value.slice (some (⟨1001, 0, none⟩ : Addr)) m m],             elem := 79, fz := (0, 0), esz := 0, ro := false, tail := false }),       some (LObj.row { cells := bs, elem := 5, fz := (0, 0), esz := 1, ro := false, tail := false })]     (⟨#[44]⟩ : ByteArray) m bs)) (
            cond (List.all (bs ++ [(.int IntKind.u8 44)]) (af 8) && true) (
             cond (List.all (bs ++ [(.int IntKind.u8 44)]) (af 8) && true) (
              some (.inl ([(.int IntKind.i64 (IntKind.i64.wrap (i + 1))), (.pointer (some ⟨1000, 0, none⟩)), (.slice (some ⟨902, (off), none⟩) (n) (c)), (.int IntKind.i64 ((↑n : Int))), (.string ((⟨#[]⟩ : ByteArray))), (.int IntKind.i64 0)], [some (.row ⟨[(.pointer (some ⟨1000, 0, none⟩)), (.slice (some ⟨1001, 0, none⟩) (m + 1) (m + 1))], 79, (0, 0), 0, false, false⟩), some (.row ⟨(bs ++ [(.int IntKind.u8 44)]), 5, (0, 0), 1, false, false⟩)]))) (
              none)) (
             none)) (
            none)) (
           none))) (
         cond ((symK off cs).int IntKind.u8 (off + i.toNat * 4 + 0) == 5) (
          cond (!((symK off cs).int IntKind.u8 (off + i.toNat * 4 + 0) == (symK off cs).int IntKind.u8 (off + i.toNat * 4 + 0) &&     ((symK off cs).str (off + i.toNat * 4 + 1) == (⟨#[]⟩ : ByteArray) &&       ((symK off cs).int IntKind.i64 (off + i.toNat * 4 + 2) == 0 &&         ((symK off cs).int IntKind.i64 (off + i.toNat * 4 + 3) ==             (symK off cs).int IntKind.i64 (off + i.toNat * 4 + 3) &&           true))))) (
           cond (List.all bs (af 8) && true) (
            some (.inr (.ret, ([(.pointer (some ⟨1000, 0, none⟩)), (.string ((⟨#[]⟩ : ByteArray))), (.int IntKind.i64 2)], [some (.row ⟨[(.pointer (some ⟨1000, 0, none⟩)), (.slice (some ⟨1001, 0, none⟩) (m) (m))], 79, (0, 0), 0, false, false⟩), some (.row ⟨bs, 5, (0, 0), 1, false, false⟩)])))) (
            none)) (
           cond (List.all bs (af 8) && true) (
            cond (cl   (wsG1 [Value.pointer (some (⟨1000, 0, none⟩ : Addr)), Value.string (⟨#[58]⟩ : ByteArray)]     [some         (LObj.row           {             cells :=               [Value.pointer (some (⟨1000, 0, none⟩ : Addr)), Value.slice (some (⟨1001, 0, none⟩ : Addr)) m m],             elem := 79, fz := (0, 0), esz := 0, ro := false, tail := false }),       some (LObj.row { cells := bs, elem := 5, fz := (0, 0), esz := 1, ro := false, tail := false })]     (⟨#[58]⟩ : ByteArray) m bs)) (
             cond (List.all (bs ++ [(.int IntKind.u8 58)]) (af 8) && true) (
              cond (List.all (bs ++ [(.int IntKind.u8 58)]) (af 8) && true) (
               some (.inl ([(.int IntKind.i64 (IntKind.i64.wrap (i + 1))), (.pointer (some ⟨1000, 0, none⟩)), (.slice (some ⟨902, (off), none⟩) (n) (c)), (.int IntKind.i64 ((↑n : Int))), (.string ((⟨#[]⟩ : ByteArray))), (.int IntKind.i64 0)], [some (.row ⟨[(.pointer (some ⟨1000, 0, none⟩)), (.slice (some ⟨1001, 0, none⟩) (m + 1) (m + 1))], 79, (0, 0), 0, false, false⟩), some (.row ⟨(bs ++ [(.int IntKind.u8 58)]), 5, (0, 0), 1, false, false⟩)]))) (
               none)) (
              none)) (
             none)) (
            none))) (
          cond (List.all bs (af 8) && true) (
           some (.inr (.ret, ([(.pointer (some ⟨1000, 0, none⟩)), (.string ((⟨#[]⟩ : ByteArray))), (.int IntKind.i64 2)], [some (.row ⟨[(.pointer (some ⟨1000, 0, none⟩)), (.slice (some ⟨1001, 0, none⟩) (m) (m))], 79, (0, 0), 0, false, false⟩), some (.row ⟨bs, 5, (0, 0), 1, false, false⟩)])))) (
           none))))))) (
     cond ((symK off cs).int IntKind.u8 (off + i.toNat * 4 + 0) == 1) (
      cond (veq 8 (Value.string ((symK off cs).str (off + i.toNat * 4 + 1)))   (Value.string ((symK off cs).str (off + i.toNat * 4 + 1)))) (
       cond (veq 8 (Value.string ((symK off cs).str (off + i.toNat * 4 + 1)))   (Value.string ((symK off cs).str (off + i.toNat * 4 + 1)))) (
        cond (((symK off cs).str (off + i.toNat * 4 + 1)).toList == (⟨#[]⟩ : ByteArray).toList) (
         cond (List.all bs (af 8) && true) (
          some (.inr (.ret, ([(.pointer (some ⟨1000, 0, none⟩)), (.string ((⟨#[]⟩ : ByteArray))), (.int IntKind.i64 2)], [some (.row ⟨[(.pointer (some ⟨1000, 0, none⟩)), (.slice (some ⟨1001, 0, none⟩) (m) (m))], 79, (0, 0), 0, false, false⟩), some (.row ⟨bs, 5, (0, 0), 1, false, false⟩)])))) (
          none)) (
         cond (decide (0 < (↑((symK off cs).str (off + i.toNat * 4 + 1)).size : Int))) (
          cond (letterB (byteAt ((symK off cs).str (off + i.toNat * 4 + 1)) 0)) (
           cond (decide (((symK off cs).str (off + i.toNat * 4 + 1)).size ≤ 1000000)) (
            cond (IntKind.i64.wrap (runE partB ((symK off cs).str (off + i.toNat * 4 + 1)) 0 - 0) !=   (↑((symK off cs).str (off + i.toNat * 4 + 1)).size : Int)) (
             cond (List.all bs (af 8) && true) (
              some (.inr (.ret, ([(.pointer (some ⟨1000, 0, none⟩)), (.string ((⟨#[]⟩ : ByteArray))), (.int IntKind.i64 2)], [some (.row ⟨[(.pointer (some ⟨1000, 0, none⟩)), (.slice (some ⟨1001, 0, none⟩) (m) (m))], 79, (0, 0), 0, false, false⟩), some (.row ⟨bs, 5, (0, 0), 1, false, false⟩)])))) (
              none)) (
             cond (decide (((symK off cs).str (off + i.toNat * 4 + 1)).size ≤ 1000000)) (
              cond (decide (rg ((symK off cs).str (off + i.toNat * 4 + 1)) ≥ 0)) (
               cond (List.all bs (af 8) && true) (
                some (.inr (.ret, ([(.pointer (some ⟨1000, 0, none⟩)), (.string ((⟨#[]⟩ : ByteArray))), (.int IntKind.i64 2)], [some (.row ⟨[(.pointer (some ⟨1000, 0, none⟩)), (.slice (some ⟨1001, 0, none⟩) (m) (m))], 79, (0, 0), 0, false, false⟩), some (.row ⟨bs, 5, (0, 0), 1, false, false⟩)])))) (
                none)) (
               cond (!((symK off cs).int IntKind.u8 (off + i.toNat * 4 + 0) == (symK off cs).int IntKind.u8 (off + i.toNat * 4 + 0) &&     ((symK off cs).str (off + i.toNat * 4 + 1) == (symK off cs).str (off + i.toNat * 4 + 1) &&       ((symK off cs).int IntKind.i64 (off + i.toNat * 4 + 2) == 0 &&         ((symK off cs).int IntKind.i64 (off + i.toNat * 4 + 3) ==             (symK off cs).int IntKind.i64 (off + i.toNat * 4 + 3) &&           true))))) (
                cond (List.all bs (af 8) && true) (
                 some (.inr (.ret, ([(.pointer (some ⟨1000, 0, none⟩)), (.string ((⟨#[]⟩ : ByteArray))), (.int IntKind.i64 2)], [some (.row ⟨[(.pointer (some ⟨1000, 0, none⟩)), (.slice (some ⟨1001, 0, none⟩) (m) (m))], 79, (0, 0), 0, false, false⟩), some (.row ⟨bs, 5, (0, 0), 1, false, false⟩)])))) (
                 none)) (
                cond (List.all bs (af 8) && true) (
                 cond (cl   (wsG1 [Value.pointer (some (⟨1000, 0, none⟩ : Addr)), Value.string ((symK off cs).str (off + i.toNat * 4 + 1))]     [some         (LObj.row           {             cells :=               [Value.pointer (some (⟨1000, 0, none⟩ : Addr)), Value.slice (some (⟨1001, 0, none⟩ : Addr)) m m],             elem := 79, fz := (0, 0), esz := 0, ro := false, tail := false }),       some (LObj.row { cells := bs, elem := 5, fz := (0, 0), esz := 1, ro := false, tail := false })]     ((symK off cs).str (off + i.toNat * 4 + 1)) m bs)) (
                  cond (List.all (bs ++ (byC ((symK off cs).str (off + i.toNat * 4 + 1)))) (af 8) && true) (
                   cond (List.all (bs ++ (byC ((symK off cs).str (off + i.toNat * 4 + 1)))) (af 8) && true) (
                    some (.inl ([(.int IntKind.i64 (IntKind.i64.wrap (i + 1))), (.pointer (some ⟨1000, 0, none⟩)), (.slice (some ⟨902, (off), none⟩) (n) (c)), (.int IntKind.i64 ((↑n : Int))), (.string ((⟨#[]⟩ : ByteArray))), (.int IntKind.i64 0)], [some (.row ⟨[(.pointer (some ⟨1000, 0, none⟩)), (.slice (some ⟨1001, 0, none⟩) (m + ((symK off cs).str (off + i.toNat * 4 + 1)).size) (m + ((symK off cs).str (off + i.toNat * 4 + 1)).size))], 79, (0, 0), 0, false, false⟩), some (.row ⟨(bs ++ (byC ((symK off cs).str (off + i.toNat * 4 + 1)))), 5, (0, 0), 1, false, false⟩)]))) (
                    none)) (
                   none)) (
                  none)) (
                 none)))) (
              none))) (
            none)) (
           cond (List.all bs (af 8) && true) (
            some (.inr (.ret, ([(.pointer (some ⟨1000, 0, none⟩)), (.string ((⟨#[]⟩ : ByteArray))), (.int IntKind.i64 2)], [some (.row ⟨[(.pointer (some ⟨1000, 0, none⟩)), (.slice (some ⟨1001, 0, none⟩) (m) (m))], 79, (0, 0), 0, false, false⟩), some (.row ⟨bs, 5, (0, 0), 1, false, false⟩)])))) (
            none))) (
          none))) (
        none)) (
       none)) (
      cond ((symK off cs).int IntKind.u8 (off + i.toNat * 4 + 0) == 2) (
       cond (decide (-9223372036854775808 ≤ (symK off cs).int IntKind.i64 (off + i.toNat * 4 + 2)) && (decide ((symK off cs).int IntKind.i64 (off + i.toNat * 4 + 2) ≤ 9223372036854775807))) (
        cond ((1 + (it ((symK off cs).int IntKind.i64 (off + i.toNat * 4 + 2))).size).ble 9223372036854775807) (
         qs [(symK off cs).int IntKind.i64 (off + i.toNat * 4 + (1 + 1)), (symK off cs).int IntKind.i64 (off + i.toNat * 4 + (1 + 1)), (symK off cs).int IntKind.i64 (off + i.toNat * 4 + (1 + 1))] (
          cond (decide ((symK off cs).int IntKind.i64 (off + i.toNat * 4 + 2) < 0)) (
           cond (List.all bs (af 8) && true) (
            some (.inr (.ret, ([(.pointer (some ⟨1000, 0, none⟩)), (.string ((⟨#[]⟩ : ByteArray))), (.int IntKind.i64 2)], [some (.row ⟨[(.pointer (some ⟨1000, 0, none⟩)), (.slice (some ⟨1001, 0, none⟩) (m) (m))], 79, (0, 0), 0, false, false⟩), some (.row ⟨bs, 5, (0, 0), 1, false, false⟩)])))) (
            none)) (
           cond (decide ((symK off cs).int IntKind.i64 (off + i.toNat * 4 + 2) ≥ 16)) (
            cond (List.all bs (af 8) && true) (
             some (.inr (.ret, ([(.pointer (some ⟨1000, 0, none⟩)), (.string ((⟨#[]⟩ : ByteArray))), (.int IntKind.i64 2)], [some (.row ⟨[(.pointer (some ⟨1000, 0, none⟩)), (.slice (some ⟨1001, 0, none⟩) (m) (m))], 79, (0, 0), 0, false, false⟩), some (.row ⟨bs, 5, (0, 0), 1, false, false⟩)])))) (
             none)) (
            cond (!((symK off cs).int IntKind.u8 (off + i.toNat * 4 + 0) == (symK off cs).int IntKind.u8 (off + i.toNat * 4 + 0) &&     ((symK off cs).str (off + i.toNat * 4 + 1) == (⟨#[]⟩ : ByteArray) &&       ((symK off cs).int IntKind.i64 (off + i.toNat * 4 + 2) == (symK off cs).int IntKind.i64 (off + i.toNat * 4 + 2) &&         ((symK off cs).int IntKind.i64 (off + i.toNat * 4 + 3) ==             (symK off cs).int IntKind.i64 (off + i.toNat * 4 + 3) &&           true))))) (
             cond (List.all bs (af 8) && true) (
              some (.inr (.ret, ([(.pointer (some ⟨1000, 0, none⟩)), (.string ((⟨#[]⟩ : ByteArray))), (.int IntKind.i64 2)], [some (.row ⟨[(.pointer (some ⟨1000, 0, none⟩)), (.slice (some ⟨1001, 0, none⟩) (m) (m))], 79, (0, 0), 0, false, false⟩), some (.row ⟨bs, 5, (0, 0), 1, false, false⟩)])))) (
              none)) (
             cond (List.all bs (af 8) && true) (
              cond (cl   (wsG1     [Value.pointer (some (⟨1000, 0, none⟩ : Addr)),       Value.string ((⟨#[114]⟩ : ByteArray) ++ it ((symK off cs).int IntKind.i64 (off + i.toNat * 4 + 2)))]     [some         (LObj.row           {             cells :=               [Value.pointer (some (⟨1000, 0, none⟩ : Addr)), Value.slice (some (⟨1001, 0, none⟩ : Addr)) m m],             elem := 79, fz := (0, 0), esz := 0, ro := false, tail := false }),       some (LObj.row { cells := bs, elem := 5, fz := (0, 0), esz := 1, ro := false, tail := false })]     ((⟨#[114]⟩ : ByteArray) ++ it ((symK off cs).int IntKind.i64 (off + i.toNat * 4 + 2))) m bs)) (
               cond (List.all (bs ++ (byC ((⟨#[114]⟩ : ByteArray) ++ it ((symK off cs).int IntKind.i64 (off + i.toNat * 4 + 2))))) (af 8) && true) (
                cond (List.all (bs ++ (byC ((⟨#[114]⟩ : ByteArray) ++ it ((symK off cs).int IntKind.i64 (off + i.toNat * 4 + 2))))) (af 8) && true) (
                 some (.inl ([(.int IntKind.i64 (IntKind.i64.wrap (i + 1))), (.pointer (some ⟨1000, 0, none⟩)), (.slice (some ⟨902, (off), none⟩) (n) (c)), (.int IntKind.i64 ((↑n : Int))), (.string ((⟨#[]⟩ : ByteArray))), (.int IntKind.i64 0)], [some (.row ⟨[(.pointer (some ⟨1000, 0, none⟩)), (.slice (some ⟨1001, 0, none⟩) (m + ((⟨#[114]⟩ : ByteArray) ++ it ((symK off cs).int IntKind.i64 (off + i.toNat * 4 + 2))).size) (m + ((⟨#[114]⟩ : ByteArray) ++ it ((symK off cs).int IntKind.i64 (off + i.toNat * 4 + 2))).size))], 79, (0, 0), 0, false, false⟩), some (.row ⟨(bs ++ (byC ((⟨#[114]⟩ : ByteArray) ++ it ((symK off cs).int IntKind.i64 (off + i.toNat * 4 + 2))))), 5, (0, 0), 1, false, false⟩)]))) (
                 none)) (
                none)) (
               none)) (
              none)))))) (
         none)) (
        none)) (
       cond ((symK off cs).int IntKind.u8 (off + i.toNat * 4 + 0) == 3) (
        cond (decide (-9223372036854775808 ≤ (symK off cs).int IntKind.i64 (off + i.toNat * 4 + 2)) && (decide ((symK off cs).int IntKind.i64 (off + i.toNat * 4 + 2) ≤ 9223372036854775807))) (
         qs [(symK off cs).int IntKind.i64 (off + i.toNat * 4 + (1 + 1)), (symK off cs).int IntKind.i64 (off + i.toNat * 4 + (1 + 1)), (symK off cs).int IntKind.i64 (off + i.toNat * 4 + (1 + 1))] (
          cond (decide ((symK off cs).int IntKind.i64 (off + i.toNat * 4 + 2) < -4294967296)) (
           cond (List.all bs (af 8) && true) (
            some (.inr (.ret, ([(.pointer (some ⟨1000, 0, none⟩)), (.string ((⟨#[]⟩ : ByteArray))), (.int IntKind.i64 2)], [some (.row ⟨[(.pointer (some ⟨1000, 0, none⟩)), (.slice (some ⟨1001, 0, none⟩) (m) (m))], 79, (0, 0), 0, false, false⟩), some (.row ⟨bs, 5, (0, 0), 1, false, false⟩)])))) (
            none)) (
           cond (decide ((symK off cs).int IntKind.i64 (off + i.toNat * 4 + 2) > 4294967296)) (
            cond (List.all bs (af 8) && true) (
             some (.inr (.ret, ([(.pointer (some ⟨1000, 0, none⟩)), (.string ((⟨#[]⟩ : ByteArray))), (.int IntKind.i64 2)], [some (.row ⟨[(.pointer (some ⟨1000, 0, none⟩)), (.slice (some ⟨1001, 0, none⟩) (m) (m))], 79, (0, 0), 0, false, false⟩), some (.row ⟨bs, 5, (0, 0), 1, false, false⟩)])))) (
             none)) (
            cond (!((symK off cs).int IntKind.u8 (off + i.toNat * 4 + 0) == (symK off cs).int IntKind.u8 (off + i.toNat * 4 + 0) &&     ((symK off cs).str (off + i.toNat * 4 + 1) == (⟨#[]⟩ : ByteArray) &&       ((symK off cs).int IntKind.i64 (off + i.toNat * 4 + 2) == (symK off cs).int IntKind.i64 (off + i.toNat * 4 + 2) &&         ((symK off cs).int IntKind.i64 (off + i.toNat * 4 + 3) ==             (symK off cs).int IntKind.i64 (off + i.toNat * 4 + 3) &&           true))))) (
             cond (List.all bs (af 8) && true) (
              some (.inr (.ret, ([(.pointer (some ⟨1000, 0, none⟩)), (.string ((⟨#[]⟩ : ByteArray))), (.int IntKind.i64 2)], [some (.row ⟨[(.pointer (some ⟨1000, 0, none⟩)), (.slice (some ⟨1001, 0, none⟩) (m) (m))], 79, (0, 0), 0, false, false⟩), some (.row ⟨bs, 5, (0, 0), 1, false, false⟩)])))) (
              none)) (
             cond (List.all bs (af 8) && true) (
              cond (cl   (wsG1     [Value.pointer (some (⟨1000, 0, none⟩ : Addr)),       Value.string (it ((symK off cs).int IntKind.i64 (off + i.toNat * 4 + 2)))]     [some         (LObj.row           {             cells :=               [Value.pointer (some (⟨1000, 0, none⟩ : Addr)), Value.slice (some (⟨1001, 0, none⟩ : Addr)) m m],             elem := 79, fz := (0, 0), esz := 0, ro := false, tail := false }),       some (LObj.row { cells := bs, elem := 5, fz := (0, 0), esz := 1, ro := false, tail := false })]     (it ((symK off cs).int IntKind.i64 (off + i.toNat * 4 + 2))) m bs)) (
               cond (List.all (bs ++ (byC (it ((symK off cs).int IntKind.i64 (off + i.toNat * 4 + 2))))) (af 8) && true) (
                cond (List.all (bs ++ (byC (it ((symK off cs).int IntKind.i64 (off + i.toNat * 4 + 2))))) (af 8) && true) (
                 some (.inl ([(.int IntKind.i64 (IntKind.i64.wrap (i + 1))), (.pointer (some ⟨1000, 0, none⟩)), (.slice (some ⟨902, (off), none⟩) (n) (c)), (.int IntKind.i64 ((↑n : Int))), (.string ((⟨#[]⟩ : ByteArray))), (.int IntKind.i64 0)], [some (.row ⟨[(.pointer (some ⟨1000, 0, none⟩)), (.slice (some ⟨1001, 0, none⟩) (m + (it ((symK off cs).int IntKind.i64 (off + i.toNat * 4 + 2))).size) (m + (it ((symK off cs).int IntKind.i64 (off + i.toNat * 4 + 2))).size))], 79, (0, 0), 0, false, false⟩), some (.row ⟨(bs ++ (byC (it ((symK off cs).int IntKind.i64 (off + i.toNat * 4 + 2))))), 5, (0, 0), 1, false, false⟩)]))) (
                 none)) (
                none)) (
               none)) (
              none)))))) (
         none)) (
        cond ((symK off cs).int IntKind.u8 (off + i.toNat * 4 + 0) == 4) (
         cond (!((symK off cs).int IntKind.u8 (off + i.toNat * 4 + 0) == (symK off cs).int IntKind.u8 (off + i.toNat * 4 + 0) &&     ((symK off cs).str (off + i.toNat * 4 + 1) == (⟨#[]⟩ : ByteArray) &&       ((symK off cs).int IntKind.i64 (off + i.toNat * 4 + 2) == 0 &&         ((symK off cs).int IntKind.i64 (off + i.toNat * 4 + 3) ==             (symK off cs).int IntKind.i64 (off + i.toNat * 4 + 3) &&           true))))) (
          cond (List.all bs (af 8) && true) (
           some (.inr (.ret, ([(.pointer (some ⟨1000, 0, none⟩)), (.string ((⟨#[]⟩ : ByteArray))), (.int IntKind.i64 2)], [some (.row ⟨[(.pointer (some ⟨1000, 0, none⟩)), (.slice (some ⟨1001, 0, none⟩) (m) (m))], 79, (0, 0), 0, false, false⟩), some (.row ⟨bs, 5, (0, 0), 1, false, false⟩)])))) (
           none)) (
          cond (List.all bs (af 8) && true) (
           cond (cl   (wsG1 [Value.pointer (some (⟨1000, 0, none⟩ : Addr)), Value.string (⟨#[44]⟩ : ByteArray)]     [some         (LObj.row           {             cells :=               [Value.pointer (some (⟨1000, 0, none⟩ : Addr)), Value.slice (some (⟨1001, 0, none⟩ : Addr)) m m],             elem := 79, fz := (0, 0), esz := 0, ro := false, tail := false }),       some (LObj.row { cells := bs, elem := 5, fz := (0, 0), esz := 1, ro := false, tail := false })]     (⟨#[44]⟩ : ByteArray) m bs)) (
            cond (List.all (bs ++ [(.int IntKind.u8 44)]) (af 8) && true) (
             cond (List.all (bs ++ [(.int IntKind.u8 44)]) (af 8) && true) (
              some (.inl ([(.int IntKind.i64 (IntKind.i64.wrap (i + 1))), (.pointer (some ⟨1000, 0, none⟩)), (.slice (some ⟨902, (off), none⟩) (n) (c)), (.int IntKind.i64 ((↑n : Int))), (.string ((⟨#[]⟩ : ByteArray))), (.int IntKind.i64 0)], [some (.row ⟨[(.pointer (some ⟨1000, 0, none⟩)), (.slice (some ⟨1001, 0, none⟩) (m + 1) (m + 1))], 79, (0, 0), 0, false, false⟩), some (.row ⟨(bs ++ [(.int IntKind.u8 44)]), 5, (0, 0), 1, false, false⟩)]))) (
              none)) (
             none)) (
            none)) (
           none))) (
         cond ((symK off cs).int IntKind.u8 (off + i.toNat * 4 + 0) == 5) (
          cond (!((symK off cs).int IntKind.u8 (off + i.toNat * 4 + 0) == (symK off cs).int IntKind.u8 (off + i.toNat * 4 + 0) &&     ((symK off cs).str (off + i.toNat * 4 + 1) == (⟨#[]⟩ : ByteArray) &&       ((symK off cs).int IntKind.i64 (off + i.toNat * 4 + 2) == 0 &&         ((symK off cs).int IntKind.i64 (off + i.toNat * 4 + 3) ==             (symK off cs).int IntKind.i64 (off + i.toNat * 4 + 3) &&           true))))) (
           cond (List.all bs (af 8) && true) (
            some (.inr (.ret, ([(.pointer (some ⟨1000, 0, none⟩)), (.string ((⟨#[]⟩ : ByteArray))), (.int IntKind.i64 2)], [some (.row ⟨[(.pointer (some ⟨1000, 0, none⟩)), (.slice (some ⟨1001, 0, none⟩) (m) (m))], 79, (0, 0), 0, false, false⟩), some (.row ⟨bs, 5, (0, 0), 1, false, false⟩)])))) (
            none)) (
           cond (List.all bs (af 8) && true) (
            cond (cl   (wsG1 [Value.pointer (some (⟨1000, 0, none⟩ : Addr)), Value.string (⟨#[58]⟩ : ByteArray)]     [some         (LObj.row           {             cells :=               [Value.pointer (some (⟨1000, 0, none⟩ : Addr)), Value.slice (some (⟨1001, 0, none⟩ : Addr)) m m],             elem := 79, fz := (0, 0), esz := 0, ro := false, tail := false }),       some (LObj.row { cells := bs, elem := 5, fz := (0, 0), esz := 1, ro := false, tail := false })]     (⟨#[58]⟩ : ByteArray) m bs)) (
             cond (List.all (bs ++ [(.int IntKind.u8 58)]) (af 8) && true) (
              cond (List.all (bs ++ [(.int IntKind.u8 58)]) (af 8) && true) (
               some (.inl ([(.int IntKind.i64 (IntKind.i64.wrap (i + 1))), (.pointer (some ⟨1000, 0, none⟩)), (.slice (some ⟨902, (off), none⟩) (n) (c)), (.int IntKind.i64 ((↑n : Int))), (.string ((⟨#[]⟩ : ByteArray))), (.int IntKind.i64 0)], [some (.row ⟨[(.pointer (some ⟨1000, 0, none⟩)), (.slice (some ⟨1001, 0, none⟩) (m + 1) (m + 1))], 79, (0, 0), 0, false, false⟩), some (.row ⟨(bs ++ [(.int IntKind.u8 58)]), 5, (0, 0), 1, false, false⟩)]))) (
               none)) (
              none)) (
             none)) (
            none))) (
          cond (List.all bs (af 8) && true) (
           some (.inr (.ret, ([(.pointer (some ⟨1000, 0, none⟩)), (.string ((⟨#[]⟩ : ByteArray))), (.int IntKind.i64 2)], [some (.row ⟨[(.pointer (some ⟨1000, 0, none⟩)), (.slice (some ⟨1001, 0, none⟩) (m) (m))], 79, (0, 0), 0, false, false⟩), some (.row ⟨bs, 5, (0, 0), 1, false, false⟩)])))) (
           none)))))))) (
    none)) (
   none)) (
  cond (List.all bs (af 8) && true) (
   some (.inr (.exit 0, ([(.pointer (some ⟨1000, 0, none⟩)), (.string ((⟨#[]⟩ : ByteArray))), (.int IntKind.i64 0)], [some (.row ⟨[(.pointer (some ⟨1000, 0, none⟩)), (.slice (some ⟨1001, 0, none⟩) (m) (m))], 79, (0, 0), 0, false, false⟩), some (.row ⟨bs, 5, (0, 0), 1, false, false⟩)])))) (
   none)) := by kernel_rfl
end Go.Proofs.YtgohnfkidkomhaaDoor

noncomputable section
namespace Go.Proofs.YtgohnfkidkomhaaDoor
open Go.Proofs.YtgohnfkidkomhaaDoor.Ev Go.RowKit

/-! token.Text: its rounds. -/
theorem symK_tok (off : Nat) {l : List Tok} {i : Int} (h0 : 0 ≤ i) (h : i < (l.length : Int)) : ∃ t, l[i.toNat]? = some t ∧
    (symK off (toksC l)).okI .u8 (off + i.toNat * 4 + 0) = true ∧ (symK off (toksC l)).okS (off + i.toNat * 4 + 1) = true ∧ (symK off (toksC l)).okI .i64 (off + i.toNat * 4 + 2) = true ∧ (symK off (toksC l)).okI .i64 (off + i.toNat * 4 + 3) = true ∧
    (symK off (toksC l)).int .u8 (off + i.toNat * 4 + 0) = t.kind ∧ (symK off (toksC l)).str (off + i.toNat * 4 + 1) = t.text ∧ (symK off (toksC l)).int .i64 (off + i.toNat * 4 + 2) = t.n ∧ (symK off (toksC l)).int .i64 (off + i.toNat * 4 + 3) = t.at_ := by
  obtain ⟨t, ht, a0, a1, a2, a3, b0, b1, b2, b3⟩ := sym_tok h0 h
  have e : ∀ j, off + i.toNat * 4 + j - off = 0 + i.toNat * 4 + j := fun j => by omega
  have n : ∀ j, Nat.ble off (off + i.toNat * 4 + j) = true := fun j => nble (by omega)
  refine ⟨t, ht, ?_, ?_, ?_, ?_, ?_, ?_, ?_, ?_⟩
  · exact andI (n 0) (by rw [e]; exact a0)
  · exact andI (n 1) (by rw [e]; exact a1)
  · exact andI (n 2) (by rw [e]; exact a2)
  · exact andI (n 3) (by rw [e]; exact a3)
  · show cellI _ = _; rw [e]; exact b0
  · show cellS _ = _; rw [e]; exact b1
  · show cellI _ = _; rw [e]; exact b2
  · show cellI _ = _; rw [e]; exact b3
theorem empty_iff (s : ByteArray) : (s = ⟨#[]⟩) ↔ s.size = 0 := by
  constructor
  · rintro rfl; rfl
  · intro h
    exact ext_bytes (by rw [h]; rfl) fun i i0 i1 => by omega
theorem ba_beq_empty (s : ByteArray) : (s == (⟨#[]⟩ : ByteArray)) = decide (s = ⟨#[]⟩) := by
  by_cases h : s = ⟨#[]⟩
  · rw [decide_eq_true h, h]; rfl
  · rw [decide_eq_false h, Bool.eq_false_iff]
    exact fun e => h (eq_of_bytes e)
def txErr (rows : List (Option LObj)) : LSt ⊕ Out := .inr (.ret, [p0, .string ⟨#[]⟩, .int .i64 2], rows)
/-- What a struct of a token is held against. -/
theorem cmp_tok {k n a : Int} {x y : ByteArray} {m : Int} : (!(k == k && (x == y && (n == m && (a == a && true))))) = !((x == y) && (n == m)) := by
  simp
theorem veq8 (x : ByteArray) : veq 8 (.string x) (.string x) = true := veq_str x
theorem run0_eq {x : ByteArray} (h : x.size ≤ 1000000) : IntKind.i64.wrap (runE partB x 0 - 0) = runE partB x 0 := by
  obtain ⟨r1, r2⟩ := runE_le (p := partB) (s := x) (n := 0) (by omega)
  rw [wrap_id _ (by omega)]
  omega
theorem bne_tt {a b : Int} : (a != b) = decide (a ≠ b) := by
  by_cases h : a = b
  · subst h; simp
  · simp [h]
theorem dec_len_le : ∀ (k m : Nat), m < 10 ^ (k + 1) → (Lib.decDigits m).length ≤ k + 1
  | 0, m, h => by rw [Lib.decDigits, dif_pos (by simpa using h)]; exact Nat.le_refl _
  | k + 1, m, h => by
    by_cases hm : m < 10
    · rw [Lib.decDigits, dif_pos hm]; simp
    · rw [Lib.decDigits, dif_neg hm, List.length_append]
      have := dec_len_le k (m / 10) (by rw [Nat.pow_succ] at h; omega)
      simp only [List.length_cons, List.length_nil]
      omega
theorem itoa_bd {n : Int} (h : -9223372036854775808 ≤ n ∧ n ≤ 9223372036854775807) : 1 ≤ (itoaB n).size ∧ (itoaB n).size ≤ 21 := by
  have key : ∀ m : Nat, m < 10 ^ 20 → 1 ≤ (decB m).size ∧ (decB m).size ≤ 20 := fun m hm => by
    have h1 := decB_size m
    have h2 := dec_len_le 19 m hm
    have h3 : (decB m).size = (Lib.decDigits m).length := by show (Lib.decDigits m).toArray.size = _; simp
    omega
  rcases Int.lt_or_le n 0 with hneg | hpos
  · rw [itoaB_neg hneg, ByteArray.size_append]
    have := key n.natAbs (by have : (10 : Nat) ^ 20 = 100000000000000000000 := by decide
                             omega)
    have z : (⟨#[45]⟩ : ByteArray).size = 1 := rfl
    omega
  · rw [itoaB_pos hpos]
    have := key n.toNat (by have : (10 : Nat) ^ 20 = 100000000000000000000 := by decide
                            omega)
    omega
theorem tx_round1 (gl : Gl) {i : Int} (off c : Nat) {l : List Tok} {B : ByteArray} (h0 : 1 ≤ i) (h : i < (l.length : Int)) (hc : l.length ≤ c) (hl : l.length ≤ 1000) (hB : B.size ≤ 300000) {t : Tok} (ht : l[i.toNat]? = some t)
    (hx : t.text.size ≤ 1000) (hn : -9223372036854775808 ≤ t.n ∧ t.n ≤ 9223372036854775807) :
    (okT t → roundK (syK 902 off (toksC l)) Tryd.prog (glK gl 902 off (toksC l)) exB (H21 itoaB regC) 100 40 40 29 0 txLive (txSt1 i off l.length c (byC B) B.size) (rndK Tryd.prog 1001 txLive txOut) = some (.inl (txSt1 (i + 1) off l.length c (byC (B ++ (sepT false t ++ tokTx t))) (B ++ (sepT false t ++ tokTx t)).size))) ∧
    (¬ okT t → roundK (syK 902 off (toksC l)) Tryd.prog (glK gl 902 off (toksC l)) exB (H21 itoaB regC) 100 40 40 29 0 txLive (txSt1 i off l.length c (byC B) B.size) (rndK Tryd.prog 1001 txLive txOut) = some (txErr [b1Row 1001 B.size, bRow (byC B)])) := by
  obtain ⟨t', ht', a0, a1, a2, a3, b0, b1, b2, b3⟩ := symK_tok off (by omega) h
  rw [ht] at ht'
  cases ht'
  have e2 : off + i.toNat * 4 + (1 + 1) = off + i.toNat * 4 + 2 := by omega
  have h1 : i > 0 := by omega
  have hi0 : 0 ≤ i := by omega
  have w : IntKind.i64.wrap (i + 1) = i + 1 := wrap_id _ (by omega)
  have hall : ∀ A : ByteArray, (byC B ++ [(.int .u8 32 : Value)] ++ byC A).all (af 8) = true := fun A => by rw [List.all_append, List.all_append, byC_all, byC_all]; rfl
  have hall1 : (byC B ++ [(.int .u8 32 : Value)]).all (af 8) = true := by rw [List.all_append, byC_all]; rfl
  have hall2 : ∀ x : Value, af 8 x = true → (byC B ++ [x]).all (af 8) = true := fun x hx => by rw [List.all_append, byC_all]; simp [hx]
  have hall3 : ∀ A : ByteArray, (byC B ++ byC A).all (af 8) = true := fun A => by rw [List.all_append, byC_all, byC_all]; rfl
  have z1 : ∀ A : ByteArray, (B ++ ((⟨#[32]⟩ : ByteArray) ++ A)).size = B.size + 1 + A.size := fun A => by
    rw [ByteArray.size_append, ByteArray.size_append, ← Nat.add_assoc]; rfl
  have z2 : ∀ A : ByteArray, byC (B ++ ((⟨#[32]⟩ : ByteArray) ++ A)) = byC B ++ [(.int .u8 32 : Value)] ++ byC A := fun A => by
    rw [byC_app, byC_app, ← List.append_assoc]; rfl
  have gb : ∀ x : Int, wbG1 [p0, .int .u8 x] [b1Row 1001 B.size, bRow (byC B)] x B.size (byC B) := fun x => ⟨B, rfl, rfl, rfl, rfl, by omega⟩
  have gs : ∀ A : ByteArray, 1 ≤ A.size → A.size ≤ 1000000 → wsG1 [p0, .string A] [b1Row 1001 (B.size + 1), bRow (byC B ++ [(.int .u8 32 : Value)])] A (B.size + 1) (byC B ++ [(.int .u8 32 : Value)]) := fun A q1 q2 =>
    ⟨B ++ ⟨#[32]⟩, rfl, rfl, by rw [ByteArray.size_append]; rfl, by rw [byC_app]; rfl, q1, q2, by rw [ByteArray.size_append]; show B.size + 1 ≤ _; omega⟩
  have gs2 : ∀ A : ByteArray, 1 ≤ A.size → A.size ≤ 1000000 → wsG1 [p0, .string A] [b1Row 1001 B.size, bRow (byC B)] A B.size (byC B) := fun A q1 q2 => ⟨B, rfl, rfl, rfl, rfl, q1, q2, by omega⟩
  have key : ∃ b : Bool, (b = true ↔ okT t) ∧ roundK (syK 902 off (toksC l)) Tryd.prog (glK gl 902 off (toksC l)) exB (H21 itoaB regC) 100 40 40 29 0 txLive (txSt1 i off l.length c (byC B) B.size) (rndK Tryd.prog 1001 txLive txOut) =
      cond b (some (.inl (txSt1 (i + 1) off l.length c (byC (B ++ (sepT false t ++ tokTx t))) (B ++ (sepT false t ++ tokTx t)).size))) (some (txErr [b1Row 1001 B.size, bRow (byC B)])) := by
    rw [r_tx1]
    simp only [h, hi0, h1, nble hc, decide_true, Bool.and_self, cond_true, a0, a1, a2, a3, e2, b0, b1, b2, b3, byC_all, hall1, hall, hall2, hall3, veq8, qs_eq, w, cmp_tok, Bool.and_true]
    obtain ⟨k, x, n, at_⟩ := t
    simp only at *
    have hit := itoa_bd hn
    by_cases k1 : k = 1
    · subst k1
      have et : B ++ (sepT false ⟨1, x, n, at_⟩ ++ tokTx ⟨1, x, n, at_⟩) = B ++ ((⟨#[32]⟩ : ByteArray) ++ x) := rfl
      rw [et, z1, z2]
      refine ⟨decide (1 ≤ x.size) && letterB (byteAt x 0) && decide (runE partB x 0 = (x.size : Int)) && decide (regC x < 0) && decide (n = 0), ?_, ?_⟩
      · simp only [Bool.and_eq_true, decide_eq_true_eq]
        constructor
        · rintro ⟨⟨⟨⟨q1, q2⟩, q3⟩, q4⟩, q5⟩
          exact .inl ⟨rfl, q1, q2, q3, q4, q5⟩
        · rintro (⟨_, q1, q2, q3, q4, q5⟩ | ⟨q, _⟩ | ⟨q, _⟩ | ⟨q, _⟩ | ⟨q, _⟩)
          · exact ⟨⟨⟨⟨q1, q2⟩, q3⟩, q4⟩, q5⟩
          all_goals cases q
      · rw [beqS]
        by_cases c1 : x = ⟨#[]⟩
        · have : ¬ 1 ≤ x.size := by rw [(empty_iff x).1 c1]; decide
          rw [decide_eq_true c1, decide_eq_false this]; rfl
        · have c2 : 1 ≤ x.size := by
            rcases Nat.eq_zero_or_pos x.size with q | q
            · exact (c1 ((empty_iff x).2 q)).elim
            · exact q
          rw [decide_eq_false c1, decide_eq_true c2, decide_eq_true (show (0 : Int) < (x.size : Int) by omega), decide_eq_true (show x.size ≤ 1000000 by omega), run0_eq (by omega), bne_tt]
          simp only [cond_true, cond_false, Bool.true_and]
          cases letterB (byteAt x 0)
          · rfl
          by_cases c3 : runE partB x 0 = (x.size : Int)
          case neg => rw [decide_eq_true (show runE partB x 0 ≠ (x.size : Int) from c3), decide_eq_false c3]; rfl
          rw [decide_eq_false (show ¬ runE partB x 0 ≠ (x.size : Int) by simpa using c3), decide_eq_true c3]
          by_cases c4 : regC x < 0
          case neg => rw [decide_eq_true (show regC x ≥ 0 by omega), decide_eq_false c4]; rfl
          rw [decide_eq_false (show ¬ regC x ≥ 0 by omega), decide_eq_true c4, ba_beq]
          by_cases c5 : n = 0
          case neg => rw [show (n == 0) = false by simpa using c5, decide_eq_false c5]; rfl
          rw [show (n == 0) = true by simpa using c5, decide_eq_true c5]
          simp only [beq_self_eq_true, Bool.and_self, Bool.not_true, cond_true, cond_false]
          exact condI (cl_t (gb 32)) (condI (cl_t (gs x c2 (by omega))) rfl)
    by_cases k2 : k = 2
    · subst k2
      have et : B ++ (sepT false ⟨2, x, n, at_⟩ ++ tokTx ⟨2, x, n, at_⟩) = B ++ ((⟨#[32]⟩ : ByteArray) ++ ((⟨#[114]⟩ : ByteArray) ++ itoaB n)) := rfl
      rw [et, z1, z2]
      refine ⟨decide (0 ≤ n) && decide (n < 16) && decide (x = ⟨#[]⟩), ?_, ?_⟩
      · simp only [Bool.and_eq_true, decide_eq_true_eq]
        constructor
        · rintro ⟨⟨q1, q2⟩, q3⟩
          exact .inr (.inl ⟨rfl, q1, q2, q3⟩)
        · rintro (⟨q, _⟩ | ⟨_, q1, q2, q3⟩ | ⟨q, _⟩ | ⟨q, _⟩ | ⟨q, _⟩)
          · cases q
          · exact ⟨⟨q1, q2⟩, q3⟩
          all_goals cases q
      · rw [decide_eq_true hn.1, decide_eq_true hn.2, show ((2 : Int) == 1) = false from rfl, show ((2 : Int) == 2) = true from rfl, ba_beq_empty]
        simp only [cond_true, cond_false, Bool.and_self]
        refine condI (nble (by omega)) ?_
        by_cases c1 : n < 0
        · rw [decide_eq_true c1, decide_eq_false (show ¬ 0 ≤ n by omega)]; rfl
        rw [decide_eq_false c1, decide_eq_true (show 0 ≤ n by omega)]
        by_cases c2 : n < 16
        case neg => rw [decide_eq_true (show n ≥ 16 by omega), decide_eq_false c2]; rfl
        rw [decide_eq_false (show ¬ n ≥ 16 by omega), decide_eq_true c2]
        by_cases c3 : x = ⟨#[]⟩
        case neg => rw [decide_eq_false c3]; rfl
        rw [decide_eq_true c3]
        simp only [beq_self_eq_true, Bool.and_self, Bool.not_true, cond_true, cond_false]
        exact condI (cl_t (gb 32)) (condI (cl_t (gs _ (by rw [ByteArray.size_append]; show 1 ≤ 1 + _; omega) (by rw [ByteArray.size_append]; show 1 + _ ≤ _; omega))) rfl)
    by_cases k3 : k = 3
    · subst k3
      have et : B ++ (sepT false ⟨3, x, n, at_⟩ ++ tokTx ⟨3, x, n, at_⟩) = B ++ ((⟨#[32]⟩ : ByteArray) ++ itoaB n) := rfl
      rw [et, z1, z2]
      refine ⟨decide (-4294967296 ≤ n) && decide (n ≤ 4294967296) && decide (x = ⟨#[]⟩), ?_, ?_⟩
      · simp only [Bool.and_eq_true, decide_eq_true_eq]
        constructor
        · rintro ⟨⟨q1, q2⟩, q3⟩
          exact .inr (.inr (.inl ⟨rfl, q1, q2, q3⟩))
        · rintro (⟨q, _⟩ | ⟨q, _⟩ | ⟨_, q1, q2, q3⟩ | ⟨q, _⟩ | ⟨q, _⟩)
          · cases q
          · cases q
          · exact ⟨⟨q1, q2⟩, q3⟩
          all_goals cases q
      · rw [decide_eq_true hn.1, decide_eq_true hn.2, show ((3 : Int) == 1) = false from rfl, show ((3 : Int) == 2) = false from rfl, show ((3 : Int) == 3) = true from rfl, ba_beq_empty]
        simp only [cond_true, cond_false, Bool.and_self]
        by_cases c1 : n < -4294967296
        · rw [decide_eq_true c1, decide_eq_false (show ¬ -4294967296 ≤ n by omega)]; rfl
        rw [decide_eq_false c1, decide_eq_true (show -4294967296 ≤ n by omega)]
        by_cases c2 : n ≤ 4294967296
        case neg => rw [decide_eq_true (show n > 4294967296 by omega), decide_eq_false c2]; rfl
        rw [decide_eq_false (show ¬ n > 4294967296 by omega), decide_eq_true c2]
        by_cases c3 : x = ⟨#[]⟩
        case neg => rw [decide_eq_false c3]; rfl
        rw [decide_eq_true c3]
        simp only [beq_self_eq_true, Bool.and_self, Bool.not_true, cond_true, cond_false]
        exact condI (cl_t (gb 32)) (condI (cl_t (gs _ (by omega) (by omega))) rfl)
    by_cases k4 : k = 4
    · subst k4
      have et : B ++ (sepT false ⟨4, x, n, at_⟩ ++ tokTx ⟨4, x, n, at_⟩) = B ++ (⟨#[44]⟩ : ByteArray) := rfl
      rw [et]
      refine ⟨decide (x = ⟨#[]⟩) && decide (n = 0), ?_, ?_⟩
      · simp only [Bool.and_eq_true, decide_eq_true_eq]
        constructor
        · rintro ⟨q1, q2⟩
          exact .inr (.inr (.inr (.inl ⟨rfl, q2, q1⟩)))
        · rintro (⟨q, _⟩ | ⟨q, _⟩ | ⟨q, _⟩ | ⟨_, q1, q2⟩ | ⟨q, _⟩)
          · cases q
          · cases q
          · cases q
          · exact ⟨q2, q1⟩
          · cases q
      · rw [show ((4 : Int) == 1) = false from rfl, show ((4 : Int) == 2) = false from rfl, show ((4 : Int) == 3) = false from rfl, show ((4 : Int) == 4) = true from rfl, ba_beq_empty]
        simp only [cond_true, cond_false]
        by_cases c1 : x = ⟨#[]⟩
        case neg => rw [decide_eq_false c1]; rfl
        rw [decide_eq_true c1]
        by_cases c2 : n = 0
        case neg => rw [show (n == 0) = false by simpa using c2, decide_eq_false c2]; rfl
        rw [show (n == 0) = true by simpa using c2, decide_eq_true c2]
        simp only [beq_self_eq_true, Bool.and_self, Bool.not_true, cond_false, cond_true]
        refine condI (cl_t (gs2 ⟨#[44]⟩ (by decide) (by decide))) ?_
        rw [byC_app, ByteArray.size_append]
        exact condI (hall2 _ rfl) (condI (hall2 _ rfl) rfl)
    by_cases k5 : k = 5
    · subst k5
      have et : B ++ (sepT false ⟨5, x, n, at_⟩ ++ tokTx ⟨5, x, n, at_⟩) = B ++ (⟨#[58]⟩ : ByteArray) := rfl
      rw [et]
      refine ⟨decide (x = ⟨#[]⟩) && decide (n = 0), ?_, ?_⟩
      · simp only [Bool.and_eq_true, decide_eq_true_eq]
        constructor
        · rintro ⟨q1, q2⟩
          exact .inr (.inr (.inr (.inr ⟨rfl, q2, q1⟩)))
        · rintro (⟨q, _⟩ | ⟨q, _⟩ | ⟨q, _⟩ | ⟨q, _⟩ | ⟨_, q1, q2⟩)
          · cases q
          · cases q
          · cases q
          · cases q
          · exact ⟨q2, q1⟩
      · rw [show ((5 : Int) == 1) = false from rfl, show ((5 : Int) == 2) = false from rfl, show ((5 : Int) == 3) = false from rfl, show ((5 : Int) == 4) = false from rfl, show ((5 : Int) == 5) = true from rfl, ba_beq_empty]
        simp only [cond_true, cond_false]
        by_cases c1 : x = ⟨#[]⟩
        case neg => rw [decide_eq_false c1]; rfl
        rw [decide_eq_true c1]
        by_cases c2 : n = 0
        case neg => rw [show (n == 0) = false by simpa using c2, decide_eq_false c2]; rfl
        rw [show (n == 0) = true by simpa using c2, decide_eq_true c2]
        simp only [beq_self_eq_true, Bool.and_self, Bool.not_true, cond_false, cond_true]
        refine condI (cl_t (gs2 ⟨#[58]⟩ (by decide) (by decide))) ?_
        rw [byC_app, ByteArray.size_append]
        exact condI (hall2 _ rfl) (condI (hall2 _ rfl) rfl)
    · refine ⟨false, ⟨fun q => (by cases q), ?_⟩, ?_⟩
      · rintro (⟨q, _⟩ | ⟨q, _⟩ | ⟨q, _⟩ | ⟨q, _⟩ | ⟨q, _⟩)
        · exact (k1 q).elim
        · exact (k2 q).elim
        · exact (k3 q).elim
        · exact (k4 q).elim
        · exact (k5 q).elim
      · rw [show (k == 1) = false by simpa using k1, show (k == 2) = false by simpa using k2, show (k == 3) = false by simpa using k3, show (k == 4) = false by simpa using k4, show (k == 5) = false by simpa using k5]
        rfl
  obtain ⟨b, hb, hk⟩ := key
  refine ⟨fun q => ?_, fun q => ?_⟩
  · rw [hk, hb.2 q]; rfl
  · rw [hk, Bool.eq_false_iff.2 fun e => q (hb.1 e)]; rfl
end Go.Proofs.YtgohnfkidkomhaaDoor

noncomputable section
namespace Go.Proofs.YtgohnfkidkomhaaDoor
open Go.Proofs.YtgohnfkidkomhaaDoor.Ev Go.RowKit

/-! token.Text: its first round. -/
theorem tx_round0 (gl : Gl) (off c : Nat) {l : List Tok} (h : (0 : Int) < (l.length : Int)) (hc : l.length ≤ c) (hl : l.length ≤ 1000) {t : Tok} (ht : l[0]? = some t)
    (hx : t.text.size ≤ 1000) (hn : -9223372036854775808 ≤ t.n ∧ t.n ≤ 9223372036854775807) :
    (okT t → roundK (syK 902 off (toksC l)) Tryd.prog (glK gl 902 off (toksC l)) exB (H21 itoaB regC) 100 40 40 29 0 txLive (txSt0 off l.length c) (rndK Tryd.prog 1001 txLive txOut) = some (.inl (txSt1 1 off l.length c (byC (tokTx t)) (tokTx t).size))) ∧
    (¬ okT t → roundK (syK 902 off (toksC l)) Tryd.prog (glK gl 902 off (toksC l)) exB (H21 itoaB regC) 100 40 40 29 0 txLive (txSt0 off l.length c) (rndK Tryd.prog 1001 txLive txOut) = some (txErr [b0Row])) := by
  obtain ⟨t', ht', a0, a1, a2, a3, b0, b1, b2, b3⟩ := symK_tok off (Int.le_refl 0) h
  have ht2 : l[(0 : Int).toNat]? = some t := ht
  rw [ht2] at ht'
  cases ht'
  have f0 : ∀ j, off + (0 : Int).toNat * 4 + j = off + 0 + j := fun j => rfl
  rw [f0] at a0 a1 a2 a3 b0 b1 b2 b3
  have e2 : off + 0 + (1 + 1) = off + 0 + 2 := by omega
  have gs : ∀ A : ByteArray, 1 ≤ A.size → A.size ≤ 1000000 → wsG0 [p0, .string A] [b0Row] A := fun A q1 q2 => ⟨rfl, rfl, q1, q2⟩
  have key : ∃ b : Bool, (b = true ↔ okT t) ∧ roundK (syK 902 off (toksC l)) Tryd.prog (glK gl 902 off (toksC l)) exB (H21 itoaB regC) 100 40 40 29 0 txLive (txSt0 off l.length c) (rndK Tryd.prog 1001 txLive txOut) =
      cond b (some (.inl (txSt1 1 off l.length c (byC (tokTx t)) (tokTx t).size))) (some (txErr [b0Row])) := by
    rw [r_tx0]
    simp only [h, nble hc, decide_true, Bool.and_self, cond_true, a0, a1, a2, a3, e2, b0, b1, b2, b3, byC_all, veq8, qs_eq, Bool.and_true]
    obtain ⟨k, x, n, at_⟩ := t
    simp only at *
    have hit := itoa_bd hn
    by_cases k1 : k = 1
    · subst k1
      have et : tokTx ⟨1, x, n, at_⟩ = x := rfl
      rw [et]
      refine ⟨decide (1 ≤ x.size) && letterB (byteAt x 0) && decide (runE partB x 0 = (x.size : Int)) && decide (regC x < 0) && decide (n = 0), ?_, ?_⟩
      · simp only [Bool.and_eq_true, decide_eq_true_eq]
        constructor
        · rintro ⟨⟨⟨⟨q1, q2⟩, q3⟩, q4⟩, q5⟩
          exact .inl ⟨rfl, q1, q2, q3, q4, q5⟩
        · rintro (⟨_, q1, q2, q3, q4, q5⟩ | ⟨q, _⟩ | ⟨q, _⟩ | ⟨q, _⟩ | ⟨q, _⟩)
          · exact ⟨⟨⟨⟨q1, q2⟩, q3⟩, q4⟩, q5⟩
          all_goals cases q
      · rw [beqS]
        by_cases c1 : x = ⟨#[]⟩
        · have : ¬ 1 ≤ x.size := by rw [(empty_iff x).1 c1]; decide
          rw [decide_eq_true c1, decide_eq_false this]; rfl
        · have c2 : 1 ≤ x.size := by
            rcases Nat.eq_zero_or_pos x.size with q | q
            · exact (c1 ((empty_iff x).2 q)).elim
            · exact q
          rw [decide_eq_false c1, decide_eq_true c2, decide_eq_true (show (0 : Int) < (x.size : Int) by omega), decide_eq_true (show x.size ≤ 1000000 by omega), run0_eq (by omega), bne_tt]
          simp only [cond_true, cond_false, Bool.true_and]
          cases letterB (byteAt x 0)
          · rfl
          by_cases c3 : runE partB x 0 = (x.size : Int)
          case neg => rw [decide_eq_true (show runE partB x 0 ≠ (x.size : Int) from c3), decide_eq_false c3]; rfl
          rw [decide_eq_false (show ¬ runE partB x 0 ≠ (x.size : Int) by simpa using c3), decide_eq_true c3]
          by_cases c4 : regC x < 0
          case neg => rw [decide_eq_true (show regC x ≥ 0 by omega), decide_eq_false c4]; rfl
          rw [decide_eq_false (show ¬ regC x ≥ 0 by omega), decide_eq_true c4, ba_beq]
          by_cases c5 : n = 0
          case neg => rw [show (n == 0) = false by simpa using c5, decide_eq_false c5]; rfl
          rw [show (n == 0) = true by simpa using c5, decide_eq_true c5]
          simp only [beq_self_eq_true, Bool.and_self, Bool.not_true, cond_true, cond_false]
          exact (condI (cl_t (gs x c2 (by omega))) rfl)
    by_cases k2 : k = 2
    · subst k2
      have et : tokTx ⟨2, x, n, at_⟩ = ((⟨#[114]⟩ : ByteArray) ++ itoaB n) := rfl
      rw [et]
      refine ⟨decide (0 ≤ n) && decide (n < 16) && decide (x = ⟨#[]⟩), ?_, ?_⟩
      · simp only [Bool.and_eq_true, decide_eq_true_eq]
        constructor
        · rintro ⟨⟨q1, q2⟩, q3⟩
          exact .inr (.inl ⟨rfl, q1, q2, q3⟩)
        · rintro (⟨q, _⟩ | ⟨_, q1, q2, q3⟩ | ⟨q, _⟩ | ⟨q, _⟩ | ⟨q, _⟩)
          · cases q
          · exact ⟨⟨q1, q2⟩, q3⟩
          all_goals cases q
      · rw [decide_eq_true hn.1, decide_eq_true hn.2, show ((2 : Int) == 1) = false from rfl, show ((2 : Int) == 2) = true from rfl, ba_beq_empty]
        simp only [cond_true, cond_false, Bool.and_self]
        refine condI (nble (by omega)) ?_
        by_cases c1 : n < 0
        · rw [decide_eq_true c1, decide_eq_false (show ¬ 0 ≤ n by omega)]; rfl
        rw [decide_eq_false c1, decide_eq_true (show 0 ≤ n by omega)]
        by_cases c2 : n < 16
        case neg => rw [decide_eq_true (show n ≥ 16 by omega), decide_eq_false c2]; rfl
        rw [decide_eq_false (show ¬ n ≥ 16 by omega), decide_eq_true c2]
        by_cases c3 : x = ⟨#[]⟩
        case neg => rw [decide_eq_false c3]; rfl
        rw [decide_eq_true c3]
        simp only [beq_self_eq_true, Bool.and_self, Bool.not_true, cond_true, cond_false]
        exact (condI (cl_t (gs _ (by rw [ByteArray.size_append]; show 1 ≤ 1 + _; omega) (by rw [ByteArray.size_append]; show 1 + _ ≤ _; omega))) rfl)
    by_cases k3 : k = 3
    · subst k3
      have et : tokTx ⟨3, x, n, at_⟩ = itoaB n := rfl
      rw [et]
      refine ⟨decide (-4294967296 ≤ n) && decide (n ≤ 4294967296) && decide (x = ⟨#[]⟩), ?_, ?_⟩
      · simp only [Bool.and_eq_true, decide_eq_true_eq]
        constructor
        · rintro ⟨⟨q1, q2⟩, q3⟩
          exact .inr (.inr (.inl ⟨rfl, q1, q2, q3⟩))
        · rintro (⟨q, _⟩ | ⟨q, _⟩ | ⟨_, q1, q2, q3⟩ | ⟨q, _⟩ | ⟨q, _⟩)
          · cases q
          · cases q
          · exact ⟨⟨q1, q2⟩, q3⟩
          all_goals cases q
      · rw [decide_eq_true hn.1, decide_eq_true hn.2, show ((3 : Int) == 1) = false from rfl, show ((3 : Int) == 2) = false from rfl, show ((3 : Int) == 3) = true from rfl, ba_beq_empty]
        simp only [cond_true, cond_false, Bool.and_self]
        by_cases c1 : n < -4294967296
        · rw [decide_eq_true c1, decide_eq_false (show ¬ -4294967296 ≤ n by omega)]; rfl
        rw [decide_eq_false c1, decide_eq_true (show -4294967296 ≤ n by omega)]
        by_cases c2 : n ≤ 4294967296
        case neg => rw [decide_eq_true (show n > 4294967296 by omega), decide_eq_false c2]; rfl
        rw [decide_eq_false (show ¬ n > 4294967296 by omega), decide_eq_true c2]
        by_cases c3 : x = ⟨#[]⟩
        case neg => rw [decide_eq_false c3]; rfl
        rw [decide_eq_true c3]
        simp only [beq_self_eq_true, Bool.and_self, Bool.not_true, cond_true, cond_false]
        exact (condI (cl_t (gs _ (by omega) (by omega))) rfl)
    by_cases k4 : k = 4
    · subst k4
      have et : tokTx ⟨4, x, n, at_⟩ = (⟨#[44]⟩ : ByteArray) := rfl
      rw [et]
      refine ⟨decide (x = ⟨#[]⟩) && decide (n = 0), ?_, ?_⟩
      · simp only [Bool.and_eq_true, decide_eq_true_eq]
        constructor
        · rintro ⟨q1, q2⟩
          exact .inr (.inr (.inr (.inl ⟨rfl, q2, q1⟩)))
        · rintro (⟨q, _⟩ | ⟨q, _⟩ | ⟨q, _⟩ | ⟨_, q1, q2⟩ | ⟨q, _⟩)
          · cases q
          · cases q
          · cases q
          · exact ⟨q2, q1⟩
          · cases q
      · rw [show ((4 : Int) == 1) = false from rfl, show ((4 : Int) == 2) = false from rfl, show ((4 : Int) == 3) = false from rfl, show ((4 : Int) == 4) = true from rfl, ba_beq_empty]
        simp only [cond_true, cond_false]
        by_cases c1 : x = ⟨#[]⟩
        case neg => rw [decide_eq_false c1]; rfl
        rw [decide_eq_true c1]
        by_cases c2 : n = 0
        case neg => rw [show (n == 0) = false by simpa using c2, decide_eq_false c2]; rfl
        rw [show (n == 0) = true by simpa using c2, decide_eq_true c2]
        simp only [beq_self_eq_true, Bool.and_self, Bool.not_true, cond_false, cond_true]
        refine condI (cl_t (gs ⟨#[44]⟩ (by decide) (by decide))) ?_
        rfl
    by_cases k5 : k = 5
    · subst k5
      have et : tokTx ⟨5, x, n, at_⟩ = (⟨#[58]⟩ : ByteArray) := rfl
      rw [et]
      refine ⟨decide (x = ⟨#[]⟩) && decide (n = 0), ?_, ?_⟩
      · simp only [Bool.and_eq_true, decide_eq_true_eq]
        constructor
        · rintro ⟨q1, q2⟩
          exact .inr (.inr (.inr (.inr ⟨rfl, q2, q1⟩)))
        · rintro (⟨q, _⟩ | ⟨q, _⟩ | ⟨q, _⟩ | ⟨q, _⟩ | ⟨_, q1, q2⟩)
          · cases q
          · cases q
          · cases q
          · cases q
          · exact ⟨q2, q1⟩
      · rw [show ((5 : Int) == 1) = false from rfl, show ((5 : Int) == 2) = false from rfl, show ((5 : Int) == 3) = false from rfl, show ((5 : Int) == 4) = false from rfl, show ((5 : Int) == 5) = true from rfl, ba_beq_empty]
        simp only [cond_true, cond_false]
        by_cases c1 : x = ⟨#[]⟩
        case neg => rw [decide_eq_false c1]; rfl
        rw [decide_eq_true c1]
        by_cases c2 : n = 0
        case neg => rw [show (n == 0) = false by simpa using c2, decide_eq_false c2]; rfl
        rw [show (n == 0) = true by simpa using c2, decide_eq_true c2]
        simp only [beq_self_eq_true, Bool.and_self, Bool.not_true, cond_false, cond_true]
        refine condI (cl_t (gs ⟨#[58]⟩ (by decide) (by decide))) ?_
        rfl
    · refine ⟨false, ⟨fun q => (by cases q), ?_⟩, ?_⟩
      · rintro (⟨q, _⟩ | ⟨q, _⟩ | ⟨q, _⟩ | ⟨q, _⟩ | ⟨q, _⟩)
        · exact (k1 q).elim
        · exact (k2 q).elim
        · exact (k3 q).elim
        · exact (k4 q).elim
        · exact (k5 q).elim
      · rw [show (k == 1) = false by simpa using k1, show (k == 2) = false by simpa using k2, show (k == 3) = false by simpa using k3, show (k == 4) = false by simpa using k4, show (k == 5) = false by simpa using k5]
        rfl
  obtain ⟨b, hb, hk⟩ := key
  refine ⟨fun q => ?_, fun q => ?_⟩
  · rw [hk, hb.2 q]; rfl
  · rw [hk, Bool.eq_false_iff.2 fun e => q (hb.1 e)]; rfl
end Go.Proofs.YtgohnfkidkomhaaDoor
