/- List.Line and the document's Line, of each of the 22 instructions, by the evaluator. No condition but the laid tables. -/
import Derived.Test.YtgpifpijhimhlaaDoorL2
noncomputable section
namespace Go.Proofs.YtgpifpijhimhlaaDoor
open Go.Proofs.YtgpifpijhimhlaaDoor.Ev Go.RowKit
theorem condT {R : Type} {b : Bool} {x y : R} {r : R} (h : b = true) (e : x = r) : cond b x y = r := by rw [h]; exact e
theorem condF {R : Type} {b : Bool} {x y : R} {r : R} (h : b = false) (e : y = r) : cond b x y = r := by rw [h]; exact e
theorem rangeT {n : Int} (h : -4611686018427387904 ≤ n ∧ n ≤ 4611686018427387904) : (decide (-4611686018427387904 ≤ n) && decide (n ≤ 4611686018427387904)) = true := by simp [h.1, h.2]
/-- A line's text: the name and what stands behind it. -/
def lineT (it : Int → ByteArray) (name : ByteArray) (f : Nat) (a b c n : Int) : ByteArray := match f with
  | 0 => name
  | 1 => name ++ (⟨#[32]⟩ ++ (⟨#[114]⟩ ++ (it a ++ (⟨#[44, 32]⟩ ++ (⟨#[114]⟩ ++ (it b ++ (⟨#[44, 32]⟩ ++ (⟨#[114]⟩ ++ it c))))))))
  | 2 => name ++ (⟨#[32]⟩ ++ (⟨#[114]⟩ ++ (it a ++ (⟨#[44, 32]⟩ ++ (⟨#[114]⟩ ++ (it b ++ (⟨#[44, 32]⟩ ++ it n)))))))
  | 3 => name ++ (⟨#[32]⟩ ++ (⟨#[114]⟩ ++ (it a ++ (⟨#[44, 32]⟩ ++ it n))))
  | 4 => name ++ (⟨#[32]⟩ ++ it n)
  | 5 => name ++ (⟨#[32]⟩ ++ it n)
  | 6 => name ++ (⟨#[32]⟩ ++ (⟨#[114]⟩ ++ it a))
  | _ => ⟨#[]⟩
def names : List ByteArray := [⟨#[104, 97, 108, 116]⟩, ⟨#[97, 100, 100]⟩, ⟨#[115, 117, 98]⟩, ⟨#[97, 110, 100]⟩, ⟨#[111, 114]⟩, ⟨#[120, 111, 114]⟩, ⟨#[108, 101, 115, 115]⟩, ⟨#[109, 117, 108]⟩, ⟨#[97, 100, 100, 105]⟩, ⟨#[108, 111, 97, 100]⟩, ⟨#[115, 116, 111, 114, 101]⟩, ⟨#[115, 119, 97, 112]⟩, ⟨#[115, 101, 116]⟩, ⟨#[98, 101, 113]⟩, ⟨#[98, 110, 101]⟩, ⟨#[98, 108, 116]⟩, ⟨#[106, 117, 109, 112]⟩, ⟨#[98, 101, 103, 105, 110]⟩, ⟨#[101, 110, 100]⟩, ⟨#[97, 98, 111, 114, 116]⟩, ⟨#[116, 101, 115, 116]⟩, ⟨#[102, 101, 110, 99, 101]⟩]
def lineB (op a b c n : Int) : ByteArray := cond (okC op a b c n) (lineT itoaB (names.getD op.toNat ⟨#[]⟩) (formOf op) a b c n) ⟨#[]⟩
theorem itoaB_size (n : Int) (h : -4611686018427387904 ≤ n ∧ n ≤ 4611686018427387904) : (itoaB n).size ≤ 40 := by
  have hd : ∀ m : Nat, m ≤ 4611686018427387904 → (Lib.decDigits m).length ≤ 20 := fun m hm => by
    rw [Lib.decDigits_length]; exact Lib.nDigits_le20 m (by omega)
  show (Lib.itoa n).toArray.size ≤ 40
  rw [List.size_toArray]
  by_cases h0 : 0 ≤ n
  · obtain ⟨m, rfl⟩ : ∃ m : Nat, n = (m : Int) := ⟨n.toNat, by omega⟩
    rw [Lib.itoa_nonneg]
    have := hd m (by omega)
    omega
  · obtain ⟨m, rfl⟩ : ∃ m : Nat, n = -(m : Int) := ⟨n.natAbs, by omega⟩
    rw [Lib.itoa_neg m (by omega)]
    have := hd m (by omega)
    simp only [List.length_cons]
    omega
theorem szA (x y : ByteArray) : (x ++ y).size = x.size + y.size := by simp
theorem sz0 : (⟨#[]⟩ : ByteArray).size = 0 := rfl
theorem appE (x : ByteArray) : x ++ (⟨#[]⟩ : ByteArray) = x := by
  have := ByteArray.append_empty (b := x); exact this
theorem Eapp (x : ByteArray) : (⟨#[]⟩ : ByteArray) ++ x = x := by
  have := ByteArray.empty_append (b := x); exact this
theorem sz1 (a : UInt8) : (⟨#[a]⟩ : ByteArray).size = 1 := rfl
theorem sz2 (a b : UInt8) : (⟨#[a, b]⟩ : ByteArray).size = 2 := rfl
theorem sz3 (a b c : UInt8) : (⟨#[a, b, c]⟩ : ByteArray).size = 3 := rfl
theorem sz4 (a b c d : UInt8) : (⟨#[a, b, c, d]⟩ : ByteArray).size = 4 := rfl
theorem sz5 (a b c d e : UInt8) : (⟨#[a, b, c, d, e]⟩ : ByteArray).size = 5 := rfl


set_option maxRecDepth 100000 in
theorem l9_0 (ok : Ok5) (it : Int → ByteArray) (el : TypeId) (fz : Nat × Nat) (a b c n : Int) : callK Tryd.prog glT (fun _ => none) (asmL ok it) 100 40 40 (.fn 9) [code 0 a b c n] (LS.tab 1 (pow10.map (.int .u64)) el fz) flatR =
 cond ((bif ok 0 a b c n then (0 : Int) else 2) != 0) (
  some (.tuple #[(.string ((⟨#[]⟩ : ByteArray))), (.int IntKind.i64 (bif ok 0 a b c n then (0 : Int) else 2))])) (
  cond (decide (-4611686018427387904 ≤ n) && decide (n ≤ 4611686018427387904)) (
   qs [n, n] (
    some (.tuple #[(.string ((⟨#[104, 97, 108, 116]⟩ : ByteArray))), (.int IntKind.i64 0)]))) (
   none)) := by kernel_rfl
theorem t9_0 (el : TypeId) (fz : Nat × Nat) (a b c n : Int) : callK Tryd.prog glT (fun _ => none) (asmL okC itoaB) 100 40 40 (.fn 9) [code 0 a b c n] (LS.tab 1 (pow10.map (.int .u64)) el fz) flatR = some (.tuple #[.string (lineB 0 a b c n), .int .i64 (cond (okC 0 a b c n) 0 2)]) := by
  rw [l9_0]
  cases h : okC 0 a b c n with
  | false =>
    simp only [lineB, h]
    rfl
  | true =>
    have hr : -4611686018427387904 ≤ a ∧ a ≤ 4611686018427387904 ∧ -4611686018427387904 ≤ b ∧ b ≤ 4611686018427387904 ∧ -4611686018427387904 ≤ c ∧ c ≤ 4611686018427387904 ∧ -4611686018427387904 ≤ n ∧ n ≤ 4611686018427387904 := by
      have h2 : okF 0 a b c n = true := h
      simp only [okF, decide_eq_true_eq] at h2
      omega
    have ra : -4611686018427387904 ≤ a ∧ a ≤ 4611686018427387904 := by omega
    have rb : -4611686018427387904 ≤ b ∧ b ≤ 4611686018427387904 := by omega
    have rc : -4611686018427387904 ≤ c ∧ c ≤ 4611686018427387904 := by omega
    have rn : -4611686018427387904 ≤ n ∧ n ≤ 4611686018427387904 := by omega
    have sa := itoaB_size a ra
    have sb := itoaB_size b rb
    have sc := itoaB_size c rc
    have sn := itoaB_size n rn
    have hl : lineB 0 a b c n = lineT itoaB ⟨#[104, 97, 108, 116]⟩ 0 a b c n := by unfold lineB; rw [h]; rfl
    rw [hl]
    try simp only [qs_eq]
    repeat' first
      | exact rfl
      | refine condT (rangeT (by assumption)) ?_
      | refine condT (Nat.ble_eq_true_of_le (by simp only [joinB, szA, sz0, sz1, sz2, sz3, sz4, sz5]; omega)) ?_
      | refine condT rfl ?_
      | refine condF rfl ?_
    all_goals simp only [lineT, joinB, ByteArray.append_assoc, appE, Eapp, cond_true]

set_option maxRecDepth 100000 in
theorem l10_0 (ok : Ok5) (it : Int → ByteArray) (el : TypeId) (fz : Nat × Nat) (a b c n : Int) : callK Tryd.prog glT (fun _ => none) (asmL ok it) 100 40 40 (.fn 10) [code 0 a b c n] (LS.tab 1 (pow10.map (.int .u64)) el fz) flatR =
 cond (ok 0 a b c n) (
  cond (decide (-4611686018427387904 ≤ a) && decide (a ≤ 4611686018427387904)) (
   cond (((⟨#[114]⟩ : ByteArray).size + (it a).size).ble 9223372036854775807) (
    cond (((⟨#[32]⟩ : ByteArray).size + ((⟨#[114]⟩ : ByteArray) ++ it a).size).ble 9223372036854775807) (
     cond (decide (-4611686018427387904 ≤ n) && decide (n ≤ 4611686018427387904)) (
      some (.tuple #[(.string ((⟨#[104, 97, 108, 116]⟩ : ByteArray))), (.int IntKind.i64 0)])) (
      none)) (
     none)) (
    none)) (
   none)) (
  some (.tuple #[(.string ((⟨#[]⟩ : ByteArray))), (.int IntKind.i64 2)])) := by kernel_rfl
theorem t10_0 (el : TypeId) (fz : Nat × Nat) (a b c n : Int) : callK Tryd.prog glT (fun _ => none) (asmL okC itoaB) 100 40 40 (.fn 10) [code 0 a b c n] (LS.tab 1 (pow10.map (.int .u64)) el fz) flatR = some (.tuple #[.string (lineB 0 a b c n), .int .i64 (cond (okC 0 a b c n) 0 2)]) := by
  rw [l10_0]
  cases h : okC 0 a b c n with
  | false =>
    simp only [lineB, h]
    rfl
  | true =>
    have hr : -4611686018427387904 ≤ a ∧ a ≤ 4611686018427387904 ∧ -4611686018427387904 ≤ b ∧ b ≤ 4611686018427387904 ∧ -4611686018427387904 ≤ c ∧ c ≤ 4611686018427387904 ∧ -4611686018427387904 ≤ n ∧ n ≤ 4611686018427387904 := by
      have h2 : okF 0 a b c n = true := h
      simp only [okF, decide_eq_true_eq] at h2
      omega
    have ra : -4611686018427387904 ≤ a ∧ a ≤ 4611686018427387904 := by omega
    have rb : -4611686018427387904 ≤ b ∧ b ≤ 4611686018427387904 := by omega
    have rc : -4611686018427387904 ≤ c ∧ c ≤ 4611686018427387904 := by omega
    have rn : -4611686018427387904 ≤ n ∧ n ≤ 4611686018427387904 := by omega
    have sa := itoaB_size a ra
    have sb := itoaB_size b rb
    have sc := itoaB_size c rc
    have sn := itoaB_size n rn
    have hl : lineB 0 a b c n = lineT itoaB ⟨#[104, 97, 108, 116]⟩ 0 a b c n := by unfold lineB; rw [h]; rfl
    rw [hl]
    try simp only [qs_eq]
    repeat' first
      | exact rfl
      | refine condT (rangeT (by assumption)) ?_
      | refine condT (Nat.ble_eq_true_of_le (by simp only [szA, sz1]; omega)) ?_
      | refine condT rfl ?_
      | refine condF rfl ?_
    all_goals simp only [lineT, joinB, ByteArray.append_assoc, appE, Eapp, cond_true]

set_option maxRecDepth 100000 in
theorem l9_1 (ok : Ok5) (it : Int → ByteArray) (el : TypeId) (fz : Nat × Nat) (a b c n : Int) : callK Tryd.prog glT (fun _ => none) (asmL ok it) 100 40 40 (.fn 9) [code 1 a b c n] (LS.tab 1 (pow10.map (.int .u64)) el fz) flatR =
 cond ((bif ok 1 a b c n then (0 : Int) else 2) != 0) (
  some (.tuple #[(.string ((⟨#[]⟩ : ByteArray))), (.int IntKind.i64 (bif ok 1 a b c n then (0 : Int) else 2))])) (
  cond (decide (-4611686018427387904 ≤ n) && decide (n ≤ 4611686018427387904)) (
   qs [n, n] (
    cond (decide (-4611686018427387904 ≤ a) && decide (a ≤ 4611686018427387904)) (
     cond (((⟨#[114]⟩ : ByteArray).size + (it a).size).ble 9223372036854775807) (
      cond (decide (-4611686018427387904 ≤ b) && decide (b ≤ 4611686018427387904)) (
       cond (((⟨#[114]⟩ : ByteArray).size + (it b).size).ble 9223372036854775807) (
        cond (decide (-4611686018427387904 ≤ c) && decide (c ≤ 4611686018427387904)) (
         cond (((⟨#[114]⟩ : ByteArray).size + (it c).size).ble 9223372036854775807) (
          cond ((joinB (⟨#[44, 32]⟩ : ByteArray)         [(⟨#[114]⟩ : ByteArray) ++ it a, (⟨#[114]⟩ : ByteArray) ++ it b, (⟨#[114]⟩ : ByteArray) ++ it c]).size.ble   140737488355328) (
           cond ((((⟨#[97, 100, 100]⟩ : ByteArray) ++ (⟨#[32]⟩ : ByteArray)).size +       (joinB (⟨#[44, 32]⟩ : ByteArray)           [(⟨#[114]⟩ : ByteArray) ++ it a, (⟨#[114]⟩ : ByteArray) ++ it b, (⟨#[114]⟩ : ByteArray) ++ it c]).size).ble   9223372036854775807) (
            qs [c, c, c, b, b, a] (
             some (.tuple #[(.string ((⟨#[97, 100, 100]⟩ : ByteArray) ++ (⟨#[32]⟩ : ByteArray) ++
   joinB (⟨#[44, 32]⟩ : ByteArray) [(⟨#[114]⟩ : ByteArray) ++ it a, (⟨#[114]⟩ : ByteArray) ++ it b, (⟨#[114]⟩ : ByteArray) ++ it c])), (.int IntKind.i64 0)]))) (
            none)) (
           none)) (
          none)) (
         none)) (
        none)) (
       none)) (
      none)) (
     none))) (
   none)) := by kernel_rfl
theorem t9_1 (el : TypeId) (fz : Nat × Nat) (a b c n : Int) : callK Tryd.prog glT (fun _ => none) (asmL okC itoaB) 100 40 40 (.fn 9) [code 1 a b c n] (LS.tab 1 (pow10.map (.int .u64)) el fz) flatR = some (.tuple #[.string (lineB 1 a b c n), .int .i64 (cond (okC 1 a b c n) 0 2)]) := by
  rw [l9_1]
  cases h : okC 1 a b c n with
  | false =>
    simp only [lineB, h]
    rfl
  | true =>
    have hr : -4611686018427387904 ≤ a ∧ a ≤ 4611686018427387904 ∧ -4611686018427387904 ≤ b ∧ b ≤ 4611686018427387904 ∧ -4611686018427387904 ≤ c ∧ c ≤ 4611686018427387904 ∧ -4611686018427387904 ≤ n ∧ n ≤ 4611686018427387904 := by
      have h2 : okF 1 a b c n = true := h
      simp only [okF, decide_eq_true_eq] at h2
      omega
    have ra : -4611686018427387904 ≤ a ∧ a ≤ 4611686018427387904 := by omega
    have rb : -4611686018427387904 ≤ b ∧ b ≤ 4611686018427387904 := by omega
    have rc : -4611686018427387904 ≤ c ∧ c ≤ 4611686018427387904 := by omega
    have rn : -4611686018427387904 ≤ n ∧ n ≤ 4611686018427387904 := by omega
    have sa := itoaB_size a ra
    have sb := itoaB_size b rb
    have sc := itoaB_size c rc
    have sn := itoaB_size n rn
    have hl : lineB 1 a b c n = lineT itoaB ⟨#[97, 100, 100]⟩ 1 a b c n := by unfold lineB; rw [h]; rfl
    rw [hl]
    try simp only [qs_eq]
    repeat' first
      | exact rfl
      | refine condT (rangeT (by assumption)) ?_
      | refine condT (Nat.ble_eq_true_of_le (by simp only [joinB, szA, sz1, sz2, sz3]; omega)) ?_
      | refine condT rfl ?_
      | refine condF rfl ?_
    all_goals simp only [lineT, joinB, ByteArray.append_assoc, cond_true]

set_option maxRecDepth 100000 in
theorem l10_1 (ok : Ok5) (it : Int → ByteArray) (el : TypeId) (fz : Nat × Nat) (a b c n : Int) : callK Tryd.prog glT (fun _ => none) (asmL ok it) 100 40 40 (.fn 10) [code 1 a b c n] (LS.tab 1 (pow10.map (.int .u64)) el fz) flatR =
 cond (ok 1 a b c n) (
  cond (decide (-4611686018427387904 ≤ a) && decide (a ≤ 4611686018427387904)) (
   cond (((⟨#[114]⟩ : ByteArray).size + (it a).size).ble 9223372036854775807) (
    cond (((⟨#[32]⟩ : ByteArray).size + ((⟨#[114]⟩ : ByteArray) ++ it a).size).ble 9223372036854775807) (
     cond (decide (-4611686018427387904 ≤ n) && decide (n ≤ 4611686018427387904)) (
      cond (((⟨#[97, 100, 100]⟩ : ByteArray).size + ((⟨#[32]⟩ : ByteArray) ++ ((⟨#[114]⟩ : ByteArray) ++ it a)).size).ble 9223372036854775807) (
       cond ((((⟨#[97, 100, 100]⟩ : ByteArray) ++ ((⟨#[32]⟩ : ByteArray) ++ ((⟨#[114]⟩ : ByteArray) ++ it a))).size +       (⟨#[44, 32]⟩ : ByteArray).size).ble   9223372036854775807) (
        cond (decide (-4611686018427387904 ≤ b) && decide (b ≤ 4611686018427387904)) (
         cond (((⟨#[114]⟩ : ByteArray).size + (it b).size).ble 9223372036854775807) (
          cond ((((⟨#[97, 100, 100]⟩ : ByteArray) ++ ((⟨#[32]⟩ : ByteArray) ++ ((⟨#[114]⟩ : ByteArray) ++ it a)) ++ (⟨#[44, 32]⟩ : ByteArray)).size +       ((⟨#[114]⟩ : ByteArray) ++ it b).size).ble   9223372036854775807) (
           cond ((((⟨#[97, 100, 100]⟩ : ByteArray) ++ ((⟨#[32]⟩ : ByteArray) ++ ((⟨#[114]⟩ : ByteArray) ++ it a)) ++ (⟨#[44, 32]⟩ : ByteArray) ++           ((⟨#[114]⟩ : ByteArray) ++ it b)).size +       (⟨#[44, 32]⟩ : ByteArray).size).ble   9223372036854775807) (
            cond (decide (-4611686018427387904 ≤ c) && decide (c ≤ 4611686018427387904)) (
             cond (((⟨#[114]⟩ : ByteArray).size + (it c).size).ble 9223372036854775807) (
              cond ((((⟨#[97, 100, 100]⟩ : ByteArray) ++ ((⟨#[32]⟩ : ByteArray) ++ ((⟨#[114]⟩ : ByteArray) ++ it a)) ++ (⟨#[44, 32]⟩ : ByteArray) ++             ((⟨#[114]⟩ : ByteArray) ++ it b) ++           (⟨#[44, 32]⟩ : ByteArray)).size +       ((⟨#[114]⟩ : ByteArray) ++ it c).size).ble   9223372036854775807) (
               qs [c, c, b] (
                some (.tuple #[(.string ((⟨#[97, 100, 100]⟩ : ByteArray) ++ ((⟨#[32]⟩ : ByteArray) ++ ((⟨#[114]⟩ : ByteArray) ++ it a)) ++ (⟨#[44, 32]⟩ : ByteArray) ++
       ((⟨#[114]⟩ : ByteArray) ++ it b) ++
     (⟨#[44, 32]⟩ : ByteArray) ++
   ((⟨#[114]⟩ : ByteArray) ++ it c))), (.int IntKind.i64 0)]))) (
               none)) (
              none)) (
             none)) (
            none)) (
           none)) (
          none)) (
         none)) (
        none)) (
       none)) (
      none)) (
     none)) (
    none)) (
   none)) (
  some (.tuple #[(.string ((⟨#[]⟩ : ByteArray))), (.int IntKind.i64 2)])) := by kernel_rfl
theorem t10_1 (el : TypeId) (fz : Nat × Nat) (a b c n : Int) : callK Tryd.prog glT (fun _ => none) (asmL okC itoaB) 100 40 40 (.fn 10) [code 1 a b c n] (LS.tab 1 (pow10.map (.int .u64)) el fz) flatR = some (.tuple #[.string (lineB 1 a b c n), .int .i64 (cond (okC 1 a b c n) 0 2)]) := by
  rw [l10_1]
  cases h : okC 1 a b c n with
  | false =>
    simp only [lineB, h]
    rfl
  | true =>
    have hr : -4611686018427387904 ≤ a ∧ a ≤ 4611686018427387904 ∧ -4611686018427387904 ≤ b ∧ b ≤ 4611686018427387904 ∧ -4611686018427387904 ≤ c ∧ c ≤ 4611686018427387904 ∧ -4611686018427387904 ≤ n ∧ n ≤ 4611686018427387904 := by
      have h2 : okF 1 a b c n = true := h
      simp only [okF, decide_eq_true_eq] at h2
      omega
    have ra : -4611686018427387904 ≤ a ∧ a ≤ 4611686018427387904 := by omega
    have rb : -4611686018427387904 ≤ b ∧ b ≤ 4611686018427387904 := by omega
    have rc : -4611686018427387904 ≤ c ∧ c ≤ 4611686018427387904 := by omega
    have rn : -4611686018427387904 ≤ n ∧ n ≤ 4611686018427387904 := by omega
    have sa := itoaB_size a ra
    have sb := itoaB_size b rb
    have sc := itoaB_size c rc
    have sn := itoaB_size n rn
    have hl : lineB 1 a b c n = lineT itoaB ⟨#[97, 100, 100]⟩ 1 a b c n := by unfold lineB; rw [h]; rfl
    rw [hl]
    try simp only [qs_eq]
    repeat' first
      | exact rfl
      | refine condT (rangeT (by assumption)) ?_
      | refine condT (Nat.ble_eq_true_of_le (by simp only [szA, sz1, sz2, sz3]; omega)) ?_
      | refine condT rfl ?_
      | refine condF rfl ?_
    all_goals simp only [lineT, ByteArray.append_assoc, cond_true]

set_option maxRecDepth 100000 in
theorem l9_2 (ok : Ok5) (it : Int → ByteArray) (el : TypeId) (fz : Nat × Nat) (a b c n : Int) : callK Tryd.prog glT (fun _ => none) (asmL ok it) 100 40 40 (.fn 9) [code 2 a b c n] (LS.tab 1 (pow10.map (.int .u64)) el fz) flatR =
 cond ((bif ok 2 a b c n then (0 : Int) else 2) != 0) (
  some (.tuple #[(.string ((⟨#[]⟩ : ByteArray))), (.int IntKind.i64 (bif ok 2 a b c n then (0 : Int) else 2))])) (
  cond (decide (-4611686018427387904 ≤ n) && decide (n ≤ 4611686018427387904)) (
   qs [n, n] (
    cond (decide (-4611686018427387904 ≤ a) && decide (a ≤ 4611686018427387904)) (
     cond (((⟨#[114]⟩ : ByteArray).size + (it a).size).ble 9223372036854775807) (
      cond (decide (-4611686018427387904 ≤ b) && decide (b ≤ 4611686018427387904)) (
       cond (((⟨#[114]⟩ : ByteArray).size + (it b).size).ble 9223372036854775807) (
        cond (decide (-4611686018427387904 ≤ c) && decide (c ≤ 4611686018427387904)) (
         cond (((⟨#[114]⟩ : ByteArray).size + (it c).size).ble 9223372036854775807) (
          cond ((joinB (⟨#[44, 32]⟩ : ByteArray)         [(⟨#[114]⟩ : ByteArray) ++ it a, (⟨#[114]⟩ : ByteArray) ++ it b, (⟨#[114]⟩ : ByteArray) ++ it c]).size.ble   140737488355328) (
           cond ((((⟨#[115, 117, 98]⟩ : ByteArray) ++ (⟨#[32]⟩ : ByteArray)).size +       (joinB (⟨#[44, 32]⟩ : ByteArray)           [(⟨#[114]⟩ : ByteArray) ++ it a, (⟨#[114]⟩ : ByteArray) ++ it b, (⟨#[114]⟩ : ByteArray) ++ it c]).size).ble   9223372036854775807) (
            qs [c, c, c, b, b, a] (
             some (.tuple #[(.string ((⟨#[115, 117, 98]⟩ : ByteArray) ++ (⟨#[32]⟩ : ByteArray) ++
   joinB (⟨#[44, 32]⟩ : ByteArray) [(⟨#[114]⟩ : ByteArray) ++ it a, (⟨#[114]⟩ : ByteArray) ++ it b, (⟨#[114]⟩ : ByteArray) ++ it c])), (.int IntKind.i64 0)]))) (
            none)) (
           none)) (
          none)) (
         none)) (
        none)) (
       none)) (
      none)) (
     none))) (
   none)) := by kernel_rfl
theorem t9_2 (el : TypeId) (fz : Nat × Nat) (a b c n : Int) : callK Tryd.prog glT (fun _ => none) (asmL okC itoaB) 100 40 40 (.fn 9) [code 2 a b c n] (LS.tab 1 (pow10.map (.int .u64)) el fz) flatR = some (.tuple #[.string (lineB 2 a b c n), .int .i64 (cond (okC 2 a b c n) 0 2)]) := by
  rw [l9_2]
  cases h : okC 2 a b c n with
  | false =>
    simp only [lineB, h]
    rfl
  | true =>
    have hr : -4611686018427387904 ≤ a ∧ a ≤ 4611686018427387904 ∧ -4611686018427387904 ≤ b ∧ b ≤ 4611686018427387904 ∧ -4611686018427387904 ≤ c ∧ c ≤ 4611686018427387904 ∧ -4611686018427387904 ≤ n ∧ n ≤ 4611686018427387904 := by
      have h2 : okF 1 a b c n = true := h
      simp only [okF, decide_eq_true_eq] at h2
      omega
    have ra : -4611686018427387904 ≤ a ∧ a ≤ 4611686018427387904 := by omega
    have rb : -4611686018427387904 ≤ b ∧ b ≤ 4611686018427387904 := by omega
    have rc : -4611686018427387904 ≤ c ∧ c ≤ 4611686018427387904 := by omega
    have rn : -4611686018427387904 ≤ n ∧ n ≤ 4611686018427387904 := by omega
    have sa := itoaB_size a ra
    have sb := itoaB_size b rb
    have sc := itoaB_size c rc
    have sn := itoaB_size n rn
    have hl : lineB 2 a b c n = lineT itoaB ⟨#[115, 117, 98]⟩ 1 a b c n := by unfold lineB; rw [h]; rfl
    rw [hl]
    try simp only [qs_eq]
    repeat' first
      | exact rfl
      | refine condT (rangeT (by assumption)) ?_
      | refine condT (Nat.ble_eq_true_of_le (by simp only [joinB, szA, sz1, sz2, sz3]; omega)) ?_
      | refine condT rfl ?_
      | refine condF rfl ?_
    all_goals simp only [lineT, joinB, ByteArray.append_assoc, cond_true]

set_option maxRecDepth 100000 in
theorem l10_2 (ok : Ok5) (it : Int → ByteArray) (el : TypeId) (fz : Nat × Nat) (a b c n : Int) : callK Tryd.prog glT (fun _ => none) (asmL ok it) 100 40 40 (.fn 10) [code 2 a b c n] (LS.tab 1 (pow10.map (.int .u64)) el fz) flatR =
 cond (ok 2 a b c n) (
  cond (decide (-4611686018427387904 ≤ a) && decide (a ≤ 4611686018427387904)) (
   cond (((⟨#[114]⟩ : ByteArray).size + (it a).size).ble 9223372036854775807) (
    cond (((⟨#[32]⟩ : ByteArray).size + ((⟨#[114]⟩ : ByteArray) ++ it a).size).ble 9223372036854775807) (
     cond (decide (-4611686018427387904 ≤ n) && decide (n ≤ 4611686018427387904)) (
      cond (((⟨#[115, 117, 98]⟩ : ByteArray).size + ((⟨#[32]⟩ : ByteArray) ++ ((⟨#[114]⟩ : ByteArray) ++ it a)).size).ble 9223372036854775807) (
       cond ((((⟨#[115, 117, 98]⟩ : ByteArray) ++ ((⟨#[32]⟩ : ByteArray) ++ ((⟨#[114]⟩ : ByteArray) ++ it a))).size +       (⟨#[44, 32]⟩ : ByteArray).size).ble   9223372036854775807) (
        cond (decide (-4611686018427387904 ≤ b) && decide (b ≤ 4611686018427387904)) (
         cond (((⟨#[114]⟩ : ByteArray).size + (it b).size).ble 9223372036854775807) (
          cond ((((⟨#[115, 117, 98]⟩ : ByteArray) ++ ((⟨#[32]⟩ : ByteArray) ++ ((⟨#[114]⟩ : ByteArray) ++ it a)) ++ (⟨#[44, 32]⟩ : ByteArray)).size +       ((⟨#[114]⟩ : ByteArray) ++ it b).size).ble   9223372036854775807) (
           cond ((((⟨#[115, 117, 98]⟩ : ByteArray) ++ ((⟨#[32]⟩ : ByteArray) ++ ((⟨#[114]⟩ : ByteArray) ++ it a)) ++ (⟨#[44, 32]⟩ : ByteArray) ++           ((⟨#[114]⟩ : ByteArray) ++ it b)).size +       (⟨#[44, 32]⟩ : ByteArray).size).ble   9223372036854775807) (
            cond (decide (-4611686018427387904 ≤ c) && decide (c ≤ 4611686018427387904)) (
             cond (((⟨#[114]⟩ : ByteArray).size + (it c).size).ble 9223372036854775807) (
              cond ((((⟨#[115, 117, 98]⟩ : ByteArray) ++ ((⟨#[32]⟩ : ByteArray) ++ ((⟨#[114]⟩ : ByteArray) ++ it a)) ++ (⟨#[44, 32]⟩ : ByteArray) ++             ((⟨#[114]⟩ : ByteArray) ++ it b) ++           (⟨#[44, 32]⟩ : ByteArray)).size +       ((⟨#[114]⟩ : ByteArray) ++ it c).size).ble   9223372036854775807) (
               qs [c, c, b] (
                some (.tuple #[(.string ((⟨#[115, 117, 98]⟩ : ByteArray) ++ ((⟨#[32]⟩ : ByteArray) ++ ((⟨#[114]⟩ : ByteArray) ++ it a)) ++ (⟨#[44, 32]⟩ : ByteArray) ++
       ((⟨#[114]⟩ : ByteArray) ++ it b) ++
     (⟨#[44, 32]⟩ : ByteArray) ++
   ((⟨#[114]⟩ : ByteArray) ++ it c))), (.int IntKind.i64 0)]))) (
               none)) (
              none)) (
             none)) (
            none)) (
           none)) (
          none)) (
         none)) (
        none)) (
       none)) (
      none)) (
     none)) (
    none)) (
   none)) (
  some (.tuple #[(.string ((⟨#[]⟩ : ByteArray))), (.int IntKind.i64 2)])) := by kernel_rfl
theorem t10_2 (el : TypeId) (fz : Nat × Nat) (a b c n : Int) : callK Tryd.prog glT (fun _ => none) (asmL okC itoaB) 100 40 40 (.fn 10) [code 2 a b c n] (LS.tab 1 (pow10.map (.int .u64)) el fz) flatR = some (.tuple #[.string (lineB 2 a b c n), .int .i64 (cond (okC 2 a b c n) 0 2)]) := by
  rw [l10_2]
  cases h : okC 2 a b c n with
  | false =>
    simp only [lineB, h]
    rfl
  | true =>
    have hr : -4611686018427387904 ≤ a ∧ a ≤ 4611686018427387904 ∧ -4611686018427387904 ≤ b ∧ b ≤ 4611686018427387904 ∧ -4611686018427387904 ≤ c ∧ c ≤ 4611686018427387904 ∧ -4611686018427387904 ≤ n ∧ n ≤ 4611686018427387904 := by
      have h2 : okF 1 a b c n = true := h
      simp only [okF, decide_eq_true_eq] at h2
      omega
    have ra : -4611686018427387904 ≤ a ∧ a ≤ 4611686018427387904 := by omega
    have rb : -4611686018427387904 ≤ b ∧ b ≤ 4611686018427387904 := by omega
    have rc : -4611686018427387904 ≤ c ∧ c ≤ 4611686018427387904 := by omega
    have rn : -4611686018427387904 ≤ n ∧ n ≤ 4611686018427387904 := by omega
    have sa := itoaB_size a ra
    have sb := itoaB_size b rb
    have sc := itoaB_size c rc
    have sn := itoaB_size n rn
    have hl : lineB 2 a b c n = lineT itoaB ⟨#[115, 117, 98]⟩ 1 a b c n := by unfold lineB; rw [h]; rfl
    rw [hl]
    try simp only [qs_eq]
    repeat' first
      | exact rfl
      | refine condT (rangeT (by assumption)) ?_
      | refine condT (Nat.ble_eq_true_of_le (by simp only [szA, sz1, sz2, sz3]; omega)) ?_
      | refine condT rfl ?_
      | refine condF rfl ?_
    all_goals simp only [lineT, ByteArray.append_assoc, cond_true]

set_option maxRecDepth 100000 in
theorem l9_3 (ok : Ok5) (it : Int → ByteArray) (el : TypeId) (fz : Nat × Nat) (a b c n : Int) : callK Tryd.prog glT (fun _ => none) (asmL ok it) 100 40 40 (.fn 9) [code 3 a b c n] (LS.tab 1 (pow10.map (.int .u64)) el fz) flatR =
 cond ((bif ok 3 a b c n then (0 : Int) else 2) != 0) (
  some (.tuple #[(.string ((⟨#[]⟩ : ByteArray))), (.int IntKind.i64 (bif ok 3 a b c n then (0 : Int) else 2))])) (
  cond (decide (-4611686018427387904 ≤ n) && decide (n ≤ 4611686018427387904)) (
   qs [n, n] (
    cond (decide (-4611686018427387904 ≤ a) && decide (a ≤ 4611686018427387904)) (
     cond (((⟨#[114]⟩ : ByteArray).size + (it a).size).ble 9223372036854775807) (
      cond (decide (-4611686018427387904 ≤ b) && decide (b ≤ 4611686018427387904)) (
       cond (((⟨#[114]⟩ : ByteArray).size + (it b).size).ble 9223372036854775807) (
        cond (decide (-4611686018427387904 ≤ c) && decide (c ≤ 4611686018427387904)) (
         cond (((⟨#[114]⟩ : ByteArray).size + (it c).size).ble 9223372036854775807) (
          cond ((joinB (⟨#[44, 32]⟩ : ByteArray)         [(⟨#[114]⟩ : ByteArray) ++ it a, (⟨#[114]⟩ : ByteArray) ++ it b, (⟨#[114]⟩ : ByteArray) ++ it c]).size.ble   140737488355328) (
           cond ((((⟨#[97, 110, 100]⟩ : ByteArray) ++ (⟨#[32]⟩ : ByteArray)).size +       (joinB (⟨#[44, 32]⟩ : ByteArray)           [(⟨#[114]⟩ : ByteArray) ++ it a, (⟨#[114]⟩ : ByteArray) ++ it b, (⟨#[114]⟩ : ByteArray) ++ it c]).size).ble   9223372036854775807) (
            qs [c, c, c, b, b, a] (
             some (.tuple #[(.string ((⟨#[97, 110, 100]⟩ : ByteArray) ++ (⟨#[32]⟩ : ByteArray) ++
   joinB (⟨#[44, 32]⟩ : ByteArray) [(⟨#[114]⟩ : ByteArray) ++ it a, (⟨#[114]⟩ : ByteArray) ++ it b, (⟨#[114]⟩ : ByteArray) ++ it c])), (.int IntKind.i64 0)]))) (
            none)) (
           none)) (
          none)) (
         none)) (
        none)) (
       none)) (
      none)) (
     none))) (
   none)) := by kernel_rfl
theorem t9_3 (el : TypeId) (fz : Nat × Nat) (a b c n : Int) : callK Tryd.prog glT (fun _ => none) (asmL okC itoaB) 100 40 40 (.fn 9) [code 3 a b c n] (LS.tab 1 (pow10.map (.int .u64)) el fz) flatR = some (.tuple #[.string (lineB 3 a b c n), .int .i64 (cond (okC 3 a b c n) 0 2)]) := by
  rw [l9_3]
  cases h : okC 3 a b c n with
  | false =>
    simp only [lineB, h]
    rfl
  | true =>
    have hr : -4611686018427387904 ≤ a ∧ a ≤ 4611686018427387904 ∧ -4611686018427387904 ≤ b ∧ b ≤ 4611686018427387904 ∧ -4611686018427387904 ≤ c ∧ c ≤ 4611686018427387904 ∧ -4611686018427387904 ≤ n ∧ n ≤ 4611686018427387904 := by
      have h2 : okF 1 a b c n = true := h
      simp only [okF, decide_eq_true_eq] at h2
      omega
    have ra : -4611686018427387904 ≤ a ∧ a ≤ 4611686018427387904 := by omega
    have rb : -4611686018427387904 ≤ b ∧ b ≤ 4611686018427387904 := by omega
    have rc : -4611686018427387904 ≤ c ∧ c ≤ 4611686018427387904 := by omega
    have rn : -4611686018427387904 ≤ n ∧ n ≤ 4611686018427387904 := by omega
    have sa := itoaB_size a ra
    have sb := itoaB_size b rb
    have sc := itoaB_size c rc
    have sn := itoaB_size n rn
    have hl : lineB 3 a b c n = lineT itoaB ⟨#[97, 110, 100]⟩ 1 a b c n := by unfold lineB; rw [h]; rfl
    rw [hl]
    try simp only [qs_eq]
    repeat' first
      | exact rfl
      | refine condT (rangeT (by assumption)) ?_
      | refine condT (Nat.ble_eq_true_of_le (by simp only [joinB, szA, sz1, sz2, sz3]; omega)) ?_
      | refine condT rfl ?_
      | refine condF rfl ?_
    all_goals simp only [lineT, joinB, ByteArray.append_assoc, cond_true]

set_option maxRecDepth 100000 in
theorem l10_3 (ok : Ok5) (it : Int → ByteArray) (el : TypeId) (fz : Nat × Nat) (a b c n : Int) : callK Tryd.prog glT (fun _ => none) (asmL ok it) 100 40 40 (.fn 10) [code 3 a b c n] (LS.tab 1 (pow10.map (.int .u64)) el fz) flatR =
 cond (ok 3 a b c n) (
  cond (decide (-4611686018427387904 ≤ a) && decide (a ≤ 4611686018427387904)) (
   cond (((⟨#[114]⟩ : ByteArray).size + (it a).size).ble 9223372036854775807) (
    cond (((⟨#[32]⟩ : ByteArray).size + ((⟨#[114]⟩ : ByteArray) ++ it a).size).ble 9223372036854775807) (
     cond (decide (-4611686018427387904 ≤ n) && decide (n ≤ 4611686018427387904)) (
      cond (((⟨#[97, 110, 100]⟩ : ByteArray).size + ((⟨#[32]⟩ : ByteArray) ++ ((⟨#[114]⟩ : ByteArray) ++ it a)).size).ble 9223372036854775807) (
       cond ((((⟨#[97, 110, 100]⟩ : ByteArray) ++ ((⟨#[32]⟩ : ByteArray) ++ ((⟨#[114]⟩ : ByteArray) ++ it a))).size +       (⟨#[44, 32]⟩ : ByteArray).size).ble   9223372036854775807) (
        cond (decide (-4611686018427387904 ≤ b) && decide (b ≤ 4611686018427387904)) (
         cond (((⟨#[114]⟩ : ByteArray).size + (it b).size).ble 9223372036854775807) (
          cond ((((⟨#[97, 110, 100]⟩ : ByteArray) ++ ((⟨#[32]⟩ : ByteArray) ++ ((⟨#[114]⟩ : ByteArray) ++ it a)) ++ (⟨#[44, 32]⟩ : ByteArray)).size +       ((⟨#[114]⟩ : ByteArray) ++ it b).size).ble   9223372036854775807) (
           cond ((((⟨#[97, 110, 100]⟩ : ByteArray) ++ ((⟨#[32]⟩ : ByteArray) ++ ((⟨#[114]⟩ : ByteArray) ++ it a)) ++ (⟨#[44, 32]⟩ : ByteArray) ++           ((⟨#[114]⟩ : ByteArray) ++ it b)).size +       (⟨#[44, 32]⟩ : ByteArray).size).ble   9223372036854775807) (
            cond (decide (-4611686018427387904 ≤ c) && decide (c ≤ 4611686018427387904)) (
             cond (((⟨#[114]⟩ : ByteArray).size + (it c).size).ble 9223372036854775807) (
              cond ((((⟨#[97, 110, 100]⟩ : ByteArray) ++ ((⟨#[32]⟩ : ByteArray) ++ ((⟨#[114]⟩ : ByteArray) ++ it a)) ++ (⟨#[44, 32]⟩ : ByteArray) ++             ((⟨#[114]⟩ : ByteArray) ++ it b) ++           (⟨#[44, 32]⟩ : ByteArray)).size +       ((⟨#[114]⟩ : ByteArray) ++ it c).size).ble   9223372036854775807) (
               qs [c, c, b] (
                some (.tuple #[(.string ((⟨#[97, 110, 100]⟩ : ByteArray) ++ ((⟨#[32]⟩ : ByteArray) ++ ((⟨#[114]⟩ : ByteArray) ++ it a)) ++ (⟨#[44, 32]⟩ : ByteArray) ++
       ((⟨#[114]⟩ : ByteArray) ++ it b) ++
     (⟨#[44, 32]⟩ : ByteArray) ++
   ((⟨#[114]⟩ : ByteArray) ++ it c))), (.int IntKind.i64 0)]))) (
               none)) (
              none)) (
             none)) (
            none)) (
           none)) (
          none)) (
         none)) (
        none)) (
       none)) (
      none)) (
     none)) (
    none)) (
   none)) (
  some (.tuple #[(.string ((⟨#[]⟩ : ByteArray))), (.int IntKind.i64 2)])) := by kernel_rfl
theorem t10_3 (el : TypeId) (fz : Nat × Nat) (a b c n : Int) : callK Tryd.prog glT (fun _ => none) (asmL okC itoaB) 100 40 40 (.fn 10) [code 3 a b c n] (LS.tab 1 (pow10.map (.int .u64)) el fz) flatR = some (.tuple #[.string (lineB 3 a b c n), .int .i64 (cond (okC 3 a b c n) 0 2)]) := by
  rw [l10_3]
  cases h : okC 3 a b c n with
  | false =>
    simp only [lineB, h]
    rfl
  | true =>
    have hr : -4611686018427387904 ≤ a ∧ a ≤ 4611686018427387904 ∧ -4611686018427387904 ≤ b ∧ b ≤ 4611686018427387904 ∧ -4611686018427387904 ≤ c ∧ c ≤ 4611686018427387904 ∧ -4611686018427387904 ≤ n ∧ n ≤ 4611686018427387904 := by
      have h2 : okF 1 a b c n = true := h
      simp only [okF, decide_eq_true_eq] at h2
      omega
    have ra : -4611686018427387904 ≤ a ∧ a ≤ 4611686018427387904 := by omega
    have rb : -4611686018427387904 ≤ b ∧ b ≤ 4611686018427387904 := by omega
    have rc : -4611686018427387904 ≤ c ∧ c ≤ 4611686018427387904 := by omega
    have rn : -4611686018427387904 ≤ n ∧ n ≤ 4611686018427387904 := by omega
    have sa := itoaB_size a ra
    have sb := itoaB_size b rb
    have sc := itoaB_size c rc
    have sn := itoaB_size n rn
    have hl : lineB 3 a b c n = lineT itoaB ⟨#[97, 110, 100]⟩ 1 a b c n := by unfold lineB; rw [h]; rfl
    rw [hl]
    try simp only [qs_eq]
    repeat' first
      | exact rfl
      | refine condT (rangeT (by assumption)) ?_
      | refine condT (Nat.ble_eq_true_of_le (by simp only [szA, sz1, sz2, sz3]; omega)) ?_
      | refine condT rfl ?_
      | refine condF rfl ?_
    all_goals simp only [lineT, ByteArray.append_assoc, cond_true]

set_option maxRecDepth 100000 in
theorem l9_4 (ok : Ok5) (it : Int → ByteArray) (el : TypeId) (fz : Nat × Nat) (a b c n : Int) : callK Tryd.prog glT (fun _ => none) (asmL ok it) 100 40 40 (.fn 9) [code 4 a b c n] (LS.tab 1 (pow10.map (.int .u64)) el fz) flatR =
 cond ((bif ok 4 a b c n then (0 : Int) else 2) != 0) (
  some (.tuple #[(.string ((⟨#[]⟩ : ByteArray))), (.int IntKind.i64 (bif ok 4 a b c n then (0 : Int) else 2))])) (
  cond (decide (-4611686018427387904 ≤ n) && decide (n ≤ 4611686018427387904)) (
   qs [n, n] (
    cond (decide (-4611686018427387904 ≤ a) && decide (a ≤ 4611686018427387904)) (
     cond (((⟨#[114]⟩ : ByteArray).size + (it a).size).ble 9223372036854775807) (
      cond (decide (-4611686018427387904 ≤ b) && decide (b ≤ 4611686018427387904)) (
       cond (((⟨#[114]⟩ : ByteArray).size + (it b).size).ble 9223372036854775807) (
        cond (decide (-4611686018427387904 ≤ c) && decide (c ≤ 4611686018427387904)) (
         cond (((⟨#[114]⟩ : ByteArray).size + (it c).size).ble 9223372036854775807) (
          cond ((joinB (⟨#[44, 32]⟩ : ByteArray)         [(⟨#[114]⟩ : ByteArray) ++ it a, (⟨#[114]⟩ : ByteArray) ++ it b, (⟨#[114]⟩ : ByteArray) ++ it c]).size.ble   140737488355328) (
           cond ((((⟨#[111, 114]⟩ : ByteArray) ++ (⟨#[32]⟩ : ByteArray)).size +       (joinB (⟨#[44, 32]⟩ : ByteArray)           [(⟨#[114]⟩ : ByteArray) ++ it a, (⟨#[114]⟩ : ByteArray) ++ it b, (⟨#[114]⟩ : ByteArray) ++ it c]).size).ble   9223372036854775807) (
            qs [c, c, c, b, b, a] (
             some (.tuple #[(.string ((⟨#[111, 114]⟩ : ByteArray) ++ (⟨#[32]⟩ : ByteArray) ++
   joinB (⟨#[44, 32]⟩ : ByteArray) [(⟨#[114]⟩ : ByteArray) ++ it a, (⟨#[114]⟩ : ByteArray) ++ it b, (⟨#[114]⟩ : ByteArray) ++ it c])), (.int IntKind.i64 0)]))) (
            none)) (
           none)) (
          none)) (
         none)) (
        none)) (
       none)) (
      none)) (
     none))) (
   none)) := by kernel_rfl
theorem t9_4 (el : TypeId) (fz : Nat × Nat) (a b c n : Int) : callK Tryd.prog glT (fun _ => none) (asmL okC itoaB) 100 40 40 (.fn 9) [code 4 a b c n] (LS.tab 1 (pow10.map (.int .u64)) el fz) flatR = some (.tuple #[.string (lineB 4 a b c n), .int .i64 (cond (okC 4 a b c n) 0 2)]) := by
  rw [l9_4]
  cases h : okC 4 a b c n with
  | false =>
    simp only [lineB, h]
    rfl
  | true =>
    have hr : -4611686018427387904 ≤ a ∧ a ≤ 4611686018427387904 ∧ -4611686018427387904 ≤ b ∧ b ≤ 4611686018427387904 ∧ -4611686018427387904 ≤ c ∧ c ≤ 4611686018427387904 ∧ -4611686018427387904 ≤ n ∧ n ≤ 4611686018427387904 := by
      have h2 : okF 1 a b c n = true := h
      simp only [okF, decide_eq_true_eq] at h2
      omega
    have ra : -4611686018427387904 ≤ a ∧ a ≤ 4611686018427387904 := by omega
    have rb : -4611686018427387904 ≤ b ∧ b ≤ 4611686018427387904 := by omega
    have rc : -4611686018427387904 ≤ c ∧ c ≤ 4611686018427387904 := by omega
    have rn : -4611686018427387904 ≤ n ∧ n ≤ 4611686018427387904 := by omega
    have sa := itoaB_size a ra
    have sb := itoaB_size b rb
    have sc := itoaB_size c rc
    have sn := itoaB_size n rn
    have hl : lineB 4 a b c n = lineT itoaB ⟨#[111, 114]⟩ 1 a b c n := by unfold lineB; rw [h]; rfl
    rw [hl]
    try simp only [qs_eq]
    repeat' first
      | exact rfl
      | refine condT (rangeT (by assumption)) ?_
      | refine condT (Nat.ble_eq_true_of_le (by simp only [joinB, szA, sz1, sz2]; omega)) ?_
      | refine condT rfl ?_
      | refine condF rfl ?_
    all_goals simp only [lineT, joinB, ByteArray.append_assoc, cond_true]

set_option maxRecDepth 100000 in
theorem l10_4 (ok : Ok5) (it : Int → ByteArray) (el : TypeId) (fz : Nat × Nat) (a b c n : Int) : callK Tryd.prog glT (fun _ => none) (asmL ok it) 100 40 40 (.fn 10) [code 4 a b c n] (LS.tab 1 (pow10.map (.int .u64)) el fz) flatR =
 cond (ok 4 a b c n) (
  cond (decide (-4611686018427387904 ≤ a) && decide (a ≤ 4611686018427387904)) (
   cond (((⟨#[114]⟩ : ByteArray).size + (it a).size).ble 9223372036854775807) (
    cond (((⟨#[32]⟩ : ByteArray).size + ((⟨#[114]⟩ : ByteArray) ++ it a).size).ble 9223372036854775807) (
     cond (decide (-4611686018427387904 ≤ n) && decide (n ≤ 4611686018427387904)) (
      cond (((⟨#[111, 114]⟩ : ByteArray).size + ((⟨#[32]⟩ : ByteArray) ++ ((⟨#[114]⟩ : ByteArray) ++ it a)).size).ble 9223372036854775807) (
       cond ((((⟨#[111, 114]⟩ : ByteArray) ++ ((⟨#[32]⟩ : ByteArray) ++ ((⟨#[114]⟩ : ByteArray) ++ it a))).size + (⟨#[44, 32]⟩ : ByteArray).size).ble   9223372036854775807) (
        cond (decide (-4611686018427387904 ≤ b) && decide (b ≤ 4611686018427387904)) (
         cond (((⟨#[114]⟩ : ByteArray).size + (it b).size).ble 9223372036854775807) (
          cond ((((⟨#[111, 114]⟩ : ByteArray) ++ ((⟨#[32]⟩ : ByteArray) ++ ((⟨#[114]⟩ : ByteArray) ++ it a)) ++ (⟨#[44, 32]⟩ : ByteArray)).size +       ((⟨#[114]⟩ : ByteArray) ++ it b).size).ble   9223372036854775807) (
           cond ((((⟨#[111, 114]⟩ : ByteArray) ++ ((⟨#[32]⟩ : ByteArray) ++ ((⟨#[114]⟩ : ByteArray) ++ it a)) ++ (⟨#[44, 32]⟩ : ByteArray) ++           ((⟨#[114]⟩ : ByteArray) ++ it b)).size +       (⟨#[44, 32]⟩ : ByteArray).size).ble   9223372036854775807) (
            cond (decide (-4611686018427387904 ≤ c) && decide (c ≤ 4611686018427387904)) (
             cond (((⟨#[114]⟩ : ByteArray).size + (it c).size).ble 9223372036854775807) (
              cond ((((⟨#[111, 114]⟩ : ByteArray) ++ ((⟨#[32]⟩ : ByteArray) ++ ((⟨#[114]⟩ : ByteArray) ++ it a)) ++ (⟨#[44, 32]⟩ : ByteArray) ++             ((⟨#[114]⟩ : ByteArray) ++ it b) ++           (⟨#[44, 32]⟩ : ByteArray)).size +       ((⟨#[114]⟩ : ByteArray) ++ it c).size).ble   9223372036854775807) (
               qs [c, c, b] (
                some (.tuple #[(.string ((⟨#[111, 114]⟩ : ByteArray) ++ ((⟨#[32]⟩ : ByteArray) ++ ((⟨#[114]⟩ : ByteArray) ++ it a)) ++ (⟨#[44, 32]⟩ : ByteArray) ++
       ((⟨#[114]⟩ : ByteArray) ++ it b) ++
     (⟨#[44, 32]⟩ : ByteArray) ++
   ((⟨#[114]⟩ : ByteArray) ++ it c))), (.int IntKind.i64 0)]))) (
               none)) (
              none)) (
             none)) (
            none)) (
           none)) (
          none)) (
         none)) (
        none)) (
       none)) (
      none)) (
     none)) (
    none)) (
   none)) (
  some (.tuple #[(.string ((⟨#[]⟩ : ByteArray))), (.int IntKind.i64 2)])) := by kernel_rfl
theorem t10_4 (el : TypeId) (fz : Nat × Nat) (a b c n : Int) : callK Tryd.prog glT (fun _ => none) (asmL okC itoaB) 100 40 40 (.fn 10) [code 4 a b c n] (LS.tab 1 (pow10.map (.int .u64)) el fz) flatR = some (.tuple #[.string (lineB 4 a b c n), .int .i64 (cond (okC 4 a b c n) 0 2)]) := by
  rw [l10_4]
  cases h : okC 4 a b c n with
  | false =>
    simp only [lineB, h]
    rfl
  | true =>
    have hr : -4611686018427387904 ≤ a ∧ a ≤ 4611686018427387904 ∧ -4611686018427387904 ≤ b ∧ b ≤ 4611686018427387904 ∧ -4611686018427387904 ≤ c ∧ c ≤ 4611686018427387904 ∧ -4611686018427387904 ≤ n ∧ n ≤ 4611686018427387904 := by
      have h2 : okF 1 a b c n = true := h
      simp only [okF, decide_eq_true_eq] at h2
      omega
    have ra : -4611686018427387904 ≤ a ∧ a ≤ 4611686018427387904 := by omega
    have rb : -4611686018427387904 ≤ b ∧ b ≤ 4611686018427387904 := by omega
    have rc : -4611686018427387904 ≤ c ∧ c ≤ 4611686018427387904 := by omega
    have rn : -4611686018427387904 ≤ n ∧ n ≤ 4611686018427387904 := by omega
    have sa := itoaB_size a ra
    have sb := itoaB_size b rb
    have sc := itoaB_size c rc
    have sn := itoaB_size n rn
    have hl : lineB 4 a b c n = lineT itoaB ⟨#[111, 114]⟩ 1 a b c n := by unfold lineB; rw [h]; rfl
    rw [hl]
    try simp only [qs_eq]
    repeat' first
      | exact rfl
      | refine condT (rangeT (by assumption)) ?_
      | refine condT (Nat.ble_eq_true_of_le (by simp only [szA, sz1, sz2]; omega)) ?_
      | refine condT rfl ?_
      | refine condF rfl ?_
    all_goals simp only [lineT, ByteArray.append_assoc, cond_true]

set_option maxRecDepth 100000 in
theorem l9_5 (ok : Ok5) (it : Int → ByteArray) (el : TypeId) (fz : Nat × Nat) (a b c n : Int) : callK Tryd.prog glT (fun _ => none) (asmL ok it) 100 40 40 (.fn 9) [code 5 a b c n] (LS.tab 1 (pow10.map (.int .u64)) el fz) flatR =
 cond ((bif ok 5 a b c n then (0 : Int) else 2) != 0) (
  some (.tuple #[(.string ((⟨#[]⟩ : ByteArray))), (.int IntKind.i64 (bif ok 5 a b c n then (0 : Int) else 2))])) (
  cond (decide (-4611686018427387904 ≤ n) && decide (n ≤ 4611686018427387904)) (
   qs [n, n] (
    cond (decide (-4611686018427387904 ≤ a) && decide (a ≤ 4611686018427387904)) (
     cond (((⟨#[114]⟩ : ByteArray).size + (it a).size).ble 9223372036854775807) (
      cond (decide (-4611686018427387904 ≤ b) && decide (b ≤ 4611686018427387904)) (
       cond (((⟨#[114]⟩ : ByteArray).size + (it b).size).ble 9223372036854775807) (
        cond (decide (-4611686018427387904 ≤ c) && decide (c ≤ 4611686018427387904)) (
         cond (((⟨#[114]⟩ : ByteArray).size + (it c).size).ble 9223372036854775807) (
          cond ((joinB (⟨#[44, 32]⟩ : ByteArray)         [(⟨#[114]⟩ : ByteArray) ++ it a, (⟨#[114]⟩ : ByteArray) ++ it b, (⟨#[114]⟩ : ByteArray) ++ it c]).size.ble   140737488355328) (
           cond ((((⟨#[120, 111, 114]⟩ : ByteArray) ++ (⟨#[32]⟩ : ByteArray)).size +       (joinB (⟨#[44, 32]⟩ : ByteArray)           [(⟨#[114]⟩ : ByteArray) ++ it a, (⟨#[114]⟩ : ByteArray) ++ it b, (⟨#[114]⟩ : ByteArray) ++ it c]).size).ble   9223372036854775807) (
            qs [c, c, c, b, b, a] (
             some (.tuple #[(.string ((⟨#[120, 111, 114]⟩ : ByteArray) ++ (⟨#[32]⟩ : ByteArray) ++
   joinB (⟨#[44, 32]⟩ : ByteArray) [(⟨#[114]⟩ : ByteArray) ++ it a, (⟨#[114]⟩ : ByteArray) ++ it b, (⟨#[114]⟩ : ByteArray) ++ it c])), (.int IntKind.i64 0)]))) (
            none)) (
           none)) (
          none)) (
         none)) (
        none)) (
       none)) (
      none)) (
     none))) (
   none)) := by kernel_rfl
theorem t9_5 (el : TypeId) (fz : Nat × Nat) (a b c n : Int) : callK Tryd.prog glT (fun _ => none) (asmL okC itoaB) 100 40 40 (.fn 9) [code 5 a b c n] (LS.tab 1 (pow10.map (.int .u64)) el fz) flatR = some (.tuple #[.string (lineB 5 a b c n), .int .i64 (cond (okC 5 a b c n) 0 2)]) := by
  rw [l9_5]
  cases h : okC 5 a b c n with
  | false =>
    simp only [lineB, h]
    rfl
  | true =>
    have hr : -4611686018427387904 ≤ a ∧ a ≤ 4611686018427387904 ∧ -4611686018427387904 ≤ b ∧ b ≤ 4611686018427387904 ∧ -4611686018427387904 ≤ c ∧ c ≤ 4611686018427387904 ∧ -4611686018427387904 ≤ n ∧ n ≤ 4611686018427387904 := by
      have h2 : okF 1 a b c n = true := h
      simp only [okF, decide_eq_true_eq] at h2
      omega
    have ra : -4611686018427387904 ≤ a ∧ a ≤ 4611686018427387904 := by omega
    have rb : -4611686018427387904 ≤ b ∧ b ≤ 4611686018427387904 := by omega
    have rc : -4611686018427387904 ≤ c ∧ c ≤ 4611686018427387904 := by omega
    have rn : -4611686018427387904 ≤ n ∧ n ≤ 4611686018427387904 := by omega
    have sa := itoaB_size a ra
    have sb := itoaB_size b rb
    have sc := itoaB_size c rc
    have sn := itoaB_size n rn
    have hl : lineB 5 a b c n = lineT itoaB ⟨#[120, 111, 114]⟩ 1 a b c n := by unfold lineB; rw [h]; rfl
    rw [hl]
    try simp only [qs_eq]
    repeat' first
      | exact rfl
      | refine condT (rangeT (by assumption)) ?_
      | refine condT (Nat.ble_eq_true_of_le (by simp only [joinB, szA, sz1, sz2, sz3]; omega)) ?_
      | refine condT rfl ?_
      | refine condF rfl ?_
    all_goals simp only [lineT, joinB, ByteArray.append_assoc, cond_true]

set_option maxRecDepth 100000 in
theorem l10_5 (ok : Ok5) (it : Int → ByteArray) (el : TypeId) (fz : Nat × Nat) (a b c n : Int) : callK Tryd.prog glT (fun _ => none) (asmL ok it) 100 40 40 (.fn 10) [code 5 a b c n] (LS.tab 1 (pow10.map (.int .u64)) el fz) flatR =
 cond (ok 5 a b c n) (
  cond (decide (-4611686018427387904 ≤ a) && decide (a ≤ 4611686018427387904)) (
   cond (((⟨#[114]⟩ : ByteArray).size + (it a).size).ble 9223372036854775807) (
    cond (((⟨#[32]⟩ : ByteArray).size + ((⟨#[114]⟩ : ByteArray) ++ it a).size).ble 9223372036854775807) (
     cond (decide (-4611686018427387904 ≤ n) && decide (n ≤ 4611686018427387904)) (
      cond (((⟨#[120, 111, 114]⟩ : ByteArray).size + ((⟨#[32]⟩ : ByteArray) ++ ((⟨#[114]⟩ : ByteArray) ++ it a)).size).ble 9223372036854775807) (
       cond ((((⟨#[120, 111, 114]⟩ : ByteArray) ++ ((⟨#[32]⟩ : ByteArray) ++ ((⟨#[114]⟩ : ByteArray) ++ it a))).size +       (⟨#[44, 32]⟩ : ByteArray).size).ble   9223372036854775807) (
        cond (decide (-4611686018427387904 ≤ b) && decide (b ≤ 4611686018427387904)) (
         cond (((⟨#[114]⟩ : ByteArray).size + (it b).size).ble 9223372036854775807) (
          cond ((((⟨#[120, 111, 114]⟩ : ByteArray) ++ ((⟨#[32]⟩ : ByteArray) ++ ((⟨#[114]⟩ : ByteArray) ++ it a)) ++ (⟨#[44, 32]⟩ : ByteArray)).size +       ((⟨#[114]⟩ : ByteArray) ++ it b).size).ble   9223372036854775807) (
           cond ((((⟨#[120, 111, 114]⟩ : ByteArray) ++ ((⟨#[32]⟩ : ByteArray) ++ ((⟨#[114]⟩ : ByteArray) ++ it a)) ++ (⟨#[44, 32]⟩ : ByteArray) ++           ((⟨#[114]⟩ : ByteArray) ++ it b)).size +       (⟨#[44, 32]⟩ : ByteArray).size).ble   9223372036854775807) (
            cond (decide (-4611686018427387904 ≤ c) && decide (c ≤ 4611686018427387904)) (
             cond (((⟨#[114]⟩ : ByteArray).size + (it c).size).ble 9223372036854775807) (
              cond ((((⟨#[120, 111, 114]⟩ : ByteArray) ++ ((⟨#[32]⟩ : ByteArray) ++ ((⟨#[114]⟩ : ByteArray) ++ it a)) ++ (⟨#[44, 32]⟩ : ByteArray) ++             ((⟨#[114]⟩ : ByteArray) ++ it b) ++           (⟨#[44, 32]⟩ : ByteArray)).size +       ((⟨#[114]⟩ : ByteArray) ++ it c).size).ble   9223372036854775807) (
               qs [c, c, b] (
                some (.tuple #[(.string ((⟨#[120, 111, 114]⟩ : ByteArray) ++ ((⟨#[32]⟩ : ByteArray) ++ ((⟨#[114]⟩ : ByteArray) ++ it a)) ++ (⟨#[44, 32]⟩ : ByteArray) ++
       ((⟨#[114]⟩ : ByteArray) ++ it b) ++
     (⟨#[44, 32]⟩ : ByteArray) ++
   ((⟨#[114]⟩ : ByteArray) ++ it c))), (.int IntKind.i64 0)]))) (
               none)) (
              none)) (
             none)) (
            none)) (
           none)) (
          none)) (
         none)) (
        none)) (
       none)) (
      none)) (
     none)) (
    none)) (
   none)) (
  some (.tuple #[(.string ((⟨#[]⟩ : ByteArray))), (.int IntKind.i64 2)])) := by kernel_rfl
theorem t10_5 (el : TypeId) (fz : Nat × Nat) (a b c n : Int) : callK Tryd.prog glT (fun _ => none) (asmL okC itoaB) 100 40 40 (.fn 10) [code 5 a b c n] (LS.tab 1 (pow10.map (.int .u64)) el fz) flatR = some (.tuple #[.string (lineB 5 a b c n), .int .i64 (cond (okC 5 a b c n) 0 2)]) := by
  rw [l10_5]
  cases h : okC 5 a b c n with
  | false =>
    simp only [lineB, h]
    rfl
  | true =>
    have hr : -4611686018427387904 ≤ a ∧ a ≤ 4611686018427387904 ∧ -4611686018427387904 ≤ b ∧ b ≤ 4611686018427387904 ∧ -4611686018427387904 ≤ c ∧ c ≤ 4611686018427387904 ∧ -4611686018427387904 ≤ n ∧ n ≤ 4611686018427387904 := by
      have h2 : okF 1 a b c n = true := h
      simp only [okF, decide_eq_true_eq] at h2
      omega
    have ra : -4611686018427387904 ≤ a ∧ a ≤ 4611686018427387904 := by omega
    have rb : -4611686018427387904 ≤ b ∧ b ≤ 4611686018427387904 := by omega
    have rc : -4611686018427387904 ≤ c ∧ c ≤ 4611686018427387904 := by omega
    have rn : -4611686018427387904 ≤ n ∧ n ≤ 4611686018427387904 := by omega
    have sa := itoaB_size a ra
    have sb := itoaB_size b rb
    have sc := itoaB_size c rc
    have sn := itoaB_size n rn
    have hl : lineB 5 a b c n = lineT itoaB ⟨#[120, 111, 114]⟩ 1 a b c n := by unfold lineB; rw [h]; rfl
    rw [hl]
    try simp only [qs_eq]
    repeat' first
      | exact rfl
      | refine condT (rangeT (by assumption)) ?_
      | refine condT (Nat.ble_eq_true_of_le (by simp only [szA, sz1, sz2, sz3]; omega)) ?_
      | refine condT rfl ?_
      | refine condF rfl ?_
    all_goals simp only [lineT, ByteArray.append_assoc, cond_true]

set_option maxRecDepth 100000 in
theorem l9_6 (ok : Ok5) (it : Int → ByteArray) (el : TypeId) (fz : Nat × Nat) (a b c n : Int) : callK Tryd.prog glT (fun _ => none) (asmL ok it) 100 40 40 (.fn 9) [code 6 a b c n] (LS.tab 1 (pow10.map (.int .u64)) el fz) flatR =
 cond ((bif ok 6 a b c n then (0 : Int) else 2) != 0) (
  some (.tuple #[(.string ((⟨#[]⟩ : ByteArray))), (.int IntKind.i64 (bif ok 6 a b c n then (0 : Int) else 2))])) (
  cond (decide (-4611686018427387904 ≤ n) && decide (n ≤ 4611686018427387904)) (
   qs [n, n] (
    cond (decide (-4611686018427387904 ≤ a) && decide (a ≤ 4611686018427387904)) (
     cond (((⟨#[114]⟩ : ByteArray).size + (it a).size).ble 9223372036854775807) (
      cond (decide (-4611686018427387904 ≤ b) && decide (b ≤ 4611686018427387904)) (
       cond (((⟨#[114]⟩ : ByteArray).size + (it b).size).ble 9223372036854775807) (
        cond (decide (-4611686018427387904 ≤ c) && decide (c ≤ 4611686018427387904)) (
         cond (((⟨#[114]⟩ : ByteArray).size + (it c).size).ble 9223372036854775807) (
          cond ((joinB (⟨#[44, 32]⟩ : ByteArray)         [(⟨#[114]⟩ : ByteArray) ++ it a, (⟨#[114]⟩ : ByteArray) ++ it b, (⟨#[114]⟩ : ByteArray) ++ it c]).size.ble   140737488355328) (
           cond ((((⟨#[108, 101, 115, 115]⟩ : ByteArray) ++ (⟨#[32]⟩ : ByteArray)).size +       (joinB (⟨#[44, 32]⟩ : ByteArray)           [(⟨#[114]⟩ : ByteArray) ++ it a, (⟨#[114]⟩ : ByteArray) ++ it b, (⟨#[114]⟩ : ByteArray) ++ it c]).size).ble   9223372036854775807) (
            qs [c, c, c, b, b, a] (
             some (.tuple #[(.string ((⟨#[108, 101, 115, 115]⟩ : ByteArray) ++ (⟨#[32]⟩ : ByteArray) ++
   joinB (⟨#[44, 32]⟩ : ByteArray) [(⟨#[114]⟩ : ByteArray) ++ it a, (⟨#[114]⟩ : ByteArray) ++ it b, (⟨#[114]⟩ : ByteArray) ++ it c])), (.int IntKind.i64 0)]))) (
            none)) (
           none)) (
          none)) (
         none)) (
        none)) (
       none)) (
      none)) (
     none))) (
   none)) := by kernel_rfl
theorem t9_6 (el : TypeId) (fz : Nat × Nat) (a b c n : Int) : callK Tryd.prog glT (fun _ => none) (asmL okC itoaB) 100 40 40 (.fn 9) [code 6 a b c n] (LS.tab 1 (pow10.map (.int .u64)) el fz) flatR = some (.tuple #[.string (lineB 6 a b c n), .int .i64 (cond (okC 6 a b c n) 0 2)]) := by
  rw [l9_6]
  cases h : okC 6 a b c n with
  | false =>
    simp only [lineB, h]
    rfl
  | true =>
    have hr : -4611686018427387904 ≤ a ∧ a ≤ 4611686018427387904 ∧ -4611686018427387904 ≤ b ∧ b ≤ 4611686018427387904 ∧ -4611686018427387904 ≤ c ∧ c ≤ 4611686018427387904 ∧ -4611686018427387904 ≤ n ∧ n ≤ 4611686018427387904 := by
      have h2 : okF 1 a b c n = true := h
      simp only [okF, decide_eq_true_eq] at h2
      omega
    have ra : -4611686018427387904 ≤ a ∧ a ≤ 4611686018427387904 := by omega
    have rb : -4611686018427387904 ≤ b ∧ b ≤ 4611686018427387904 := by omega
    have rc : -4611686018427387904 ≤ c ∧ c ≤ 4611686018427387904 := by omega
    have rn : -4611686018427387904 ≤ n ∧ n ≤ 4611686018427387904 := by omega
    have sa := itoaB_size a ra
    have sb := itoaB_size b rb
    have sc := itoaB_size c rc
    have sn := itoaB_size n rn
    have hl : lineB 6 a b c n = lineT itoaB ⟨#[108, 101, 115, 115]⟩ 1 a b c n := by unfold lineB; rw [h]; rfl
    rw [hl]
    try simp only [qs_eq]
    repeat' first
      | exact rfl
      | refine condT (rangeT (by assumption)) ?_
      | refine condT (Nat.ble_eq_true_of_le (by simp only [joinB, szA, sz1, sz2, sz4]; omega)) ?_
      | refine condT rfl ?_
      | refine condF rfl ?_
    all_goals simp only [lineT, joinB, ByteArray.append_assoc, cond_true]

set_option maxRecDepth 100000 in
theorem l10_6 (ok : Ok5) (it : Int → ByteArray) (el : TypeId) (fz : Nat × Nat) (a b c n : Int) : callK Tryd.prog glT (fun _ => none) (asmL ok it) 100 40 40 (.fn 10) [code 6 a b c n] (LS.tab 1 (pow10.map (.int .u64)) el fz) flatR =
 cond (ok 6 a b c n) (
  cond (decide (-4611686018427387904 ≤ a) && decide (a ≤ 4611686018427387904)) (
   cond (((⟨#[114]⟩ : ByteArray).size + (it a).size).ble 9223372036854775807) (
    cond (((⟨#[32]⟩ : ByteArray).size + ((⟨#[114]⟩ : ByteArray) ++ it a).size).ble 9223372036854775807) (
     cond (decide (-4611686018427387904 ≤ n) && decide (n ≤ 4611686018427387904)) (
      cond (((⟨#[108, 101, 115, 115]⟩ : ByteArray).size + ((⟨#[32]⟩ : ByteArray) ++ ((⟨#[114]⟩ : ByteArray) ++ it a)).size).ble   9223372036854775807) (
       cond ((((⟨#[108, 101, 115, 115]⟩ : ByteArray) ++ ((⟨#[32]⟩ : ByteArray) ++ ((⟨#[114]⟩ : ByteArray) ++ it a))).size +       (⟨#[44, 32]⟩ : ByteArray).size).ble   9223372036854775807) (
        cond (decide (-4611686018427387904 ≤ b) && decide (b ≤ 4611686018427387904)) (
         cond (((⟨#[114]⟩ : ByteArray).size + (it b).size).ble 9223372036854775807) (
          cond ((((⟨#[108, 101, 115, 115]⟩ : ByteArray) ++ ((⟨#[32]⟩ : ByteArray) ++ ((⟨#[114]⟩ : ByteArray) ++ it a)) ++           (⟨#[44, 32]⟩ : ByteArray)).size +       ((⟨#[114]⟩ : ByteArray) ++ it b).size).ble   9223372036854775807) (
           cond ((((⟨#[108, 101, 115, 115]⟩ : ByteArray) ++ ((⟨#[32]⟩ : ByteArray) ++ ((⟨#[114]⟩ : ByteArray) ++ it a)) ++ (⟨#[44, 32]⟩ : ByteArray) ++           ((⟨#[114]⟩ : ByteArray) ++ it b)).size +       (⟨#[44, 32]⟩ : ByteArray).size).ble   9223372036854775807) (
            cond (decide (-4611686018427387904 ≤ c) && decide (c ≤ 4611686018427387904)) (
             cond (((⟨#[114]⟩ : ByteArray).size + (it c).size).ble 9223372036854775807) (
              cond ((((⟨#[108, 101, 115, 115]⟩ : ByteArray) ++ ((⟨#[32]⟩ : ByteArray) ++ ((⟨#[114]⟩ : ByteArray) ++ it a)) ++ (⟨#[44, 32]⟩ : ByteArray) ++             ((⟨#[114]⟩ : ByteArray) ++ it b) ++           (⟨#[44, 32]⟩ : ByteArray)).size +       ((⟨#[114]⟩ : ByteArray) ++ it c).size).ble   9223372036854775807) (
               qs [c, c, b] (
                some (.tuple #[(.string ((⟨#[108, 101, 115, 115]⟩ : ByteArray) ++ ((⟨#[32]⟩ : ByteArray) ++ ((⟨#[114]⟩ : ByteArray) ++ it a)) ++ (⟨#[44, 32]⟩ : ByteArray) ++
       ((⟨#[114]⟩ : ByteArray) ++ it b) ++
     (⟨#[44, 32]⟩ : ByteArray) ++
   ((⟨#[114]⟩ : ByteArray) ++ it c))), (.int IntKind.i64 0)]))) (
               none)) (
              none)) (
             none)) (
            none)) (
           none)) (
          none)) (
         none)) (
        none)) (
       none)) (
      none)) (
     none)) (
    none)) (
   none)) (
  some (.tuple #[(.string ((⟨#[]⟩ : ByteArray))), (.int IntKind.i64 2)])) := by kernel_rfl
theorem t10_6 (el : TypeId) (fz : Nat × Nat) (a b c n : Int) : callK Tryd.prog glT (fun _ => none) (asmL okC itoaB) 100 40 40 (.fn 10) [code 6 a b c n] (LS.tab 1 (pow10.map (.int .u64)) el fz) flatR = some (.tuple #[.string (lineB 6 a b c n), .int .i64 (cond (okC 6 a b c n) 0 2)]) := by
  rw [l10_6]
  cases h : okC 6 a b c n with
  | false =>
    simp only [lineB, h]
    rfl
  | true =>
    have hr : -4611686018427387904 ≤ a ∧ a ≤ 4611686018427387904 ∧ -4611686018427387904 ≤ b ∧ b ≤ 4611686018427387904 ∧ -4611686018427387904 ≤ c ∧ c ≤ 4611686018427387904 ∧ -4611686018427387904 ≤ n ∧ n ≤ 4611686018427387904 := by
      have h2 : okF 1 a b c n = true := h
      simp only [okF, decide_eq_true_eq] at h2
      omega
    have ra : -4611686018427387904 ≤ a ∧ a ≤ 4611686018427387904 := by omega
    have rb : -4611686018427387904 ≤ b ∧ b ≤ 4611686018427387904 := by omega
    have rc : -4611686018427387904 ≤ c ∧ c ≤ 4611686018427387904 := by omega
    have rn : -4611686018427387904 ≤ n ∧ n ≤ 4611686018427387904 := by omega
    have sa := itoaB_size a ra
    have sb := itoaB_size b rb
    have sc := itoaB_size c rc
    have sn := itoaB_size n rn
    have hl : lineB 6 a b c n = lineT itoaB ⟨#[108, 101, 115, 115]⟩ 1 a b c n := by unfold lineB; rw [h]; rfl
    rw [hl]
    try simp only [qs_eq]
    repeat' first
      | exact rfl
      | refine condT (rangeT (by assumption)) ?_
      | refine condT (Nat.ble_eq_true_of_le (by simp only [szA, sz1, sz2, sz4]; omega)) ?_
      | refine condT rfl ?_
      | refine condF rfl ?_
    all_goals simp only [lineT, ByteArray.append_assoc, cond_true]

set_option maxRecDepth 100000 in
theorem l9_7 (ok : Ok5) (it : Int → ByteArray) (el : TypeId) (fz : Nat × Nat) (a b c n : Int) : callK Tryd.prog glT (fun _ => none) (asmL ok it) 100 40 40 (.fn 9) [code 7 a b c n] (LS.tab 1 (pow10.map (.int .u64)) el fz) flatR =
 cond ((bif ok 7 a b c n then (0 : Int) else 2) != 0) (
  some (.tuple #[(.string ((⟨#[]⟩ : ByteArray))), (.int IntKind.i64 (bif ok 7 a b c n then (0 : Int) else 2))])) (
  cond (decide (-4611686018427387904 ≤ n) && decide (n ≤ 4611686018427387904)) (
   qs [n, n] (
    cond (decide (-4611686018427387904 ≤ a) && decide (a ≤ 4611686018427387904)) (
     cond (((⟨#[114]⟩ : ByteArray).size + (it a).size).ble 9223372036854775807) (
      cond (decide (-4611686018427387904 ≤ b) && decide (b ≤ 4611686018427387904)) (
       cond (((⟨#[114]⟩ : ByteArray).size + (it b).size).ble 9223372036854775807) (
        cond (decide (-4611686018427387904 ≤ c) && decide (c ≤ 4611686018427387904)) (
         cond (((⟨#[114]⟩ : ByteArray).size + (it c).size).ble 9223372036854775807) (
          cond ((joinB (⟨#[44, 32]⟩ : ByteArray)         [(⟨#[114]⟩ : ByteArray) ++ it a, (⟨#[114]⟩ : ByteArray) ++ it b, (⟨#[114]⟩ : ByteArray) ++ it c]).size.ble   140737488355328) (
           cond ((((⟨#[109, 117, 108]⟩ : ByteArray) ++ (⟨#[32]⟩ : ByteArray)).size +       (joinB (⟨#[44, 32]⟩ : ByteArray)           [(⟨#[114]⟩ : ByteArray) ++ it a, (⟨#[114]⟩ : ByteArray) ++ it b, (⟨#[114]⟩ : ByteArray) ++ it c]).size).ble   9223372036854775807) (
            qs [c, c, c, b, b, a] (
             some (.tuple #[(.string ((⟨#[109, 117, 108]⟩ : ByteArray) ++ (⟨#[32]⟩ : ByteArray) ++
   joinB (⟨#[44, 32]⟩ : ByteArray) [(⟨#[114]⟩ : ByteArray) ++ it a, (⟨#[114]⟩ : ByteArray) ++ it b, (⟨#[114]⟩ : ByteArray) ++ it c])), (.int IntKind.i64 0)]))) (
            none)) (
           none)) (
          none)) (
         none)) (
        none)) (
       none)) (
      none)) (
     none))) (
   none)) := by kernel_rfl
theorem t9_7 (el : TypeId) (fz : Nat × Nat) (a b c n : Int) : callK Tryd.prog glT (fun _ => none) (asmL okC itoaB) 100 40 40 (.fn 9) [code 7 a b c n] (LS.tab 1 (pow10.map (.int .u64)) el fz) flatR = some (.tuple #[.string (lineB 7 a b c n), .int .i64 (cond (okC 7 a b c n) 0 2)]) := by
  rw [l9_7]
  cases h : okC 7 a b c n with
  | false =>
    simp only [lineB, h]
    rfl
  | true =>
    have hr : -4611686018427387904 ≤ a ∧ a ≤ 4611686018427387904 ∧ -4611686018427387904 ≤ b ∧ b ≤ 4611686018427387904 ∧ -4611686018427387904 ≤ c ∧ c ≤ 4611686018427387904 ∧ -4611686018427387904 ≤ n ∧ n ≤ 4611686018427387904 := by
      have h2 : okF 1 a b c n = true := h
      simp only [okF, decide_eq_true_eq] at h2
      omega
    have ra : -4611686018427387904 ≤ a ∧ a ≤ 4611686018427387904 := by omega
    have rb : -4611686018427387904 ≤ b ∧ b ≤ 4611686018427387904 := by omega
    have rc : -4611686018427387904 ≤ c ∧ c ≤ 4611686018427387904 := by omega
    have rn : -4611686018427387904 ≤ n ∧ n ≤ 4611686018427387904 := by omega
    have sa := itoaB_size a ra
    have sb := itoaB_size b rb
    have sc := itoaB_size c rc
    have sn := itoaB_size n rn
    have hl : lineB 7 a b c n = lineT itoaB ⟨#[109, 117, 108]⟩ 1 a b c n := by unfold lineB; rw [h]; rfl
    rw [hl]
    try simp only [qs_eq]
    repeat' first
      | exact rfl
      | refine condT (rangeT (by assumption)) ?_
      | refine condT (Nat.ble_eq_true_of_le (by simp only [joinB, szA, sz1, sz2, sz3]; omega)) ?_
      | refine condT rfl ?_
      | refine condF rfl ?_
    all_goals simp only [lineT, joinB, ByteArray.append_assoc, cond_true]

set_option maxRecDepth 100000 in
theorem l10_7 (ok : Ok5) (it : Int → ByteArray) (el : TypeId) (fz : Nat × Nat) (a b c n : Int) : callK Tryd.prog glT (fun _ => none) (asmL ok it) 100 40 40 (.fn 10) [code 7 a b c n] (LS.tab 1 (pow10.map (.int .u64)) el fz) flatR =
 cond (ok 7 a b c n) (
  cond (decide (-4611686018427387904 ≤ a) && decide (a ≤ 4611686018427387904)) (
   cond (((⟨#[114]⟩ : ByteArray).size + (it a).size).ble 9223372036854775807) (
    cond (((⟨#[32]⟩ : ByteArray).size + ((⟨#[114]⟩ : ByteArray) ++ it a).size).ble 9223372036854775807) (
     cond (decide (-4611686018427387904 ≤ n) && decide (n ≤ 4611686018427387904)) (
      cond (((⟨#[109, 117, 108]⟩ : ByteArray).size + ((⟨#[32]⟩ : ByteArray) ++ ((⟨#[114]⟩ : ByteArray) ++ it a)).size).ble 9223372036854775807) (
       cond ((((⟨#[109, 117, 108]⟩ : ByteArray) ++ ((⟨#[32]⟩ : ByteArray) ++ ((⟨#[114]⟩ : ByteArray) ++ it a))).size +       (⟨#[44, 32]⟩ : ByteArray).size).ble   9223372036854775807) (
        cond (decide (-4611686018427387904 ≤ b) && decide (b ≤ 4611686018427387904)) (
         cond (((⟨#[114]⟩ : ByteArray).size + (it b).size).ble 9223372036854775807) (
          cond ((((⟨#[109, 117, 108]⟩ : ByteArray) ++ ((⟨#[32]⟩ : ByteArray) ++ ((⟨#[114]⟩ : ByteArray) ++ it a)) ++ (⟨#[44, 32]⟩ : ByteArray)).size +       ((⟨#[114]⟩ : ByteArray) ++ it b).size).ble   9223372036854775807) (
           cond ((((⟨#[109, 117, 108]⟩ : ByteArray) ++ ((⟨#[32]⟩ : ByteArray) ++ ((⟨#[114]⟩ : ByteArray) ++ it a)) ++ (⟨#[44, 32]⟩ : ByteArray) ++           ((⟨#[114]⟩ : ByteArray) ++ it b)).size +       (⟨#[44, 32]⟩ : ByteArray).size).ble   9223372036854775807) (
            cond (decide (-4611686018427387904 ≤ c) && decide (c ≤ 4611686018427387904)) (
             cond (((⟨#[114]⟩ : ByteArray).size + (it c).size).ble 9223372036854775807) (
              cond ((((⟨#[109, 117, 108]⟩ : ByteArray) ++ ((⟨#[32]⟩ : ByteArray) ++ ((⟨#[114]⟩ : ByteArray) ++ it a)) ++ (⟨#[44, 32]⟩ : ByteArray) ++             ((⟨#[114]⟩ : ByteArray) ++ it b) ++           (⟨#[44, 32]⟩ : ByteArray)).size +       ((⟨#[114]⟩ : ByteArray) ++ it c).size).ble   9223372036854775807) (
               qs [c, c, b] (
                some (.tuple #[(.string ((⟨#[109, 117, 108]⟩ : ByteArray) ++ ((⟨#[32]⟩ : ByteArray) ++ ((⟨#[114]⟩ : ByteArray) ++ it a)) ++ (⟨#[44, 32]⟩ : ByteArray) ++
       ((⟨#[114]⟩ : ByteArray) ++ it b) ++
     (⟨#[44, 32]⟩ : ByteArray) ++
   ((⟨#[114]⟩ : ByteArray) ++ it c))), (.int IntKind.i64 0)]))) (
               none)) (
              none)) (
             none)) (
            none)) (
           none)) (
          none)) (
         none)) (
        none)) (
       none)) (
      none)) (
     none)) (
    none)) (
   none)) (
  some (.tuple #[(.string ((⟨#[]⟩ : ByteArray))), (.int IntKind.i64 2)])) := by kernel_rfl
theorem t10_7 (el : TypeId) (fz : Nat × Nat) (a b c n : Int) : callK Tryd.prog glT (fun _ => none) (asmL okC itoaB) 100 40 40 (.fn 10) [code 7 a b c n] (LS.tab 1 (pow10.map (.int .u64)) el fz) flatR = some (.tuple #[.string (lineB 7 a b c n), .int .i64 (cond (okC 7 a b c n) 0 2)]) := by
  rw [l10_7]
  cases h : okC 7 a b c n with
  | false =>
    simp only [lineB, h]
    rfl
  | true =>
    have hr : -4611686018427387904 ≤ a ∧ a ≤ 4611686018427387904 ∧ -4611686018427387904 ≤ b ∧ b ≤ 4611686018427387904 ∧ -4611686018427387904 ≤ c ∧ c ≤ 4611686018427387904 ∧ -4611686018427387904 ≤ n ∧ n ≤ 4611686018427387904 := by
      have h2 : okF 1 a b c n = true := h
      simp only [okF, decide_eq_true_eq] at h2
      omega
    have ra : -4611686018427387904 ≤ a ∧ a ≤ 4611686018427387904 := by omega
    have rb : -4611686018427387904 ≤ b ∧ b ≤ 4611686018427387904 := by omega
    have rc : -4611686018427387904 ≤ c ∧ c ≤ 4611686018427387904 := by omega
    have rn : -4611686018427387904 ≤ n ∧ n ≤ 4611686018427387904 := by omega
    have sa := itoaB_size a ra
    have sb := itoaB_size b rb
    have sc := itoaB_size c rc
    have sn := itoaB_size n rn
    have hl : lineB 7 a b c n = lineT itoaB ⟨#[109, 117, 108]⟩ 1 a b c n := by unfold lineB; rw [h]; rfl
    rw [hl]
    try simp only [qs_eq]
    repeat' first
      | exact rfl
      | refine condT (rangeT (by assumption)) ?_
      | refine condT (Nat.ble_eq_true_of_le (by simp only [szA, sz1, sz2, sz3]; omega)) ?_
      | refine condT rfl ?_
      | refine condF rfl ?_
    all_goals simp only [lineT, ByteArray.append_assoc, cond_true]

set_option maxRecDepth 100000 in
theorem l9_8 (ok : Ok5) (it : Int → ByteArray) (el : TypeId) (fz : Nat × Nat) (a b c n : Int) : callK Tryd.prog glT (fun _ => none) (asmL ok it) 100 40 40 (.fn 9) [code 8 a b c n] (LS.tab 1 (pow10.map (.int .u64)) el fz) flatR =
 cond ((bif ok 8 a b c n then (0 : Int) else 2) != 0) (
  some (.tuple #[(.string ((⟨#[]⟩ : ByteArray))), (.int IntKind.i64 (bif ok 8 a b c n then (0 : Int) else 2))])) (
  cond (decide (-4611686018427387904 ≤ n) && decide (n ≤ 4611686018427387904)) (
   qs [n, n] (
    cond (decide (-4611686018427387904 ≤ a) && decide (a ≤ 4611686018427387904)) (
     cond (((⟨#[114]⟩ : ByteArray).size + (it a).size).ble 9223372036854775807) (
      cond (decide (-4611686018427387904 ≤ b) && decide (b ≤ 4611686018427387904)) (
       cond (((⟨#[114]⟩ : ByteArray).size + (it b).size).ble 9223372036854775807) (
        cond ((joinB (⟨#[44, 32]⟩ : ByteArray) [(⟨#[114]⟩ : ByteArray) ++ it a, (⟨#[114]⟩ : ByteArray) ++ it b, it n]).size.ble 140737488355328) (
         cond ((((⟨#[97, 100, 100, 105]⟩ : ByteArray) ++ (⟨#[32]⟩ : ByteArray)).size +       (joinB (⟨#[44, 32]⟩ : ByteArray) [(⟨#[114]⟩ : ByteArray) ++ it a, (⟨#[114]⟩ : ByteArray) ++ it b, it n]).size).ble   9223372036854775807) (
          qs [b, b, a] (
           some (.tuple #[(.string ((⟨#[97, 100, 100, 105]⟩ : ByteArray) ++ (⟨#[32]⟩ : ByteArray) ++
   joinB (⟨#[44, 32]⟩ : ByteArray) [(⟨#[114]⟩ : ByteArray) ++ it a, (⟨#[114]⟩ : ByteArray) ++ it b, it n])), (.int IntKind.i64 0)]))) (
          none)) (
         none)) (
        none)) (
       none)) (
      none)) (
     none))) (
   none)) := by kernel_rfl
theorem t9_8 (el : TypeId) (fz : Nat × Nat) (a b c n : Int) : callK Tryd.prog glT (fun _ => none) (asmL okC itoaB) 100 40 40 (.fn 9) [code 8 a b c n] (LS.tab 1 (pow10.map (.int .u64)) el fz) flatR = some (.tuple #[.string (lineB 8 a b c n), .int .i64 (cond (okC 8 a b c n) 0 2)]) := by
  rw [l9_8]
  cases h : okC 8 a b c n with
  | false =>
    simp only [lineB, h]
    rfl
  | true =>
    have hr : -4611686018427387904 ≤ a ∧ a ≤ 4611686018427387904 ∧ -4611686018427387904 ≤ b ∧ b ≤ 4611686018427387904 ∧ -4611686018427387904 ≤ c ∧ c ≤ 4611686018427387904 ∧ -4611686018427387904 ≤ n ∧ n ≤ 4611686018427387904 := by
      have h2 : okF 2 a b c n = true := h
      simp only [okF, decide_eq_true_eq] at h2
      omega
    have ra : -4611686018427387904 ≤ a ∧ a ≤ 4611686018427387904 := by omega
    have rb : -4611686018427387904 ≤ b ∧ b ≤ 4611686018427387904 := by omega
    have rc : -4611686018427387904 ≤ c ∧ c ≤ 4611686018427387904 := by omega
    have rn : -4611686018427387904 ≤ n ∧ n ≤ 4611686018427387904 := by omega
    have sa := itoaB_size a ra
    have sb := itoaB_size b rb
    have sc := itoaB_size c rc
    have sn := itoaB_size n rn
    have hl : lineB 8 a b c n = lineT itoaB ⟨#[97, 100, 100, 105]⟩ 2 a b c n := by unfold lineB; rw [h]; rfl
    rw [hl]
    try simp only [qs_eq]
    repeat' first
      | exact rfl
      | refine condT (rangeT (by assumption)) ?_
      | refine condT (Nat.ble_eq_true_of_le (by simp only [joinB, szA, sz1, sz2, sz4]; omega)) ?_
      | refine condT rfl ?_
      | refine condF rfl ?_
    all_goals simp only [lineT, joinB, ByteArray.append_assoc, cond_true]

set_option maxRecDepth 100000 in
theorem l10_8 (ok : Ok5) (it : Int → ByteArray) (el : TypeId) (fz : Nat × Nat) (a b c n : Int) : callK Tryd.prog glT (fun _ => none) (asmL ok it) 100 40 40 (.fn 10) [code 8 a b c n] (LS.tab 1 (pow10.map (.int .u64)) el fz) flatR =
 cond (ok 8 a b c n) (
  cond (decide (-4611686018427387904 ≤ a) && decide (a ≤ 4611686018427387904)) (
   cond (((⟨#[114]⟩ : ByteArray).size + (it a).size).ble 9223372036854775807) (
    cond (((⟨#[32]⟩ : ByteArray).size + ((⟨#[114]⟩ : ByteArray) ++ it a).size).ble 9223372036854775807) (
     cond (decide (-4611686018427387904 ≤ n) && decide (n ≤ 4611686018427387904)) (
      cond (((⟨#[97, 100, 100, 105]⟩ : ByteArray).size + ((⟨#[32]⟩ : ByteArray) ++ ((⟨#[114]⟩ : ByteArray) ++ it a)).size).ble   9223372036854775807) (
       cond ((((⟨#[97, 100, 100, 105]⟩ : ByteArray) ++ ((⟨#[32]⟩ : ByteArray) ++ ((⟨#[114]⟩ : ByteArray) ++ it a))).size +       (⟨#[44, 32]⟩ : ByteArray).size).ble   9223372036854775807) (
        cond (decide (-4611686018427387904 ≤ b) && decide (b ≤ 4611686018427387904)) (
         cond (((⟨#[114]⟩ : ByteArray).size + (it b).size).ble 9223372036854775807) (
          cond ((((⟨#[97, 100, 100, 105]⟩ : ByteArray) ++ ((⟨#[32]⟩ : ByteArray) ++ ((⟨#[114]⟩ : ByteArray) ++ it a)) ++           (⟨#[44, 32]⟩ : ByteArray)).size +       ((⟨#[114]⟩ : ByteArray) ++ it b).size).ble   9223372036854775807) (
           cond ((((⟨#[97, 100, 100, 105]⟩ : ByteArray) ++ ((⟨#[32]⟩ : ByteArray) ++ ((⟨#[114]⟩ : ByteArray) ++ it a)) ++ (⟨#[44, 32]⟩ : ByteArray) ++           ((⟨#[114]⟩ : ByteArray) ++ it b)).size +       (⟨#[44, 32]⟩ : ByteArray).size).ble   9223372036854775807) (
            cond ((((⟨#[97, 100, 100, 105]⟩ : ByteArray) ++ ((⟨#[32]⟩ : ByteArray) ++ ((⟨#[114]⟩ : ByteArray) ++ it a)) ++ (⟨#[44, 32]⟩ : ByteArray) ++             ((⟨#[114]⟩ : ByteArray) ++ it b) ++           (⟨#[44, 32]⟩ : ByteArray)).size +       (it n).size).ble   9223372036854775807) (
             some (.tuple #[(.string ((⟨#[97, 100, 100, 105]⟩ : ByteArray) ++ ((⟨#[32]⟩ : ByteArray) ++ ((⟨#[114]⟩ : ByteArray) ++ it a)) ++ (⟨#[44, 32]⟩ : ByteArray) ++
       ((⟨#[114]⟩ : ByteArray) ++ it b) ++
     (⟨#[44, 32]⟩ : ByteArray) ++
   it n)), (.int IntKind.i64 0)])) (
             none)) (
            none)) (
           none)) (
          none)) (
         none)) (
        none)) (
       none)) (
      none)) (
     none)) (
    none)) (
   none)) (
  some (.tuple #[(.string ((⟨#[]⟩ : ByteArray))), (.int IntKind.i64 2)])) := by kernel_rfl
theorem t10_8 (el : TypeId) (fz : Nat × Nat) (a b c n : Int) : callK Tryd.prog glT (fun _ => none) (asmL okC itoaB) 100 40 40 (.fn 10) [code 8 a b c n] (LS.tab 1 (pow10.map (.int .u64)) el fz) flatR = some (.tuple #[.string (lineB 8 a b c n), .int .i64 (cond (okC 8 a b c n) 0 2)]) := by
  rw [l10_8]
  cases h : okC 8 a b c n with
  | false =>
    simp only [lineB, h]
    rfl
  | true =>
    have hr : -4611686018427387904 ≤ a ∧ a ≤ 4611686018427387904 ∧ -4611686018427387904 ≤ b ∧ b ≤ 4611686018427387904 ∧ -4611686018427387904 ≤ c ∧ c ≤ 4611686018427387904 ∧ -4611686018427387904 ≤ n ∧ n ≤ 4611686018427387904 := by
      have h2 : okF 2 a b c n = true := h
      simp only [okF, decide_eq_true_eq] at h2
      omega
    have ra : -4611686018427387904 ≤ a ∧ a ≤ 4611686018427387904 := by omega
    have rb : -4611686018427387904 ≤ b ∧ b ≤ 4611686018427387904 := by omega
    have rc : -4611686018427387904 ≤ c ∧ c ≤ 4611686018427387904 := by omega
    have rn : -4611686018427387904 ≤ n ∧ n ≤ 4611686018427387904 := by omega
    have sa := itoaB_size a ra
    have sb := itoaB_size b rb
    have sc := itoaB_size c rc
    have sn := itoaB_size n rn
    have hl : lineB 8 a b c n = lineT itoaB ⟨#[97, 100, 100, 105]⟩ 2 a b c n := by unfold lineB; rw [h]; rfl
    rw [hl]
    try simp only [qs_eq]
    repeat' first
      | exact rfl
      | refine condT (rangeT (by assumption)) ?_
      | refine condT (Nat.ble_eq_true_of_le (by simp only [szA, sz1, sz2, sz4]; omega)) ?_
      | refine condT rfl ?_
      | refine condF rfl ?_
    all_goals simp only [lineT, ByteArray.append_assoc, cond_true]

set_option maxRecDepth 100000 in
theorem l9_9 (ok : Ok5) (it : Int → ByteArray) (el : TypeId) (fz : Nat × Nat) (a b c n : Int) : callK Tryd.prog glT (fun _ => none) (asmL ok it) 100 40 40 (.fn 9) [code 9 a b c n] (LS.tab 1 (pow10.map (.int .u64)) el fz) flatR =
 cond ((bif ok 9 a b c n then (0 : Int) else 2) != 0) (
  some (.tuple #[(.string ((⟨#[]⟩ : ByteArray))), (.int IntKind.i64 (bif ok 9 a b c n then (0 : Int) else 2))])) (
  cond (decide (-4611686018427387904 ≤ n) && decide (n ≤ 4611686018427387904)) (
   qs [n, n] (
    cond (decide (-4611686018427387904 ≤ a) && decide (a ≤ 4611686018427387904)) (
     cond (((⟨#[114]⟩ : ByteArray).size + (it a).size).ble 9223372036854775807) (
      cond (decide (-4611686018427387904 ≤ b) && decide (b ≤ 4611686018427387904)) (
       cond (((⟨#[114]⟩ : ByteArray).size + (it b).size).ble 9223372036854775807) (
        cond ((joinB (⟨#[44, 32]⟩ : ByteArray) [(⟨#[114]⟩ : ByteArray) ++ it a, (⟨#[114]⟩ : ByteArray) ++ it b, it n]).size.ble 140737488355328) (
         cond ((((⟨#[108, 111, 97, 100]⟩ : ByteArray) ++ (⟨#[32]⟩ : ByteArray)).size +       (joinB (⟨#[44, 32]⟩ : ByteArray) [(⟨#[114]⟩ : ByteArray) ++ it a, (⟨#[114]⟩ : ByteArray) ++ it b, it n]).size).ble   9223372036854775807) (
          qs [b, b, a] (
           some (.tuple #[(.string ((⟨#[108, 111, 97, 100]⟩ : ByteArray) ++ (⟨#[32]⟩ : ByteArray) ++
   joinB (⟨#[44, 32]⟩ : ByteArray) [(⟨#[114]⟩ : ByteArray) ++ it a, (⟨#[114]⟩ : ByteArray) ++ it b, it n])), (.int IntKind.i64 0)]))) (
          none)) (
         none)) (
        none)) (
       none)) (
      none)) (
     none))) (
   none)) := by kernel_rfl
theorem t9_9 (el : TypeId) (fz : Nat × Nat) (a b c n : Int) : callK Tryd.prog glT (fun _ => none) (asmL okC itoaB) 100 40 40 (.fn 9) [code 9 a b c n] (LS.tab 1 (pow10.map (.int .u64)) el fz) flatR = some (.tuple #[.string (lineB 9 a b c n), .int .i64 (cond (okC 9 a b c n) 0 2)]) := by
  rw [l9_9]
  cases h : okC 9 a b c n with
  | false =>
    simp only [lineB, h]
    rfl
  | true =>
    have hr : -4611686018427387904 ≤ a ∧ a ≤ 4611686018427387904 ∧ -4611686018427387904 ≤ b ∧ b ≤ 4611686018427387904 ∧ -4611686018427387904 ≤ c ∧ c ≤ 4611686018427387904 ∧ -4611686018427387904 ≤ n ∧ n ≤ 4611686018427387904 := by
      have h2 : okF 2 a b c n = true := h
      simp only [okF, decide_eq_true_eq] at h2
      omega
    have ra : -4611686018427387904 ≤ a ∧ a ≤ 4611686018427387904 := by omega
    have rb : -4611686018427387904 ≤ b ∧ b ≤ 4611686018427387904 := by omega
    have rc : -4611686018427387904 ≤ c ∧ c ≤ 4611686018427387904 := by omega
    have rn : -4611686018427387904 ≤ n ∧ n ≤ 4611686018427387904 := by omega
    have sa := itoaB_size a ra
    have sb := itoaB_size b rb
    have sc := itoaB_size c rc
    have sn := itoaB_size n rn
    have hl : lineB 9 a b c n = lineT itoaB ⟨#[108, 111, 97, 100]⟩ 2 a b c n := by unfold lineB; rw [h]; rfl
    rw [hl]
    try simp only [qs_eq]
    repeat' first
      | exact rfl
      | refine condT (rangeT (by assumption)) ?_
      | refine condT (Nat.ble_eq_true_of_le (by simp only [joinB, szA, sz1, sz2, sz4]; omega)) ?_
      | refine condT rfl ?_
      | refine condF rfl ?_
    all_goals simp only [lineT, joinB, ByteArray.append_assoc, cond_true]

set_option maxRecDepth 100000 in
theorem l10_9 (ok : Ok5) (it : Int → ByteArray) (el : TypeId) (fz : Nat × Nat) (a b c n : Int) : callK Tryd.prog glT (fun _ => none) (asmL ok it) 100 40 40 (.fn 10) [code 9 a b c n] (LS.tab 1 (pow10.map (.int .u64)) el fz) flatR =
 cond (ok 9 a b c n) (
  cond (decide (-4611686018427387904 ≤ a) && decide (a ≤ 4611686018427387904)) (
   cond (((⟨#[114]⟩ : ByteArray).size + (it a).size).ble 9223372036854775807) (
    cond (((⟨#[32]⟩ : ByteArray).size + ((⟨#[114]⟩ : ByteArray) ++ it a).size).ble 9223372036854775807) (
     cond (decide (-4611686018427387904 ≤ n) && decide (n ≤ 4611686018427387904)) (
      cond (((⟨#[108, 111, 97, 100]⟩ : ByteArray).size + ((⟨#[32]⟩ : ByteArray) ++ ((⟨#[114]⟩ : ByteArray) ++ it a)).size).ble   9223372036854775807) (
       cond ((((⟨#[108, 111, 97, 100]⟩ : ByteArray) ++ ((⟨#[32]⟩ : ByteArray) ++ ((⟨#[114]⟩ : ByteArray) ++ it a))).size +       (⟨#[44, 32]⟩ : ByteArray).size).ble   9223372036854775807) (
        cond (decide (-4611686018427387904 ≤ b) && decide (b ≤ 4611686018427387904)) (
         cond (((⟨#[114]⟩ : ByteArray).size + (it b).size).ble 9223372036854775807) (
          cond ((((⟨#[108, 111, 97, 100]⟩ : ByteArray) ++ ((⟨#[32]⟩ : ByteArray) ++ ((⟨#[114]⟩ : ByteArray) ++ it a)) ++           (⟨#[44, 32]⟩ : ByteArray)).size +       ((⟨#[114]⟩ : ByteArray) ++ it b).size).ble   9223372036854775807) (
           cond ((((⟨#[108, 111, 97, 100]⟩ : ByteArray) ++ ((⟨#[32]⟩ : ByteArray) ++ ((⟨#[114]⟩ : ByteArray) ++ it a)) ++ (⟨#[44, 32]⟩ : ByteArray) ++           ((⟨#[114]⟩ : ByteArray) ++ it b)).size +       (⟨#[44, 32]⟩ : ByteArray).size).ble   9223372036854775807) (
            cond ((((⟨#[108, 111, 97, 100]⟩ : ByteArray) ++ ((⟨#[32]⟩ : ByteArray) ++ ((⟨#[114]⟩ : ByteArray) ++ it a)) ++ (⟨#[44, 32]⟩ : ByteArray) ++             ((⟨#[114]⟩ : ByteArray) ++ it b) ++           (⟨#[44, 32]⟩ : ByteArray)).size +       (it n).size).ble   9223372036854775807) (
             some (.tuple #[(.string ((⟨#[108, 111, 97, 100]⟩ : ByteArray) ++ ((⟨#[32]⟩ : ByteArray) ++ ((⟨#[114]⟩ : ByteArray) ++ it a)) ++ (⟨#[44, 32]⟩ : ByteArray) ++
       ((⟨#[114]⟩ : ByteArray) ++ it b) ++
     (⟨#[44, 32]⟩ : ByteArray) ++
   it n)), (.int IntKind.i64 0)])) (
             none)) (
            none)) (
           none)) (
          none)) (
         none)) (
        none)) (
       none)) (
      none)) (
     none)) (
    none)) (
   none)) (
  some (.tuple #[(.string ((⟨#[]⟩ : ByteArray))), (.int IntKind.i64 2)])) := by kernel_rfl
theorem t10_9 (el : TypeId) (fz : Nat × Nat) (a b c n : Int) : callK Tryd.prog glT (fun _ => none) (asmL okC itoaB) 100 40 40 (.fn 10) [code 9 a b c n] (LS.tab 1 (pow10.map (.int .u64)) el fz) flatR = some (.tuple #[.string (lineB 9 a b c n), .int .i64 (cond (okC 9 a b c n) 0 2)]) := by
  rw [l10_9]
  cases h : okC 9 a b c n with
  | false =>
    simp only [lineB, h]
    rfl
  | true =>
    have hr : -4611686018427387904 ≤ a ∧ a ≤ 4611686018427387904 ∧ -4611686018427387904 ≤ b ∧ b ≤ 4611686018427387904 ∧ -4611686018427387904 ≤ c ∧ c ≤ 4611686018427387904 ∧ -4611686018427387904 ≤ n ∧ n ≤ 4611686018427387904 := by
      have h2 : okF 2 a b c n = true := h
      simp only [okF, decide_eq_true_eq] at h2
      omega
    have ra : -4611686018427387904 ≤ a ∧ a ≤ 4611686018427387904 := by omega
    have rb : -4611686018427387904 ≤ b ∧ b ≤ 4611686018427387904 := by omega
    have rc : -4611686018427387904 ≤ c ∧ c ≤ 4611686018427387904 := by omega
    have rn : -4611686018427387904 ≤ n ∧ n ≤ 4611686018427387904 := by omega
    have sa := itoaB_size a ra
    have sb := itoaB_size b rb
    have sc := itoaB_size c rc
    have sn := itoaB_size n rn
    have hl : lineB 9 a b c n = lineT itoaB ⟨#[108, 111, 97, 100]⟩ 2 a b c n := by unfold lineB; rw [h]; rfl
    rw [hl]
    try simp only [qs_eq]
    repeat' first
      | exact rfl
      | refine condT (rangeT (by assumption)) ?_
      | refine condT (Nat.ble_eq_true_of_le (by simp only [szA, sz1, sz2, sz4]; omega)) ?_
      | refine condT rfl ?_
      | refine condF rfl ?_
    all_goals simp only [lineT, ByteArray.append_assoc, cond_true]

set_option maxRecDepth 100000 in
theorem l9_10 (ok : Ok5) (it : Int → ByteArray) (el : TypeId) (fz : Nat × Nat) (a b c n : Int) : callK Tryd.prog glT (fun _ => none) (asmL ok it) 100 40 40 (.fn 9) [code 10 a b c n] (LS.tab 1 (pow10.map (.int .u64)) el fz) flatR =
 cond ((bif ok 10 a b c n then (0 : Int) else 2) != 0) (
  some (.tuple #[(.string ((⟨#[]⟩ : ByteArray))), (.int IntKind.i64 (bif ok 10 a b c n then (0 : Int) else 2))])) (
  cond (decide (-4611686018427387904 ≤ n) && decide (n ≤ 4611686018427387904)) (
   qs [n, n] (
    cond (decide (-4611686018427387904 ≤ a) && decide (a ≤ 4611686018427387904)) (
     cond (((⟨#[114]⟩ : ByteArray).size + (it a).size).ble 9223372036854775807) (
      cond (decide (-4611686018427387904 ≤ b) && decide (b ≤ 4611686018427387904)) (
       cond (((⟨#[114]⟩ : ByteArray).size + (it b).size).ble 9223372036854775807) (
        cond ((joinB (⟨#[44, 32]⟩ : ByteArray) [(⟨#[114]⟩ : ByteArray) ++ it a, (⟨#[114]⟩ : ByteArray) ++ it b, it n]).size.ble 140737488355328) (
         cond ((((⟨#[115, 116, 111, 114, 101]⟩ : ByteArray) ++ (⟨#[32]⟩ : ByteArray)).size +       (joinB (⟨#[44, 32]⟩ : ByteArray) [(⟨#[114]⟩ : ByteArray) ++ it a, (⟨#[114]⟩ : ByteArray) ++ it b, it n]).size).ble   9223372036854775807) (
          qs [b, b, a] (
           some (.tuple #[(.string ((⟨#[115, 116, 111, 114, 101]⟩ : ByteArray) ++ (⟨#[32]⟩ : ByteArray) ++
   joinB (⟨#[44, 32]⟩ : ByteArray) [(⟨#[114]⟩ : ByteArray) ++ it a, (⟨#[114]⟩ : ByteArray) ++ it b, it n])), (.int IntKind.i64 0)]))) (
          none)) (
         none)) (
        none)) (
       none)) (
      none)) (
     none))) (
   none)) := by kernel_rfl
theorem t9_10 (el : TypeId) (fz : Nat × Nat) (a b c n : Int) : callK Tryd.prog glT (fun _ => none) (asmL okC itoaB) 100 40 40 (.fn 9) [code 10 a b c n] (LS.tab 1 (pow10.map (.int .u64)) el fz) flatR = some (.tuple #[.string (lineB 10 a b c n), .int .i64 (cond (okC 10 a b c n) 0 2)]) := by
  rw [l9_10]
  cases h : okC 10 a b c n with
  | false =>
    simp only [lineB, h]
    rfl
  | true =>
    have hr : -4611686018427387904 ≤ a ∧ a ≤ 4611686018427387904 ∧ -4611686018427387904 ≤ b ∧ b ≤ 4611686018427387904 ∧ -4611686018427387904 ≤ c ∧ c ≤ 4611686018427387904 ∧ -4611686018427387904 ≤ n ∧ n ≤ 4611686018427387904 := by
      have h2 : okF 2 a b c n = true := h
      simp only [okF, decide_eq_true_eq] at h2
      omega
    have ra : -4611686018427387904 ≤ a ∧ a ≤ 4611686018427387904 := by omega
    have rb : -4611686018427387904 ≤ b ∧ b ≤ 4611686018427387904 := by omega
    have rc : -4611686018427387904 ≤ c ∧ c ≤ 4611686018427387904 := by omega
    have rn : -4611686018427387904 ≤ n ∧ n ≤ 4611686018427387904 := by omega
    have sa := itoaB_size a ra
    have sb := itoaB_size b rb
    have sc := itoaB_size c rc
    have sn := itoaB_size n rn
    have hl : lineB 10 a b c n = lineT itoaB ⟨#[115, 116, 111, 114, 101]⟩ 2 a b c n := by unfold lineB; rw [h]; rfl
    rw [hl]
    try simp only [qs_eq]
    repeat' first
      | exact rfl
      | refine condT (rangeT (by assumption)) ?_
      | refine condT (Nat.ble_eq_true_of_le (by simp only [joinB, szA, sz1, sz2, sz5]; omega)) ?_
      | refine condT rfl ?_
      | refine condF rfl ?_
    all_goals simp only [lineT, joinB, ByteArray.append_assoc, cond_true]

set_option maxRecDepth 100000 in
theorem l10_10 (ok : Ok5) (it : Int → ByteArray) (el : TypeId) (fz : Nat × Nat) (a b c n : Int) : callK Tryd.prog glT (fun _ => none) (asmL ok it) 100 40 40 (.fn 10) [code 10 a b c n] (LS.tab 1 (pow10.map (.int .u64)) el fz) flatR =
 cond (ok 10 a b c n) (
  cond (decide (-4611686018427387904 ≤ a) && decide (a ≤ 4611686018427387904)) (
   cond (((⟨#[114]⟩ : ByteArray).size + (it a).size).ble 9223372036854775807) (
    cond (((⟨#[32]⟩ : ByteArray).size + ((⟨#[114]⟩ : ByteArray) ++ it a).size).ble 9223372036854775807) (
     cond (decide (-4611686018427387904 ≤ n) && decide (n ≤ 4611686018427387904)) (
      cond (((⟨#[115, 116, 111, 114, 101]⟩ : ByteArray).size + ((⟨#[32]⟩ : ByteArray) ++ ((⟨#[114]⟩ : ByteArray) ++ it a)).size).ble   9223372036854775807) (
       cond ((((⟨#[115, 116, 111, 114, 101]⟩ : ByteArray) ++ ((⟨#[32]⟩ : ByteArray) ++ ((⟨#[114]⟩ : ByteArray) ++ it a))).size +       (⟨#[44, 32]⟩ : ByteArray).size).ble   9223372036854775807) (
        cond (decide (-4611686018427387904 ≤ b) && decide (b ≤ 4611686018427387904)) (
         cond (((⟨#[114]⟩ : ByteArray).size + (it b).size).ble 9223372036854775807) (
          cond ((((⟨#[115, 116, 111, 114, 101]⟩ : ByteArray) ++ ((⟨#[32]⟩ : ByteArray) ++ ((⟨#[114]⟩ : ByteArray) ++ it a)) ++           (⟨#[44, 32]⟩ : ByteArray)).size +       ((⟨#[114]⟩ : ByteArray) ++ it b).size).ble   9223372036854775807) (
           cond ((((⟨#[115, 116, 111, 114, 101]⟩ : ByteArray) ++ ((⟨#[32]⟩ : ByteArray) ++ ((⟨#[114]⟩ : ByteArray) ++ it a)) ++             (⟨#[44, 32]⟩ : ByteArray) ++           ((⟨#[114]⟩ : ByteArray) ++ it b)).size +       (⟨#[44, 32]⟩ : ByteArray).size).ble   9223372036854775807) (
            cond ((((⟨#[115, 116, 111, 114, 101]⟩ : ByteArray) ++ ((⟨#[32]⟩ : ByteArray) ++ ((⟨#[114]⟩ : ByteArray) ++ it a)) ++               (⟨#[44, 32]⟩ : ByteArray) ++             ((⟨#[114]⟩ : ByteArray) ++ it b) ++           (⟨#[44, 32]⟩ : ByteArray)).size +       (it n).size).ble   9223372036854775807) (
             some (.tuple #[(.string ((⟨#[115, 116, 111, 114, 101]⟩ : ByteArray) ++ ((⟨#[32]⟩ : ByteArray) ++ ((⟨#[114]⟩ : ByteArray) ++ it a)) ++
         (⟨#[44, 32]⟩ : ByteArray) ++
       ((⟨#[114]⟩ : ByteArray) ++ it b) ++
     (⟨#[44, 32]⟩ : ByteArray) ++
   it n)), (.int IntKind.i64 0)])) (
             none)) (
            none)) (
           none)) (
          none)) (
         none)) (
        none)) (
       none)) (
      none)) (
     none)) (
    none)) (
   none)) (
  some (.tuple #[(.string ((⟨#[]⟩ : ByteArray))), (.int IntKind.i64 2)])) := by kernel_rfl
theorem t10_10 (el : TypeId) (fz : Nat × Nat) (a b c n : Int) : callK Tryd.prog glT (fun _ => none) (asmL okC itoaB) 100 40 40 (.fn 10) [code 10 a b c n] (LS.tab 1 (pow10.map (.int .u64)) el fz) flatR = some (.tuple #[.string (lineB 10 a b c n), .int .i64 (cond (okC 10 a b c n) 0 2)]) := by
  rw [l10_10]
  cases h : okC 10 a b c n with
  | false =>
    simp only [lineB, h]
    rfl
  | true =>
    have hr : -4611686018427387904 ≤ a ∧ a ≤ 4611686018427387904 ∧ -4611686018427387904 ≤ b ∧ b ≤ 4611686018427387904 ∧ -4611686018427387904 ≤ c ∧ c ≤ 4611686018427387904 ∧ -4611686018427387904 ≤ n ∧ n ≤ 4611686018427387904 := by
      have h2 : okF 2 a b c n = true := h
      simp only [okF, decide_eq_true_eq] at h2
      omega
    have ra : -4611686018427387904 ≤ a ∧ a ≤ 4611686018427387904 := by omega
    have rb : -4611686018427387904 ≤ b ∧ b ≤ 4611686018427387904 := by omega
    have rc : -4611686018427387904 ≤ c ∧ c ≤ 4611686018427387904 := by omega
    have rn : -4611686018427387904 ≤ n ∧ n ≤ 4611686018427387904 := by omega
    have sa := itoaB_size a ra
    have sb := itoaB_size b rb
    have sc := itoaB_size c rc
    have sn := itoaB_size n rn
    have hl : lineB 10 a b c n = lineT itoaB ⟨#[115, 116, 111, 114, 101]⟩ 2 a b c n := by unfold lineB; rw [h]; rfl
    rw [hl]
    try simp only [qs_eq]
    repeat' first
      | exact rfl
      | refine condT (rangeT (by assumption)) ?_
      | refine condT (Nat.ble_eq_true_of_le (by simp only [szA, sz1, sz2, sz5]; omega)) ?_
      | refine condT rfl ?_
      | refine condF rfl ?_
    all_goals simp only [lineT, ByteArray.append_assoc, cond_true]

set_option maxRecDepth 100000 in
theorem l9_11 (ok : Ok5) (it : Int → ByteArray) (el : TypeId) (fz : Nat × Nat) (a b c n : Int) : callK Tryd.prog glT (fun _ => none) (asmL ok it) 100 40 40 (.fn 9) [code 11 a b c n] (LS.tab 1 (pow10.map (.int .u64)) el fz) flatR =
 cond ((bif ok 11 a b c n then (0 : Int) else 2) != 0) (
  some (.tuple #[(.string ((⟨#[]⟩ : ByteArray))), (.int IntKind.i64 (bif ok 11 a b c n then (0 : Int) else 2))])) (
  cond (decide (-4611686018427387904 ≤ n) && decide (n ≤ 4611686018427387904)) (
   qs [n, n] (
    cond (decide (-4611686018427387904 ≤ a) && decide (a ≤ 4611686018427387904)) (
     cond (((⟨#[114]⟩ : ByteArray).size + (it a).size).ble 9223372036854775807) (
      cond (decide (-4611686018427387904 ≤ b) && decide (b ≤ 4611686018427387904)) (
       cond (((⟨#[114]⟩ : ByteArray).size + (it b).size).ble 9223372036854775807) (
        cond (decide (-4611686018427387904 ≤ c) && decide (c ≤ 4611686018427387904)) (
         cond (((⟨#[114]⟩ : ByteArray).size + (it c).size).ble 9223372036854775807) (
          cond ((joinB (⟨#[44, 32]⟩ : ByteArray)         [(⟨#[114]⟩ : ByteArray) ++ it a, (⟨#[114]⟩ : ByteArray) ++ it b, (⟨#[114]⟩ : ByteArray) ++ it c]).size.ble   140737488355328) (
           cond ((((⟨#[115, 119, 97, 112]⟩ : ByteArray) ++ (⟨#[32]⟩ : ByteArray)).size +       (joinB (⟨#[44, 32]⟩ : ByteArray)           [(⟨#[114]⟩ : ByteArray) ++ it a, (⟨#[114]⟩ : ByteArray) ++ it b, (⟨#[114]⟩ : ByteArray) ++ it c]).size).ble   9223372036854775807) (
            qs [c, c, c, b, b, a] (
             some (.tuple #[(.string ((⟨#[115, 119, 97, 112]⟩ : ByteArray) ++ (⟨#[32]⟩ : ByteArray) ++
   joinB (⟨#[44, 32]⟩ : ByteArray) [(⟨#[114]⟩ : ByteArray) ++ it a, (⟨#[114]⟩ : ByteArray) ++ it b, (⟨#[114]⟩ : ByteArray) ++ it c])), (.int IntKind.i64 0)]))) (
            none)) (
           none)) (
          none)) (
         none)) (
        none)) (
       none)) (
      none)) (
     none))) (
   none)) := by kernel_rfl
theorem t9_11 (el : TypeId) (fz : Nat × Nat) (a b c n : Int) : callK Tryd.prog glT (fun _ => none) (asmL okC itoaB) 100 40 40 (.fn 9) [code 11 a b c n] (LS.tab 1 (pow10.map (.int .u64)) el fz) flatR = some (.tuple #[.string (lineB 11 a b c n), .int .i64 (cond (okC 11 a b c n) 0 2)]) := by
  rw [l9_11]
  cases h : okC 11 a b c n with
  | false =>
    simp only [lineB, h]
    rfl
  | true =>
    have hr : -4611686018427387904 ≤ a ∧ a ≤ 4611686018427387904 ∧ -4611686018427387904 ≤ b ∧ b ≤ 4611686018427387904 ∧ -4611686018427387904 ≤ c ∧ c ≤ 4611686018427387904 ∧ -4611686018427387904 ≤ n ∧ n ≤ 4611686018427387904 := by
      have h2 : okF 1 a b c n = true := h
      simp only [okF, decide_eq_true_eq] at h2
      omega
    have ra : -4611686018427387904 ≤ a ∧ a ≤ 4611686018427387904 := by omega
    have rb : -4611686018427387904 ≤ b ∧ b ≤ 4611686018427387904 := by omega
    have rc : -4611686018427387904 ≤ c ∧ c ≤ 4611686018427387904 := by omega
    have rn : -4611686018427387904 ≤ n ∧ n ≤ 4611686018427387904 := by omega
    have sa := itoaB_size a ra
    have sb := itoaB_size b rb
    have sc := itoaB_size c rc
    have sn := itoaB_size n rn
    have hl : lineB 11 a b c n = lineT itoaB ⟨#[115, 119, 97, 112]⟩ 1 a b c n := by unfold lineB; rw [h]; rfl
    rw [hl]
    try simp only [qs_eq]
    repeat' first
      | exact rfl
      | refine condT (rangeT (by assumption)) ?_
      | refine condT (Nat.ble_eq_true_of_le (by simp only [joinB, szA, sz1, sz2, sz4]; omega)) ?_
      | refine condT rfl ?_
      | refine condF rfl ?_
    all_goals simp only [lineT, joinB, ByteArray.append_assoc, cond_true]

set_option maxRecDepth 100000 in
theorem l10_11 (ok : Ok5) (it : Int → ByteArray) (el : TypeId) (fz : Nat × Nat) (a b c n : Int) : callK Tryd.prog glT (fun _ => none) (asmL ok it) 100 40 40 (.fn 10) [code 11 a b c n] (LS.tab 1 (pow10.map (.int .u64)) el fz) flatR =
 cond (ok 11 a b c n) (
  cond (decide (-4611686018427387904 ≤ a) && decide (a ≤ 4611686018427387904)) (
   cond (((⟨#[114]⟩ : ByteArray).size + (it a).size).ble 9223372036854775807) (
    cond (((⟨#[32]⟩ : ByteArray).size + ((⟨#[114]⟩ : ByteArray) ++ it a).size).ble 9223372036854775807) (
     cond (decide (-4611686018427387904 ≤ n) && decide (n ≤ 4611686018427387904)) (
      cond (((⟨#[115, 119, 97, 112]⟩ : ByteArray).size + ((⟨#[32]⟩ : ByteArray) ++ ((⟨#[114]⟩ : ByteArray) ++ it a)).size).ble   9223372036854775807) (
       cond ((((⟨#[115, 119, 97, 112]⟩ : ByteArray) ++ ((⟨#[32]⟩ : ByteArray) ++ ((⟨#[114]⟩ : ByteArray) ++ it a))).size +       (⟨#[44, 32]⟩ : ByteArray).size).ble   9223372036854775807) (
        cond (decide (-4611686018427387904 ≤ b) && decide (b ≤ 4611686018427387904)) (
         cond (((⟨#[114]⟩ : ByteArray).size + (it b).size).ble 9223372036854775807) (
          cond ((((⟨#[115, 119, 97, 112]⟩ : ByteArray) ++ ((⟨#[32]⟩ : ByteArray) ++ ((⟨#[114]⟩ : ByteArray) ++ it a)) ++           (⟨#[44, 32]⟩ : ByteArray)).size +       ((⟨#[114]⟩ : ByteArray) ++ it b).size).ble   9223372036854775807) (
           cond ((((⟨#[115, 119, 97, 112]⟩ : ByteArray) ++ ((⟨#[32]⟩ : ByteArray) ++ ((⟨#[114]⟩ : ByteArray) ++ it a)) ++ (⟨#[44, 32]⟩ : ByteArray) ++           ((⟨#[114]⟩ : ByteArray) ++ it b)).size +       (⟨#[44, 32]⟩ : ByteArray).size).ble   9223372036854775807) (
            cond (decide (-4611686018427387904 ≤ c) && decide (c ≤ 4611686018427387904)) (
             cond (((⟨#[114]⟩ : ByteArray).size + (it c).size).ble 9223372036854775807) (
              cond ((((⟨#[115, 119, 97, 112]⟩ : ByteArray) ++ ((⟨#[32]⟩ : ByteArray) ++ ((⟨#[114]⟩ : ByteArray) ++ it a)) ++ (⟨#[44, 32]⟩ : ByteArray) ++             ((⟨#[114]⟩ : ByteArray) ++ it b) ++           (⟨#[44, 32]⟩ : ByteArray)).size +       ((⟨#[114]⟩ : ByteArray) ++ it c).size).ble   9223372036854775807) (
               qs [c, c, b] (
                some (.tuple #[(.string ((⟨#[115, 119, 97, 112]⟩ : ByteArray) ++ ((⟨#[32]⟩ : ByteArray) ++ ((⟨#[114]⟩ : ByteArray) ++ it a)) ++ (⟨#[44, 32]⟩ : ByteArray) ++
       ((⟨#[114]⟩ : ByteArray) ++ it b) ++
     (⟨#[44, 32]⟩ : ByteArray) ++
   ((⟨#[114]⟩ : ByteArray) ++ it c))), (.int IntKind.i64 0)]))) (
               none)) (
              none)) (
             none)) (
            none)) (
           none)) (
          none)) (
         none)) (
        none)) (
       none)) (
      none)) (
     none)) (
    none)) (
   none)) (
  some (.tuple #[(.string ((⟨#[]⟩ : ByteArray))), (.int IntKind.i64 2)])) := by kernel_rfl
theorem t10_11 (el : TypeId) (fz : Nat × Nat) (a b c n : Int) : callK Tryd.prog glT (fun _ => none) (asmL okC itoaB) 100 40 40 (.fn 10) [code 11 a b c n] (LS.tab 1 (pow10.map (.int .u64)) el fz) flatR = some (.tuple #[.string (lineB 11 a b c n), .int .i64 (cond (okC 11 a b c n) 0 2)]) := by
  rw [l10_11]
  cases h : okC 11 a b c n with
  | false =>
    simp only [lineB, h]
    rfl
  | true =>
    have hr : -4611686018427387904 ≤ a ∧ a ≤ 4611686018427387904 ∧ -4611686018427387904 ≤ b ∧ b ≤ 4611686018427387904 ∧ -4611686018427387904 ≤ c ∧ c ≤ 4611686018427387904 ∧ -4611686018427387904 ≤ n ∧ n ≤ 4611686018427387904 := by
      have h2 : okF 1 a b c n = true := h
      simp only [okF, decide_eq_true_eq] at h2
      omega
    have ra : -4611686018427387904 ≤ a ∧ a ≤ 4611686018427387904 := by omega
    have rb : -4611686018427387904 ≤ b ∧ b ≤ 4611686018427387904 := by omega
    have rc : -4611686018427387904 ≤ c ∧ c ≤ 4611686018427387904 := by omega
    have rn : -4611686018427387904 ≤ n ∧ n ≤ 4611686018427387904 := by omega
    have sa := itoaB_size a ra
    have sb := itoaB_size b rb
    have sc := itoaB_size c rc
    have sn := itoaB_size n rn
    have hl : lineB 11 a b c n = lineT itoaB ⟨#[115, 119, 97, 112]⟩ 1 a b c n := by unfold lineB; rw [h]; rfl
    rw [hl]
    try simp only [qs_eq]
    repeat' first
      | exact rfl
      | refine condT (rangeT (by assumption)) ?_
      | refine condT (Nat.ble_eq_true_of_le (by simp only [szA, sz1, sz2, sz4]; omega)) ?_
      | refine condT rfl ?_
      | refine condF rfl ?_
    all_goals simp only [lineT, ByteArray.append_assoc, cond_true]

set_option maxRecDepth 100000 in
theorem l9_12 (ok : Ok5) (it : Int → ByteArray) (el : TypeId) (fz : Nat × Nat) (a b c n : Int) : callK Tryd.prog glT (fun _ => none) (asmL ok it) 100 40 40 (.fn 9) [code 12 a b c n] (LS.tab 1 (pow10.map (.int .u64)) el fz) flatR =
 cond ((bif ok 12 a b c n then (0 : Int) else 2) != 0) (
  some (.tuple #[(.string ((⟨#[]⟩ : ByteArray))), (.int IntKind.i64 (bif ok 12 a b c n then (0 : Int) else 2))])) (
  cond (decide (-4611686018427387904 ≤ n) && decide (n ≤ 4611686018427387904)) (
   qs [n, n] (
    cond (decide (-4611686018427387904 ≤ a) && decide (a ≤ 4611686018427387904)) (
     cond (((⟨#[114]⟩ : ByteArray).size + (it a).size).ble 9223372036854775807) (
      cond ((joinB (⟨#[44, 32]⟩ : ByteArray) [(⟨#[114]⟩ : ByteArray) ++ it a, it n]).size.ble 140737488355328) (
       cond ((((⟨#[115, 101, 116]⟩ : ByteArray) ++ (⟨#[32]⟩ : ByteArray)).size +       (joinB (⟨#[44, 32]⟩ : ByteArray) [(⟨#[114]⟩ : ByteArray) ++ it a, it n]).size).ble   9223372036854775807) (
        some (.tuple #[(.string ((⟨#[115, 101, 116]⟩ : ByteArray) ++ (⟨#[32]⟩ : ByteArray) ++ joinB (⟨#[44, 32]⟩ : ByteArray) [(⟨#[114]⟩ : ByteArray) ++ it a, it n])), (.int IntKind.i64 0)])) (
        none)) (
       none)) (
      none)) (
     none))) (
   none)) := by kernel_rfl
theorem t9_12 (el : TypeId) (fz : Nat × Nat) (a b c n : Int) : callK Tryd.prog glT (fun _ => none) (asmL okC itoaB) 100 40 40 (.fn 9) [code 12 a b c n] (LS.tab 1 (pow10.map (.int .u64)) el fz) flatR = some (.tuple #[.string (lineB 12 a b c n), .int .i64 (cond (okC 12 a b c n) 0 2)]) := by
  rw [l9_12]
  cases h : okC 12 a b c n with
  | false =>
    simp only [lineB, h]
    rfl
  | true =>
    have hr : -4611686018427387904 ≤ a ∧ a ≤ 4611686018427387904 ∧ -4611686018427387904 ≤ b ∧ b ≤ 4611686018427387904 ∧ -4611686018427387904 ≤ c ∧ c ≤ 4611686018427387904 ∧ -4611686018427387904 ≤ n ∧ n ≤ 4611686018427387904 := by
      have h2 : okF 3 a b c n = true := h
      simp only [okF, decide_eq_true_eq] at h2
      omega
    have ra : -4611686018427387904 ≤ a ∧ a ≤ 4611686018427387904 := by omega
    have rb : -4611686018427387904 ≤ b ∧ b ≤ 4611686018427387904 := by omega
    have rc : -4611686018427387904 ≤ c ∧ c ≤ 4611686018427387904 := by omega
    have rn : -4611686018427387904 ≤ n ∧ n ≤ 4611686018427387904 := by omega
    have sa := itoaB_size a ra
    have sb := itoaB_size b rb
    have sc := itoaB_size c rc
    have sn := itoaB_size n rn
    have hl : lineB 12 a b c n = lineT itoaB ⟨#[115, 101, 116]⟩ 3 a b c n := by unfold lineB; rw [h]; rfl
    rw [hl]
    try simp only [qs_eq]
    repeat' first
      | exact rfl
      | refine condT (rangeT (by assumption)) ?_
      | refine condT (Nat.ble_eq_true_of_le (by simp only [joinB, szA, sz1, sz2, sz3]; omega)) ?_
      | refine condT rfl ?_
      | refine condF rfl ?_
    all_goals simp only [lineT, joinB, ByteArray.append_assoc, cond_true]

set_option maxRecDepth 100000 in
theorem l10_12 (ok : Ok5) (it : Int → ByteArray) (el : TypeId) (fz : Nat × Nat) (a b c n : Int) : callK Tryd.prog glT (fun _ => none) (asmL ok it) 100 40 40 (.fn 10) [code 12 a b c n] (LS.tab 1 (pow10.map (.int .u64)) el fz) flatR =
 cond (ok 12 a b c n) (
  cond (decide (-4611686018427387904 ≤ a) && decide (a ≤ 4611686018427387904)) (
   cond (((⟨#[114]⟩ : ByteArray).size + (it a).size).ble 9223372036854775807) (
    cond (((⟨#[32]⟩ : ByteArray).size + ((⟨#[114]⟩ : ByteArray) ++ it a).size).ble 9223372036854775807) (
     cond (decide (-4611686018427387904 ≤ n) && decide (n ≤ 4611686018427387904)) (
      cond (((⟨#[115, 101, 116]⟩ : ByteArray).size + ((⟨#[32]⟩ : ByteArray) ++ ((⟨#[114]⟩ : ByteArray) ++ it a)).size).ble 9223372036854775807) (
       cond ((((⟨#[115, 101, 116]⟩ : ByteArray) ++ ((⟨#[32]⟩ : ByteArray) ++ ((⟨#[114]⟩ : ByteArray) ++ it a))).size +       (⟨#[44, 32]⟩ : ByteArray).size).ble   9223372036854775807) (
        cond ((((⟨#[115, 101, 116]⟩ : ByteArray) ++ ((⟨#[32]⟩ : ByteArray) ++ ((⟨#[114]⟩ : ByteArray) ++ it a)) ++ (⟨#[44, 32]⟩ : ByteArray)).size +       (it n).size).ble   9223372036854775807) (
         some (.tuple #[(.string ((⟨#[115, 101, 116]⟩ : ByteArray) ++ ((⟨#[32]⟩ : ByteArray) ++ ((⟨#[114]⟩ : ByteArray) ++ it a)) ++ (⟨#[44, 32]⟩ : ByteArray) ++ it n)), (.int IntKind.i64 0)])) (
         none)) (
        none)) (
       none)) (
      none)) (
     none)) (
    none)) (
   none)) (
  some (.tuple #[(.string ((⟨#[]⟩ : ByteArray))), (.int IntKind.i64 2)])) := by kernel_rfl
theorem t10_12 (el : TypeId) (fz : Nat × Nat) (a b c n : Int) : callK Tryd.prog glT (fun _ => none) (asmL okC itoaB) 100 40 40 (.fn 10) [code 12 a b c n] (LS.tab 1 (pow10.map (.int .u64)) el fz) flatR = some (.tuple #[.string (lineB 12 a b c n), .int .i64 (cond (okC 12 a b c n) 0 2)]) := by
  rw [l10_12]
  cases h : okC 12 a b c n with
  | false =>
    simp only [lineB, h]
    rfl
  | true =>
    have hr : -4611686018427387904 ≤ a ∧ a ≤ 4611686018427387904 ∧ -4611686018427387904 ≤ b ∧ b ≤ 4611686018427387904 ∧ -4611686018427387904 ≤ c ∧ c ≤ 4611686018427387904 ∧ -4611686018427387904 ≤ n ∧ n ≤ 4611686018427387904 := by
      have h2 : okF 3 a b c n = true := h
      simp only [okF, decide_eq_true_eq] at h2
      omega
    have ra : -4611686018427387904 ≤ a ∧ a ≤ 4611686018427387904 := by omega
    have rb : -4611686018427387904 ≤ b ∧ b ≤ 4611686018427387904 := by omega
    have rc : -4611686018427387904 ≤ c ∧ c ≤ 4611686018427387904 := by omega
    have rn : -4611686018427387904 ≤ n ∧ n ≤ 4611686018427387904 := by omega
    have sa := itoaB_size a ra
    have sb := itoaB_size b rb
    have sc := itoaB_size c rc
    have sn := itoaB_size n rn
    have hl : lineB 12 a b c n = lineT itoaB ⟨#[115, 101, 116]⟩ 3 a b c n := by unfold lineB; rw [h]; rfl
    rw [hl]
    try simp only [qs_eq]
    repeat' first
      | exact rfl
      | refine condT (rangeT (by assumption)) ?_
      | refine condT (Nat.ble_eq_true_of_le (by simp only [szA, sz1, sz2, sz3]; omega)) ?_
      | refine condT rfl ?_
      | refine condF rfl ?_
    all_goals simp only [lineT, ByteArray.append_assoc, cond_true]

set_option maxRecDepth 100000 in
theorem l9_13 (ok : Ok5) (it : Int → ByteArray) (el : TypeId) (fz : Nat × Nat) (a b c n : Int) : callK Tryd.prog glT (fun _ => none) (asmL ok it) 100 40 40 (.fn 9) [code 13 a b c n] (LS.tab 1 (pow10.map (.int .u64)) el fz) flatR =
 cond ((bif ok 13 a b c n then (0 : Int) else 2) != 0) (
  some (.tuple #[(.string ((⟨#[]⟩ : ByteArray))), (.int IntKind.i64 (bif ok 13 a b c n then (0 : Int) else 2))])) (
  cond (decide (-4611686018427387904 ≤ n) && decide (n ≤ 4611686018427387904)) (
   qs [n, n] (
    cond (decide (-4611686018427387904 ≤ a) && decide (a ≤ 4611686018427387904)) (
     cond (((⟨#[114]⟩ : ByteArray).size + (it a).size).ble 9223372036854775807) (
      cond (decide (-4611686018427387904 ≤ b) && decide (b ≤ 4611686018427387904)) (
       cond (((⟨#[114]⟩ : ByteArray).size + (it b).size).ble 9223372036854775807) (
        cond ((joinB (⟨#[44, 32]⟩ : ByteArray) [(⟨#[114]⟩ : ByteArray) ++ it a, (⟨#[114]⟩ : ByteArray) ++ it b, it n]).size.ble 140737488355328) (
         cond ((((⟨#[98, 101, 113]⟩ : ByteArray) ++ (⟨#[32]⟩ : ByteArray)).size +       (joinB (⟨#[44, 32]⟩ : ByteArray) [(⟨#[114]⟩ : ByteArray) ++ it a, (⟨#[114]⟩ : ByteArray) ++ it b, it n]).size).ble   9223372036854775807) (
          qs [b, b, a] (
           some (.tuple #[(.string ((⟨#[98, 101, 113]⟩ : ByteArray) ++ (⟨#[32]⟩ : ByteArray) ++
   joinB (⟨#[44, 32]⟩ : ByteArray) [(⟨#[114]⟩ : ByteArray) ++ it a, (⟨#[114]⟩ : ByteArray) ++ it b, it n])), (.int IntKind.i64 0)]))) (
          none)) (
         none)) (
        none)) (
       none)) (
      none)) (
     none))) (
   none)) := by kernel_rfl
theorem t9_13 (el : TypeId) (fz : Nat × Nat) (a b c n : Int) : callK Tryd.prog glT (fun _ => none) (asmL okC itoaB) 100 40 40 (.fn 9) [code 13 a b c n] (LS.tab 1 (pow10.map (.int .u64)) el fz) flatR = some (.tuple #[.string (lineB 13 a b c n), .int .i64 (cond (okC 13 a b c n) 0 2)]) := by
  rw [l9_13]
  cases h : okC 13 a b c n with
  | false =>
    simp only [lineB, h]
    rfl
  | true =>
    have hr : -4611686018427387904 ≤ a ∧ a ≤ 4611686018427387904 ∧ -4611686018427387904 ≤ b ∧ b ≤ 4611686018427387904 ∧ -4611686018427387904 ≤ c ∧ c ≤ 4611686018427387904 ∧ -4611686018427387904 ≤ n ∧ n ≤ 4611686018427387904 := by
      have h2 : okF 2 a b c n = true := h
      simp only [okF, decide_eq_true_eq] at h2
      omega
    have ra : -4611686018427387904 ≤ a ∧ a ≤ 4611686018427387904 := by omega
    have rb : -4611686018427387904 ≤ b ∧ b ≤ 4611686018427387904 := by omega
    have rc : -4611686018427387904 ≤ c ∧ c ≤ 4611686018427387904 := by omega
    have rn : -4611686018427387904 ≤ n ∧ n ≤ 4611686018427387904 := by omega
    have sa := itoaB_size a ra
    have sb := itoaB_size b rb
    have sc := itoaB_size c rc
    have sn := itoaB_size n rn
    have hl : lineB 13 a b c n = lineT itoaB ⟨#[98, 101, 113]⟩ 2 a b c n := by unfold lineB; rw [h]; rfl
    rw [hl]
    try simp only [qs_eq]
    repeat' first
      | exact rfl
      | refine condT (rangeT (by assumption)) ?_
      | refine condT (Nat.ble_eq_true_of_le (by simp only [joinB, szA, sz1, sz2, sz3]; omega)) ?_
      | refine condT rfl ?_
      | refine condF rfl ?_
    all_goals simp only [lineT, joinB, ByteArray.append_assoc, cond_true]

set_option maxRecDepth 100000 in
theorem l10_13 (ok : Ok5) (it : Int → ByteArray) (el : TypeId) (fz : Nat × Nat) (a b c n : Int) : callK Tryd.prog glT (fun _ => none) (asmL ok it) 100 40 40 (.fn 10) [code 13 a b c n] (LS.tab 1 (pow10.map (.int .u64)) el fz) flatR =
 cond (ok 13 a b c n) (
  cond (decide (-4611686018427387904 ≤ a) && decide (a ≤ 4611686018427387904)) (
   cond (((⟨#[114]⟩ : ByteArray).size + (it a).size).ble 9223372036854775807) (
    cond (((⟨#[32]⟩ : ByteArray).size + ((⟨#[114]⟩ : ByteArray) ++ it a).size).ble 9223372036854775807) (
     cond (decide (-4611686018427387904 ≤ n) && decide (n ≤ 4611686018427387904)) (
      cond (((⟨#[98, 101, 113]⟩ : ByteArray).size + ((⟨#[32]⟩ : ByteArray) ++ ((⟨#[114]⟩ : ByteArray) ++ it a)).size).ble 9223372036854775807) (
       cond ((((⟨#[98, 101, 113]⟩ : ByteArray) ++ ((⟨#[32]⟩ : ByteArray) ++ ((⟨#[114]⟩ : ByteArray) ++ it a))).size +       (⟨#[44, 32]⟩ : ByteArray).size).ble   9223372036854775807) (
        cond (decide (-4611686018427387904 ≤ b) && decide (b ≤ 4611686018427387904)) (
         cond (((⟨#[114]⟩ : ByteArray).size + (it b).size).ble 9223372036854775807) (
          cond ((((⟨#[98, 101, 113]⟩ : ByteArray) ++ ((⟨#[32]⟩ : ByteArray) ++ ((⟨#[114]⟩ : ByteArray) ++ it a)) ++ (⟨#[44, 32]⟩ : ByteArray)).size +       ((⟨#[114]⟩ : ByteArray) ++ it b).size).ble   9223372036854775807) (
           cond ((((⟨#[98, 101, 113]⟩ : ByteArray) ++ ((⟨#[32]⟩ : ByteArray) ++ ((⟨#[114]⟩ : ByteArray) ++ it a)) ++ (⟨#[44, 32]⟩ : ByteArray) ++           ((⟨#[114]⟩ : ByteArray) ++ it b)).size +       (⟨#[44, 32]⟩ : ByteArray).size).ble   9223372036854775807) (
            cond ((((⟨#[98, 101, 113]⟩ : ByteArray) ++ ((⟨#[32]⟩ : ByteArray) ++ ((⟨#[114]⟩ : ByteArray) ++ it a)) ++ (⟨#[44, 32]⟩ : ByteArray) ++             ((⟨#[114]⟩ : ByteArray) ++ it b) ++           (⟨#[44, 32]⟩ : ByteArray)).size +       (it n).size).ble   9223372036854775807) (
             some (.tuple #[(.string ((⟨#[98, 101, 113]⟩ : ByteArray) ++ ((⟨#[32]⟩ : ByteArray) ++ ((⟨#[114]⟩ : ByteArray) ++ it a)) ++ (⟨#[44, 32]⟩ : ByteArray) ++
       ((⟨#[114]⟩ : ByteArray) ++ it b) ++
     (⟨#[44, 32]⟩ : ByteArray) ++
   it n)), (.int IntKind.i64 0)])) (
             none)) (
            none)) (
           none)) (
          none)) (
         none)) (
        none)) (
       none)) (
      none)) (
     none)) (
    none)) (
   none)) (
  some (.tuple #[(.string ((⟨#[]⟩ : ByteArray))), (.int IntKind.i64 2)])) := by kernel_rfl
theorem t10_13 (el : TypeId) (fz : Nat × Nat) (a b c n : Int) : callK Tryd.prog glT (fun _ => none) (asmL okC itoaB) 100 40 40 (.fn 10) [code 13 a b c n] (LS.tab 1 (pow10.map (.int .u64)) el fz) flatR = some (.tuple #[.string (lineB 13 a b c n), .int .i64 (cond (okC 13 a b c n) 0 2)]) := by
  rw [l10_13]
  cases h : okC 13 a b c n with
  | false =>
    simp only [lineB, h]
    rfl
  | true =>
    have hr : -4611686018427387904 ≤ a ∧ a ≤ 4611686018427387904 ∧ -4611686018427387904 ≤ b ∧ b ≤ 4611686018427387904 ∧ -4611686018427387904 ≤ c ∧ c ≤ 4611686018427387904 ∧ -4611686018427387904 ≤ n ∧ n ≤ 4611686018427387904 := by
      have h2 : okF 2 a b c n = true := h
      simp only [okF, decide_eq_true_eq] at h2
      omega
    have ra : -4611686018427387904 ≤ a ∧ a ≤ 4611686018427387904 := by omega
    have rb : -4611686018427387904 ≤ b ∧ b ≤ 4611686018427387904 := by omega
    have rc : -4611686018427387904 ≤ c ∧ c ≤ 4611686018427387904 := by omega
    have rn : -4611686018427387904 ≤ n ∧ n ≤ 4611686018427387904 := by omega
    have sa := itoaB_size a ra
    have sb := itoaB_size b rb
    have sc := itoaB_size c rc
    have sn := itoaB_size n rn
    have hl : lineB 13 a b c n = lineT itoaB ⟨#[98, 101, 113]⟩ 2 a b c n := by unfold lineB; rw [h]; rfl
    rw [hl]
    try simp only [qs_eq]
    repeat' first
      | exact rfl
      | refine condT (rangeT (by assumption)) ?_
      | refine condT (Nat.ble_eq_true_of_le (by simp only [szA, sz1, sz2, sz3]; omega)) ?_
      | refine condT rfl ?_
      | refine condF rfl ?_
    all_goals simp only [lineT, ByteArray.append_assoc, cond_true]

set_option maxRecDepth 100000 in
theorem l9_14 (ok : Ok5) (it : Int → ByteArray) (el : TypeId) (fz : Nat × Nat) (a b c n : Int) : callK Tryd.prog glT (fun _ => none) (asmL ok it) 100 40 40 (.fn 9) [code 14 a b c n] (LS.tab 1 (pow10.map (.int .u64)) el fz) flatR =
 cond ((bif ok 14 a b c n then (0 : Int) else 2) != 0) (
  some (.tuple #[(.string ((⟨#[]⟩ : ByteArray))), (.int IntKind.i64 (bif ok 14 a b c n then (0 : Int) else 2))])) (
  cond (decide (-4611686018427387904 ≤ n) && decide (n ≤ 4611686018427387904)) (
   qs [n, n] (
    cond (decide (-4611686018427387904 ≤ a) && decide (a ≤ 4611686018427387904)) (
     cond (((⟨#[114]⟩ : ByteArray).size + (it a).size).ble 9223372036854775807) (
      cond (decide (-4611686018427387904 ≤ b) && decide (b ≤ 4611686018427387904)) (
       cond (((⟨#[114]⟩ : ByteArray).size + (it b).size).ble 9223372036854775807) (
        cond ((joinB (⟨#[44, 32]⟩ : ByteArray) [(⟨#[114]⟩ : ByteArray) ++ it a, (⟨#[114]⟩ : ByteArray) ++ it b, it n]).size.ble 140737488355328) (
         cond ((((⟨#[98, 110, 101]⟩ : ByteArray) ++ (⟨#[32]⟩ : ByteArray)).size +       (joinB (⟨#[44, 32]⟩ : ByteArray) [(⟨#[114]⟩ : ByteArray) ++ it a, (⟨#[114]⟩ : ByteArray) ++ it b, it n]).size).ble   9223372036854775807) (
          qs [b, b, a] (
           some (.tuple #[(.string ((⟨#[98, 110, 101]⟩ : ByteArray) ++ (⟨#[32]⟩ : ByteArray) ++
   joinB (⟨#[44, 32]⟩ : ByteArray) [(⟨#[114]⟩ : ByteArray) ++ it a, (⟨#[114]⟩ : ByteArray) ++ it b, it n])), (.int IntKind.i64 0)]))) (
          none)) (
         none)) (
        none)) (
       none)) (
      none)) (
     none))) (
   none)) := by kernel_rfl
theorem t9_14 (el : TypeId) (fz : Nat × Nat) (a b c n : Int) : callK Tryd.prog glT (fun _ => none) (asmL okC itoaB) 100 40 40 (.fn 9) [code 14 a b c n] (LS.tab 1 (pow10.map (.int .u64)) el fz) flatR = some (.tuple #[.string (lineB 14 a b c n), .int .i64 (cond (okC 14 a b c n) 0 2)]) := by
  rw [l9_14]
  cases h : okC 14 a b c n with
  | false =>
    simp only [lineB, h]
    rfl
  | true =>
    have hr : -4611686018427387904 ≤ a ∧ a ≤ 4611686018427387904 ∧ -4611686018427387904 ≤ b ∧ b ≤ 4611686018427387904 ∧ -4611686018427387904 ≤ c ∧ c ≤ 4611686018427387904 ∧ -4611686018427387904 ≤ n ∧ n ≤ 4611686018427387904 := by
      have h2 : okF 2 a b c n = true := h
      simp only [okF, decide_eq_true_eq] at h2
      omega
    have ra : -4611686018427387904 ≤ a ∧ a ≤ 4611686018427387904 := by omega
    have rb : -4611686018427387904 ≤ b ∧ b ≤ 4611686018427387904 := by omega
    have rc : -4611686018427387904 ≤ c ∧ c ≤ 4611686018427387904 := by omega
    have rn : -4611686018427387904 ≤ n ∧ n ≤ 4611686018427387904 := by omega
    have sa := itoaB_size a ra
    have sb := itoaB_size b rb
    have sc := itoaB_size c rc
    have sn := itoaB_size n rn
    have hl : lineB 14 a b c n = lineT itoaB ⟨#[98, 110, 101]⟩ 2 a b c n := by unfold lineB; rw [h]; rfl
    rw [hl]
    try simp only [qs_eq]
    repeat' first
      | exact rfl
      | refine condT (rangeT (by assumption)) ?_
      | refine condT (Nat.ble_eq_true_of_le (by simp only [joinB, szA, sz1, sz2, sz3]; omega)) ?_
      | refine condT rfl ?_
      | refine condF rfl ?_
    all_goals simp only [lineT, joinB, ByteArray.append_assoc, cond_true]

set_option maxRecDepth 100000 in
theorem l10_14 (ok : Ok5) (it : Int → ByteArray) (el : TypeId) (fz : Nat × Nat) (a b c n : Int) : callK Tryd.prog glT (fun _ => none) (asmL ok it) 100 40 40 (.fn 10) [code 14 a b c n] (LS.tab 1 (pow10.map (.int .u64)) el fz) flatR =
 cond (ok 14 a b c n) (
  cond (decide (-4611686018427387904 ≤ a) && decide (a ≤ 4611686018427387904)) (
   cond (((⟨#[114]⟩ : ByteArray).size + (it a).size).ble 9223372036854775807) (
    cond (((⟨#[32]⟩ : ByteArray).size + ((⟨#[114]⟩ : ByteArray) ++ it a).size).ble 9223372036854775807) (
     cond (decide (-4611686018427387904 ≤ n) && decide (n ≤ 4611686018427387904)) (
      cond (((⟨#[98, 110, 101]⟩ : ByteArray).size + ((⟨#[32]⟩ : ByteArray) ++ ((⟨#[114]⟩ : ByteArray) ++ it a)).size).ble 9223372036854775807) (
       cond ((((⟨#[98, 110, 101]⟩ : ByteArray) ++ ((⟨#[32]⟩ : ByteArray) ++ ((⟨#[114]⟩ : ByteArray) ++ it a))).size +       (⟨#[44, 32]⟩ : ByteArray).size).ble   9223372036854775807) (
        cond (decide (-4611686018427387904 ≤ b) && decide (b ≤ 4611686018427387904)) (
         cond (((⟨#[114]⟩ : ByteArray).size + (it b).size).ble 9223372036854775807) (
          cond ((((⟨#[98, 110, 101]⟩ : ByteArray) ++ ((⟨#[32]⟩ : ByteArray) ++ ((⟨#[114]⟩ : ByteArray) ++ it a)) ++ (⟨#[44, 32]⟩ : ByteArray)).size +       ((⟨#[114]⟩ : ByteArray) ++ it b).size).ble   9223372036854775807) (
           cond ((((⟨#[98, 110, 101]⟩ : ByteArray) ++ ((⟨#[32]⟩ : ByteArray) ++ ((⟨#[114]⟩ : ByteArray) ++ it a)) ++ (⟨#[44, 32]⟩ : ByteArray) ++           ((⟨#[114]⟩ : ByteArray) ++ it b)).size +       (⟨#[44, 32]⟩ : ByteArray).size).ble   9223372036854775807) (
            cond ((((⟨#[98, 110, 101]⟩ : ByteArray) ++ ((⟨#[32]⟩ : ByteArray) ++ ((⟨#[114]⟩ : ByteArray) ++ it a)) ++ (⟨#[44, 32]⟩ : ByteArray) ++             ((⟨#[114]⟩ : ByteArray) ++ it b) ++           (⟨#[44, 32]⟩ : ByteArray)).size +       (it n).size).ble   9223372036854775807) (
             some (.tuple #[(.string ((⟨#[98, 110, 101]⟩ : ByteArray) ++ ((⟨#[32]⟩ : ByteArray) ++ ((⟨#[114]⟩ : ByteArray) ++ it a)) ++ (⟨#[44, 32]⟩ : ByteArray) ++
       ((⟨#[114]⟩ : ByteArray) ++ it b) ++
     (⟨#[44, 32]⟩ : ByteArray) ++
   it n)), (.int IntKind.i64 0)])) (
             none)) (
            none)) (
           none)) (
          none)) (
         none)) (
        none)) (
       none)) (
      none)) (
     none)) (
    none)) (
   none)) (
  some (.tuple #[(.string ((⟨#[]⟩ : ByteArray))), (.int IntKind.i64 2)])) := by kernel_rfl
theorem t10_14 (el : TypeId) (fz : Nat × Nat) (a b c n : Int) : callK Tryd.prog glT (fun _ => none) (asmL okC itoaB) 100 40 40 (.fn 10) [code 14 a b c n] (LS.tab 1 (pow10.map (.int .u64)) el fz) flatR = some (.tuple #[.string (lineB 14 a b c n), .int .i64 (cond (okC 14 a b c n) 0 2)]) := by
  rw [l10_14]
  cases h : okC 14 a b c n with
  | false =>
    simp only [lineB, h]
    rfl
  | true =>
    have hr : -4611686018427387904 ≤ a ∧ a ≤ 4611686018427387904 ∧ -4611686018427387904 ≤ b ∧ b ≤ 4611686018427387904 ∧ -4611686018427387904 ≤ c ∧ c ≤ 4611686018427387904 ∧ -4611686018427387904 ≤ n ∧ n ≤ 4611686018427387904 := by
      have h2 : okF 2 a b c n = true := h
      simp only [okF, decide_eq_true_eq] at h2
      omega
    have ra : -4611686018427387904 ≤ a ∧ a ≤ 4611686018427387904 := by omega
    have rb : -4611686018427387904 ≤ b ∧ b ≤ 4611686018427387904 := by omega
    have rc : -4611686018427387904 ≤ c ∧ c ≤ 4611686018427387904 := by omega
    have rn : -4611686018427387904 ≤ n ∧ n ≤ 4611686018427387904 := by omega
    have sa := itoaB_size a ra
    have sb := itoaB_size b rb
    have sc := itoaB_size c rc
    have sn := itoaB_size n rn
    have hl : lineB 14 a b c n = lineT itoaB ⟨#[98, 110, 101]⟩ 2 a b c n := by unfold lineB; rw [h]; rfl
    rw [hl]
    try simp only [qs_eq]
    repeat' first
      | exact rfl
      | refine condT (rangeT (by assumption)) ?_
      | refine condT (Nat.ble_eq_true_of_le (by simp only [szA, sz1, sz2, sz3]; omega)) ?_
      | refine condT rfl ?_
      | refine condF rfl ?_
    all_goals simp only [lineT, ByteArray.append_assoc, cond_true]

set_option maxRecDepth 100000 in
theorem l9_15 (ok : Ok5) (it : Int → ByteArray) (el : TypeId) (fz : Nat × Nat) (a b c n : Int) : callK Tryd.prog glT (fun _ => none) (asmL ok it) 100 40 40 (.fn 9) [code 15 a b c n] (LS.tab 1 (pow10.map (.int .u64)) el fz) flatR =
 cond ((bif ok 15 a b c n then (0 : Int) else 2) != 0) (
  some (.tuple #[(.string ((⟨#[]⟩ : ByteArray))), (.int IntKind.i64 (bif ok 15 a b c n then (0 : Int) else 2))])) (
  cond (decide (-4611686018427387904 ≤ n) && decide (n ≤ 4611686018427387904)) (
   qs [n, n] (
    cond (decide (-4611686018427387904 ≤ a) && decide (a ≤ 4611686018427387904)) (
     cond (((⟨#[114]⟩ : ByteArray).size + (it a).size).ble 9223372036854775807) (
      cond (decide (-4611686018427387904 ≤ b) && decide (b ≤ 4611686018427387904)) (
       cond (((⟨#[114]⟩ : ByteArray).size + (it b).size).ble 9223372036854775807) (
        cond ((joinB (⟨#[44, 32]⟩ : ByteArray) [(⟨#[114]⟩ : ByteArray) ++ it a, (⟨#[114]⟩ : ByteArray) ++ it b, it n]).size.ble 140737488355328) (
         cond ((((⟨#[98, 108, 116]⟩ : ByteArray) ++ (⟨#[32]⟩ : ByteArray)).size +       (joinB (⟨#[44, 32]⟩ : ByteArray) [(⟨#[114]⟩ : ByteArray) ++ it a, (⟨#[114]⟩ : ByteArray) ++ it b, it n]).size).ble   9223372036854775807) (
          qs [b, b, a] (
           some (.tuple #[(.string ((⟨#[98, 108, 116]⟩ : ByteArray) ++ (⟨#[32]⟩ : ByteArray) ++
   joinB (⟨#[44, 32]⟩ : ByteArray) [(⟨#[114]⟩ : ByteArray) ++ it a, (⟨#[114]⟩ : ByteArray) ++ it b, it n])), (.int IntKind.i64 0)]))) (
          none)) (
         none)) (
        none)) (
       none)) (
      none)) (
     none))) (
   none)) := by kernel_rfl
theorem t9_15 (el : TypeId) (fz : Nat × Nat) (a b c n : Int) : callK Tryd.prog glT (fun _ => none) (asmL okC itoaB) 100 40 40 (.fn 9) [code 15 a b c n] (LS.tab 1 (pow10.map (.int .u64)) el fz) flatR = some (.tuple #[.string (lineB 15 a b c n), .int .i64 (cond (okC 15 a b c n) 0 2)]) := by
  rw [l9_15]
  cases h : okC 15 a b c n with
  | false =>
    simp only [lineB, h]
    rfl
  | true =>
    have hr : -4611686018427387904 ≤ a ∧ a ≤ 4611686018427387904 ∧ -4611686018427387904 ≤ b ∧ b ≤ 4611686018427387904 ∧ -4611686018427387904 ≤ c ∧ c ≤ 4611686018427387904 ∧ -4611686018427387904 ≤ n ∧ n ≤ 4611686018427387904 := by
      have h2 : okF 2 a b c n = true := h
      simp only [okF, decide_eq_true_eq] at h2
      omega
    have ra : -4611686018427387904 ≤ a ∧ a ≤ 4611686018427387904 := by omega
    have rb : -4611686018427387904 ≤ b ∧ b ≤ 4611686018427387904 := by omega
    have rc : -4611686018427387904 ≤ c ∧ c ≤ 4611686018427387904 := by omega
    have rn : -4611686018427387904 ≤ n ∧ n ≤ 4611686018427387904 := by omega
    have sa := itoaB_size a ra
    have sb := itoaB_size b rb
    have sc := itoaB_size c rc
    have sn := itoaB_size n rn
    have hl : lineB 15 a b c n = lineT itoaB ⟨#[98, 108, 116]⟩ 2 a b c n := by unfold lineB; rw [h]; rfl
    rw [hl]
    try simp only [qs_eq]
    repeat' first
      | exact rfl
      | refine condT (rangeT (by assumption)) ?_
      | refine condT (Nat.ble_eq_true_of_le (by simp only [joinB, szA, sz1, sz2, sz3]; omega)) ?_
      | refine condT rfl ?_
      | refine condF rfl ?_
    all_goals simp only [lineT, joinB, ByteArray.append_assoc, cond_true]

set_option maxRecDepth 100000 in
theorem l10_15 (ok : Ok5) (it : Int → ByteArray) (el : TypeId) (fz : Nat × Nat) (a b c n : Int) : callK Tryd.prog glT (fun _ => none) (asmL ok it) 100 40 40 (.fn 10) [code 15 a b c n] (LS.tab 1 (pow10.map (.int .u64)) el fz) flatR =
 cond (ok 15 a b c n) (
  cond (decide (-4611686018427387904 ≤ a) && decide (a ≤ 4611686018427387904)) (
   cond (((⟨#[114]⟩ : ByteArray).size + (it a).size).ble 9223372036854775807) (
    cond (((⟨#[32]⟩ : ByteArray).size + ((⟨#[114]⟩ : ByteArray) ++ it a).size).ble 9223372036854775807) (
     cond (decide (-4611686018427387904 ≤ n) && decide (n ≤ 4611686018427387904)) (
      cond (((⟨#[98, 108, 116]⟩ : ByteArray).size + ((⟨#[32]⟩ : ByteArray) ++ ((⟨#[114]⟩ : ByteArray) ++ it a)).size).ble 9223372036854775807) (
       cond ((((⟨#[98, 108, 116]⟩ : ByteArray) ++ ((⟨#[32]⟩ : ByteArray) ++ ((⟨#[114]⟩ : ByteArray) ++ it a))).size +       (⟨#[44, 32]⟩ : ByteArray).size).ble   9223372036854775807) (
        cond (decide (-4611686018427387904 ≤ b) && decide (b ≤ 4611686018427387904)) (
         cond (((⟨#[114]⟩ : ByteArray).size + (it b).size).ble 9223372036854775807) (
          cond ((((⟨#[98, 108, 116]⟩ : ByteArray) ++ ((⟨#[32]⟩ : ByteArray) ++ ((⟨#[114]⟩ : ByteArray) ++ it a)) ++ (⟨#[44, 32]⟩ : ByteArray)).size +       ((⟨#[114]⟩ : ByteArray) ++ it b).size).ble   9223372036854775807) (
           cond ((((⟨#[98, 108, 116]⟩ : ByteArray) ++ ((⟨#[32]⟩ : ByteArray) ++ ((⟨#[114]⟩ : ByteArray) ++ it a)) ++ (⟨#[44, 32]⟩ : ByteArray) ++           ((⟨#[114]⟩ : ByteArray) ++ it b)).size +       (⟨#[44, 32]⟩ : ByteArray).size).ble   9223372036854775807) (
            cond ((((⟨#[98, 108, 116]⟩ : ByteArray) ++ ((⟨#[32]⟩ : ByteArray) ++ ((⟨#[114]⟩ : ByteArray) ++ it a)) ++ (⟨#[44, 32]⟩ : ByteArray) ++             ((⟨#[114]⟩ : ByteArray) ++ it b) ++           (⟨#[44, 32]⟩ : ByteArray)).size +       (it n).size).ble   9223372036854775807) (
             some (.tuple #[(.string ((⟨#[98, 108, 116]⟩ : ByteArray) ++ ((⟨#[32]⟩ : ByteArray) ++ ((⟨#[114]⟩ : ByteArray) ++ it a)) ++ (⟨#[44, 32]⟩ : ByteArray) ++
       ((⟨#[114]⟩ : ByteArray) ++ it b) ++
     (⟨#[44, 32]⟩ : ByteArray) ++
   it n)), (.int IntKind.i64 0)])) (
             none)) (
            none)) (
           none)) (
          none)) (
         none)) (
        none)) (
       none)) (
      none)) (
     none)) (
    none)) (
   none)) (
  some (.tuple #[(.string ((⟨#[]⟩ : ByteArray))), (.int IntKind.i64 2)])) := by kernel_rfl
theorem t10_15 (el : TypeId) (fz : Nat × Nat) (a b c n : Int) : callK Tryd.prog glT (fun _ => none) (asmL okC itoaB) 100 40 40 (.fn 10) [code 15 a b c n] (LS.tab 1 (pow10.map (.int .u64)) el fz) flatR = some (.tuple #[.string (lineB 15 a b c n), .int .i64 (cond (okC 15 a b c n) 0 2)]) := by
  rw [l10_15]
  cases h : okC 15 a b c n with
  | false =>
    simp only [lineB, h]
    rfl
  | true =>
    have hr : -4611686018427387904 ≤ a ∧ a ≤ 4611686018427387904 ∧ -4611686018427387904 ≤ b ∧ b ≤ 4611686018427387904 ∧ -4611686018427387904 ≤ c ∧ c ≤ 4611686018427387904 ∧ -4611686018427387904 ≤ n ∧ n ≤ 4611686018427387904 := by
      have h2 : okF 2 a b c n = true := h
      simp only [okF, decide_eq_true_eq] at h2
      omega
    have ra : -4611686018427387904 ≤ a ∧ a ≤ 4611686018427387904 := by omega
    have rb : -4611686018427387904 ≤ b ∧ b ≤ 4611686018427387904 := by omega
    have rc : -4611686018427387904 ≤ c ∧ c ≤ 4611686018427387904 := by omega
    have rn : -4611686018427387904 ≤ n ∧ n ≤ 4611686018427387904 := by omega
    have sa := itoaB_size a ra
    have sb := itoaB_size b rb
    have sc := itoaB_size c rc
    have sn := itoaB_size n rn
    have hl : lineB 15 a b c n = lineT itoaB ⟨#[98, 108, 116]⟩ 2 a b c n := by unfold lineB; rw [h]; rfl
    rw [hl]
    try simp only [qs_eq]
    repeat' first
      | exact rfl
      | refine condT (rangeT (by assumption)) ?_
      | refine condT (Nat.ble_eq_true_of_le (by simp only [szA, sz1, sz2, sz3]; omega)) ?_
      | refine condT rfl ?_
      | refine condF rfl ?_
    all_goals simp only [lineT, ByteArray.append_assoc, cond_true]

set_option maxRecDepth 100000 in
theorem l9_16 (ok : Ok5) (it : Int → ByteArray) (el : TypeId) (fz : Nat × Nat) (a b c n : Int) : callK Tryd.prog glT (fun _ => none) (asmL ok it) 100 40 40 (.fn 9) [code 16 a b c n] (LS.tab 1 (pow10.map (.int .u64)) el fz) flatR =
 cond ((bif ok 16 a b c n then (0 : Int) else 2) != 0) (
  some (.tuple #[(.string ((⟨#[]⟩ : ByteArray))), (.int IntKind.i64 (bif ok 16 a b c n then (0 : Int) else 2))])) (
  cond (decide (-4611686018427387904 ≤ n) && decide (n ≤ 4611686018427387904)) (
   qs [n, n] (
    cond ((joinB (⟨#[44, 32]⟩ : ByteArray) [it n]).size.ble 140737488355328) (
     cond ((((⟨#[106, 117, 109, 112]⟩ : ByteArray) ++ (⟨#[32]⟩ : ByteArray)).size + (joinB (⟨#[44, 32]⟩ : ByteArray) [it n]).size).ble   9223372036854775807) (
      some (.tuple #[(.string ((⟨#[106, 117, 109, 112]⟩ : ByteArray) ++ (⟨#[32]⟩ : ByteArray) ++ joinB (⟨#[44, 32]⟩ : ByteArray) [it n])), (.int IntKind.i64 0)])) (
      none)) (
     none))) (
   none)) := by kernel_rfl
theorem t9_16 (el : TypeId) (fz : Nat × Nat) (a b c n : Int) : callK Tryd.prog glT (fun _ => none) (asmL okC itoaB) 100 40 40 (.fn 9) [code 16 a b c n] (LS.tab 1 (pow10.map (.int .u64)) el fz) flatR = some (.tuple #[.string (lineB 16 a b c n), .int .i64 (cond (okC 16 a b c n) 0 2)]) := by
  rw [l9_16]
  cases h : okC 16 a b c n with
  | false =>
    simp only [lineB, h]
    rfl
  | true =>
    have hr : -4611686018427387904 ≤ a ∧ a ≤ 4611686018427387904 ∧ -4611686018427387904 ≤ b ∧ b ≤ 4611686018427387904 ∧ -4611686018427387904 ≤ c ∧ c ≤ 4611686018427387904 ∧ -4611686018427387904 ≤ n ∧ n ≤ 4611686018427387904 := by
      have h2 : okF 4 a b c n = true := h
      simp only [okF, decide_eq_true_eq] at h2
      omega
    have ra : -4611686018427387904 ≤ a ∧ a ≤ 4611686018427387904 := by omega
    have rb : -4611686018427387904 ≤ b ∧ b ≤ 4611686018427387904 := by omega
    have rc : -4611686018427387904 ≤ c ∧ c ≤ 4611686018427387904 := by omega
    have rn : -4611686018427387904 ≤ n ∧ n ≤ 4611686018427387904 := by omega
    have sa := itoaB_size a ra
    have sb := itoaB_size b rb
    have sc := itoaB_size c rc
    have sn := itoaB_size n rn
    have hl : lineB 16 a b c n = lineT itoaB ⟨#[106, 117, 109, 112]⟩ 4 a b c n := by unfold lineB; rw [h]; rfl
    rw [hl]
    try simp only [qs_eq]
    repeat' first
      | exact rfl
      | refine condT (rangeT (by assumption)) ?_
      | refine condT (Nat.ble_eq_true_of_le (by simp only [joinB, szA, sz1, sz4]; omega)) ?_
      | refine condT rfl ?_
      | refine condF rfl ?_
    all_goals simp only [lineT, joinB, ByteArray.append_assoc, appE, Eapp, cond_true]

set_option maxRecDepth 100000 in
theorem l10_16 (ok : Ok5) (it : Int → ByteArray) (el : TypeId) (fz : Nat × Nat) (a b c n : Int) : callK Tryd.prog glT (fun _ => none) (asmL ok it) 100 40 40 (.fn 10) [code 16 a b c n] (LS.tab 1 (pow10.map (.int .u64)) el fz) flatR =
 cond (ok 16 a b c n) (
  cond (decide (-4611686018427387904 ≤ a) && decide (a ≤ 4611686018427387904)) (
   cond (((⟨#[114]⟩ : ByteArray).size + (it a).size).ble 9223372036854775807) (
    cond (((⟨#[32]⟩ : ByteArray).size + ((⟨#[114]⟩ : ByteArray) ++ it a).size).ble 9223372036854775807) (
     cond (decide (-4611686018427387904 ≤ n) && decide (n ≤ 4611686018427387904)) (
      cond ((((⟨#[106, 117, 109, 112]⟩ : ByteArray) ++ (⟨#[32]⟩ : ByteArray)).size + (it n).size).ble 9223372036854775807) (
       some (.tuple #[(.string ((⟨#[106, 117, 109, 112]⟩ : ByteArray) ++ (⟨#[32]⟩ : ByteArray) ++ it n)), (.int IntKind.i64 0)])) (
       none)) (
      none)) (
     none)) (
    none)) (
   none)) (
  some (.tuple #[(.string ((⟨#[]⟩ : ByteArray))), (.int IntKind.i64 2)])) := by kernel_rfl
theorem t10_16 (el : TypeId) (fz : Nat × Nat) (a b c n : Int) : callK Tryd.prog glT (fun _ => none) (asmL okC itoaB) 100 40 40 (.fn 10) [code 16 a b c n] (LS.tab 1 (pow10.map (.int .u64)) el fz) flatR = some (.tuple #[.string (lineB 16 a b c n), .int .i64 (cond (okC 16 a b c n) 0 2)]) := by
  rw [l10_16]
  cases h : okC 16 a b c n with
  | false =>
    simp only [lineB, h]
    rfl
  | true =>
    have hr : -4611686018427387904 ≤ a ∧ a ≤ 4611686018427387904 ∧ -4611686018427387904 ≤ b ∧ b ≤ 4611686018427387904 ∧ -4611686018427387904 ≤ c ∧ c ≤ 4611686018427387904 ∧ -4611686018427387904 ≤ n ∧ n ≤ 4611686018427387904 := by
      have h2 : okF 4 a b c n = true := h
      simp only [okF, decide_eq_true_eq] at h2
      omega
    have ra : -4611686018427387904 ≤ a ∧ a ≤ 4611686018427387904 := by omega
    have rb : -4611686018427387904 ≤ b ∧ b ≤ 4611686018427387904 := by omega
    have rc : -4611686018427387904 ≤ c ∧ c ≤ 4611686018427387904 := by omega
    have rn : -4611686018427387904 ≤ n ∧ n ≤ 4611686018427387904 := by omega
    have sa := itoaB_size a ra
    have sb := itoaB_size b rb
    have sc := itoaB_size c rc
    have sn := itoaB_size n rn
    have hl : lineB 16 a b c n = lineT itoaB ⟨#[106, 117, 109, 112]⟩ 4 a b c n := by unfold lineB; rw [h]; rfl
    rw [hl]
    try simp only [qs_eq]
    repeat' first
      | exact rfl
      | refine condT (rangeT (by assumption)) ?_
      | refine condT (Nat.ble_eq_true_of_le (by simp only [szA, sz1, sz4]; omega)) ?_
      | refine condT rfl ?_
      | refine condF rfl ?_
    all_goals simp only [lineT, joinB, ByteArray.append_assoc, appE, Eapp, cond_true]

set_option maxRecDepth 100000 in
theorem l9_17 (ok : Ok5) (it : Int → ByteArray) (el : TypeId) (fz : Nat × Nat) (a b c n : Int) : callK Tryd.prog glT (fun _ => none) (asmL ok it) 100 40 40 (.fn 9) [code 17 a b c n] (LS.tab 1 (pow10.map (.int .u64)) el fz) flatR =
 cond ((bif ok 17 a b c n then (0 : Int) else 2) != 0) (
  some (.tuple #[(.string ((⟨#[]⟩ : ByteArray))), (.int IntKind.i64 (bif ok 17 a b c n then (0 : Int) else 2))])) (
  cond (decide (-4611686018427387904 ≤ n) && decide (n ≤ 4611686018427387904)) (
   qs [n, n] (
    cond ((joinB (⟨#[44, 32]⟩ : ByteArray) [it n]).size.ble 140737488355328) (
     cond ((((⟨#[98, 101, 103, 105, 110]⟩ : ByteArray) ++ (⟨#[32]⟩ : ByteArray)).size + (joinB (⟨#[44, 32]⟩ : ByteArray) [it n]).size).ble   9223372036854775807) (
      some (.tuple #[(.string ((⟨#[98, 101, 103, 105, 110]⟩ : ByteArray) ++ (⟨#[32]⟩ : ByteArray) ++ joinB (⟨#[44, 32]⟩ : ByteArray) [it n])), (.int IntKind.i64 0)])) (
      none)) (
     none))) (
   none)) := by kernel_rfl
theorem t9_17 (el : TypeId) (fz : Nat × Nat) (a b c n : Int) : callK Tryd.prog glT (fun _ => none) (asmL okC itoaB) 100 40 40 (.fn 9) [code 17 a b c n] (LS.tab 1 (pow10.map (.int .u64)) el fz) flatR = some (.tuple #[.string (lineB 17 a b c n), .int .i64 (cond (okC 17 a b c n) 0 2)]) := by
  rw [l9_17]
  cases h : okC 17 a b c n with
  | false =>
    simp only [lineB, h]
    rfl
  | true =>
    have hr : -4611686018427387904 ≤ a ∧ a ≤ 4611686018427387904 ∧ -4611686018427387904 ≤ b ∧ b ≤ 4611686018427387904 ∧ -4611686018427387904 ≤ c ∧ c ≤ 4611686018427387904 ∧ -4611686018427387904 ≤ n ∧ n ≤ 4611686018427387904 := by
      have h2 : okF 4 a b c n = true := h
      simp only [okF, decide_eq_true_eq] at h2
      omega
    have ra : -4611686018427387904 ≤ a ∧ a ≤ 4611686018427387904 := by omega
    have rb : -4611686018427387904 ≤ b ∧ b ≤ 4611686018427387904 := by omega
    have rc : -4611686018427387904 ≤ c ∧ c ≤ 4611686018427387904 := by omega
    have rn : -4611686018427387904 ≤ n ∧ n ≤ 4611686018427387904 := by omega
    have sa := itoaB_size a ra
    have sb := itoaB_size b rb
    have sc := itoaB_size c rc
    have sn := itoaB_size n rn
    have hl : lineB 17 a b c n = lineT itoaB ⟨#[98, 101, 103, 105, 110]⟩ 4 a b c n := by unfold lineB; rw [h]; rfl
    rw [hl]
    try simp only [qs_eq]
    repeat' first
      | exact rfl
      | refine condT (rangeT (by assumption)) ?_
      | refine condT (Nat.ble_eq_true_of_le (by simp only [joinB, szA, sz1, sz5]; omega)) ?_
      | refine condT rfl ?_
      | refine condF rfl ?_
    all_goals simp only [lineT, joinB, ByteArray.append_assoc, appE, Eapp, cond_true]

set_option maxRecDepth 100000 in
theorem l10_17 (ok : Ok5) (it : Int → ByteArray) (el : TypeId) (fz : Nat × Nat) (a b c n : Int) : callK Tryd.prog glT (fun _ => none) (asmL ok it) 100 40 40 (.fn 10) [code 17 a b c n] (LS.tab 1 (pow10.map (.int .u64)) el fz) flatR =
 cond (ok 17 a b c n) (
  cond (decide (-4611686018427387904 ≤ a) && decide (a ≤ 4611686018427387904)) (
   cond (((⟨#[114]⟩ : ByteArray).size + (it a).size).ble 9223372036854775807) (
    cond (((⟨#[32]⟩ : ByteArray).size + ((⟨#[114]⟩ : ByteArray) ++ it a).size).ble 9223372036854775807) (
     cond (decide (-4611686018427387904 ≤ n) && decide (n ≤ 4611686018427387904)) (
      cond ((((⟨#[98, 101, 103, 105, 110]⟩ : ByteArray) ++ (⟨#[32]⟩ : ByteArray)).size + (it n).size).ble 9223372036854775807) (
       some (.tuple #[(.string ((⟨#[98, 101, 103, 105, 110]⟩ : ByteArray) ++ (⟨#[32]⟩ : ByteArray) ++ it n)), (.int IntKind.i64 0)])) (
       none)) (
      none)) (
     none)) (
    none)) (
   none)) (
  some (.tuple #[(.string ((⟨#[]⟩ : ByteArray))), (.int IntKind.i64 2)])) := by kernel_rfl
theorem t10_17 (el : TypeId) (fz : Nat × Nat) (a b c n : Int) : callK Tryd.prog glT (fun _ => none) (asmL okC itoaB) 100 40 40 (.fn 10) [code 17 a b c n] (LS.tab 1 (pow10.map (.int .u64)) el fz) flatR = some (.tuple #[.string (lineB 17 a b c n), .int .i64 (cond (okC 17 a b c n) 0 2)]) := by
  rw [l10_17]
  cases h : okC 17 a b c n with
  | false =>
    simp only [lineB, h]
    rfl
  | true =>
    have hr : -4611686018427387904 ≤ a ∧ a ≤ 4611686018427387904 ∧ -4611686018427387904 ≤ b ∧ b ≤ 4611686018427387904 ∧ -4611686018427387904 ≤ c ∧ c ≤ 4611686018427387904 ∧ -4611686018427387904 ≤ n ∧ n ≤ 4611686018427387904 := by
      have h2 : okF 4 a b c n = true := h
      simp only [okF, decide_eq_true_eq] at h2
      omega
    have ra : -4611686018427387904 ≤ a ∧ a ≤ 4611686018427387904 := by omega
    have rb : -4611686018427387904 ≤ b ∧ b ≤ 4611686018427387904 := by omega
    have rc : -4611686018427387904 ≤ c ∧ c ≤ 4611686018427387904 := by omega
    have rn : -4611686018427387904 ≤ n ∧ n ≤ 4611686018427387904 := by omega
    have sa := itoaB_size a ra
    have sb := itoaB_size b rb
    have sc := itoaB_size c rc
    have sn := itoaB_size n rn
    have hl : lineB 17 a b c n = lineT itoaB ⟨#[98, 101, 103, 105, 110]⟩ 4 a b c n := by unfold lineB; rw [h]; rfl
    rw [hl]
    try simp only [qs_eq]
    repeat' first
      | exact rfl
      | refine condT (rangeT (by assumption)) ?_
      | refine condT (Nat.ble_eq_true_of_le (by simp only [szA, sz1, sz5]; omega)) ?_
      | refine condT rfl ?_
      | refine condF rfl ?_
    all_goals simp only [lineT, joinB, ByteArray.append_assoc, appE, Eapp, cond_true]

set_option maxRecDepth 100000 in
theorem l9_18 (ok : Ok5) (it : Int → ByteArray) (el : TypeId) (fz : Nat × Nat) (a b c n : Int) : callK Tryd.prog glT (fun _ => none) (asmL ok it) 100 40 40 (.fn 9) [code 18 a b c n] (LS.tab 1 (pow10.map (.int .u64)) el fz) flatR =
 cond ((bif ok 18 a b c n then (0 : Int) else 2) != 0) (
  some (.tuple #[(.string ((⟨#[]⟩ : ByteArray))), (.int IntKind.i64 (bif ok 18 a b c n then (0 : Int) else 2))])) (
  cond (decide (-4611686018427387904 ≤ n) && decide (n ≤ 4611686018427387904)) (
   qs [n, n] (
    some (.tuple #[(.string ((⟨#[101, 110, 100]⟩ : ByteArray))), (.int IntKind.i64 0)]))) (
   none)) := by kernel_rfl
theorem t9_18 (el : TypeId) (fz : Nat × Nat) (a b c n : Int) : callK Tryd.prog glT (fun _ => none) (asmL okC itoaB) 100 40 40 (.fn 9) [code 18 a b c n] (LS.tab 1 (pow10.map (.int .u64)) el fz) flatR = some (.tuple #[.string (lineB 18 a b c n), .int .i64 (cond (okC 18 a b c n) 0 2)]) := by
  rw [l9_18]
  cases h : okC 18 a b c n with
  | false =>
    simp only [lineB, h]
    rfl
  | true =>
    have hr : -4611686018427387904 ≤ a ∧ a ≤ 4611686018427387904 ∧ -4611686018427387904 ≤ b ∧ b ≤ 4611686018427387904 ∧ -4611686018427387904 ≤ c ∧ c ≤ 4611686018427387904 ∧ -4611686018427387904 ≤ n ∧ n ≤ 4611686018427387904 := by
      have h2 : okF 0 a b c n = true := h
      simp only [okF, decide_eq_true_eq] at h2
      omega
    have ra : -4611686018427387904 ≤ a ∧ a ≤ 4611686018427387904 := by omega
    have rb : -4611686018427387904 ≤ b ∧ b ≤ 4611686018427387904 := by omega
    have rc : -4611686018427387904 ≤ c ∧ c ≤ 4611686018427387904 := by omega
    have rn : -4611686018427387904 ≤ n ∧ n ≤ 4611686018427387904 := by omega
    have sa := itoaB_size a ra
    have sb := itoaB_size b rb
    have sc := itoaB_size c rc
    have sn := itoaB_size n rn
    have hl : lineB 18 a b c n = lineT itoaB ⟨#[101, 110, 100]⟩ 0 a b c n := by unfold lineB; rw [h]; rfl
    rw [hl]
    try simp only [qs_eq]
    repeat' first
      | exact rfl
      | refine condT (rangeT (by assumption)) ?_
      | refine condT (Nat.ble_eq_true_of_le (by simp only [joinB, szA, sz0, sz1, sz2, sz3, sz4, sz5]; omega)) ?_
      | refine condT rfl ?_
      | refine condF rfl ?_
    all_goals simp only [lineT, joinB, ByteArray.append_assoc, appE, Eapp, cond_true]

set_option maxRecDepth 100000 in
theorem l10_18 (ok : Ok5) (it : Int → ByteArray) (el : TypeId) (fz : Nat × Nat) (a b c n : Int) : callK Tryd.prog glT (fun _ => none) (asmL ok it) 100 40 40 (.fn 10) [code 18 a b c n] (LS.tab 1 (pow10.map (.int .u64)) el fz) flatR =
 cond (ok 18 a b c n) (
  cond (decide (-4611686018427387904 ≤ a) && decide (a ≤ 4611686018427387904)) (
   cond (((⟨#[114]⟩ : ByteArray).size + (it a).size).ble 9223372036854775807) (
    cond (((⟨#[32]⟩ : ByteArray).size + ((⟨#[114]⟩ : ByteArray) ++ it a).size).ble 9223372036854775807) (
     cond (decide (-4611686018427387904 ≤ n) && decide (n ≤ 4611686018427387904)) (
      some (.tuple #[(.string ((⟨#[101, 110, 100]⟩ : ByteArray))), (.int IntKind.i64 0)])) (
      none)) (
     none)) (
    none)) (
   none)) (
  some (.tuple #[(.string ((⟨#[]⟩ : ByteArray))), (.int IntKind.i64 2)])) := by kernel_rfl
theorem t10_18 (el : TypeId) (fz : Nat × Nat) (a b c n : Int) : callK Tryd.prog glT (fun _ => none) (asmL okC itoaB) 100 40 40 (.fn 10) [code 18 a b c n] (LS.tab 1 (pow10.map (.int .u64)) el fz) flatR = some (.tuple #[.string (lineB 18 a b c n), .int .i64 (cond (okC 18 a b c n) 0 2)]) := by
  rw [l10_18]
  cases h : okC 18 a b c n with
  | false =>
    simp only [lineB, h]
    rfl
  | true =>
    have hr : -4611686018427387904 ≤ a ∧ a ≤ 4611686018427387904 ∧ -4611686018427387904 ≤ b ∧ b ≤ 4611686018427387904 ∧ -4611686018427387904 ≤ c ∧ c ≤ 4611686018427387904 ∧ -4611686018427387904 ≤ n ∧ n ≤ 4611686018427387904 := by
      have h2 : okF 0 a b c n = true := h
      simp only [okF, decide_eq_true_eq] at h2
      omega
    have ra : -4611686018427387904 ≤ a ∧ a ≤ 4611686018427387904 := by omega
    have rb : -4611686018427387904 ≤ b ∧ b ≤ 4611686018427387904 := by omega
    have rc : -4611686018427387904 ≤ c ∧ c ≤ 4611686018427387904 := by omega
    have rn : -4611686018427387904 ≤ n ∧ n ≤ 4611686018427387904 := by omega
    have sa := itoaB_size a ra
    have sb := itoaB_size b rb
    have sc := itoaB_size c rc
    have sn := itoaB_size n rn
    have hl : lineB 18 a b c n = lineT itoaB ⟨#[101, 110, 100]⟩ 0 a b c n := by unfold lineB; rw [h]; rfl
    rw [hl]
    try simp only [qs_eq]
    repeat' first
      | exact rfl
      | refine condT (rangeT (by assumption)) ?_
      | refine condT (Nat.ble_eq_true_of_le (by simp only [szA, sz1]; omega)) ?_
      | refine condT rfl ?_
      | refine condF rfl ?_
    all_goals simp only [lineT, joinB, ByteArray.append_assoc, appE, Eapp, cond_true]

set_option maxRecDepth 100000 in
theorem l9_19 (ok : Ok5) (it : Int → ByteArray) (el : TypeId) (fz : Nat × Nat) (a b c n : Int) : callK Tryd.prog glT (fun _ => none) (asmL ok it) 100 40 40 (.fn 9) [code 19 a b c n] (LS.tab 1 (pow10.map (.int .u64)) el fz) flatR =
 cond ((bif ok 19 a b c n then (0 : Int) else 2) != 0) (
  some (.tuple #[(.string ((⟨#[]⟩ : ByteArray))), (.int IntKind.i64 (bif ok 19 a b c n then (0 : Int) else 2))])) (
  cond (decide (-4611686018427387904 ≤ n) && decide (n ≤ 4611686018427387904)) (
   qs [n, n] (
    cond ((joinB (⟨#[44, 32]⟩ : ByteArray) [it n]).size.ble 140737488355328) (
     cond ((((⟨#[97, 98, 111, 114, 116]⟩ : ByteArray) ++ (⟨#[32]⟩ : ByteArray)).size + (joinB (⟨#[44, 32]⟩ : ByteArray) [it n]).size).ble   9223372036854775807) (
      some (.tuple #[(.string ((⟨#[97, 98, 111, 114, 116]⟩ : ByteArray) ++ (⟨#[32]⟩ : ByteArray) ++ joinB (⟨#[44, 32]⟩ : ByteArray) [it n])), (.int IntKind.i64 0)])) (
      none)) (
     none))) (
   none)) := by kernel_rfl
theorem t9_19 (el : TypeId) (fz : Nat × Nat) (a b c n : Int) : callK Tryd.prog glT (fun _ => none) (asmL okC itoaB) 100 40 40 (.fn 9) [code 19 a b c n] (LS.tab 1 (pow10.map (.int .u64)) el fz) flatR = some (.tuple #[.string (lineB 19 a b c n), .int .i64 (cond (okC 19 a b c n) 0 2)]) := by
  rw [l9_19]
  cases h : okC 19 a b c n with
  | false =>
    simp only [lineB, h]
    rfl
  | true =>
    have hr : -4611686018427387904 ≤ a ∧ a ≤ 4611686018427387904 ∧ -4611686018427387904 ≤ b ∧ b ≤ 4611686018427387904 ∧ -4611686018427387904 ≤ c ∧ c ≤ 4611686018427387904 ∧ -4611686018427387904 ≤ n ∧ n ≤ 4611686018427387904 := by
      have h2 : okF 5 a b c n = true := h
      simp only [okF, decide_eq_true_eq] at h2
      omega
    have ra : -4611686018427387904 ≤ a ∧ a ≤ 4611686018427387904 := by omega
    have rb : -4611686018427387904 ≤ b ∧ b ≤ 4611686018427387904 := by omega
    have rc : -4611686018427387904 ≤ c ∧ c ≤ 4611686018427387904 := by omega
    have rn : -4611686018427387904 ≤ n ∧ n ≤ 4611686018427387904 := by omega
    have sa := itoaB_size a ra
    have sb := itoaB_size b rb
    have sc := itoaB_size c rc
    have sn := itoaB_size n rn
    have hl : lineB 19 a b c n = lineT itoaB ⟨#[97, 98, 111, 114, 116]⟩ 5 a b c n := by unfold lineB; rw [h]; rfl
    rw [hl]
    try simp only [qs_eq]
    repeat' first
      | exact rfl
      | refine condT (rangeT (by assumption)) ?_
      | refine condT (Nat.ble_eq_true_of_le (by simp only [joinB, szA, sz1, sz5]; omega)) ?_
      | refine condT rfl ?_
      | refine condF rfl ?_
    all_goals simp only [lineT, joinB, ByteArray.append_assoc, appE, Eapp, cond_true]

set_option maxRecDepth 100000 in
theorem l10_19 (ok : Ok5) (it : Int → ByteArray) (el : TypeId) (fz : Nat × Nat) (a b c n : Int) : callK Tryd.prog glT (fun _ => none) (asmL ok it) 100 40 40 (.fn 10) [code 19 a b c n] (LS.tab 1 (pow10.map (.int .u64)) el fz) flatR =
 cond (ok 19 a b c n) (
  cond (decide (-4611686018427387904 ≤ a) && decide (a ≤ 4611686018427387904)) (
   cond (((⟨#[114]⟩ : ByteArray).size + (it a).size).ble 9223372036854775807) (
    cond (((⟨#[32]⟩ : ByteArray).size + ((⟨#[114]⟩ : ByteArray) ++ it a).size).ble 9223372036854775807) (
     cond (decide (-4611686018427387904 ≤ n) && decide (n ≤ 4611686018427387904)) (
      cond ((((⟨#[97, 98, 111, 114, 116]⟩ : ByteArray) ++ (⟨#[32]⟩ : ByteArray)).size + (it n).size).ble 9223372036854775807) (
       some (.tuple #[(.string ((⟨#[97, 98, 111, 114, 116]⟩ : ByteArray) ++ (⟨#[32]⟩ : ByteArray) ++ it n)), (.int IntKind.i64 0)])) (
       none)) (
      none)) (
     none)) (
    none)) (
   none)) (
  some (.tuple #[(.string ((⟨#[]⟩ : ByteArray))), (.int IntKind.i64 2)])) := by kernel_rfl
theorem t10_19 (el : TypeId) (fz : Nat × Nat) (a b c n : Int) : callK Tryd.prog glT (fun _ => none) (asmL okC itoaB) 100 40 40 (.fn 10) [code 19 a b c n] (LS.tab 1 (pow10.map (.int .u64)) el fz) flatR = some (.tuple #[.string (lineB 19 a b c n), .int .i64 (cond (okC 19 a b c n) 0 2)]) := by
  rw [l10_19]
  cases h : okC 19 a b c n with
  | false =>
    simp only [lineB, h]
    rfl
  | true =>
    have hr : -4611686018427387904 ≤ a ∧ a ≤ 4611686018427387904 ∧ -4611686018427387904 ≤ b ∧ b ≤ 4611686018427387904 ∧ -4611686018427387904 ≤ c ∧ c ≤ 4611686018427387904 ∧ -4611686018427387904 ≤ n ∧ n ≤ 4611686018427387904 := by
      have h2 : okF 5 a b c n = true := h
      simp only [okF, decide_eq_true_eq] at h2
      omega
    have ra : -4611686018427387904 ≤ a ∧ a ≤ 4611686018427387904 := by omega
    have rb : -4611686018427387904 ≤ b ∧ b ≤ 4611686018427387904 := by omega
    have rc : -4611686018427387904 ≤ c ∧ c ≤ 4611686018427387904 := by omega
    have rn : -4611686018427387904 ≤ n ∧ n ≤ 4611686018427387904 := by omega
    have sa := itoaB_size a ra
    have sb := itoaB_size b rb
    have sc := itoaB_size c rc
    have sn := itoaB_size n rn
    have hl : lineB 19 a b c n = lineT itoaB ⟨#[97, 98, 111, 114, 116]⟩ 5 a b c n := by unfold lineB; rw [h]; rfl
    rw [hl]
    try simp only [qs_eq]
    repeat' first
      | exact rfl
      | refine condT (rangeT (by assumption)) ?_
      | refine condT (Nat.ble_eq_true_of_le (by simp only [szA, sz1, sz5]; omega)) ?_
      | refine condT rfl ?_
      | refine condF rfl ?_
    all_goals simp only [lineT, joinB, ByteArray.append_assoc, appE, Eapp, cond_true]

set_option maxRecDepth 100000 in
theorem l9_20 (ok : Ok5) (it : Int → ByteArray) (el : TypeId) (fz : Nat × Nat) (a b c n : Int) : callK Tryd.prog glT (fun _ => none) (asmL ok it) 100 40 40 (.fn 9) [code 20 a b c n] (LS.tab 1 (pow10.map (.int .u64)) el fz) flatR =
 cond ((bif ok 20 a b c n then (0 : Int) else 2) != 0) (
  some (.tuple #[(.string ((⟨#[]⟩ : ByteArray))), (.int IntKind.i64 (bif ok 20 a b c n then (0 : Int) else 2))])) (
  cond (decide (-4611686018427387904 ≤ n) && decide (n ≤ 4611686018427387904)) (
   qs [n, n] (
    cond (decide (-4611686018427387904 ≤ a) && decide (a ≤ 4611686018427387904)) (
     cond (((⟨#[114]⟩ : ByteArray).size + (it a).size).ble 9223372036854775807) (
      cond ((joinB (⟨#[44, 32]⟩ : ByteArray) [(⟨#[114]⟩ : ByteArray) ++ it a]).size.ble 140737488355328) (
       cond ((((⟨#[116, 101, 115, 116]⟩ : ByteArray) ++ (⟨#[32]⟩ : ByteArray)).size +       (joinB (⟨#[44, 32]⟩ : ByteArray) [(⟨#[114]⟩ : ByteArray) ++ it a]).size).ble   9223372036854775807) (
        some (.tuple #[(.string ((⟨#[116, 101, 115, 116]⟩ : ByteArray) ++ (⟨#[32]⟩ : ByteArray) ++ joinB (⟨#[44, 32]⟩ : ByteArray) [(⟨#[114]⟩ : ByteArray) ++ it a])), (.int IntKind.i64 0)])) (
        none)) (
       none)) (
      none)) (
     none))) (
   none)) := by kernel_rfl
theorem t9_20 (el : TypeId) (fz : Nat × Nat) (a b c n : Int) : callK Tryd.prog glT (fun _ => none) (asmL okC itoaB) 100 40 40 (.fn 9) [code 20 a b c n] (LS.tab 1 (pow10.map (.int .u64)) el fz) flatR = some (.tuple #[.string (lineB 20 a b c n), .int .i64 (cond (okC 20 a b c n) 0 2)]) := by
  rw [l9_20]
  cases h : okC 20 a b c n with
  | false =>
    simp only [lineB, h]
    rfl
  | true =>
    have hr : -4611686018427387904 ≤ a ∧ a ≤ 4611686018427387904 ∧ -4611686018427387904 ≤ b ∧ b ≤ 4611686018427387904 ∧ -4611686018427387904 ≤ c ∧ c ≤ 4611686018427387904 ∧ -4611686018427387904 ≤ n ∧ n ≤ 4611686018427387904 := by
      have h2 : okF 6 a b c n = true := h
      simp only [okF, decide_eq_true_eq] at h2
      omega
    have ra : -4611686018427387904 ≤ a ∧ a ≤ 4611686018427387904 := by omega
    have rb : -4611686018427387904 ≤ b ∧ b ≤ 4611686018427387904 := by omega
    have rc : -4611686018427387904 ≤ c ∧ c ≤ 4611686018427387904 := by omega
    have rn : -4611686018427387904 ≤ n ∧ n ≤ 4611686018427387904 := by omega
    have sa := itoaB_size a ra
    have sb := itoaB_size b rb
    have sc := itoaB_size c rc
    have sn := itoaB_size n rn
    have hl : lineB 20 a b c n = lineT itoaB ⟨#[116, 101, 115, 116]⟩ 6 a b c n := by unfold lineB; rw [h]; rfl
    rw [hl]
    try simp only [qs_eq]
    repeat' first
      | exact rfl
      | refine condT (rangeT (by assumption)) ?_
      | refine condT (Nat.ble_eq_true_of_le (by simp only [joinB, szA, sz1, sz4]; omega)) ?_
      | refine condT rfl ?_
      | refine condF rfl ?_
    all_goals simp only [lineT, joinB, ByteArray.append_assoc, appE, Eapp, cond_true]

set_option maxRecDepth 100000 in
theorem l10_20 (ok : Ok5) (it : Int → ByteArray) (el : TypeId) (fz : Nat × Nat) (a b c n : Int) : callK Tryd.prog glT (fun _ => none) (asmL ok it) 100 40 40 (.fn 10) [code 20 a b c n] (LS.tab 1 (pow10.map (.int .u64)) el fz) flatR =
 cond (ok 20 a b c n) (
  cond (decide (-4611686018427387904 ≤ a) && decide (a ≤ 4611686018427387904)) (
   cond (((⟨#[114]⟩ : ByteArray).size + (it a).size).ble 9223372036854775807) (
    cond (((⟨#[32]⟩ : ByteArray).size + ((⟨#[114]⟩ : ByteArray) ++ it a).size).ble 9223372036854775807) (
     cond (decide (-4611686018427387904 ≤ n) && decide (n ≤ 4611686018427387904)) (
      cond (((⟨#[116, 101, 115, 116]⟩ : ByteArray).size + ((⟨#[32]⟩ : ByteArray) ++ ((⟨#[114]⟩ : ByteArray) ++ it a)).size).ble   9223372036854775807) (
       some (.tuple #[(.string ((⟨#[116, 101, 115, 116]⟩ : ByteArray) ++ ((⟨#[32]⟩ : ByteArray) ++ ((⟨#[114]⟩ : ByteArray) ++ it a)))), (.int IntKind.i64 0)])) (
       none)) (
      none)) (
     none)) (
    none)) (
   none)) (
  some (.tuple #[(.string ((⟨#[]⟩ : ByteArray))), (.int IntKind.i64 2)])) := by kernel_rfl
theorem t10_20 (el : TypeId) (fz : Nat × Nat) (a b c n : Int) : callK Tryd.prog glT (fun _ => none) (asmL okC itoaB) 100 40 40 (.fn 10) [code 20 a b c n] (LS.tab 1 (pow10.map (.int .u64)) el fz) flatR = some (.tuple #[.string (lineB 20 a b c n), .int .i64 (cond (okC 20 a b c n) 0 2)]) := by
  rw [l10_20]
  cases h : okC 20 a b c n with
  | false =>
    simp only [lineB, h]
    rfl
  | true =>
    have hr : -4611686018427387904 ≤ a ∧ a ≤ 4611686018427387904 ∧ -4611686018427387904 ≤ b ∧ b ≤ 4611686018427387904 ∧ -4611686018427387904 ≤ c ∧ c ≤ 4611686018427387904 ∧ -4611686018427387904 ≤ n ∧ n ≤ 4611686018427387904 := by
      have h2 : okF 6 a b c n = true := h
      simp only [okF, decide_eq_true_eq] at h2
      omega
    have ra : -4611686018427387904 ≤ a ∧ a ≤ 4611686018427387904 := by omega
    have rb : -4611686018427387904 ≤ b ∧ b ≤ 4611686018427387904 := by omega
    have rc : -4611686018427387904 ≤ c ∧ c ≤ 4611686018427387904 := by omega
    have rn : -4611686018427387904 ≤ n ∧ n ≤ 4611686018427387904 := by omega
    have sa := itoaB_size a ra
    have sb := itoaB_size b rb
    have sc := itoaB_size c rc
    have sn := itoaB_size n rn
    have hl : lineB 20 a b c n = lineT itoaB ⟨#[116, 101, 115, 116]⟩ 6 a b c n := by unfold lineB; rw [h]; rfl
    rw [hl]
    try simp only [qs_eq]
    repeat' first
      | exact rfl
      | refine condT (rangeT (by assumption)) ?_
      | refine condT (Nat.ble_eq_true_of_le (by simp only [szA, sz1, sz4]; omega)) ?_
      | refine condT rfl ?_
      | refine condF rfl ?_
    all_goals simp only [lineT, joinB, ByteArray.append_assoc, appE, Eapp, cond_true]

set_option maxRecDepth 100000 in
theorem l9_21 (ok : Ok5) (it : Int → ByteArray) (el : TypeId) (fz : Nat × Nat) (a b c n : Int) : callK Tryd.prog glT (fun _ => none) (asmL ok it) 100 40 40 (.fn 9) [code 21 a b c n] (LS.tab 1 (pow10.map (.int .u64)) el fz) flatR =
 cond ((bif ok 21 a b c n then (0 : Int) else 2) != 0) (
  some (.tuple #[(.string ((⟨#[]⟩ : ByteArray))), (.int IntKind.i64 (bif ok 21 a b c n then (0 : Int) else 2))])) (
  cond (decide (-4611686018427387904 ≤ n) && decide (n ≤ 4611686018427387904)) (
   qs [n, n] (
    some (.tuple #[(.string ((⟨#[102, 101, 110, 99, 101]⟩ : ByteArray))), (.int IntKind.i64 0)]))) (
   none)) := by kernel_rfl
theorem t9_21 (el : TypeId) (fz : Nat × Nat) (a b c n : Int) : callK Tryd.prog glT (fun _ => none) (asmL okC itoaB) 100 40 40 (.fn 9) [code 21 a b c n] (LS.tab 1 (pow10.map (.int .u64)) el fz) flatR = some (.tuple #[.string (lineB 21 a b c n), .int .i64 (cond (okC 21 a b c n) 0 2)]) := by
  rw [l9_21]
  cases h : okC 21 a b c n with
  | false =>
    simp only [lineB, h]
    rfl
  | true =>
    have hr : -4611686018427387904 ≤ a ∧ a ≤ 4611686018427387904 ∧ -4611686018427387904 ≤ b ∧ b ≤ 4611686018427387904 ∧ -4611686018427387904 ≤ c ∧ c ≤ 4611686018427387904 ∧ -4611686018427387904 ≤ n ∧ n ≤ 4611686018427387904 := by
      have h2 : okF 0 a b c n = true := h
      simp only [okF, decide_eq_true_eq] at h2
      omega
    have ra : -4611686018427387904 ≤ a ∧ a ≤ 4611686018427387904 := by omega
    have rb : -4611686018427387904 ≤ b ∧ b ≤ 4611686018427387904 := by omega
    have rc : -4611686018427387904 ≤ c ∧ c ≤ 4611686018427387904 := by omega
    have rn : -4611686018427387904 ≤ n ∧ n ≤ 4611686018427387904 := by omega
    have sa := itoaB_size a ra
    have sb := itoaB_size b rb
    have sc := itoaB_size c rc
    have sn := itoaB_size n rn
    have hl : lineB 21 a b c n = lineT itoaB ⟨#[102, 101, 110, 99, 101]⟩ 0 a b c n := by unfold lineB; rw [h]; rfl
    rw [hl]
    try simp only [qs_eq]
    repeat' first
      | exact rfl
      | refine condT (rangeT (by assumption)) ?_
      | refine condT (Nat.ble_eq_true_of_le (by simp only [joinB, szA, sz0, sz1, sz2, sz3, sz4, sz5]; omega)) ?_
      | refine condT rfl ?_
      | refine condF rfl ?_
    all_goals simp only [lineT, joinB, ByteArray.append_assoc, appE, Eapp, cond_true]

set_option maxRecDepth 100000 in
theorem l10_21 (ok : Ok5) (it : Int → ByteArray) (el : TypeId) (fz : Nat × Nat) (a b c n : Int) : callK Tryd.prog glT (fun _ => none) (asmL ok it) 100 40 40 (.fn 10) [code 21 a b c n] (LS.tab 1 (pow10.map (.int .u64)) el fz) flatR =
 cond (ok 21 a b c n) (
  cond (decide (-4611686018427387904 ≤ a) && decide (a ≤ 4611686018427387904)) (
   cond (((⟨#[114]⟩ : ByteArray).size + (it a).size).ble 9223372036854775807) (
    cond (((⟨#[32]⟩ : ByteArray).size + ((⟨#[114]⟩ : ByteArray) ++ it a).size).ble 9223372036854775807) (
     cond (decide (-4611686018427387904 ≤ n) && decide (n ≤ 4611686018427387904)) (
      some (.tuple #[(.string ((⟨#[102, 101, 110, 99, 101]⟩ : ByteArray))), (.int IntKind.i64 0)])) (
      none)) (
     none)) (
    none)) (
   none)) (
  some (.tuple #[(.string ((⟨#[]⟩ : ByteArray))), (.int IntKind.i64 2)])) := by kernel_rfl
theorem t10_21 (el : TypeId) (fz : Nat × Nat) (a b c n : Int) : callK Tryd.prog glT (fun _ => none) (asmL okC itoaB) 100 40 40 (.fn 10) [code 21 a b c n] (LS.tab 1 (pow10.map (.int .u64)) el fz) flatR = some (.tuple #[.string (lineB 21 a b c n), .int .i64 (cond (okC 21 a b c n) 0 2)]) := by
  rw [l10_21]
  cases h : okC 21 a b c n with
  | false =>
    simp only [lineB, h]
    rfl
  | true =>
    have hr : -4611686018427387904 ≤ a ∧ a ≤ 4611686018427387904 ∧ -4611686018427387904 ≤ b ∧ b ≤ 4611686018427387904 ∧ -4611686018427387904 ≤ c ∧ c ≤ 4611686018427387904 ∧ -4611686018427387904 ≤ n ∧ n ≤ 4611686018427387904 := by
      have h2 : okF 0 a b c n = true := h
      simp only [okF, decide_eq_true_eq] at h2
      omega
    have ra : -4611686018427387904 ≤ a ∧ a ≤ 4611686018427387904 := by omega
    have rb : -4611686018427387904 ≤ b ∧ b ≤ 4611686018427387904 := by omega
    have rc : -4611686018427387904 ≤ c ∧ c ≤ 4611686018427387904 := by omega
    have rn : -4611686018427387904 ≤ n ∧ n ≤ 4611686018427387904 := by omega
    have sa := itoaB_size a ra
    have sb := itoaB_size b rb
    have sc := itoaB_size c rc
    have sn := itoaB_size n rn
    have hl : lineB 21 a b c n = lineT itoaB ⟨#[102, 101, 110, 99, 101]⟩ 0 a b c n := by unfold lineB; rw [h]; rfl
    rw [hl]
    try simp only [qs_eq]
    repeat' first
      | exact rfl
      | refine condT (rangeT (by assumption)) ?_
      | refine condT (Nat.ble_eq_true_of_le (by simp only [szA, sz1]; omega)) ?_
      | refine condT rfl ?_
      | refine condF rfl ?_
    all_goals simp only [lineT, joinB, ByteArray.append_assoc, appE, Eapp, cond_true]

set_option maxRecDepth 100000 in
theorem l9_x (it : Int → ByteArray) (el : TypeId) (fz : Nat × Nat) (m : Nat) (a b c n : Int) : callK Tryd.prog glT (fun _ => none) (asmL (fun _ _ _ _ _ => false) it) 100 40 40 (.fn 9) [code (Int.ofNat (m + 22)) a b c n] (LS.tab 1 (pow10.map (.int .u64)) el fz) flatR =
 some (.tuple #[(.string ((⟨#[]⟩ : ByteArray))), (.int IntKind.i64 2)]) := by kernel_rfl

set_option maxRecDepth 100000 in
theorem l10_x (it : Int → ByteArray) (el : TypeId) (fz : Nat × Nat) (m : Nat) (a b c n : Int) : callK Tryd.prog glT (fun _ => none) (asmL (fun _ _ _ _ _ => false) it) 100 40 40 (.fn 10) [code (Int.ofNat (m + 22)) a b c n] (LS.tab 1 (pow10.map (.int .u64)) el fz) flatR =
 some (.tuple #[(.string ((⟨#[]⟩ : ByteArray))), (.int IntKind.i64 2)]) := by kernel_rfl


end Go.Proofs.YtgpifpijhimhlaaDoor
