/- Code.May and the document's May, of each of the 22 instructions and beyond, by the evaluator. No condition. -/
import Derived.Test.YtgpifpijhimhlaaDoorEv5
import Derived.Test.YtgpifpijhimhlaaDoorProg
noncomputable section
namespace Go.Proofs.YtgpifpijhimhlaaDoor
open Go.Proofs.YtgpifpijhimhlaaDoor.Ev Go.RowKit
def glT : Gl := fun g k => cond (Nat.beq g 0) (([0,1,1,1,1,1,1,1,2,2,2,1,3,2,2,2,4,4,0,5,6,0] : List Int)[k]?.map fun n => Value.int .i64 n) none
def code (op a b c n : Int) : Value := .agg #[.int .u8 op, .int .i64 a, .int .i64 b, .int .i64 c, .int .i64 n]
def qs {R : Type} : List Int → Option R → Option R
  | [], k => k
  | a :: l, k => cond (decide (a = a)) (qs l k) none
theorem qs_eq {R : Type} : ∀ (l : List Int) (k : Option R), qs l k = k
  | [], _ => rfl
  | _ :: l, k => by simp [qs, qs_eq l k]
def okF (f : Nat) (a b c n : Int) : Bool := match f with
  | 0 => decide (a = 0 ∧ b = 0 ∧ c = 0 ∧ n = 0)
  | 1 => decide (0 ≤ a ∧ a < 16 ∧ 0 ≤ b ∧ b < 16 ∧ 0 ≤ c ∧ c < 16 ∧ n = 0)
  | 2 => decide (0 ≤ a ∧ a < 16 ∧ 0 ≤ b ∧ b < 16 ∧ c = 0 ∧ -8192 ≤ n ∧ n < 8192)
  | 3 => decide (0 ≤ a ∧ a < 16 ∧ b = 0 ∧ c = 0 ∧ -2097152 ≤ n ∧ n < 2097152)
  | 4 => decide (a = 0 ∧ b = 0 ∧ c = 0 ∧ -2097152 ≤ n ∧ n < 2097152)
  | 5 => decide (a = 0 ∧ b = 0 ∧ c = 0 ∧ 0 ≤ n ∧ n < 256)
  | 6 => decide (0 ≤ a ∧ a < 16 ∧ b = 0 ∧ c = 0 ∧ n = 0)
  | _ => false


set_option maxRecDepth 100000 in
theorem r23_0 (a b c n : Int) : callK Tryd.prog glT (fun _ => none) noAsm 100 40 40 (.fn 23) [code 0 a b c n] LS.start flatR =
 cond (!(0 == 0 && (0 == a && (0 == b && (0 == c && (0 == n && true)))))) (
  some (.int IntKind.i64 2)) (
  some (.int IntKind.i64 0)) := by kernel_rfl
theorem s23_0 (a b c n : Int) : callK Tryd.prog glT (fun _ => none) noAsm 100 40 40 (.fn 23) [code 0 a b c n] LS.start flatR = some (.int .i64 (cond (okF 0 a b c n) 0 2)) := by
  rw [r23_0]
  simp only [okF, Bool.cond_eq_ite, decide_eq_true_eq]
  repeat' split
  all_goals first | (exfalso; simp at *; omega) | (simp_all <;> omega)

set_option maxRecDepth 100000 in
theorem r27_0 (a b c n : Int) : callK Tryd.prog glT (fun _ => none) noAsm 100 40 40 (.fn 27) [code 0 a b c n] LS.start flatR =
 cond (decide (a ≥ 0)) (
  cond (decide (a ≤ 15)) (
   cond (decide (b ≥ 0)) (
    cond (decide (b ≤ 15)) (
     cond (decide (c ≥ 0)) (
      cond (decide (c ≤ 15)) (
       cond (c != 0) (
        some (.bool (false))) (
        cond (b != 0) (
         some (.bool (false))) (
         cond (a != 0) (
          some (.bool (false))) (
          cond (n == 0) (
           some (.bool (true))) (
           some (.bool (false))))))) (
       some (.bool (false)))) (
      some (.bool (false)))) (
     some (.bool (false)))) (
    some (.bool (false)))) (
   some (.bool (false)))) (
  some (.bool (false))) := by kernel_rfl
theorem s27_0 (a b c n : Int) : callK Tryd.prog glT (fun _ => none) noAsm 100 40 40 (.fn 27) [code 0 a b c n] LS.start flatR = some (.bool (okF 0 a b c n)) := by
  rw [r27_0]
  simp only [okF, Bool.cond_eq_ite, decide_eq_true_eq]
  repeat' split
  all_goals first | (exfalso; simp at *; omega) | (simp_all <;> omega)

set_option maxRecDepth 100000 in
theorem r23_1 (a b c n : Int) : callK Tryd.prog glT (fun _ => none) noAsm 100 40 40 (.fn 23) [code 1 a b c n] LS.start flatR =
 qs [c, c, c, b, b, a] (
  cond (decide (a ≥ 0)) (
   cond (decide (a < 16)) (
    cond (decide (b ≥ 0)) (
     cond (decide (b < 16)) (
      cond (decide (c ≥ 0)) (
       cond (decide (c < 16)) (
        qs [c, b, a, a, b, c, a, b, c, a, b, c, a, b, c, a, b, c] (
         cond (!(1 == 1 && (a == a && (b == b && (c == c && (0 == n && true)))))) (
          some (.int IntKind.i64 2)) (
          some (.int IntKind.i64 0)))) (
        qs [c, b, a, a, b, c, a, b, c, a, b, c, a, b, c, a, b, c] (
         some (.int IntKind.i64 2)))) (
       qs [c, b, a, a, b, c, a, b, c, a, b, c, a, b, c, a, b, c] (
        some (.int IntKind.i64 2)))) (
      qs [b, a, a, b, c, a, b, c, a, b, c, a, b, c, a, b, c] (
       some (.int IntKind.i64 2)))) (
     qs [b, a, a, b, c, a, b, c, a, b, c, a, b, c, a, b, c] (
      some (.int IntKind.i64 2)))) (
    qs [a, a, b, c, a, b, c, a, b, c, a, b, c, a, b, c] (
     some (.int IntKind.i64 2)))) (
   qs [a, a, b, c, a, b, c, a, b, c, a, b, c, a, b, c] (
    some (.int IntKind.i64 2)))) := by kernel_rfl
theorem s23_1 (a b c n : Int) : callK Tryd.prog glT (fun _ => none) noAsm 100 40 40 (.fn 23) [code 1 a b c n] LS.start flatR = some (.int .i64 (cond (okF 1 a b c n) 0 2)) := by
  rw [r23_1]
  simp only [qs_eq, okF, Bool.cond_eq_ite, decide_eq_true_eq]
  repeat' split
  all_goals first | (exfalso; simp at *; omega) | (simp_all <;> omega)

set_option maxRecDepth 100000 in
theorem r27_1 (a b c n : Int) : callK Tryd.prog glT (fun _ => none) noAsm 100 40 40 (.fn 27) [code 1 a b c n] LS.start flatR =
 cond (decide (a ≥ 0)) (
  cond (decide (a ≤ 15)) (
   cond (decide (b ≥ 0)) (
    cond (decide (b ≤ 15)) (
     cond (decide (c ≥ 0)) (
      cond (decide (c ≤ 15)) (
       cond (n == 0) (
        some (.bool (true))) (
        some (.bool (false)))) (
       some (.bool (false)))) (
      some (.bool (false)))) (
     some (.bool (false)))) (
    some (.bool (false)))) (
   some (.bool (false)))) (
  some (.bool (false))) := by kernel_rfl
theorem s27_1 (a b c n : Int) : callK Tryd.prog glT (fun _ => none) noAsm 100 40 40 (.fn 27) [code 1 a b c n] LS.start flatR = some (.bool (okF 1 a b c n)) := by
  rw [r27_1]
  simp only [okF, Bool.cond_eq_ite, decide_eq_true_eq]
  repeat' split
  all_goals first | (exfalso; simp at *; omega) | (simp_all <;> omega)

set_option maxRecDepth 100000 in
theorem r23_2 (a b c n : Int) : callK Tryd.prog glT (fun _ => none) noAsm 100 40 40 (.fn 23) [code 2 a b c n] LS.start flatR =
 qs [c, c, c, b, b, a] (
  cond (decide (a ≥ 0)) (
   cond (decide (a < 16)) (
    cond (decide (b ≥ 0)) (
     cond (decide (b < 16)) (
      cond (decide (c ≥ 0)) (
       cond (decide (c < 16)) (
        qs [c, b, a, a, b, c, a, b, c, a, b, c, a, b, c, a, b, c] (
         cond (!(2 == 2 && (a == a && (b == b && (c == c && (0 == n && true)))))) (
          some (.int IntKind.i64 2)) (
          some (.int IntKind.i64 0)))) (
        qs [c, b, a, a, b, c, a, b, c, a, b, c, a, b, c, a, b, c] (
         some (.int IntKind.i64 2)))) (
       qs [c, b, a, a, b, c, a, b, c, a, b, c, a, b, c, a, b, c] (
        some (.int IntKind.i64 2)))) (
      qs [b, a, a, b, c, a, b, c, a, b, c, a, b, c, a, b, c] (
       some (.int IntKind.i64 2)))) (
     qs [b, a, a, b, c, a, b, c, a, b, c, a, b, c, a, b, c] (
      some (.int IntKind.i64 2)))) (
    qs [a, a, b, c, a, b, c, a, b, c, a, b, c, a, b, c] (
     some (.int IntKind.i64 2)))) (
   qs [a, a, b, c, a, b, c, a, b, c, a, b, c, a, b, c] (
    some (.int IntKind.i64 2)))) := by kernel_rfl
theorem s23_2 (a b c n : Int) : callK Tryd.prog glT (fun _ => none) noAsm 100 40 40 (.fn 23) [code 2 a b c n] LS.start flatR = some (.int .i64 (cond (okF 1 a b c n) 0 2)) := by
  rw [r23_2]
  simp only [qs_eq, okF, Bool.cond_eq_ite, decide_eq_true_eq]
  repeat' split
  all_goals first | (exfalso; simp at *; omega) | (simp_all <;> omega)

set_option maxRecDepth 100000 in
theorem r27_2 (a b c n : Int) : callK Tryd.prog glT (fun _ => none) noAsm 100 40 40 (.fn 27) [code 2 a b c n] LS.start flatR =
 cond (decide (a ≥ 0)) (
  cond (decide (a ≤ 15)) (
   cond (decide (b ≥ 0)) (
    cond (decide (b ≤ 15)) (
     cond (decide (c ≥ 0)) (
      cond (decide (c ≤ 15)) (
       cond (n == 0) (
        some (.bool (true))) (
        some (.bool (false)))) (
       some (.bool (false)))) (
      some (.bool (false)))) (
     some (.bool (false)))) (
    some (.bool (false)))) (
   some (.bool (false)))) (
  some (.bool (false))) := by kernel_rfl
theorem s27_2 (a b c n : Int) : callK Tryd.prog glT (fun _ => none) noAsm 100 40 40 (.fn 27) [code 2 a b c n] LS.start flatR = some (.bool (okF 1 a b c n)) := by
  rw [r27_2]
  simp only [okF, Bool.cond_eq_ite, decide_eq_true_eq]
  repeat' split
  all_goals first | (exfalso; simp at *; omega) | (simp_all <;> omega)

set_option maxRecDepth 100000 in
theorem r23_3 (a b c n : Int) : callK Tryd.prog glT (fun _ => none) noAsm 100 40 40 (.fn 23) [code 3 a b c n] LS.start flatR =
 qs [c, c, c, b, b, a] (
  cond (decide (a ≥ 0)) (
   cond (decide (a < 16)) (
    cond (decide (b ≥ 0)) (
     cond (decide (b < 16)) (
      cond (decide (c ≥ 0)) (
       cond (decide (c < 16)) (
        qs [c, b, a, a, b, c, a, b, c, a, b, c, a, b, c, a, b, c] (
         cond (!(3 == 3 && (a == a && (b == b && (c == c && (0 == n && true)))))) (
          some (.int IntKind.i64 2)) (
          some (.int IntKind.i64 0)))) (
        qs [c, b, a, a, b, c, a, b, c, a, b, c, a, b, c, a, b, c] (
         some (.int IntKind.i64 2)))) (
       qs [c, b, a, a, b, c, a, b, c, a, b, c, a, b, c, a, b, c] (
        some (.int IntKind.i64 2)))) (
      qs [b, a, a, b, c, a, b, c, a, b, c, a, b, c, a, b, c] (
       some (.int IntKind.i64 2)))) (
     qs [b, a, a, b, c, a, b, c, a, b, c, a, b, c, a, b, c] (
      some (.int IntKind.i64 2)))) (
    qs [a, a, b, c, a, b, c, a, b, c, a, b, c, a, b, c] (
     some (.int IntKind.i64 2)))) (
   qs [a, a, b, c, a, b, c, a, b, c, a, b, c, a, b, c] (
    some (.int IntKind.i64 2)))) := by kernel_rfl
theorem s23_3 (a b c n : Int) : callK Tryd.prog glT (fun _ => none) noAsm 100 40 40 (.fn 23) [code 3 a b c n] LS.start flatR = some (.int .i64 (cond (okF 1 a b c n) 0 2)) := by
  rw [r23_3]
  simp only [qs_eq, okF, Bool.cond_eq_ite, decide_eq_true_eq]
  repeat' split
  all_goals first | (exfalso; simp at *; omega) | (simp_all <;> omega)

set_option maxRecDepth 100000 in
theorem r27_3 (a b c n : Int) : callK Tryd.prog glT (fun _ => none) noAsm 100 40 40 (.fn 27) [code 3 a b c n] LS.start flatR =
 cond (decide (a ≥ 0)) (
  cond (decide (a ≤ 15)) (
   cond (decide (b ≥ 0)) (
    cond (decide (b ≤ 15)) (
     cond (decide (c ≥ 0)) (
      cond (decide (c ≤ 15)) (
       cond (n == 0) (
        some (.bool (true))) (
        some (.bool (false)))) (
       some (.bool (false)))) (
      some (.bool (false)))) (
     some (.bool (false)))) (
    some (.bool (false)))) (
   some (.bool (false)))) (
  some (.bool (false))) := by kernel_rfl
theorem s27_3 (a b c n : Int) : callK Tryd.prog glT (fun _ => none) noAsm 100 40 40 (.fn 27) [code 3 a b c n] LS.start flatR = some (.bool (okF 1 a b c n)) := by
  rw [r27_3]
  simp only [okF, Bool.cond_eq_ite, decide_eq_true_eq]
  repeat' split
  all_goals first | (exfalso; simp at *; omega) | (simp_all <;> omega)

set_option maxRecDepth 100000 in
theorem r23_4 (a b c n : Int) : callK Tryd.prog glT (fun _ => none) noAsm 100 40 40 (.fn 23) [code 4 a b c n] LS.start flatR =
 qs [c, c, c, b, b, a] (
  cond (decide (a ≥ 0)) (
   cond (decide (a < 16)) (
    cond (decide (b ≥ 0)) (
     cond (decide (b < 16)) (
      cond (decide (c ≥ 0)) (
       cond (decide (c < 16)) (
        qs [c, b, a, a, b, c, a, b, c, a, b, c, a, b, c, a, b, c] (
         cond (!(4 == 4 && (a == a && (b == b && (c == c && (0 == n && true)))))) (
          some (.int IntKind.i64 2)) (
          some (.int IntKind.i64 0)))) (
        qs [c, b, a, a, b, c, a, b, c, a, b, c, a, b, c, a, b, c] (
         some (.int IntKind.i64 2)))) (
       qs [c, b, a, a, b, c, a, b, c, a, b, c, a, b, c, a, b, c] (
        some (.int IntKind.i64 2)))) (
      qs [b, a, a, b, c, a, b, c, a, b, c, a, b, c, a, b, c] (
       some (.int IntKind.i64 2)))) (
     qs [b, a, a, b, c, a, b, c, a, b, c, a, b, c, a, b, c] (
      some (.int IntKind.i64 2)))) (
    qs [a, a, b, c, a, b, c, a, b, c, a, b, c, a, b, c] (
     some (.int IntKind.i64 2)))) (
   qs [a, a, b, c, a, b, c, a, b, c, a, b, c, a, b, c] (
    some (.int IntKind.i64 2)))) := by kernel_rfl
theorem s23_4 (a b c n : Int) : callK Tryd.prog glT (fun _ => none) noAsm 100 40 40 (.fn 23) [code 4 a b c n] LS.start flatR = some (.int .i64 (cond (okF 1 a b c n) 0 2)) := by
  rw [r23_4]
  simp only [qs_eq, okF, Bool.cond_eq_ite, decide_eq_true_eq]
  repeat' split
  all_goals first | (exfalso; simp at *; omega) | (simp_all <;> omega)

set_option maxRecDepth 100000 in
theorem r27_4 (a b c n : Int) : callK Tryd.prog glT (fun _ => none) noAsm 100 40 40 (.fn 27) [code 4 a b c n] LS.start flatR =
 cond (decide (a ≥ 0)) (
  cond (decide (a ≤ 15)) (
   cond (decide (b ≥ 0)) (
    cond (decide (b ≤ 15)) (
     cond (decide (c ≥ 0)) (
      cond (decide (c ≤ 15)) (
       cond (n == 0) (
        some (.bool (true))) (
        some (.bool (false)))) (
       some (.bool (false)))) (
      some (.bool (false)))) (
     some (.bool (false)))) (
    some (.bool (false)))) (
   some (.bool (false)))) (
  some (.bool (false))) := by kernel_rfl
theorem s27_4 (a b c n : Int) : callK Tryd.prog glT (fun _ => none) noAsm 100 40 40 (.fn 27) [code 4 a b c n] LS.start flatR = some (.bool (okF 1 a b c n)) := by
  rw [r27_4]
  simp only [okF, Bool.cond_eq_ite, decide_eq_true_eq]
  repeat' split
  all_goals first | (exfalso; simp at *; omega) | (simp_all <;> omega)

set_option maxRecDepth 100000 in
theorem r23_5 (a b c n : Int) : callK Tryd.prog glT (fun _ => none) noAsm 100 40 40 (.fn 23) [code 5 a b c n] LS.start flatR =
 qs [c, c, c, b, b, a] (
  cond (decide (a ≥ 0)) (
   cond (decide (a < 16)) (
    cond (decide (b ≥ 0)) (
     cond (decide (b < 16)) (
      cond (decide (c ≥ 0)) (
       cond (decide (c < 16)) (
        qs [c, b, a, a, b, c, a, b, c, a, b, c, a, b, c, a, b, c] (
         cond (!(5 == 5 && (a == a && (b == b && (c == c && (0 == n && true)))))) (
          some (.int IntKind.i64 2)) (
          some (.int IntKind.i64 0)))) (
        qs [c, b, a, a, b, c, a, b, c, a, b, c, a, b, c, a, b, c] (
         some (.int IntKind.i64 2)))) (
       qs [c, b, a, a, b, c, a, b, c, a, b, c, a, b, c, a, b, c] (
        some (.int IntKind.i64 2)))) (
      qs [b, a, a, b, c, a, b, c, a, b, c, a, b, c, a, b, c] (
       some (.int IntKind.i64 2)))) (
     qs [b, a, a, b, c, a, b, c, a, b, c, a, b, c, a, b, c] (
      some (.int IntKind.i64 2)))) (
    qs [a, a, b, c, a, b, c, a, b, c, a, b, c, a, b, c] (
     some (.int IntKind.i64 2)))) (
   qs [a, a, b, c, a, b, c, a, b, c, a, b, c, a, b, c] (
    some (.int IntKind.i64 2)))) := by kernel_rfl
theorem s23_5 (a b c n : Int) : callK Tryd.prog glT (fun _ => none) noAsm 100 40 40 (.fn 23) [code 5 a b c n] LS.start flatR = some (.int .i64 (cond (okF 1 a b c n) 0 2)) := by
  rw [r23_5]
  simp only [qs_eq, okF, Bool.cond_eq_ite, decide_eq_true_eq]
  repeat' split
  all_goals first | (exfalso; simp at *; omega) | (simp_all <;> omega)

set_option maxRecDepth 100000 in
theorem r27_5 (a b c n : Int) : callK Tryd.prog glT (fun _ => none) noAsm 100 40 40 (.fn 27) [code 5 a b c n] LS.start flatR =
 cond (decide (a ≥ 0)) (
  cond (decide (a ≤ 15)) (
   cond (decide (b ≥ 0)) (
    cond (decide (b ≤ 15)) (
     cond (decide (c ≥ 0)) (
      cond (decide (c ≤ 15)) (
       cond (n == 0) (
        some (.bool (true))) (
        some (.bool (false)))) (
       some (.bool (false)))) (
      some (.bool (false)))) (
     some (.bool (false)))) (
    some (.bool (false)))) (
   some (.bool (false)))) (
  some (.bool (false))) := by kernel_rfl
theorem s27_5 (a b c n : Int) : callK Tryd.prog glT (fun _ => none) noAsm 100 40 40 (.fn 27) [code 5 a b c n] LS.start flatR = some (.bool (okF 1 a b c n)) := by
  rw [r27_5]
  simp only [okF, Bool.cond_eq_ite, decide_eq_true_eq]
  repeat' split
  all_goals first | (exfalso; simp at *; omega) | (simp_all <;> omega)

set_option maxRecDepth 100000 in
theorem r23_6 (a b c n : Int) : callK Tryd.prog glT (fun _ => none) noAsm 100 40 40 (.fn 23) [code 6 a b c n] LS.start flatR =
 qs [c, c, c, b, b, a] (
  cond (decide (a ≥ 0)) (
   cond (decide (a < 16)) (
    cond (decide (b ≥ 0)) (
     cond (decide (b < 16)) (
      cond (decide (c ≥ 0)) (
       cond (decide (c < 16)) (
        qs [c, b, a, a, b, c, a, b, c, a, b, c, a, b, c, a, b, c] (
         cond (!(6 == 6 && (a == a && (b == b && (c == c && (0 == n && true)))))) (
          some (.int IntKind.i64 2)) (
          some (.int IntKind.i64 0)))) (
        qs [c, b, a, a, b, c, a, b, c, a, b, c, a, b, c, a, b, c] (
         some (.int IntKind.i64 2)))) (
       qs [c, b, a, a, b, c, a, b, c, a, b, c, a, b, c, a, b, c] (
        some (.int IntKind.i64 2)))) (
      qs [b, a, a, b, c, a, b, c, a, b, c, a, b, c, a, b, c] (
       some (.int IntKind.i64 2)))) (
     qs [b, a, a, b, c, a, b, c, a, b, c, a, b, c, a, b, c] (
      some (.int IntKind.i64 2)))) (
    qs [a, a, b, c, a, b, c, a, b, c, a, b, c, a, b, c] (
     some (.int IntKind.i64 2)))) (
   qs [a, a, b, c, a, b, c, a, b, c, a, b, c, a, b, c] (
    some (.int IntKind.i64 2)))) := by kernel_rfl
theorem s23_6 (a b c n : Int) : callK Tryd.prog glT (fun _ => none) noAsm 100 40 40 (.fn 23) [code 6 a b c n] LS.start flatR = some (.int .i64 (cond (okF 1 a b c n) 0 2)) := by
  rw [r23_6]
  simp only [qs_eq, okF, Bool.cond_eq_ite, decide_eq_true_eq]
  repeat' split
  all_goals first | (exfalso; simp at *; omega) | (simp_all <;> omega)

set_option maxRecDepth 100000 in
theorem r27_6 (a b c n : Int) : callK Tryd.prog glT (fun _ => none) noAsm 100 40 40 (.fn 27) [code 6 a b c n] LS.start flatR =
 cond (decide (a ≥ 0)) (
  cond (decide (a ≤ 15)) (
   cond (decide (b ≥ 0)) (
    cond (decide (b ≤ 15)) (
     cond (decide (c ≥ 0)) (
      cond (decide (c ≤ 15)) (
       cond (n == 0) (
        some (.bool (true))) (
        some (.bool (false)))) (
       some (.bool (false)))) (
      some (.bool (false)))) (
     some (.bool (false)))) (
    some (.bool (false)))) (
   some (.bool (false)))) (
  some (.bool (false))) := by kernel_rfl
theorem s27_6 (a b c n : Int) : callK Tryd.prog glT (fun _ => none) noAsm 100 40 40 (.fn 27) [code 6 a b c n] LS.start flatR = some (.bool (okF 1 a b c n)) := by
  rw [r27_6]
  simp only [okF, Bool.cond_eq_ite, decide_eq_true_eq]
  repeat' split
  all_goals first | (exfalso; simp at *; omega) | (simp_all <;> omega)

set_option maxRecDepth 100000 in
theorem r23_7 (a b c n : Int) : callK Tryd.prog glT (fun _ => none) noAsm 100 40 40 (.fn 23) [code 7 a b c n] LS.start flatR =
 qs [c, c, c, b, b, a] (
  cond (decide (a ≥ 0)) (
   cond (decide (a < 16)) (
    cond (decide (b ≥ 0)) (
     cond (decide (b < 16)) (
      cond (decide (c ≥ 0)) (
       cond (decide (c < 16)) (
        qs [c, b, a, a, b, c, a, b, c, a, b, c, a, b, c, a, b, c] (
         cond (!(7 == 7 && (a == a && (b == b && (c == c && (0 == n && true)))))) (
          some (.int IntKind.i64 2)) (
          some (.int IntKind.i64 0)))) (
        qs [c, b, a, a, b, c, a, b, c, a, b, c, a, b, c, a, b, c] (
         some (.int IntKind.i64 2)))) (
       qs [c, b, a, a, b, c, a, b, c, a, b, c, a, b, c, a, b, c] (
        some (.int IntKind.i64 2)))) (
      qs [b, a, a, b, c, a, b, c, a, b, c, a, b, c, a, b, c] (
       some (.int IntKind.i64 2)))) (
     qs [b, a, a, b, c, a, b, c, a, b, c, a, b, c, a, b, c] (
      some (.int IntKind.i64 2)))) (
    qs [a, a, b, c, a, b, c, a, b, c, a, b, c, a, b, c] (
     some (.int IntKind.i64 2)))) (
   qs [a, a, b, c, a, b, c, a, b, c, a, b, c, a, b, c] (
    some (.int IntKind.i64 2)))) := by kernel_rfl
theorem s23_7 (a b c n : Int) : callK Tryd.prog glT (fun _ => none) noAsm 100 40 40 (.fn 23) [code 7 a b c n] LS.start flatR = some (.int .i64 (cond (okF 1 a b c n) 0 2)) := by
  rw [r23_7]
  simp only [qs_eq, okF, Bool.cond_eq_ite, decide_eq_true_eq]
  repeat' split
  all_goals first | (exfalso; simp at *; omega) | (simp_all <;> omega)

set_option maxRecDepth 100000 in
theorem r27_7 (a b c n : Int) : callK Tryd.prog glT (fun _ => none) noAsm 100 40 40 (.fn 27) [code 7 a b c n] LS.start flatR =
 cond (decide (a ≥ 0)) (
  cond (decide (a ≤ 15)) (
   cond (decide (b ≥ 0)) (
    cond (decide (b ≤ 15)) (
     cond (decide (c ≥ 0)) (
      cond (decide (c ≤ 15)) (
       cond (n == 0) (
        some (.bool (true))) (
        some (.bool (false)))) (
       some (.bool (false)))) (
      some (.bool (false)))) (
     some (.bool (false)))) (
    some (.bool (false)))) (
   some (.bool (false)))) (
  some (.bool (false))) := by kernel_rfl
theorem s27_7 (a b c n : Int) : callK Tryd.prog glT (fun _ => none) noAsm 100 40 40 (.fn 27) [code 7 a b c n] LS.start flatR = some (.bool (okF 1 a b c n)) := by
  rw [r27_7]
  simp only [okF, Bool.cond_eq_ite, decide_eq_true_eq]
  repeat' split
  all_goals first | (exfalso; simp at *; omega) | (simp_all <;> omega)

set_option maxRecDepth 100000 in
theorem r23_8 (a b c n : Int) : callK Tryd.prog glT (fun _ => none) noAsm 100 40 40 (.fn 23) [code 8 a b c n] LS.start flatR =
 qs [n, n, n, b, b, a] (
  cond (decide (a ≥ 0)) (
   cond (decide (a < 16)) (
    cond (decide (b ≥ 0)) (
     cond (decide (b < 16)) (
      cond (decide (n ≥ -8192)) (
       cond (decide (n < 8192)) (
        qs [n, b, a, a, b, n, a, b, n, a, b, n, a, b, n] (
         cond (!(8 == 8 && (a == a && (b == b && (0 == c && (n == n && true)))))) (
          some (.int IntKind.i64 2)) (
          some (.int IntKind.i64 0)))) (
        qs [n, b, a, a, b, n, a, b, n, a, b, n, a, b, n] (
         some (.int IntKind.i64 2)))) (
       qs [n, b, a, a, b, n, a, b, n, a, b, n, a, b, n] (
        some (.int IntKind.i64 2)))) (
      qs [b, a, a, b, n, a, b, n, a, b, n, a, b, n] (
       some (.int IntKind.i64 2)))) (
     qs [b, a, a, b, n, a, b, n, a, b, n, a, b, n] (
      some (.int IntKind.i64 2)))) (
    qs [a, a, b, n, a, b, n, a, b, n, a, b, n] (
     some (.int IntKind.i64 2)))) (
   qs [a, a, b, n, a, b, n, a, b, n, a, b, n] (
    some (.int IntKind.i64 2)))) := by kernel_rfl
theorem s23_8 (a b c n : Int) : callK Tryd.prog glT (fun _ => none) noAsm 100 40 40 (.fn 23) [code 8 a b c n] LS.start flatR = some (.int .i64 (cond (okF 2 a b c n) 0 2)) := by
  rw [r23_8]
  simp only [qs_eq, okF, Bool.cond_eq_ite, decide_eq_true_eq]
  repeat' split
  all_goals first | (exfalso; simp at *; omega) | (simp_all <;> omega)

set_option maxRecDepth 100000 in
theorem r27_8 (a b c n : Int) : callK Tryd.prog glT (fun _ => none) noAsm 100 40 40 (.fn 27) [code 8 a b c n] LS.start flatR =
 cond (decide (a ≥ 0)) (
  cond (decide (a ≤ 15)) (
   cond (decide (b ≥ 0)) (
    cond (decide (b ≤ 15)) (
     cond (decide (c ≥ 0)) (
      cond (decide (c ≤ 15)) (
       cond (c != 0) (
        some (.bool (false))) (
        cond (decide (n ≥ -8192)) (
         cond (decide (n ≤ 8191)) (
          some (.bool (true))) (
          some (.bool (false)))) (
         some (.bool (false))))) (
       some (.bool (false)))) (
      some (.bool (false)))) (
     some (.bool (false)))) (
    some (.bool (false)))) (
   some (.bool (false)))) (
  some (.bool (false))) := by kernel_rfl
theorem s27_8 (a b c n : Int) : callK Tryd.prog glT (fun _ => none) noAsm 100 40 40 (.fn 27) [code 8 a b c n] LS.start flatR = some (.bool (okF 2 a b c n)) := by
  rw [r27_8]
  simp only [okF, Bool.cond_eq_ite, decide_eq_true_eq]
  repeat' split
  all_goals first | (exfalso; simp at *; omega) | (simp_all <;> omega)

set_option maxRecDepth 100000 in
theorem r23_9 (a b c n : Int) : callK Tryd.prog glT (fun _ => none) noAsm 100 40 40 (.fn 23) [code 9 a b c n] LS.start flatR =
 qs [n, n, n, b, b, a] (
  cond (decide (a ≥ 0)) (
   cond (decide (a < 16)) (
    cond (decide (b ≥ 0)) (
     cond (decide (b < 16)) (
      cond (decide (n ≥ -8192)) (
       cond (decide (n < 8192)) (
        qs [n, b, a, a, b, n, a, b, n, a, b, n, a, b, n] (
         cond (!(9 == 9 && (a == a && (b == b && (0 == c && (n == n && true)))))) (
          some (.int IntKind.i64 2)) (
          some (.int IntKind.i64 0)))) (
        qs [n, b, a, a, b, n, a, b, n, a, b, n, a, b, n] (
         some (.int IntKind.i64 2)))) (
       qs [n, b, a, a, b, n, a, b, n, a, b, n, a, b, n] (
        some (.int IntKind.i64 2)))) (
      qs [b, a, a, b, n, a, b, n, a, b, n, a, b, n] (
       some (.int IntKind.i64 2)))) (
     qs [b, a, a, b, n, a, b, n, a, b, n, a, b, n] (
      some (.int IntKind.i64 2)))) (
    qs [a, a, b, n, a, b, n, a, b, n, a, b, n] (
     some (.int IntKind.i64 2)))) (
   qs [a, a, b, n, a, b, n, a, b, n, a, b, n] (
    some (.int IntKind.i64 2)))) := by kernel_rfl
theorem s23_9 (a b c n : Int) : callK Tryd.prog glT (fun _ => none) noAsm 100 40 40 (.fn 23) [code 9 a b c n] LS.start flatR = some (.int .i64 (cond (okF 2 a b c n) 0 2)) := by
  rw [r23_9]
  simp only [qs_eq, okF, Bool.cond_eq_ite, decide_eq_true_eq]
  repeat' split
  all_goals first | (exfalso; simp at *; omega) | (simp_all <;> omega)

set_option maxRecDepth 100000 in
theorem r27_9 (a b c n : Int) : callK Tryd.prog glT (fun _ => none) noAsm 100 40 40 (.fn 27) [code 9 a b c n] LS.start flatR =
 cond (decide (a ≥ 0)) (
  cond (decide (a ≤ 15)) (
   cond (decide (b ≥ 0)) (
    cond (decide (b ≤ 15)) (
     cond (decide (c ≥ 0)) (
      cond (decide (c ≤ 15)) (
       cond (c != 0) (
        some (.bool (false))) (
        cond (decide (n ≥ -8192)) (
         cond (decide (n ≤ 8191)) (
          some (.bool (true))) (
          some (.bool (false)))) (
         some (.bool (false))))) (
       some (.bool (false)))) (
      some (.bool (false)))) (
     some (.bool (false)))) (
    some (.bool (false)))) (
   some (.bool (false)))) (
  some (.bool (false))) := by kernel_rfl
theorem s27_9 (a b c n : Int) : callK Tryd.prog glT (fun _ => none) noAsm 100 40 40 (.fn 27) [code 9 a b c n] LS.start flatR = some (.bool (okF 2 a b c n)) := by
  rw [r27_9]
  simp only [okF, Bool.cond_eq_ite, decide_eq_true_eq]
  repeat' split
  all_goals first | (exfalso; simp at *; omega) | (simp_all <;> omega)

set_option maxRecDepth 100000 in
theorem r23_10 (a b c n : Int) : callK Tryd.prog glT (fun _ => none) noAsm 100 40 40 (.fn 23) [code 10 a b c n] LS.start flatR =
 qs [n, n, n, b, b, a] (
  cond (decide (a ≥ 0)) (
   cond (decide (a < 16)) (
    cond (decide (b ≥ 0)) (
     cond (decide (b < 16)) (
      cond (decide (n ≥ -8192)) (
       cond (decide (n < 8192)) (
        qs [n, b, a, a, b, n, a, b, n, a, b, n, a, b, n] (
         cond (!(10 == 10 && (a == a && (b == b && (0 == c && (n == n && true)))))) (
          some (.int IntKind.i64 2)) (
          some (.int IntKind.i64 0)))) (
        qs [n, b, a, a, b, n, a, b, n, a, b, n, a, b, n] (
         some (.int IntKind.i64 2)))) (
       qs [n, b, a, a, b, n, a, b, n, a, b, n, a, b, n] (
        some (.int IntKind.i64 2)))) (
      qs [b, a, a, b, n, a, b, n, a, b, n, a, b, n] (
       some (.int IntKind.i64 2)))) (
     qs [b, a, a, b, n, a, b, n, a, b, n, a, b, n] (
      some (.int IntKind.i64 2)))) (
    qs [a, a, b, n, a, b, n, a, b, n, a, b, n] (
     some (.int IntKind.i64 2)))) (
   qs [a, a, b, n, a, b, n, a, b, n, a, b, n] (
    some (.int IntKind.i64 2)))) := by kernel_rfl
theorem s23_10 (a b c n : Int) : callK Tryd.prog glT (fun _ => none) noAsm 100 40 40 (.fn 23) [code 10 a b c n] LS.start flatR = some (.int .i64 (cond (okF 2 a b c n) 0 2)) := by
  rw [r23_10]
  simp only [qs_eq, okF, Bool.cond_eq_ite, decide_eq_true_eq]
  repeat' split
  all_goals first | (exfalso; simp at *; omega) | (simp_all <;> omega)

set_option maxRecDepth 100000 in
theorem r27_10 (a b c n : Int) : callK Tryd.prog glT (fun _ => none) noAsm 100 40 40 (.fn 27) [code 10 a b c n] LS.start flatR =
 cond (decide (a ≥ 0)) (
  cond (decide (a ≤ 15)) (
   cond (decide (b ≥ 0)) (
    cond (decide (b ≤ 15)) (
     cond (decide (c ≥ 0)) (
      cond (decide (c ≤ 15)) (
       cond (c != 0) (
        some (.bool (false))) (
        cond (decide (n ≥ -8192)) (
         cond (decide (n ≤ 8191)) (
          some (.bool (true))) (
          some (.bool (false)))) (
         some (.bool (false))))) (
       some (.bool (false)))) (
      some (.bool (false)))) (
     some (.bool (false)))) (
    some (.bool (false)))) (
   some (.bool (false)))) (
  some (.bool (false))) := by kernel_rfl
theorem s27_10 (a b c n : Int) : callK Tryd.prog glT (fun _ => none) noAsm 100 40 40 (.fn 27) [code 10 a b c n] LS.start flatR = some (.bool (okF 2 a b c n)) := by
  rw [r27_10]
  simp only [okF, Bool.cond_eq_ite, decide_eq_true_eq]
  repeat' split
  all_goals first | (exfalso; simp at *; omega) | (simp_all <;> omega)

set_option maxRecDepth 100000 in
theorem r23_11 (a b c n : Int) : callK Tryd.prog glT (fun _ => none) noAsm 100 40 40 (.fn 23) [code 11 a b c n] LS.start flatR =
 qs [c, c, c, b, b, a] (
  cond (decide (a ≥ 0)) (
   cond (decide (a < 16)) (
    cond (decide (b ≥ 0)) (
     cond (decide (b < 16)) (
      cond (decide (c ≥ 0)) (
       cond (decide (c < 16)) (
        qs [c, b, a, a, b, c, a, b, c, a, b, c, a, b, c, a, b, c] (
         cond (!(11 == 11 && (a == a && (b == b && (c == c && (0 == n && true)))))) (
          some (.int IntKind.i64 2)) (
          some (.int IntKind.i64 0)))) (
        qs [c, b, a, a, b, c, a, b, c, a, b, c, a, b, c, a, b, c] (
         some (.int IntKind.i64 2)))) (
       qs [c, b, a, a, b, c, a, b, c, a, b, c, a, b, c, a, b, c] (
        some (.int IntKind.i64 2)))) (
      qs [b, a, a, b, c, a, b, c, a, b, c, a, b, c, a, b, c] (
       some (.int IntKind.i64 2)))) (
     qs [b, a, a, b, c, a, b, c, a, b, c, a, b, c, a, b, c] (
      some (.int IntKind.i64 2)))) (
    qs [a, a, b, c, a, b, c, a, b, c, a, b, c, a, b, c] (
     some (.int IntKind.i64 2)))) (
   qs [a, a, b, c, a, b, c, a, b, c, a, b, c, a, b, c] (
    some (.int IntKind.i64 2)))) := by kernel_rfl
theorem s23_11 (a b c n : Int) : callK Tryd.prog glT (fun _ => none) noAsm 100 40 40 (.fn 23) [code 11 a b c n] LS.start flatR = some (.int .i64 (cond (okF 1 a b c n) 0 2)) := by
  rw [r23_11]
  simp only [qs_eq, okF, Bool.cond_eq_ite, decide_eq_true_eq]
  repeat' split
  all_goals first | (exfalso; simp at *; omega) | (simp_all <;> omega)

set_option maxRecDepth 100000 in
theorem r27_11 (a b c n : Int) : callK Tryd.prog glT (fun _ => none) noAsm 100 40 40 (.fn 27) [code 11 a b c n] LS.start flatR =
 cond (decide (a ≥ 0)) (
  cond (decide (a ≤ 15)) (
   cond (decide (b ≥ 0)) (
    cond (decide (b ≤ 15)) (
     cond (decide (c ≥ 0)) (
      cond (decide (c ≤ 15)) (
       cond (n == 0) (
        some (.bool (true))) (
        some (.bool (false)))) (
       some (.bool (false)))) (
      some (.bool (false)))) (
     some (.bool (false)))) (
    some (.bool (false)))) (
   some (.bool (false)))) (
  some (.bool (false))) := by kernel_rfl
theorem s27_11 (a b c n : Int) : callK Tryd.prog glT (fun _ => none) noAsm 100 40 40 (.fn 27) [code 11 a b c n] LS.start flatR = some (.bool (okF 1 a b c n)) := by
  rw [r27_11]
  simp only [okF, Bool.cond_eq_ite, decide_eq_true_eq]
  repeat' split
  all_goals first | (exfalso; simp at *; omega) | (simp_all <;> omega)

set_option maxRecDepth 100000 in
theorem r23_12 (a b c n : Int) : callK Tryd.prog glT (fun _ => none) noAsm 100 40 40 (.fn 23) [code 12 a b c n] LS.start flatR =
 qs [n, n, a] (
  cond (decide (a ≥ 0)) (
   cond (decide (a < 16)) (
    cond (decide (n ≥ -2097152)) (
     cond (decide (n < 2097152)) (
      qs [n, a, a, n, a, n, a, n, a, n, a, n] (
       cond (!(12 == 12 && (a == a && (0 == b && (0 == c && (n == n && true)))))) (
        some (.int IntKind.i64 2)) (
        some (.int IntKind.i64 0)))) (
      qs [n, a, a, n, a, n, a, n, a, n, a, n] (
       some (.int IntKind.i64 2)))) (
     qs [n, a, a, n, a, n, a, n, a, n, a, n] (
      some (.int IntKind.i64 2)))) (
    qs [a, a, n, a, n, a, n, a, n, a, n] (
     some (.int IntKind.i64 2)))) (
   qs [a, a, n, a, n, a, n, a, n, a, n] (
    some (.int IntKind.i64 2)))) := by kernel_rfl
theorem s23_12 (a b c n : Int) : callK Tryd.prog glT (fun _ => none) noAsm 100 40 40 (.fn 23) [code 12 a b c n] LS.start flatR = some (.int .i64 (cond (okF 3 a b c n) 0 2)) := by
  rw [r23_12]
  simp only [qs_eq, okF, Bool.cond_eq_ite, decide_eq_true_eq]
  repeat' split
  all_goals first | (exfalso; simp at *; omega) | (simp_all <;> omega)

set_option maxRecDepth 100000 in
theorem r27_12 (a b c n : Int) : callK Tryd.prog glT (fun _ => none) noAsm 100 40 40 (.fn 27) [code 12 a b c n] LS.start flatR =
 cond (decide (a ≥ 0)) (
  cond (decide (a ≤ 15)) (
   cond (decide (b ≥ 0)) (
    cond (decide (b ≤ 15)) (
     cond (decide (c ≥ 0)) (
      cond (decide (c ≤ 15)) (
       cond (c != 0) (
        some (.bool (false))) (
        cond (b != 0) (
         some (.bool (false))) (
         cond (decide (n ≥ -2097152)) (
          cond (decide (n ≤ 2097151)) (
           some (.bool (true))) (
           some (.bool (false)))) (
          some (.bool (false)))))) (
       some (.bool (false)))) (
      some (.bool (false)))) (
     some (.bool (false)))) (
    some (.bool (false)))) (
   some (.bool (false)))) (
  some (.bool (false))) := by kernel_rfl
theorem s27_12 (a b c n : Int) : callK Tryd.prog glT (fun _ => none) noAsm 100 40 40 (.fn 27) [code 12 a b c n] LS.start flatR = some (.bool (okF 3 a b c n)) := by
  rw [r27_12]
  simp only [okF, Bool.cond_eq_ite, decide_eq_true_eq]
  repeat' split
  all_goals first | (exfalso; simp at *; omega) | (simp_all <;> omega)

set_option maxRecDepth 100000 in
theorem r23_13 (a b c n : Int) : callK Tryd.prog glT (fun _ => none) noAsm 100 40 40 (.fn 23) [code 13 a b c n] LS.start flatR =
 qs [n, n, n, b, b, a] (
  cond (decide (a ≥ 0)) (
   cond (decide (a < 16)) (
    cond (decide (b ≥ 0)) (
     cond (decide (b < 16)) (
      cond (decide (n ≥ -8192)) (
       cond (decide (n < 8192)) (
        qs [n, b, a, a, b, n, a, b, n, a, b, n, a, b, n] (
         cond (!(13 == 13 && (a == a && (b == b && (0 == c && (n == n && true)))))) (
          some (.int IntKind.i64 2)) (
          some (.int IntKind.i64 0)))) (
        qs [n, b, a, a, b, n, a, b, n, a, b, n, a, b, n] (
         some (.int IntKind.i64 2)))) (
       qs [n, b, a, a, b, n, a, b, n, a, b, n, a, b, n] (
        some (.int IntKind.i64 2)))) (
      qs [b, a, a, b, n, a, b, n, a, b, n, a, b, n] (
       some (.int IntKind.i64 2)))) (
     qs [b, a, a, b, n, a, b, n, a, b, n, a, b, n] (
      some (.int IntKind.i64 2)))) (
    qs [a, a, b, n, a, b, n, a, b, n, a, b, n] (
     some (.int IntKind.i64 2)))) (
   qs [a, a, b, n, a, b, n, a, b, n, a, b, n] (
    some (.int IntKind.i64 2)))) := by kernel_rfl
theorem s23_13 (a b c n : Int) : callK Tryd.prog glT (fun _ => none) noAsm 100 40 40 (.fn 23) [code 13 a b c n] LS.start flatR = some (.int .i64 (cond (okF 2 a b c n) 0 2)) := by
  rw [r23_13]
  simp only [qs_eq, okF, Bool.cond_eq_ite, decide_eq_true_eq]
  repeat' split
  all_goals first | (exfalso; simp at *; omega) | (simp_all <;> omega)

set_option maxRecDepth 100000 in
theorem r27_13 (a b c n : Int) : callK Tryd.prog glT (fun _ => none) noAsm 100 40 40 (.fn 27) [code 13 a b c n] LS.start flatR =
 cond (decide (a ≥ 0)) (
  cond (decide (a ≤ 15)) (
   cond (decide (b ≥ 0)) (
    cond (decide (b ≤ 15)) (
     cond (decide (c ≥ 0)) (
      cond (decide (c ≤ 15)) (
       cond (c != 0) (
        some (.bool (false))) (
        cond (decide (n ≥ -8192)) (
         cond (decide (n ≤ 8191)) (
          some (.bool (true))) (
          some (.bool (false)))) (
         some (.bool (false))))) (
       some (.bool (false)))) (
      some (.bool (false)))) (
     some (.bool (false)))) (
    some (.bool (false)))) (
   some (.bool (false)))) (
  some (.bool (false))) := by kernel_rfl
theorem s27_13 (a b c n : Int) : callK Tryd.prog glT (fun _ => none) noAsm 100 40 40 (.fn 27) [code 13 a b c n] LS.start flatR = some (.bool (okF 2 a b c n)) := by
  rw [r27_13]
  simp only [okF, Bool.cond_eq_ite, decide_eq_true_eq]
  repeat' split
  all_goals first | (exfalso; simp at *; omega) | (simp_all <;> omega)

set_option maxRecDepth 100000 in
theorem r23_14 (a b c n : Int) : callK Tryd.prog glT (fun _ => none) noAsm 100 40 40 (.fn 23) [code 14 a b c n] LS.start flatR =
 qs [n, n, n, b, b, a] (
  cond (decide (a ≥ 0)) (
   cond (decide (a < 16)) (
    cond (decide (b ≥ 0)) (
     cond (decide (b < 16)) (
      cond (decide (n ≥ -8192)) (
       cond (decide (n < 8192)) (
        qs [n, b, a, a, b, n, a, b, n, a, b, n, a, b, n] (
         cond (!(14 == 14 && (a == a && (b == b && (0 == c && (n == n && true)))))) (
          some (.int IntKind.i64 2)) (
          some (.int IntKind.i64 0)))) (
        qs [n, b, a, a, b, n, a, b, n, a, b, n, a, b, n] (
         some (.int IntKind.i64 2)))) (
       qs [n, b, a, a, b, n, a, b, n, a, b, n, a, b, n] (
        some (.int IntKind.i64 2)))) (
      qs [b, a, a, b, n, a, b, n, a, b, n, a, b, n] (
       some (.int IntKind.i64 2)))) (
     qs [b, a, a, b, n, a, b, n, a, b, n, a, b, n] (
      some (.int IntKind.i64 2)))) (
    qs [a, a, b, n, a, b, n, a, b, n, a, b, n] (
     some (.int IntKind.i64 2)))) (
   qs [a, a, b, n, a, b, n, a, b, n, a, b, n] (
    some (.int IntKind.i64 2)))) := by kernel_rfl
theorem s23_14 (a b c n : Int) : callK Tryd.prog glT (fun _ => none) noAsm 100 40 40 (.fn 23) [code 14 a b c n] LS.start flatR = some (.int .i64 (cond (okF 2 a b c n) 0 2)) := by
  rw [r23_14]
  simp only [qs_eq, okF, Bool.cond_eq_ite, decide_eq_true_eq]
  repeat' split
  all_goals first | (exfalso; simp at *; omega) | (simp_all <;> omega)

set_option maxRecDepth 100000 in
theorem r27_14 (a b c n : Int) : callK Tryd.prog glT (fun _ => none) noAsm 100 40 40 (.fn 27) [code 14 a b c n] LS.start flatR =
 cond (decide (a ≥ 0)) (
  cond (decide (a ≤ 15)) (
   cond (decide (b ≥ 0)) (
    cond (decide (b ≤ 15)) (
     cond (decide (c ≥ 0)) (
      cond (decide (c ≤ 15)) (
       cond (c != 0) (
        some (.bool (false))) (
        cond (decide (n ≥ -8192)) (
         cond (decide (n ≤ 8191)) (
          some (.bool (true))) (
          some (.bool (false)))) (
         some (.bool (false))))) (
       some (.bool (false)))) (
      some (.bool (false)))) (
     some (.bool (false)))) (
    some (.bool (false)))) (
   some (.bool (false)))) (
  some (.bool (false))) := by kernel_rfl
theorem s27_14 (a b c n : Int) : callK Tryd.prog glT (fun _ => none) noAsm 100 40 40 (.fn 27) [code 14 a b c n] LS.start flatR = some (.bool (okF 2 a b c n)) := by
  rw [r27_14]
  simp only [okF, Bool.cond_eq_ite, decide_eq_true_eq]
  repeat' split
  all_goals first | (exfalso; simp at *; omega) | (simp_all <;> omega)

set_option maxRecDepth 100000 in
theorem r23_15 (a b c n : Int) : callK Tryd.prog glT (fun _ => none) noAsm 100 40 40 (.fn 23) [code 15 a b c n] LS.start flatR =
 qs [n, n, n, b, b, a] (
  cond (decide (a ≥ 0)) (
   cond (decide (a < 16)) (
    cond (decide (b ≥ 0)) (
     cond (decide (b < 16)) (
      cond (decide (n ≥ -8192)) (
       cond (decide (n < 8192)) (
        qs [n, b, a, a, b, n, a, b, n, a, b, n, a, b, n] (
         cond (!(15 == 15 && (a == a && (b == b && (0 == c && (n == n && true)))))) (
          some (.int IntKind.i64 2)) (
          some (.int IntKind.i64 0)))) (
        qs [n, b, a, a, b, n, a, b, n, a, b, n, a, b, n] (
         some (.int IntKind.i64 2)))) (
       qs [n, b, a, a, b, n, a, b, n, a, b, n, a, b, n] (
        some (.int IntKind.i64 2)))) (
      qs [b, a, a, b, n, a, b, n, a, b, n, a, b, n] (
       some (.int IntKind.i64 2)))) (
     qs [b, a, a, b, n, a, b, n, a, b, n, a, b, n] (
      some (.int IntKind.i64 2)))) (
    qs [a, a, b, n, a, b, n, a, b, n, a, b, n] (
     some (.int IntKind.i64 2)))) (
   qs [a, a, b, n, a, b, n, a, b, n, a, b, n] (
    some (.int IntKind.i64 2)))) := by kernel_rfl
theorem s23_15 (a b c n : Int) : callK Tryd.prog glT (fun _ => none) noAsm 100 40 40 (.fn 23) [code 15 a b c n] LS.start flatR = some (.int .i64 (cond (okF 2 a b c n) 0 2)) := by
  rw [r23_15]
  simp only [qs_eq, okF, Bool.cond_eq_ite, decide_eq_true_eq]
  repeat' split
  all_goals first | (exfalso; simp at *; omega) | (simp_all <;> omega)

set_option maxRecDepth 100000 in
theorem r27_15 (a b c n : Int) : callK Tryd.prog glT (fun _ => none) noAsm 100 40 40 (.fn 27) [code 15 a b c n] LS.start flatR =
 cond (decide (a ≥ 0)) (
  cond (decide (a ≤ 15)) (
   cond (decide (b ≥ 0)) (
    cond (decide (b ≤ 15)) (
     cond (decide (c ≥ 0)) (
      cond (decide (c ≤ 15)) (
       cond (c != 0) (
        some (.bool (false))) (
        cond (decide (n ≥ -8192)) (
         cond (decide (n ≤ 8191)) (
          some (.bool (true))) (
          some (.bool (false)))) (
         some (.bool (false))))) (
       some (.bool (false)))) (
      some (.bool (false)))) (
     some (.bool (false)))) (
    some (.bool (false)))) (
   some (.bool (false)))) (
  some (.bool (false))) := by kernel_rfl
theorem s27_15 (a b c n : Int) : callK Tryd.prog glT (fun _ => none) noAsm 100 40 40 (.fn 27) [code 15 a b c n] LS.start flatR = some (.bool (okF 2 a b c n)) := by
  rw [r27_15]
  simp only [okF, Bool.cond_eq_ite, decide_eq_true_eq]
  repeat' split
  all_goals first | (exfalso; simp at *; omega) | (simp_all <;> omega)

set_option maxRecDepth 100000 in
theorem r23_16 (a b c n : Int) : callK Tryd.prog glT (fun _ => none) noAsm 100 40 40 (.fn 23) [code 16 a b c n] LS.start flatR =
 cond (decide (n ≥ -2097152)) (
  cond (decide (n < 2097152)) (
   qs [n, n, n, n, n, n] (
    cond (!(16 == 16 && (0 == a && (0 == b && (0 == c && (n == n && true)))))) (
     some (.int IntKind.i64 2)) (
     some (.int IntKind.i64 0)))) (
   qs [n, n, n, n, n, n] (
    some (.int IntKind.i64 2)))) (
  qs [n, n, n, n, n, n] (
   some (.int IntKind.i64 2))) := by kernel_rfl
theorem s23_16 (a b c n : Int) : callK Tryd.prog glT (fun _ => none) noAsm 100 40 40 (.fn 23) [code 16 a b c n] LS.start flatR = some (.int .i64 (cond (okF 4 a b c n) 0 2)) := by
  rw [r23_16]
  simp only [qs_eq, okF, Bool.cond_eq_ite, decide_eq_true_eq]
  repeat' split
  all_goals first | (exfalso; simp at *; omega) | (simp_all <;> omega)

set_option maxRecDepth 100000 in
theorem r27_16 (a b c n : Int) : callK Tryd.prog glT (fun _ => none) noAsm 100 40 40 (.fn 27) [code 16 a b c n] LS.start flatR =
 cond (decide (a ≥ 0)) (
  cond (decide (a ≤ 15)) (
   cond (decide (b ≥ 0)) (
    cond (decide (b ≤ 15)) (
     cond (decide (c ≥ 0)) (
      cond (decide (c ≤ 15)) (
       cond (c != 0) (
        some (.bool (false))) (
        cond (b != 0) (
         some (.bool (false))) (
         cond (a != 0) (
          some (.bool (false))) (
          cond (decide (n ≥ -2097152)) (
           cond (decide (n ≤ 2097151)) (
            some (.bool (true))) (
            some (.bool (false)))) (
           some (.bool (false))))))) (
       some (.bool (false)))) (
      some (.bool (false)))) (
     some (.bool (false)))) (
    some (.bool (false)))) (
   some (.bool (false)))) (
  some (.bool (false))) := by kernel_rfl
theorem s27_16 (a b c n : Int) : callK Tryd.prog glT (fun _ => none) noAsm 100 40 40 (.fn 27) [code 16 a b c n] LS.start flatR = some (.bool (okF 4 a b c n)) := by
  rw [r27_16]
  simp only [okF, Bool.cond_eq_ite, decide_eq_true_eq]
  repeat' split
  all_goals first | (exfalso; simp at *; omega) | (simp_all <;> omega)

set_option maxRecDepth 100000 in
theorem r23_17 (a b c n : Int) : callK Tryd.prog glT (fun _ => none) noAsm 100 40 40 (.fn 23) [code 17 a b c n] LS.start flatR =
 cond (decide (n ≥ -2097152)) (
  cond (decide (n < 2097152)) (
   qs [n, n, n, n, n, n] (
    cond (!(17 == 17 && (0 == a && (0 == b && (0 == c && (n == n && true)))))) (
     some (.int IntKind.i64 2)) (
     some (.int IntKind.i64 0)))) (
   qs [n, n, n, n, n, n] (
    some (.int IntKind.i64 2)))) (
  qs [n, n, n, n, n, n] (
   some (.int IntKind.i64 2))) := by kernel_rfl
theorem s23_17 (a b c n : Int) : callK Tryd.prog glT (fun _ => none) noAsm 100 40 40 (.fn 23) [code 17 a b c n] LS.start flatR = some (.int .i64 (cond (okF 4 a b c n) 0 2)) := by
  rw [r23_17]
  simp only [qs_eq, okF, Bool.cond_eq_ite, decide_eq_true_eq]
  repeat' split
  all_goals first | (exfalso; simp at *; omega) | (simp_all <;> omega)

set_option maxRecDepth 100000 in
theorem r27_17 (a b c n : Int) : callK Tryd.prog glT (fun _ => none) noAsm 100 40 40 (.fn 27) [code 17 a b c n] LS.start flatR =
 cond (decide (a ≥ 0)) (
  cond (decide (a ≤ 15)) (
   cond (decide (b ≥ 0)) (
    cond (decide (b ≤ 15)) (
     cond (decide (c ≥ 0)) (
      cond (decide (c ≤ 15)) (
       cond (c != 0) (
        some (.bool (false))) (
        cond (b != 0) (
         some (.bool (false))) (
         cond (a != 0) (
          some (.bool (false))) (
          cond (decide (n ≥ -2097152)) (
           cond (decide (n ≤ 2097151)) (
            some (.bool (true))) (
            some (.bool (false)))) (
           some (.bool (false))))))) (
       some (.bool (false)))) (
      some (.bool (false)))) (
     some (.bool (false)))) (
    some (.bool (false)))) (
   some (.bool (false)))) (
  some (.bool (false))) := by kernel_rfl
theorem s27_17 (a b c n : Int) : callK Tryd.prog glT (fun _ => none) noAsm 100 40 40 (.fn 27) [code 17 a b c n] LS.start flatR = some (.bool (okF 4 a b c n)) := by
  rw [r27_17]
  simp only [okF, Bool.cond_eq_ite, decide_eq_true_eq]
  repeat' split
  all_goals first | (exfalso; simp at *; omega) | (simp_all <;> omega)

set_option maxRecDepth 100000 in
theorem r23_18 (a b c n : Int) : callK Tryd.prog glT (fun _ => none) noAsm 100 40 40 (.fn 23) [code 18 a b c n] LS.start flatR =
 cond (!(18 == 18 && (0 == a && (0 == b && (0 == c && (0 == n && true)))))) (
  some (.int IntKind.i64 2)) (
  some (.int IntKind.i64 0)) := by kernel_rfl
theorem s23_18 (a b c n : Int) : callK Tryd.prog glT (fun _ => none) noAsm 100 40 40 (.fn 23) [code 18 a b c n] LS.start flatR = some (.int .i64 (cond (okF 0 a b c n) 0 2)) := by
  rw [r23_18]
  simp only [okF, Bool.cond_eq_ite, decide_eq_true_eq]
  repeat' split
  all_goals first | (exfalso; simp at *; omega) | (simp_all <;> omega)

set_option maxRecDepth 100000 in
theorem r27_18 (a b c n : Int) : callK Tryd.prog glT (fun _ => none) noAsm 100 40 40 (.fn 27) [code 18 a b c n] LS.start flatR =
 cond (decide (a ≥ 0)) (
  cond (decide (a ≤ 15)) (
   cond (decide (b ≥ 0)) (
    cond (decide (b ≤ 15)) (
     cond (decide (c ≥ 0)) (
      cond (decide (c ≤ 15)) (
       cond (c != 0) (
        some (.bool (false))) (
        cond (b != 0) (
         some (.bool (false))) (
         cond (a != 0) (
          some (.bool (false))) (
          cond (n == 0) (
           some (.bool (true))) (
           some (.bool (false))))))) (
       some (.bool (false)))) (
      some (.bool (false)))) (
     some (.bool (false)))) (
    some (.bool (false)))) (
   some (.bool (false)))) (
  some (.bool (false))) := by kernel_rfl
theorem s27_18 (a b c n : Int) : callK Tryd.prog glT (fun _ => none) noAsm 100 40 40 (.fn 27) [code 18 a b c n] LS.start flatR = some (.bool (okF 0 a b c n)) := by
  rw [r27_18]
  simp only [okF, Bool.cond_eq_ite, decide_eq_true_eq]
  repeat' split
  all_goals first | (exfalso; simp at *; omega) | (simp_all <;> omega)

set_option maxRecDepth 100000 in
theorem r23_19 (a b c n : Int) : callK Tryd.prog glT (fun _ => none) noAsm 100 40 40 (.fn 23) [code 19 a b c n] LS.start flatR =
 cond (decide (n ≥ 0)) (
  cond (decide (n ≤ 255)) (
   qs [n, n, n, n] (
    cond (!(19 == 19 && (0 == a && (0 == b && (0 == c && (n == n && true)))))) (
     some (.int IntKind.i64 2)) (
     some (.int IntKind.i64 0)))) (
   qs [n, n, n, n] (
    some (.int IntKind.i64 2)))) (
  qs [n, n] (
   some (.int IntKind.i64 2))) := by kernel_rfl
theorem s23_19 (a b c n : Int) : callK Tryd.prog glT (fun _ => none) noAsm 100 40 40 (.fn 23) [code 19 a b c n] LS.start flatR = some (.int .i64 (cond (okF 5 a b c n) 0 2)) := by
  rw [r23_19]
  simp only [qs_eq, okF, Bool.cond_eq_ite, decide_eq_true_eq]
  repeat' split
  all_goals first | (exfalso; simp at *; omega) | (simp_all <;> omega)

set_option maxRecDepth 100000 in
theorem r27_19 (a b c n : Int) : callK Tryd.prog glT (fun _ => none) noAsm 100 40 40 (.fn 27) [code 19 a b c n] LS.start flatR =
 cond (decide (a ≥ 0)) (
  cond (decide (a ≤ 15)) (
   cond (decide (b ≥ 0)) (
    cond (decide (b ≤ 15)) (
     cond (decide (c ≥ 0)) (
      cond (decide (c ≤ 15)) (
       cond (c != 0) (
        some (.bool (false))) (
        cond (b != 0) (
         some (.bool (false))) (
         cond (a != 0) (
          some (.bool (false))) (
          cond (decide (n ≥ 0)) (
           cond (decide (n ≤ 255)) (
            some (.bool (true))) (
            some (.bool (false)))) (
           some (.bool (false))))))) (
       some (.bool (false)))) (
      some (.bool (false)))) (
     some (.bool (false)))) (
    some (.bool (false)))) (
   some (.bool (false)))) (
  some (.bool (false))) := by kernel_rfl
theorem s27_19 (a b c n : Int) : callK Tryd.prog glT (fun _ => none) noAsm 100 40 40 (.fn 27) [code 19 a b c n] LS.start flatR = some (.bool (okF 5 a b c n)) := by
  rw [r27_19]
  simp only [okF, Bool.cond_eq_ite, decide_eq_true_eq]
  repeat' split
  all_goals first | (exfalso; simp at *; omega) | (simp_all <;> omega)

set_option maxRecDepth 100000 in
theorem r23_20 (a b c n : Int) : callK Tryd.prog glT (fun _ => none) noAsm 100 40 40 (.fn 23) [code 20 a b c n] LS.start flatR =
 cond (decide (a ≥ 0)) (
  cond (decide (a < 16)) (
   qs [a, a, a, a, a, a] (
    cond (!(20 == 20 && (a == a && (0 == b && (0 == c && (0 == n && true)))))) (
     some (.int IntKind.i64 2)) (
     some (.int IntKind.i64 0)))) (
   qs [a, a, a, a, a, a] (
    some (.int IntKind.i64 2)))) (
  qs [a, a, a, a, a, a] (
   some (.int IntKind.i64 2))) := by kernel_rfl
theorem s23_20 (a b c n : Int) : callK Tryd.prog glT (fun _ => none) noAsm 100 40 40 (.fn 23) [code 20 a b c n] LS.start flatR = some (.int .i64 (cond (okF 6 a b c n) 0 2)) := by
  rw [r23_20]
  simp only [qs_eq, okF, Bool.cond_eq_ite, decide_eq_true_eq]
  repeat' split
  all_goals first | (exfalso; simp at *; omega) | (simp_all <;> omega)

set_option maxRecDepth 100000 in
theorem r27_20 (a b c n : Int) : callK Tryd.prog glT (fun _ => none) noAsm 100 40 40 (.fn 27) [code 20 a b c n] LS.start flatR =
 cond (decide (a ≥ 0)) (
  cond (decide (a ≤ 15)) (
   cond (decide (b ≥ 0)) (
    cond (decide (b ≤ 15)) (
     cond (decide (c ≥ 0)) (
      cond (decide (c ≤ 15)) (
       cond (c != 0) (
        some (.bool (false))) (
        cond (b != 0) (
         some (.bool (false))) (
         cond (n == 0) (
          some (.bool (true))) (
          some (.bool (false)))))) (
       some (.bool (false)))) (
      some (.bool (false)))) (
     some (.bool (false)))) (
    some (.bool (false)))) (
   some (.bool (false)))) (
  some (.bool (false))) := by kernel_rfl
theorem s27_20 (a b c n : Int) : callK Tryd.prog glT (fun _ => none) noAsm 100 40 40 (.fn 27) [code 20 a b c n] LS.start flatR = some (.bool (okF 6 a b c n)) := by
  rw [r27_20]
  simp only [okF, Bool.cond_eq_ite, decide_eq_true_eq]
  repeat' split
  all_goals first | (exfalso; simp at *; omega) | (simp_all <;> omega)

set_option maxRecDepth 100000 in
theorem r23_21 (a b c n : Int) : callK Tryd.prog glT (fun _ => none) noAsm 100 40 40 (.fn 23) [code 21 a b c n] LS.start flatR =
 cond (!(21 == 21 && (0 == a && (0 == b && (0 == c && (0 == n && true)))))) (
  some (.int IntKind.i64 2)) (
  some (.int IntKind.i64 0)) := by kernel_rfl
theorem s23_21 (a b c n : Int) : callK Tryd.prog glT (fun _ => none) noAsm 100 40 40 (.fn 23) [code 21 a b c n] LS.start flatR = some (.int .i64 (cond (okF 0 a b c n) 0 2)) := by
  rw [r23_21]
  simp only [okF, Bool.cond_eq_ite, decide_eq_true_eq]
  repeat' split
  all_goals first | (exfalso; simp at *; omega) | (simp_all <;> omega)

set_option maxRecDepth 100000 in
theorem r27_21 (a b c n : Int) : callK Tryd.prog glT (fun _ => none) noAsm 100 40 40 (.fn 27) [code 21 a b c n] LS.start flatR =
 cond (decide (a ≥ 0)) (
  cond (decide (a ≤ 15)) (
   cond (decide (b ≥ 0)) (
    cond (decide (b ≤ 15)) (
     cond (decide (c ≥ 0)) (
      cond (decide (c ≤ 15)) (
       cond (c != 0) (
        some (.bool (false))) (
        cond (b != 0) (
         some (.bool (false))) (
         cond (a != 0) (
          some (.bool (false))) (
          cond (n == 0) (
           some (.bool (true))) (
           some (.bool (false))))))) (
       some (.bool (false)))) (
      some (.bool (false)))) (
     some (.bool (false)))) (
    some (.bool (false)))) (
   some (.bool (false)))) (
  some (.bool (false))) := by kernel_rfl
theorem s27_21 (a b c n : Int) : callK Tryd.prog glT (fun _ => none) noAsm 100 40 40 (.fn 27) [code 21 a b c n] LS.start flatR = some (.bool (okF 0 a b c n)) := by
  rw [r27_21]
  simp only [okF, Bool.cond_eq_ite, decide_eq_true_eq]
  repeat' split
  all_goals first | (exfalso; simp at *; omega) | (simp_all <;> omega)

set_option maxRecDepth 100000 in
theorem r23_x (m : Nat) (a b c n : Int) : callK Tryd.prog glT (fun _ => none) noAsm 100 40 40 (.fn 23) [code (Int.ofNat (m + 22)) a b c n] LS.start flatR =
 cond (decide (Int.ofNat (m + 22) ≥ 22)) (
  some (.int IntKind.i64 2)) (
  none) := by kernel_rfl

set_option maxRecDepth 100000 in
theorem r27_x (m : Nat) (a b c n : Int) : callK Tryd.prog glT (fun _ => none) noAsm 100 40 40 (.fn 27) [code (Int.ofNat (m + 22)) a b c n] LS.start flatR =
 cond (decide (Int.ofNat (m + 22) > 21)) (
  some (.bool (false))) (
  cond (decide (a ≥ 0)) (
   cond (decide (a ≤ 15)) (
    cond (decide (b ≥ 0)) (
     cond (decide (b ≤ 15)) (
      cond (decide (c ≥ 0)) (
       cond (decide (c ≤ 15)) (
        cond (n == 0) (
         some (.bool (true))) (
         some (.bool (false)))) (
        some (.bool (false)))) (
       some (.bool (false)))) (
      some (.bool (false)))) (
     some (.bool (false)))) (
    some (.bool (false)))) (
   some (.bool (false)))) := by kernel_rfl


end Go.Proofs.YtgpifpijhimhlaaDoor
