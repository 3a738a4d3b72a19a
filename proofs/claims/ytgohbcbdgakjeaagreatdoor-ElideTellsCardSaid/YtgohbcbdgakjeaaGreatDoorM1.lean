/- Decimal numbers and strings.Join, of at most a thousand texts; instructions and words. -/
import Derived.Test.YtgohbcbdgakjeaaGreatDoorK1
import Derived.Lib.ItoaLen
noncomputable section
noncomputable section
namespace Go.Proofs.YtgohbcbdgakjeaaGreatDoor
open Go.Proofs.YtgohbcbdgakjeaaGreatDoor.Ev Go.RowKit
def formsL : List Int := [0, 1, 1, 1, 1, 1, 1, 1, 2, 2, 2, 1, 3, 2, 2, 2, 4, 4, 0, 5, 6, 0]
def symI (zs : List Int) : Sym := ⟨zs.map (Value.int .i64), fun _ o => nthI zs o, fun _ => ByteArray.empty, fun k o => decide (k = .i64) && Nat.ble (o + 1) zs.length, fun _ => false⟩
theorem symI_of {zs : List Int} {f : Nat → Option Value} (h : ∀ (i : Nat) z, zs[i]? = some z → f i = some (.int .i64 z)) : (symI zs).Of f where
 int := fun k o h1 => by
  simp only [symI, Bool.and_eq_true, decide_eq_true_eq] at h1 ⊢
  obtain ⟨rfl, h2⟩ := h1
  have h2 := Nat.le_of_ble_eq_true h2
  exact h o _ (nthI_get h2)
 str := fun o h1 => by cases h1
def syF : Sy := fun i => cond (Nat.beq i 1) (some (symI formsL)) none
def GlF (gl : Gl) : Prop := ∀ (i : Nat) z, formsL[i]? = some z → gl 1 i = some (.int .i64 z)
theorem syF_ok {gl : Gl} (h : GlF gl) : SyOK gl syF := fun i S e => by
 unfold syF at e
 rw [Bool.cond_eq_ite] at e
 split at e
 ·rename_i q
  cases e
  rw [nbeq] at q
  subst q
  exact ⟨fun hl => by omega, fun _ => symI_of h⟩
 ·cases e
def cdV (op a b c n : Int) : Value := .agg #[.int .u8 op, .int .i64 a, .int .i64 b, .int .i64 c, .int .i64 n]
noncomputable abbrev evF (gl : Gl) (H : Hs) (f : FuncId) (args : List Value) : Option Value := callSK syF Tryz.prog gl exB H 100 40 40 (.fn f) args LS.start flatR
set_option maxRecDepth 100000 in
theorem r_cmay (gl : Gl) (op a b c n : Int) : evF gl HB0 53 [cdV op a b c n] =
 let z0 : Option Value := some (.int .i64 2)
 let z1 : Option Value := some (.int .i64 0)
 let z2 := 0 + op.toNat * 1
 let z3 := 0 == c && (n == n && true)
 let z4 : Option Value := qs [c, b, a, op, a, b, c, op, a, b, c, op, a, b, c, op, a, b, c, op, a, b, c] z0
 let z5 : Option Value := qs [b, a, op, a, b, c, op, a, b, c, op, a, b, c, op, a, b, c, op, a, b, c] z0
 let z6 : Option Value := qs [a, op, a, b, c, op, a, b, c, op, a, b, c, op, a, b, c, op, a, b, c] z0
 let z7 : Option Value := qs [n, b, a, op, a, b, n, op, a, b, n, op, a, b, n, op, a, b, n] z0
 let z8 : Option Value := qs [b, a, op, a, b, n, op, a, b, n, op, a, b, n, op, a, b, n] z0
 let z9 : Option Value := qs [n, a, op, a, n, op, a, n, op, a, n, op, a, n, op, a, n] z0
 let z10 : Option Value := qs [a, op, a, b, n, op, a, b, n, op, a, b, n, op, a, b, n] z0
 let z11 : Option Value := qs [a, op, a, n, op, a, n, op, a, n, op, a, n, op, a, n] z0
 let z12 := decide (a ≥ 0)
 let z13 := decide (a < 16)
 let z14 : Option Value := cond (!(op == op && (0 == a && (0 == b && z3)))) z0 z1
 let z15 := 0 == b && (0 == c && (0 == n && true))
 cond (decide (op ≥ 22)) z0 (
 cond (decide (0 ≤ op) && (decide (op < 22))) (
 cond ((symI formsL).okI .i64 z2) (
 cond ((symI formsL).int .i64 z2 == 1) (
 qs [c, c, c, b, b, a] (
 cond z12 (
 cond z13 (
 cond (decide (b ≥ 0)) (
 cond (decide (b < 16)) (
 cond (decide (c ≥ 0)) (
 cond (decide (c < 16)) (
 qs [c, b, a, op, a, b, c, op, a, b, c, op, a, b, c, op, a, b, c, op, a, b, c] (
 cond (!(op == op && (a == a && (b == b && (c == c && (0 == n && true)))))) z0 z1)) z4) z4) z5) z5) z6) z6)) (
 cond ((symI formsL).int .i64 z2 == 2) (
 qs [n, n, n, b, b, a] (
 cond z12 (
 cond z13 (
 cond (decide (b ≥ 0)) (
 cond (decide (b < 16)) (
 cond (decide (n ≥ -8192)) (
 cond (decide (n < 8192)) (
 qs [n, b, a, op, a, b, n, op, a, b, n, op, a, b, n, op, a, b, n] (
 cond (!(op == op && (a == a && (b == b && z3)))) z0 z1)) z7) z7) z8) z8) z10) z10)) (
 cond ((symI formsL).int .i64 z2 == 3) (
 qs [n, n, a] (
 cond z12 (
 cond z13 (
 cond (decide (n ≥ -2097152)) (
 cond (decide (n < 2097152)) (
 qs [n, a, op, a, n, op, a, n, op, a, n, op, a, n, op, a, n] (
 cond (!(op == op && (a == a && (0 == b && z3)))) z0 z1)) z9) z9) z11) z11)) (
 cond ((symI formsL).int .i64 z2 == 4) (
 cond (decide (n ≥ -2097152)) (
 cond (decide (n < 2097152)) (
 qs [n, op, n, op, n, op, n, op, n, op, n] z14) (
 qs [n, op, n, op, n, op, n, op, n, op, n] z0)) (
 qs [n, op, n, op, n, op, n, op, n, op, n] z0)) (
 cond ((symI formsL).int .i64 z2 == 5) (
 cond (decide (n ≥ 0)) (
 cond (decide (n ≤ 255)) (
 qs [n, n, n, op, n] z14) (
 qs [n, n, n, op, n] z0)) (
 qs [n, op, n] z0)) (
 cond ((symI formsL).int .i64 z2 == 6) (
 cond z12 (
 cond z13 (
 qs [a, op, a, op, a, op, a, op, a, op, a] (
 cond (!(op == op && (a == a && z15))) z0 z1)) (
 qs [a, op, a, op, a, op, a, op, a, op, a] z0)) (
 qs [a, op, a, op, a, op, a, op, a, op, a] z0)) (
 qs [op, op, op, op, op] (
 cond (!(op == op && (0 == a && z15))) z0 z1)))))))) (
 none)) (
 none)) := by kernel_rfl
set_option maxRecDepth 100000 in
theorem q_form (gl : Gl) (op : Int) : evF gl HB0 66 [.int .u8 op] =
 let z0 : Option Value := some (.int .i64 2)
 cond (op == 0) (
 some (.int .i64 0)) (
 cond (op == 18) (
 some (.int .i64 0)) (
 cond (op == 21) (
 some (.int .i64 0)) (
 cond (op == 8) z0 (
 cond (op == 9) z0 (
 cond (op == 10) z0 (
 cond (op == 13) z0 (
 cond (op == 14) z0 (
 cond (op == 15) z0 (
 cond (op == 12) (
 some (.int .i64 3)) (
 cond (op == 16) (
 some (.int .i64 4)) (
 cond (op == 17) (
 some (.int .i64 4)) (
 cond (op == 19) (
 some (.int .i64 5)) (
 cond (op == 20) (
 some (.int .i64 6)) (
 some (.int .i64 1))))))))))))))) := by kernel_rfl
end Go.Proofs.YtgohbcbdgakjeaaGreatDoor
noncomputable section
namespace Go.Proofs.YtgohbcbdgakjeaaGreatDoor
open Go.Proofs.YtgohbcbdgakjeaaGreatDoor.Ev Go.RowKit
def formN (op : Int) : Int := nthI formsL op.toNat
def cmay (op a b c n : Int) : Bool :=
 decide (0 ≤ op) && decide (op < 22) && (match formN op with
  | 1 => decide (a ≥ 0) && (decide (a < 16) && (decide (b ≥ 0) && (decide (b < 16) && (decide (c ≥ 0) && (decide (c < 16) && decide (0 = n))))))
  | 2 => decide (a ≥ 0) && (decide (a < 16) && (decide (b ≥ 0) && (decide (b < 16) && (decide (n ≥ -8192) && (decide (n < 8192) && decide (0 = c))))))
  | 3 => decide (a ≥ 0) && (decide (a < 16) && (decide (n ≥ -2097152) && (decide (n < 2097152) && (decide (0 = b) && decide (0 = c)))))
  | 4 => decide (n ≥ -2097152) && (decide (n < 2097152) && (decide (0 = a) && (decide (0 = b) && decide (0 = c))))
  | 5 => decide (n ≥ 0) && (decide (n ≤ 255) && (decide (0 = a) && (decide (0 = b) && decide (0 = c))))
  | 6 => decide (a ≥ 0) && (decide (a < 16) && (decide (0 = b) && (decide (0 = c) && decide (0 = n))))
  | _ => decide (0 = a) && (decide (0 = b) && (decide (0 = c) && decide (0 = n))))
theorem form_cases {op : Int} (h0 : 0 ≤ op) (h1 : op < 22) : formN op = 0 ∨ formN op = 1 ∨ formN op = 2 ∨ formN op = 3 ∨ formN op = 4 ∨ formN op = 5 ∨ formN op = 6 := by
 obtain ⟨k, rfl⟩ : ∃ k : Nat, op = (k : Int) := ⟨op.toNat, by omega⟩
 have : ∀ k : Fin 22, nthI formsL k.1 = 0 ∨ nthI formsL k.1 = 1 ∨ nthI formsL k.1 = 2 ∨ nthI formsL k.1 = 3 ∨ nthI formsL k.1 = 4 ∨ nthI formsL k.1 = 5 ∨ nthI formsL k.1 = 6 := by decide
 exact this ⟨k, by omega⟩
theorem beqI (a b : Int) : (a == b) = decide (a = b) := rfl
theorem cmay_eq (gl : Gl) (op a b c n : Int) (h0 : 0 ≤ op) : evF gl HB0 53 [cdV op a b c n] = some (.int .i64 (cond (cmay op a b c n) 0 2)) := by
 rw [r_cmay]
 dsimp only
 by_cases h : op ≥ 22
 ·rw [decide_eq_true h]
  unfold cmay
  rw [decide_eq_false (show ¬ op < 22 by omega), Bool.and_false, Bool.false_and]
  rfl
 have h1 : op < 22 := by omega
 have k0 : (symI formsL).okI .i64 (0 + op.toNat * 1) = true := by
  simp only [symI, decide_true, Bool.true_and]
  exact nble (by show _ ≤ 22; omega)
 have k1 : (symI formsL).int .i64 (0 + op.toNat * 1) = formN op := by
  show nthI formsL (0 + op.toNat * 1) = nthI formsL op.toNat
  rw [Nat.zero_add, Nat.mul_one]
 have hf := form_cases h0 h1
 unfold cmay
 simp only [decide_eq_false h, decide_eq_true h0, decide_eq_true h1, Bool.and_self, cond_true, cond_false, k0, k1, qs_eq, beqI, decide_true, Bool.true_and, Bool.and_true]
 generalize formN op = f at *
 rcases hf with e | e | e | e | e | e | e <;> subst e
 ·cases decide (0 = a) <;> cases decide (0 = b) <;> cases decide (0 = c) <;> cases decide (0 = n) <;> rfl
 ·cases decide (a ≥ 0) <;> cases decide (a < 16) <;> cases decide (b ≥ 0) <;> cases decide (b < 16) <;> cases decide (c ≥ 0) <;> cases decide (c < 16) <;> cases decide (0 = n) <;> rfl
 ·cases decide (a ≥ 0) <;> cases decide (a < 16) <;> cases decide (b ≥ 0) <;> cases decide (b < 16) <;> cases decide (n ≥ -8192) <;> cases decide (n < 8192) <;> cases decide (0 = c) <;> rfl
 ·cases decide (a ≥ 0) <;> cases decide (a < 16) <;> cases decide (n ≥ -2097152) <;> cases decide (n < 2097152) <;> cases decide (0 = b) <;> cases decide (0 = c) <;> rfl
 ·cases decide (n ≥ -2097152) <;> cases decide (n < 2097152) <;> cases decide (0 = a) <;> cases decide (0 = b) <;> cases decide (0 = c) <;> rfl
 ·cases decide (n ≥ 0) <;> cases decide (n ≤ 255) <;> cases decide (0 = a) <;> cases decide (0 = b) <;> cases decide (0 = c) <;> rfl
 ·cases decide (a ≥ 0) <;> cases decide (a < 16) <;> cases decide (0 = b) <;> cases decide (0 = c) <;> cases decide (0 = n) <;> rfl
end Go.Proofs.YtgohbcbdgakjeaaGreatDoor
noncomputable section
namespace Go.Proofs.YtgohbcbdgakjeaaGreatDoor
open Go.Proofs.YtgohbcbdgakjeaaGreatDoor.Ev Go.RowKit
abbrev C5 (α : Type) := Int → Int → Int → Int → Int → α
def afCd (gg : C5 Bool) (vv : C5 Value) : AF := fun args _ => match args with
 | [.agg ⟨[.int .u8 op, .int .i64 a, .int .i64 b, .int .i64 c, .int .i64 n]⟩] => some (decide (0 ≤ op) && gg op a b c n, vv op a b c n)
 | _ => none
def tt5 : C5 Bool := fun _ _ _ _ _ => true
def i5 (k : IntKind) (m : C5 Int) : C5 Value := fun op a b c n => .int k (m op a b c n)
def afForm (ff : Int → Int) : AF := fun args _ => match args with
 | [.int .u8 op] => some (decide (0 ≤ op), .int .i64 (ff op))
 | _ => none
def HM3 (mm : C5 Int) : Hs := hsOf [(53, afCd tt5 (i5 .i64 mm))] [] []
def HM3r (ff : Int → Int) : Hs := hsOf [(66, afForm ff)] [] []
def HM3p (pw pe : C5 Int) : Hs := hsOf [(31, afCd tt5 fun op a b c n => .tuple #[.int .u32 (pw op a b c n), .int .i64 (pe op a b c n)])] [] []
def HM3t (ff : Int → Int) (mb gg : C5 Bool) (ww : C5 Int) : Hs := hsOf [(66, afForm ff), (64, afCd tt5 fun op a b c n => .bool (mb op a b c n)), (65, afCd gg (i5 .u32 ww))] [] []
set_option maxRecDepth 100000 in
theorem r_cput (gl : Gl) (mm : C5 Int) (op a b c n : Int) : evF gl (HM3 mm) 31 [cdV op a b c n] =
 let z0 := IntKind.u32.wrap (↑(BitVec.ofInt 32 (IntKind.u32.wrap (↑(BitVec.ofInt 32 (IntKind.u32.wrap (↑(BitVec.ofInt 32 (IntKind.u32.wrap (IntKind.u32.wrap op * 67108864)) ||| BitVec.ofInt 32 (IntKind.u32.wrap (IntKind.u32.wrap a * 4194304))).toNat : Int)) ||| BitVec.ofInt 32 (IntKind.u32.wrap (IntKind.u32.wrap b * 262144))).toNat : Int)) ||| BitVec.ofInt 32 (IntKind.u32.wrap (IntKind.u32.wrap c * 16384))).toNat : Int)
 cond (decide (0 ≤ op) && true) (
 cond (mm op a b c n != 0) (
 some (.tuple #[(.int .u32 0), (.int .i64 (mm op a b c n))])) (
 cond (decide (0 ≤ op) && (decide (op < 22))) (
 cond ((symI formsL).okI .i64 (0 + op.toNat * 1)) (
 cond ((symI formsL).int .i64 (0 + op.toNat * 1) == 2) (
 some (.tuple #[(.int .u32 (IntKind.u32.wrap (↑(BitVec.ofInt 32 z0 ||| BitVec.ofInt 32 (IntKind.u32.wrap (↑(BitVec.ofInt 32 (IntKind.u32.wrap n) &&& BitVec.ofInt 32 16383).toNat : Int))).toNat : Int))), (.int .i64 0)])) (
 some (.tuple #[(.int .u32 (IntKind.u32.wrap (↑(BitVec.ofInt 32 z0 ||| BitVec.ofInt 32 (IntKind.u32.wrap (↑(BitVec.ofInt 32 (IntKind.u32.wrap n) &&& BitVec.ofInt 32 4194303).toNat : Int))).toNat : Int))), (.int .i64 0)]))) (
 none)) (
 none))) (
 none) := by kernel_rfl
set_option maxRecDepth 100000 in
theorem r_rmay (gl : Gl) (ff : Int → Int) (op a b c n : Int) : evF gl (HM3r ff) 64 [cdV op a b c n] =
 let z2 : Option Value := some (.bool false)
 let z5 : Option Value := some (.bool true)
 let z3 : Option Value := cond (decide (n ≥ -2097152)) (
 cond (decide (n ≤ 2097151)) z5 z2) z2
 let z0 : Option Value := cond (ff op == 2) (
 cond (decide (n ≥ -8192)) (
 cond (decide (n ≤ 8191)) z5 z2) z2) (
 cond (ff op == 3) z3 (
 cond (ff op == 4) z3 (
 cond (ff op == 5) (
 cond (decide (n ≥ 0)) (
 cond (decide (n ≤ 255)) z5 z2) z2) (
 cond (n == 0) z5 z2))))
 let z1 : Option Value := cond (ff op == 0) (
 cond (a != 0) z2 z0) (
 cond (ff op == 4) (
 cond (a != 0) z2 z0) (
 cond (ff op == 5) (
 cond (a != 0) z2 z0) z0))
 let z4 : Option Value := cond (ff op != 1) (
 cond (ff op != 2) (
 cond (b != 0) z2 z1) z1) z1
 cond (decide (op > 21)) z2 (
 cond (decide (a ≥ 0)) (
 cond (decide (a ≤ 15)) (
 cond (decide (b ≥ 0)) (
 cond (decide (b ≤ 15)) (
 cond (decide (c ≥ 0)) (
 cond (decide (c ≤ 15)) (
 cond (decide (0 ≤ op)) (
 cond (ff op != 1) (
 cond (c != 0) z2 z4) z4) (
 none)) z2) z2) z2) z2) z2) z2) := by kernel_rfl
set_option maxRecDepth 100000 in
theorem r_rword (gl : Gl) (ff : Int → Int) (op a b c n : Int) : evF gl (HM3r ff) 65 [cdV op a b c n] =
 let z0 := IntKind.i64.wrap (IntKind.i64.wrap (IntKind.i64.wrap (IntKind.i64.wrap (IntKind.i64.wrap (IntKind.i64.wrap (IntKind.i64.wrap op * 16) + a) * 16) + b) * 16) + c) * 16384
 let z2 : Option Value := some (.int .u32 (IntKind.u32.wrap (IntKind.i64.wrap (IntKind.i64.wrap z0 + IntKind.i64.wrap (n + 16384)))))
 let z3 : Option Value := some (.int .u32 (IntKind.u32.wrap (IntKind.i64.wrap (IntKind.i64.wrap z0 + n))))
 let z1 : Option Value := cond (decide (0 ≤ op)) (
 cond (ff op != 2) (
 cond (decide (n < 0)) (
 some (.int .u32 (IntKind.u32.wrap (IntKind.i64.wrap (IntKind.i64.wrap z0 + IntKind.i64.wrap (n + 4194304)))))) z3) z3) (
 none)
 cond (decide (0 ≤ op)) (
 cond (ff op == 2) (
 cond (decide (n < 0)) (
 cond (decide (0 ≤ op)) (
 cond (ff op != 2) (
 cond (decide (IntKind.i64.wrap (n + 16384) < 0)) (
 some (.int .u32 (IntKind.u32.wrap (IntKind.i64.wrap (IntKind.i64.wrap z0 + IntKind.i64.wrap (IntKind.i64.wrap (n + 16384) + 4194304)))))) z2) z2) (
 none)) z1) z1) (
 none) := by kernel_rfl
set_option maxRecDepth 100000 in
theorem r_ctake (gl : Gl) (pw pe : C5 Int) (x : Int) : evF gl (HM3p pw pe) 32 [.int .u32 x] =
 let z0 : Option Value := some (.tuple #[(.agg #[(.int .u8 0), (.int .i64 0), (.int .i64 0), (.int .i64 0), (.int .i64 0)]), (.int .i64 6)])
 let z2 := IntKind.i64.wrap (IntKind.u32.wrap (↑(BitVec.ofInt 32 (x.fdiv 4194304) &&& BitVec.ofInt 32 15).toNat : Int))
 let z4 := IntKind.i64.wrap (IntKind.u32.wrap (↑(BitVec.ofInt 32 (x.fdiv 262144) &&& BitVec.ofInt 32 15).toNat : Int))
 let z9 := IntKind.i64.wrap (IntKind.u32.wrap (↑(BitVec.ofInt 32 (x.fdiv 16384) &&& BitVec.ofInt 32 15).toNat : Int))
 let z13 := x.fdiv 67108864
 let z3 := IntKind.u8.wrap z13
 let z6 := decide (0 ≤ IntKind.u8.wrap z13) && true
 let z10 := 0 + z3.toNat * 1
 let z16 := IntKind.u32.wrap (IntKind.i64.wrap x)
 let z1 := IntKind.u32.wrap (↑(BitVec.ofInt 32 z16 &&& BitVec.ofInt 32 4194303).toNat : Int)
 let z5 := IntKind.u32.wrap (↑(BitVec.ofInt 32 z16 &&& BitVec.ofInt 32 16383).toNat : Int)
 let z8 := IntKind.i64.wrap (IntKind.i64.wrap z1 - 4194304)
 let z11 := IntKind.i64.wrap (IntKind.i64.wrap z5 - 16384)
 let z12 := IntKind.i64.wrap z1
 let z7 : Option Value := cond z6 (
 cond (pe z3 0 0 0 z12 != 0) z0 (
 cond (pw z3 0 0 0 z12 != x) z0 (
 some (.tuple #[(.agg #[(.int .u8 z3), (.int .i64 0), (.int .i64 0), (.int .i64 0), (.int .i64 z12)]), (.int .i64 0)])))) (
 none)
 let z14 := decide (IntKind.i64.wrap z1 ≥ 2097152)
 let z15 := IntKind.i64.wrap z5
 cond (decide (IntKind.u8.wrap z13 ≥ 22)) z0 (
 cond (decide (0 ≤ IntKind.u8.wrap z13) && (decide (IntKind.u8.wrap z13 < 22))) (
 cond ((symI formsL).okI .i64 z10) (
 cond ((symI formsL).int .i64 z10 == 1) (
 cond z6 (
 cond (pe z3 z2 z4 z9 0 != 0) z0 (
 cond (pw z3 z2 z4 z9 0 != x) z0 (
 some (.tuple #[(.agg #[(.int .u8 z3), (.int .i64 z2), (.int .i64 z4), (.int .i64 z9), (.int .i64 0)]), (.int .i64 0)])))) (
 none)) (
 cond ((symI formsL).int .i64 z10 == 2) (
 cond (decide (IntKind.i64.wrap z5 ≥ 8192)) (
 cond z6 (
 cond (pe z3 z2 z4 0 z11 != 0) z0 (
 cond (pw z3 z2 z4 0 z11 != x) z0 (
 some (.tuple #[(.agg #[(.int .u8 z3), (.int .i64 z2), (.int .i64 z4), (.int .i64 0), (.int .i64 z11)]), (.int .i64 0)])))) (
 none)) (
 cond z6 (
 cond (pe z3 z2 z4 0 z15 != 0) z0 (
 cond (pw z3 z2 z4 0 z15 != x) z0 (
 some (.tuple #[(.agg #[(.int .u8 z3), (.int .i64 z2), (.int .i64 z4), (.int .i64 0), (.int .i64 z15)]), (.int .i64 0)])))) (
 none))) (
 cond ((symI formsL).int .i64 z10 == 3) (
 cond z14 (
 cond z6 (
 cond (pe z3 z2 0 0 z8 != 0) z0 (
 cond (pw z3 z2 0 0 z8 != x) z0 (
 some (.tuple #[(.agg #[(.int .u8 z3), (.int .i64 z2), (.int .i64 0), (.int .i64 0), (.int .i64 z8)]), (.int .i64 0)])))) (
 none)) (
 cond z6 (
 cond (pe z3 z2 0 0 z12 != 0) z0 (
 cond (pw z3 z2 0 0 z12 != x) z0 (
 some (.tuple #[(.agg #[(.int .u8 z3), (.int .i64 z2), (.int .i64 0), (.int .i64 0), (.int .i64 z12)]), (.int .i64 0)])))) (
 none))) (
 cond ((symI formsL).int .i64 z10 == 4) (
 cond z14 (
 cond z6 (
 cond (pe z3 0 0 0 z8 != 0) z0 (
 cond (pw z3 0 0 0 z8 != x) z0 (
 some (.tuple #[(.agg #[(.int .u8 z3), (.int .i64 0), (.int .i64 0), (.int .i64 0), (.int .i64 z8)]), (.int .i64 0)])))) (
 none)) z7) (
 cond ((symI formsL).int .i64 z10 == 5) z7 (
 cond ((symI formsL).int .i64 z10 == 6) (
 cond z6 (
 cond (pe z3 z2 0 0 0 != 0) z0 (
 cond (pw z3 z2 0 0 0 != x) z0 (
 some (.tuple #[(.agg #[(.int .u8 z3), (.int .i64 z2), (.int .i64 0), (.int .i64 0), (.int .i64 0)]), (.int .i64 0)])))) (
 none)) (
 cond z6 (
 cond (pe z3 0 0 0 0 != 0) z0 (
 cond (pw z3 0 0 0 0 != x) z0 (
 some (.tuple #[(.agg #[(.int .u8 z3), (.int .i64 0), (.int .i64 0), (.int .i64 0), (.int .i64 0)]), (.int .i64 0)])))) (
 none)))))))) (
 none)) (
 none)) := by kernel_rfl
set_option maxRecDepth 100000 in
theorem r_rtake (gl : Gl) (ff : Int → Int) (mb gg : C5 Bool) (ww : C5 Int) (x : Int) : evF gl (HM3t ff mb gg ww) 37 [.int .u32 x] =
 let z1 : Option Value := some (.tuple #[(.agg #[(.int .u8 0), (.int .i64 0), (.int .i64 0), (.int .i64 0), (.int .i64 0)]), (.int .i64 6)])
 let z2 := IntKind.i64.wrap ((IntKind.u32.wrap (x.tdiv 4194304)).tmod 16)
 let z6 := IntKind.i64.wrap ((IntKind.u32.wrap (x.tdiv 262144)).tmod 16)
 let z7 := IntKind.u32.wrap (x.tdiv 67108864)
 let z0 := IntKind.u8.wrap z7
 let z5 := decide (0 ≤ IntKind.u8.wrap z7) && true
 let z8 : Option Value := cond (ff z0 == 6) (
 cond z5 (
 cond (mb z0 z2 0 0 0) (
 cond (decide (0 ≤ IntKind.u8.wrap z7) && (gg z0 z2 0 0 0)) (
 cond (ww z0 z2 0 0 0 != x) z1 (
 some (.tuple #[(.agg #[(.int .u8 z0), (.int .i64 z2), (.int .i64 0), (.int .i64 0), (.int .i64 0)]), (.int .i64 0)]))) (
 none)) z1) (
 none)) (
 cond z5 (
 cond (mb z0 0 0 0 0) (
 cond (decide (0 ≤ IntKind.u8.wrap z7) && (gg z0 0 0 0 0)) (
 cond (ww z0 0 0 0 0 != x) z1 (
 some (.tuple #[(.agg #[(.int .u8 z0), (.int .i64 0), (.int .i64 0), (.int .i64 0), (.int .i64 0)]), (.int .i64 0)]))) (
 none)) z1) (
 none))
 let z17 := IntKind.i64.wrap ((IntKind.u32.wrap (x.tdiv 16384)).tmod 16)
 let z9 : Option Value := cond z5 (
 cond (mb z0 z2 z6 z17 0) (
 cond (decide (0 ≤ IntKind.u8.wrap z7) && (gg z0 z2 z6 z17 0)) (
 cond (ww z0 z2 z6 z17 0 != x) z1 (
 some (.tuple #[(.agg #[(.int .u8 z0), (.int .i64 z2), (.int .i64 z6), (.int .i64 z17), (.int .i64 0)]), (.int .i64 0)]))) (
 none)) z1) (
 none)
 let z19 := x.tmod 4194304
 let z10 := IntKind.i64.wrap z19
 let z12 := IntKind.i64.wrap (IntKind.i64.wrap z19 - 4194304)
 let z15 : Option Value := cond z5 (
 cond (mb z0 0 0 0 z10) (
 cond (decide (0 ≤ IntKind.u8.wrap z7) && (gg z0 0 0 0 z10)) (
 cond (ww z0 0 0 0 z10 != x) z1 (
 some (.tuple #[(.agg #[(.int .u8 z0), (.int .i64 0), (.int .i64 0), (.int .i64 0), (.int .i64 z10)]), (.int .i64 0)]))) (
 none)) z1) (
 none)
 let z16 := IntKind.i64.wrap (IntKind.i64.wrap z19 - 16384)
 let z20 := x.tmod 16384
 let z11 := IntKind.i64.wrap z20
 let z13 := IntKind.i64.wrap (IntKind.i64.wrap z20 - 4194304)
 let z14 : Option Value := cond z5 (
 cond (mb z0 0 0 0 z11) (
 cond (decide (0 ≤ IntKind.u8.wrap z7) && (gg z0 0 0 0 z11)) (
 cond (ww z0 0 0 0 z11 != x) z1 (
 some (.tuple #[(.agg #[(.int .u8 z0), (.int .i64 0), (.int .i64 0), (.int .i64 0), (.int .i64 z11)]), (.int .i64 0)]))) (
 none)) z1) (
 none)
 let z18 := IntKind.i64.wrap (IntKind.i64.wrap z20 - 16384)
 let z21 := decide (IntKind.i64.wrap z19 ≥ 2097152)
 let z3 : Option Value := cond (ff z0 == 3) (
 cond z21 (
 cond z5 (
 cond (mb z0 z2 0 0 z12) (
 cond (decide (0 ≤ IntKind.u8.wrap z7) && (gg z0 z2 0 0 z12)) (
 cond (ww z0 z2 0 0 z12 != x) z1 (
 some (.tuple #[(.agg #[(.int .u8 z0), (.int .i64 z2), (.int .i64 0), (.int .i64 0), (.int .i64 z12)]), (.int .i64 0)]))) (
 none)) z1) (
 none)) (
 cond z5 (
 cond (mb z0 z2 0 0 z10) (
 cond (decide (0 ≤ IntKind.u8.wrap z7) && (gg z0 z2 0 0 z10)) (
 cond (ww z0 z2 0 0 z10 != x) z1 (
 some (.tuple #[(.agg #[(.int .u8 z0), (.int .i64 z2), (.int .i64 0), (.int .i64 0), (.int .i64 z10)]), (.int .i64 0)]))) (
 none)) z1) (
 none))) (
 cond z21 (
 cond z5 (
 cond (mb z0 0 0 0 z12) (
 cond (decide (0 ≤ IntKind.u8.wrap z7) && (gg z0 0 0 0 z12)) (
 cond (ww z0 0 0 0 z12 != x) z1 (
 some (.tuple #[(.agg #[(.int .u8 z0), (.int .i64 0), (.int .i64 0), (.int .i64 0), (.int .i64 z12)]), (.int .i64 0)]))) (
 none)) z1) (
 none)) z15)
 let z22 := decide (IntKind.i64.wrap z20 ≥ 2097152)
 let z4 : Option Value := cond (ff z0 == 3) (
 cond z22 (
 cond z5 (
 cond (mb z0 z2 0 0 z13) (
 cond (decide (0 ≤ IntKind.u8.wrap z7) && (gg z0 z2 0 0 z13)) (
 cond (ww z0 z2 0 0 z13 != x) z1 (
 some (.tuple #[(.agg #[(.int .u8 z0), (.int .i64 z2), (.int .i64 0), (.int .i64 0), (.int .i64 z13)]), (.int .i64 0)]))) (
 none)) z1) (
 none)) (
 cond z5 (
 cond (mb z0 z2 0 0 z11) (
 cond (decide (0 ≤ IntKind.u8.wrap z7) && (gg z0 z2 0 0 z11)) (
 cond (ww z0 z2 0 0 z11 != x) z1 (
 some (.tuple #[(.agg #[(.int .u8 z0), (.int .i64 z2), (.int .i64 0), (.int .i64 0), (.int .i64 z11)]), (.int .i64 0)]))) (
 none)) z1) (
 none))) (
 cond z22 (
 cond z5 (
 cond (mb z0 0 0 0 z13) (
 cond (decide (0 ≤ IntKind.u8.wrap z7) && (gg z0 0 0 0 z13)) (
 cond (ww z0 0 0 0 z13 != x) z1 (
 some (.tuple #[(.agg #[(.int .u8 z0), (.int .i64 0), (.int .i64 0), (.int .i64 0), (.int .i64 z13)]), (.int .i64 0)]))) (
 none)) z1) (
 none)) z14)
 cond (decide (0 ≤ IntKind.u8.wrap z7)) (
 cond (ff z0 == 2) (
 cond (ff z0 == 1) z9 (
 cond (ff z0 == 2) (
 cond (decide (IntKind.i64.wrap z20 ≥ 8192)) (
 cond z5 (
 cond (mb z0 z2 z6 0 z18) (
 cond (decide (0 ≤ IntKind.u8.wrap z7) && (gg z0 z2 z6 0 z18)) (
 cond (ww z0 z2 z6 0 z18 != x) z1 (
 some (.tuple #[(.agg #[(.int .u8 z0), (.int .i64 z2), (.int .i64 z6), (.int .i64 0), (.int .i64 z18)]), (.int .i64 0)]))) (
 none)) z1) (
 none)) (
 cond z5 (
 cond (mb z0 z2 z6 0 z11) (
 cond (decide (0 ≤ IntKind.u8.wrap z7) && (gg z0 z2 z6 0 z11)) (
 cond (ww z0 z2 z6 0 z11 != x) z1 (
 some (.tuple #[(.agg #[(.int .u8 z0), (.int .i64 z2), (.int .i64 z6), (.int .i64 0), (.int .i64 z11)]), (.int .i64 0)]))) (
 none)) z1) (
 none))) (
 cond (ff z0 == 3) z4 (
 cond (ff z0 == 4) z4 (
 cond (ff z0 == 5) z14 z8))))) (
 cond (ff z0 == 1) z9 (
 cond (ff z0 == 2) (
 cond (decide (IntKind.i64.wrap z19 ≥ 8192)) (
 cond z5 (
 cond (mb z0 z2 z6 0 z16) (
 cond (decide (0 ≤ IntKind.u8.wrap z7) && (gg z0 z2 z6 0 z16)) (
 cond (ww z0 z2 z6 0 z16 != x) z1 (
 some (.tuple #[(.agg #[(.int .u8 z0), (.int .i64 z2), (.int .i64 z6), (.int .i64 0), (.int .i64 z16)]), (.int .i64 0)]))) (
 none)) z1) (
 none)) (
 cond z5 (
 cond (mb z0 z2 z6 0 z10) (
 cond (decide (0 ≤ IntKind.u8.wrap z7) && (gg z0 z2 z6 0 z10)) (
 cond (ww z0 z2 z6 0 z10 != x) z1 (
 some (.tuple #[(.agg #[(.int .u8 z0), (.int .i64 z2), (.int .i64 z6), (.int .i64 0), (.int .i64 z10)]), (.int .i64 0)]))) (
 none)) z1) (
 none))) (
 cond (ff z0 == 3) z3 (
 cond (ff z0 == 4) z3 (
 cond (ff z0 == 5) z15 z8)))))) (
 none) := by kernel_rfl
end Go.Proofs.YtgohbcbdgakjeaaGreatDoor
noncomputable section
namespace Go.Proofs.YtgohbcbdgakjeaaGreatDoor
open Go.Proofs.YtgohbcbdgakjeaaGreatDoor.Ev Go.RowKit
theorem wrap_u32 {x : Int} (h0 : 0 ≤ x) (h1 : x < 4294967296) : IntKind.u32.wrap x = x := by
 simp [IntKind.wrap, IntKind.bits, IntKind.signed]; omega
theorem wrap_u8 {x : Int} (h0 : 0 ≤ x) (h1 : x < 256) : IntKind.u8.wrap x = x := by
 simp [IntKind.wrap, IntKind.bits, IntKind.signed]; omega
theorem wrap_64 {x : Int} (h0 : -9223372036854775808 ≤ x) (h1 : x < 9223372036854775808) : IntKind.i64.wrap x = x := by
 simp [IntKind.wrap, IntKind.bits, IntKind.signed]; omega
theorem bv_toNat {x : Int} (h0 : 0 ≤ x) (h1 : x < 4294967296) : (BitVec.ofInt 32 x).toNat = x.toNat := by
 rw [BitVec.toNat_ofInt]
 have : (x % ((2 ^ 32 : Nat) : Int)) = x := by
  apply Int.emod_eq_of_lt h0
  simpa using h1
 rw [this]
theorem and_u32 {x : Int} (h0 : 0 ≤ x) (h1 : x < 4294967296) (k : Nat) (hk : k < 32) : IntKind.u32.wrap (↑(BitVec.ofInt 32 x &&& BitVec.ofInt 32 (2 ^ k - 1)).toNat : Int) = x % 2 ^ k := by
 have h2 : (1 : Int) ≤ 2 ^ k := by have := Int.pow_pos (n := 2) (m := k) (by decide); omega
 have h3 : (2 : Int) ^ k ≤ 2 ^ 31 := by
  have := Nat.pow_le_pow_right (n := 2) (by decide) (show k ≤ 31 by omega)
  exact_mod_cast this
 rw [BitVec.toNat_and, bv_toNat h0 h1, bv_toNat (by omega) (by omega)]
 have e : ((2 : Int) ^ k - 1).toNat = 2 ^ k - 1 := by
  have : ((2 : Int) ^ k) = ((2 ^ k : Nat) : Int) := by push_cast; rfl
  rw [this]
  omega
 rw [e, Nat.and_two_pow_sub_one_eq_mod]
 have hx : x = (x.toNat : Int) := by omega
 rw [hx]
 simp only [Int.toNat_natCast]
 have e2 : ((x.toNat % 2 ^ k : Nat) : Int) = (x.toNat : Int) % 2 ^ k := by push_cast; rfl
 rw [e2]
 apply wrap_u32
 ·exact Int.emod_nonneg _ (by omega)
 ·have := Int.emod_lt_of_pos (x.toNat : Int) (b := 2 ^ k) (by omega)
  omega
theorem or_u32 {a b : Int} (k : Nat) (ha : 0 ≤ a) (hb : 0 ≤ b) (hb2 : b < 2 ^ k) (h1 : 2 ^ k * a + b < 4294967296) : IntKind.u32.wrap (↑(BitVec.ofInt 32 (2 ^ k * a) ||| BitVec.ofInt 32 b).toNat : Int) = 2 ^ k * a + b := by
 obtain ⟨a, rfl⟩ := Int.eq_ofNat_of_zero_le ha
 obtain ⟨b, rfl⟩ := Int.eq_ofNat_of_zero_le hb
 have e : (2 : Int) ^ k * (a : Int) = ((2 ^ k * a : Nat) : Int) := by push_cast; rfl
 have e2 : ((2 : Int) ^ k) = ((2 ^ k : Nat) : Int) := by push_cast; rfl
 rw [e] at h1 ⊢
 rw [e2] at hb2
 rw [BitVec.toNat_or, bv_toNat (by omega) (by omega), bv_toNat hb (by omega), Int.toNat_natCast, Int.toNat_natCast, ← Nat.two_pow_add_eq_or_of_lt (by omega)]
 rw [wrap_u32 (by omega) (by omega)]
 push_cast
 rfl
end Go.Proofs.YtgohbcbdgakjeaaGreatDoor
noncomputable section
namespace Go.Proofs.YtgohbcbdgakjeaaGreatDoor
open Go.Proofs.YtgohbcbdgakjeaaGreatDoor.Ev Go.RowKit
def wordN : C5 Int := fun op a b c n => (((op * 16 + a) * 16 + b) * 16 + c) * 16384 + (if n < 0 then (if formN op = 2 then n + 16384 else n + 4194304) else n)
def cmayI : C5 Int := fun op a b c n => cond (cmay op a b c n) 0 2
def putN : C5 Int := fun op a b c n => cond (cmay op a b c n) (wordN op a b c n) 0
theorem wrap32 (x : Int) : IntKind.u32.wrap x = x % 4294967296 := by
 simp [IntKind.wrap, IntKind.bits, IntKind.signed]
theorem or_add {A b : Int} (k : Nat) (hA : A % 2 ^ k = 0) (h0 : 0 ≤ A) (hb : 0 ≤ b) (hb2 : b < 2 ^ k) (h1 : A + b < 4294967296) : IntKind.u32.wrap (↑(BitVec.ofInt 32 A ||| BitVec.ofInt 32 b).toNat : Int) = A + b := by
 have h2 : (0 : Int) < 2 ^ k := Int.pow_pos (n := 2) (m := k) (by decide)
 have e : A = 2 ^ k * (A / 2 ^ k) := by
  have := Int.mul_ediv_add_emod A (2 ^ k)
  omega
 have h3 : 0 ≤ A / 2 ^ k := Int.ediv_nonneg h0 (by omega)
 have h := or_u32 (a := A / 2 ^ k) (b := b) k h3 hb hb2 (by rw [← e]; exact h1)
 rw [← e] at h
 exact h
structure CF (op a b c n : Int) : Prop where
 o0 : 0 ≤ op
 o1 : op < 22
 a0 : 0 ≤ a
 a1 : a < 16
 b0 : 0 ≤ b
 b1 : b < 16
 c0 : 0 ≤ c
 c1 : c < 16
 n : (formN op = 1 ∧ n = 0) ∨ (formN op = 2 ∧ c = 0 ∧ -8192 ≤ n ∧ n < 8192) ∨ (formN op ≠ 1 ∧ formN op ≠ 2 ∧ b = 0 ∧ c = 0 ∧ -2097152 ≤ n ∧ n < 2097152)
theorem cmay_f {op a b c n : Int} (h : cmay op a b c n = true) : CF op a b c n := by
 unfold cmay at h
 simp only [Bool.and_eq_true, decide_eq_true_eq] at h
 obtain ⟨⟨h0, h1⟩, h⟩ := h
 rcases form_cases h0 h1 with e | e | e | e | e | e | e <;> rw [e] at h <;> simp only [Bool.and_eq_true, decide_eq_true_eq] at h <;> refine ⟨h0, h1, ?_, ?_, ?_, ?_, ?_, ?_, ?_⟩ <;> omega
theorem word_lt {op a b c n : Int} (h : cmay op a b c n = true) : 0 ≤ wordN op a b c n ∧ wordN op a b c n < 4294967296 := by
 obtain ⟨h0, h1, h2, h3, h4, h5, h6, h7, h8⟩ := cmay_f h
 unfold wordN
 split <;> (try split) <;> omega
theorem tup_eq {x y : Int} {e : Value} (h : x = y) : some (Value.tuple #[.int .u32 x, e]) = some (Value.tuple #[.int .u32 y, e]) := by rw [h]
theorem cput_eq (gl : Gl) (op a b c n : Int) (h0 : 0 ≤ op) : evF gl (HM3 cmayI) 31 [cdV op a b c n] = some (.tuple #[.int .u32 (putN op a b c n), .int .i64 (cmayI op a b c n)]) := by
 rw [r_cput]
 dsimp only
 unfold putN cmayI
 rw [decide_eq_true h0]
 by_cases h : cmay op a b c n = true
 case neg => rw [Bool.eq_false_iff.2 h]; rfl
 have hf := cmay_f h
 obtain ⟨_, h1, h2, h3, h4, h5, h6, h7, h8⟩ := hf
 have k0 : (symI formsL).okI .i64 (0 + op.toNat * 1) = true := by
  simp only [symI, decide_true, Bool.true_and]
  exact nble (by show _ ≤ 22; omega)
 have k1 : (symI formsL).int .i64 (0 + op.toNat * 1) = formN op := by
  show nthI formsL (0 + op.toNat * 1) = nthI formsL op.toNat
  rw [Nat.zero_add, Nat.mul_one]
 have n1 : IntKind.u32.wrap (↑(BitVec.ofInt 32 (IntKind.u32.wrap n) &&& BitVec.ofInt 32 16383).toNat : Int) = IntKind.u32.wrap n % 16384 := and_u32 (x := IntKind.u32.wrap n) (by rw [wrap32]; omega) (by rw [wrap32]; omega) 14 (by decide)
 have n2 : IntKind.u32.wrap (↑(BitVec.ofInt 32 (IntKind.u32.wrap n) &&& BitVec.ofInt 32 4194303).toNat : Int) = IntKind.u32.wrap n % 4194304 := and_u32 (x := IntKind.u32.wrap n) (by rw [wrap32]; omega) (by rw [wrap32]; omega) 22 (by decide)
 simp only [h, decide_eq_true h1, k0, k1, n1, n2, cond_true, Bool.and_self, beqI]
 rw [show ((0 : Int) != 0) = false from rfl, cond_false]
 have e1 : IntKind.u32.wrap (IntKind.u32.wrap op * 67108864) = op * 67108864 := by rw [wrap_u32 h0 (by omega), wrap_u32 (by omega) (by omega)]
 have e2 : IntKind.u32.wrap (IntKind.u32.wrap a * 4194304) = a * 4194304 := by rw [wrap_u32 h2 (by omega), wrap_u32 (by omega) (by omega)]
 have e3 : IntKind.u32.wrap (IntKind.u32.wrap b * 262144) = b * 262144 := by rw [wrap_u32 h4 (by omega), wrap_u32 (by omega) (by omega)]
 have e4 : IntKind.u32.wrap (IntKind.u32.wrap c * 16384) = c * 16384 := by rw [wrap_u32 h6 (by omega), wrap_u32 (by omega) (by omega)]
 rw [e1, e2, e3, e4, wrap32 n]
 rw [or_add (A := op * 67108864) (b := a * 4194304) 26 (by omega) (by omega) (by omega) (by omega) (by omega), or_add (A := op * 67108864 + a * 4194304) (b := b * 262144) 22 (by omega) (by omega) (by omega) (by omega) (by omega), or_add (A := op * 67108864 + a * 4194304 + b * 262144) (b := c * 16384) 18 (by omega) (by omega) (by omega) (by omega) (by omega)]
 generalize hA : op * 67108864 + a * 4194304 + b * 262144 + c * 16384 = A
 unfold wordN
 by_cases hq : formN op = 2
 ·rw [decide_eq_true hq, cond_true, or_add (A := A) (b := n % 4294967296 % 16384) 14 (by omega) (by omega) (by omega) (by omega) (by omega), if_pos hq]
  refine tup_eq ?_
  split <;> omega
 ·rw [decide_eq_false hq, cond_false, if_neg hq]
  rcases h8 with ⟨h8, rfl⟩ | h8 | h8
  ·rw [or_add (A := A) (b := 0 % 4294967296 % 4194304) 14 (by omega) (by omega) (by omega) (by omega) (by omega)]
   refine tup_eq ?_
   split <;> omega
  ·omega
  ·rw [or_add (A := A) (b := n % 4294967296 % 4194304) 22 (by omega) (by omega) (by omega) (by omega) (by omega)]
   refine tup_eq ?_
   split <;> omega
end Go.Proofs.YtgohbcbdgakjeaaGreatDoor
noncomputable section
namespace Go.Proofs.YtgohbcbdgakjeaaGreatDoor
open Go.Proofs.YtgohbcbdgakjeaaGreatDoor.Ev Go.RowKit
def formR (op : Int) : Int := cond (decide (op < 22)) (formN op) 1
theorem formR_lt {op : Int} (h : op < 22) : formR op = formN op := by unfold formR; rw [decide_eq_true h]; rfl
theorem formR_ge {op : Int} (h : ¬ op < 22) : formR op = 1 := by unfold formR; rw [decide_eq_false h]; rfl
set_option maxHeartbeats 1000000 in
theorem form_eq (gl : Gl) (op : Int) (h0 : 0 ≤ op) : evF gl HB0 66 [.int .u8 op] = some (.int .i64 (formR op)) := by
 rw [q_form]
 dsimp only
 by_cases h : op < 22
 ·rcases (show op = 0 ∨ op = 1 ∨ op = 2 ∨ op = 3 ∨ op = 4 ∨ op = 5 ∨ op = 6 ∨ op = 7 ∨ op = 8 ∨ op = 9 ∨ op = 10 ∨ op = 11 ∨ op = 12 ∨ op = 13 ∨ op = 14 ∨ op = 15 ∨ op = 16 ∨ op = 17 ∨ op = 18 ∨ op = 19 ∨ op = 20 ∨ op = 21 by omega) with
   rfl | rfl | rfl | rfl | rfl | rfl | rfl | rfl | rfl | rfl | rfl | rfl | rfl | rfl | rfl | rfl | rfl | rfl | rfl | rfl | rfl | rfl <;> rfl
 ·rw [formR_ge h]
  have hn : ∀ k : Int, k < 22 → (op == k) = false := fun k hk => by rw [beqI]; exact decide_eq_false (by omega)
  simp only [hn 0 (by omega), hn 18 (by omega), hn 21 (by omega), hn 8 (by omega), hn 9 (by omega), hn 10 (by omega), hn 13 (by omega), hn 14 (by omega), hn 15 (by omega), hn 12 (by omega), hn 16 (by omega), hn 17 (by omega), hn 19 (by omega), hn 20 (by omega), cond_false]
theorem bneI (a b : Int) : (a != b) = !(decide (a = b)) := rfl
theorem le15 (x : Int) : decide (x ≤ 15) = decide (x < 16) := decide_eq_decide.2 (by omega)
theorem le13 (x : Int) : decide (x ≤ 8191) = decide (x < 8192) := decide_eq_decide.2 (by omega)
theorem le21 (x : Int) : decide (x ≤ 2097151) = decide (x < 2097152) := decide_eq_decide.2 (by omega)
theorem z15 {x : Int} (h : 0 = x) : decide (x ≥ 0) = true ∧ decide (x < 16) = true := by subst h; exact ⟨rfl, rfl⟩
theorem rmay_eq (gl : Gl) (op a b c n : Int) (h0 : 0 ≤ op) : evF gl (HM3r formR) 64 [cdV op a b c n] = some (.bool (cmay op a b c n)) := by
 rw [r_rmay]
 dsimp only
 by_cases h : op < 22
 case neg =>
  rw [decide_eq_true (show op > 21 by omega)]
  unfold cmay
  rw [decide_eq_false h, Bool.and_false, Bool.false_and]
  rfl
 rw [decide_eq_false (show ¬ op > 21 by omega), decide_eq_true h0, formR_lt h]
 simp only [cond_true, cond_false, bneI, beqI, le15, le13, le21]
 unfold cmay
 rw [decide_eq_true h0, decide_eq_true h]
 have hz : ∀ x : Int, decide (x = 0) = decide (0 = x) := fun x => decide_eq_decide.2 ⟨Eq.symm, Eq.symm⟩
 have ha : decide (a ≥ 0) = false ∨ decide (a < 16) = false → decide (0 = a) = false := fun e => decide_eq_false fun q => by
  obtain ⟨q1, q2⟩ := z15 q
  rw [q1, q2] at e
  rcases e with e | e <;> cases e
 have hb : decide (b ≥ 0) = false ∨ decide (b < 16) = false → decide (0 = b) = false := fun e => decide_eq_false fun q => by
  obtain ⟨q1, q2⟩ := z15 q
  rw [q1, q2] at e
  rcases e with e | e <;> cases e
 have hc : decide (c ≥ 0) = false ∨ decide (c < 16) = false → decide (0 = c) = false := fun e => decide_eq_false fun q => by
  obtain ⟨q1, q2⟩ := z15 q
  rw [q1, q2] at e
  rcases e with e | e <;> cases e
 have hf := form_cases h0 h
 generalize formN op = f at *
 simp only [hz]
 generalize decide (a ≥ 0) = a0 at *
 generalize decide (a < 16) = a1 at *
 generalize decide (0 = a) = a2 at *
 generalize decide (b ≥ 0) = b0 at *
 generalize decide (b < 16) = b1 at *
 generalize decide (0 = b) = b2 at *
 generalize decide (c ≥ 0) = c0 at *
 generalize decide (c < 16) = c1 at *
 generalize decide (0 = c) = c2 at *
 generalize decide (0 = n) = n0 at *
 generalize decide (n ≥ 0) = n1 at *
 generalize decide (n ≤ 255) = n2 at *
 generalize decide (n ≥ -8192) = n3 at *
 generalize decide (n < 8192) = n4 at *
 generalize decide (n ≥ -2097152) = n5 at *
 generalize decide (n < 2097152) = n6 at *
 have nf : ∀ {x : Bool}, x = false → some (Value.bool false) = some (Value.bool x) := fun e => by rw [e]
 cases a0 with
 | false =>
  rw [ha (.inl rfl)]
  exact nf (by rcases hf with e | e | e | e | e | e | e <;> subst e <;> simp)
 | true =>
 cases a1 with
 | false =>
  rw [ha (.inr rfl)]
  exact nf (by rcases hf with e | e | e | e | e | e | e <;> subst e <;> simp)
 | true =>
 cases b0 with
 | false =>
  rw [hb (.inl rfl)]
  exact nf (by rcases hf with e | e | e | e | e | e | e <;> subst e <;> simp)
 | true =>
 cases b1 with
 | false =>
  rw [hb (.inr rfl)]
  exact nf (by rcases hf with e | e | e | e | e | e | e <;> subst e <;> simp)
 | true =>
 cases c0 with
 | false =>
  rw [hc (.inl rfl)]
  exact nf (by rcases hf with e | e | e | e | e | e | e <;> subst e <;> simp)
 | true =>
 cases c1 with
 | false =>
  rw [hc (.inr rfl)]
  exact nf (by rcases hf with e | e | e | e | e | e | e <;> subst e <;> simp)
 | true =>
 clear ha hb hc hz nf
 rcases hf with e | e | e | e | e | e | e <;> subst e
 ·cases a2 <;> cases b2 <;> cases c2 <;> cases n0 <;> rfl
 ·cases n0 <;> rfl
 ·cases c2 <;> cases n3 <;> cases n4 <;> rfl
 ·cases b2 <;> cases c2 <;> cases n5 <;> cases n6 <;> rfl
 ·cases a2 <;> cases b2 <;> cases c2 <;> cases n5 <;> cases n6 <;> rfl
 ·cases a2 <;> cases b2 <;> cases c2 <;> cases n1 <;> cases n2 <;> rfl
 ·cases b2 <;> cases c2 <;> cases n0 <;> rfl
theorem rword_eq (gl : Gl) (op a b c n : Int) (h : cmay op a b c n = true) : evF gl (HM3r formR) 65 [cdV op a b c n] = some (.int .u32 (wordN op a b c n)) := by
 rw [r_rword]
 dsimp only
 have hf := cmay_f h
 have hw := word_lt h
 obtain ⟨h0, h1, h2, h3, h4, h5, h6, h7, h8⟩ := hf
 have ie : ∀ {x y : Int}, x = y → some (Value.int .u32 x) = some (Value.int .u32 y) := fun e => by rw [e]
 have key : ∀ m : Int, -4194304 ≤ m → m ≤ 4194304 → (((op * 16 + a) * 16 + b) * 16 + c) * 16384 + m = wordN op a b c n → IntKind.u32.wrap (IntKind.i64.wrap (IntKind.i64.wrap (IntKind.i64.wrap (IntKind.i64.wrap (IntKind.i64.wrap (IntKind.i64.wrap (IntKind.i64.wrap (IntKind.i64.wrap (IntKind.i64.wrap op * 16) + a) * 16) + b) * 16) + c) * 16384) + m)) = wordN op a b c n := by
  intro m m0 m1 e
  rw [wrap_64 (x := op) (by omega) (by omega), wrap_64 (x := op * 16) (by omega) (by omega), wrap_64 (x := op * 16 + a) (by omega) (by omega), wrap_64 (x := (op * 16 + a) * 16) (by omega) (by omega), wrap_64 (x := (op * 16 + a) * 16 + b) (by omega) (by omega), wrap_64 (x := ((op * 16 + a) * 16 + b) * 16) (by omega) (by omega), wrap_64 (x := ((op * 16 + a) * 16 + b) * 16 + c) (by omega) (by omega), wrap_64 (x := (((op * 16 + a) * 16 + b) * 16 + c) * 16384) (by omega) (by omega), wrap_64 (by omega) (by omega), e]
  exact wrap_u32 hw.1 hw.2
 rw [decide_eq_true h0, formR_lt h1]
 simp only [cond_true, bneI, beqI]
 by_cases hq : formN op = 2
 ·have hn : -8192 ≤ n ∧ n < 8192 := by omega
  rw [decide_eq_true hq]
  by_cases hl : n < 0
  ·rw [decide_eq_true hl]
   refine ie (key _ (by rw [wrap_64] <;> omega) (by rw [wrap_64] <;> omega) ?_)
   rw [wrap_64 (by omega) (by omega)]
   unfold wordN
   rw [if_pos hl, if_pos hq]
  ·rw [decide_eq_false hl]
   refine ie (key _ (by omega) (by omega) ?_)
   unfold wordN
   rw [if_neg hl]
 ·have hn : -2097152 ≤ n ∧ n < 2097152 := by omega
  rw [decide_eq_false hq]
  by_cases hl : n < 0
  ·rw [decide_eq_true hl]
   refine ie (key _ (by rw [wrap_64] <;> omega) (by rw [wrap_64] <;> omega) ?_)
   rw [wrap_64 (by omega) (by omega)]
   unfold wordN
   rw [if_pos hl, if_neg hq]
  ·rw [decide_eq_false hl]
   refine ie (key _ (by omega) (by omega) ?_)
   unfold wordN
   rw [if_neg hl]
end Go.Proofs.YtgohbcbdgakjeaaGreatDoor
noncomputable section
namespace Go.Proofs.YtgohbcbdgakjeaaGreatDoor
open Go.Proofs.YtgohbcbdgakjeaaGreatDoor.Ev Go.RowKit
def oN (x : Int) : Int := x / 67108864
def sg (m h : Int) : Int := cond (decide (m ≥ h)) (m - 2 * h) m
def errTk : Value := .tuple #[cdV 0 0 0 0 0, .int .i64 6]
def tkV (x op a b c n : Int) : Value := cond (cmay op a b c n && decide (wordN op a b c n = x)) (.tuple #[cdV op a b c n, .int .i64 0]) errTk
def takeV (x : Int) : Value := match formN (oN x) with
 | 1 => tkV x (oN x) (x / 4194304 % 16) (x / 262144 % 16) (x / 16384 % 16) 0
 | 2 => tkV x (oN x) (x / 4194304 % 16) (x / 262144 % 16) 0 (sg (x % 16384) 8192)
 | 3 => tkV x (oN x) (x / 4194304 % 16) 0 0 (sg (x % 4194304) 2097152)
 | 4 => tkV x (oN x) 0 0 0 (sg (x % 4194304) 2097152)
 | 5 => tkV x (oN x) 0 0 0 (x % 4194304)
 | 6 => tkV x (oN x) (x / 4194304 % 16) 0 0 0
 | _ => tkV x (oN x) 0 0 0 0
theorem tk_bad {x op a b c n : Int} (h : ¬ op < 22) : tkV x op a b c n = errTk := by
 unfold tkV cmay
 rw [decide_eq_false h, Bool.and_false, Bool.false_and, Bool.false_and]
 rfl
theorem take_bad {x : Int} (h : ¬ oN x < 22) : takeV x = errTk := by
 unfold takeV
 split <;> exact tk_bad h
theorem tk_c {x op a b c n : Int} (h0 : 0 ≤ op) : cond (decide (0 ≤ op) && true) (cond (cmayI op a b c n != 0) (some errTk) (cond (putN op a b c n != x) (some errTk) (some (.tuple #[cdV op a b c n, .int .i64 0])))) none = some (tkV x op a b c n) := by
 unfold tkV cmayI putN
 rw [decide_eq_true h0]
 cases cmay op a b c n with
 | false => rfl
 | true =>
  simp only [Bool.and_self, cond_true, Bool.true_and, bneI]
  cases decide (wordN op a b c n = x) <;> rfl
theorem tk_r {x op a b c n : Int} (h0 : 0 ≤ op) : cond (decide (0 ≤ op) && true) (cond (cmay op a b c n) (cond (decide (0 ≤ op) && cmay op a b c n) (cond (wordN op a b c n != x) (some errTk) (some (.tuple #[cdV op a b c n, .int .i64 0]))) none) (some errTk)) none = some (tkV x op a b c n) := by
 unfold tkV
 rw [decide_eq_true h0]
 cases cmay op a b c n with
 | false => rfl
 | true =>
  simp only [Bool.and_self, cond_true, Bool.true_and, bneI]
  cases decide (wordN op a b c n = x) <;> rfl
theorem nib {y : Int} (h0 : 0 ≤ y) (h1 : y < 4294967296) : IntKind.i64.wrap (IntKind.u32.wrap (↑(BitVec.ofInt 32 y &&& BitVec.ofInt 32 15).toNat : Int)) = y % 16 := by
 have h : IntKind.u32.wrap (↑(BitVec.ofInt 32 y &&& BitVec.ofInt 32 15).toNat : Int) = y % 16 := and_u32 h0 h1 4 (by decide)
 rw [h, wrap_64 (by omega) (by omega)]
theorem fdivE {x d : Int} (hd : 0 ≤ d) : x.fdiv d = x / d := Int.fdiv_eq_ediv_of_nonneg x hd
theorem tdivE {x d : Int} (hx : 0 ≤ x) : x.tdiv d = x / d := Int.tdiv_eq_ediv_of_nonneg hx
theorem tmodE {x d : Int} (hx : 0 ≤ x) : x.tmod d = x % d := Int.tmod_eq_emod_of_nonneg hx
theorem ctake_eq (gl : Gl) (x : Int) (h0 : 0 ≤ x) (h1 : x < 4294967296) : evF gl (HM3p putN cmayI) 32 [.int .u32 x] = some (takeV x) := by
 rw [r_ctake]
 dsimp only
 have ho : IntKind.u8.wrap (x.fdiv 67108864) = oN x := by
  rw [fdivE (by omega), wrap_u8 (by omega) (by omega)]; rfl
 have ho0 : 0 ≤ oN x := by unfold oN; omega
 rw [ho]
 by_cases h : oN x < 22
 case neg => rw [decide_eq_true (show oN x ≥ 22 by omega), take_bad h]; rfl
 have k0 : (symI formsL).okI .i64 (0 + (oN x).toNat * 1) = true := by
  simp only [symI, decide_true, Bool.true_and]
  exact nble (by show _ ≤ 22; omega)
 have k1 : (symI formsL).int .i64 (0 + (oN x).toNat * 1) = formN (oN x) := by
  show nthI formsL (0 + (oN x).toNat * 1) = nthI formsL (oN x).toNat
  rw [Nat.zero_add, Nat.mul_one]
 have d1 : decide (oN x ≥ 22) = false := decide_eq_false (by omega)
 have d2 : (decide (0 ≤ oN x) && decide (oN x < 22)) = true := by rw [decide_eq_true ho0, decide_eq_true h]; rfl
 have a1 : IntKind.i64.wrap (IntKind.u32.wrap (↑(BitVec.ofInt 32 (x / 4194304) &&& BitVec.ofInt 32 15).toNat : Int)) = x / 4194304 % 16 := nib (by omega) (by omega)
 have a2 : IntKind.i64.wrap (IntKind.u32.wrap (↑(BitVec.ofInt 32 (x / 262144) &&& BitVec.ofInt 32 15).toNat : Int)) = x / 262144 % 16 := nib (by omega) (by omega)
 have a3 : IntKind.i64.wrap (IntKind.u32.wrap (↑(BitVec.ofInt 32 (x / 16384) &&& BitVec.ofInt 32 15).toNat : Int)) = x / 16384 % 16 := nib (by omega) (by omega)
 have f1 : x.fdiv 4194304 = x / 4194304 := fdivE (by omega)
 have f2 : x.fdiv 262144 = x / 262144 := fdivE (by omega)
 have f3 : x.fdiv 16384 = x / 16384 := fdivE (by omega)
 have w1 : IntKind.i64.wrap x = x := wrap_64 (by omega) (by omega)
 have w2 : IntKind.u32.wrap x = x := wrap_u32 h0 h1
 have n1 : IntKind.u32.wrap (↑(BitVec.ofInt 32 x &&& BitVec.ofInt 32 16383).toNat : Int) = x % 16384 := and_u32 h0 h1 14 (by decide)
 have n2 : IntKind.u32.wrap (↑(BitVec.ofInt 32 x &&& BitVec.ofInt 32 4194303).toNat : Int) = x % 4194304 := and_u32 h0 h1 22 (by decide)
 have m1 : IntKind.i64.wrap (x % 16384) = x % 16384 := wrap_64 (by omega) (by omega)
 have m2 : IntKind.i64.wrap (x % 4194304) = x % 4194304 := wrap_64 (by omega) (by omega)
 have m3 : IntKind.i64.wrap (x % 16384 - 16384) = x % 16384 - 16384 := wrap_64 (by omega) (by omega)
 have m4 : IntKind.i64.wrap (x % 4194304 - 4194304) = x % 4194304 - 4194304 := wrap_64 (by omega) (by omega)
 have hE : Value.tuple #[.agg #[.int .u8 0, .int .i64 0, .int .i64 0, .int .i64 0, .int .i64 0], .int .i64 6] = errTk := rfl
 have hV : ∀ op a b c n, Value.tuple #[.agg #[.int .u8 op, .int .i64 a, .int .i64 b, .int .i64 c, .int .i64 n], .int .i64 0] = .tuple #[cdV op a b c n, .int .i64 0] := fun _ _ _ _ _ => rfl
 simp only [d1, d2, k0, k1, cond_true, cond_false, f1, f2, f3, a1, a2, a3, w1, w2, n1, n2, m1, m2, m3, m4, hE, hV, tk_c ho0]
 unfold takeV
 rcases form_cases ho0 h with e | e | e | e | e | e | e <;> rw [e]
 ·rfl
 ·rfl
 ·unfold sg; cases decide (x % 16384 ≥ 8192) <;> rfl
 ·unfold sg; cases decide (x % 4194304 ≥ 2097152) <;> rfl
 ·unfold sg; cases decide (x % 4194304 ≥ 2097152) <;> rfl
 ·rfl
 ·rfl
theorem rtake_eq (gl : Gl) (x : Int) (h0 : 0 ≤ x) (h1 : x < 4294967296) : evF gl (HM3t formR cmay cmay wordN) 37 [.int .u32 x] = some (takeV x) := by
 rw [r_rtake]
 dsimp only
 have ho : IntKind.u8.wrap (IntKind.u32.wrap (x.tdiv 67108864)) = oN x := by
  rw [tdivE h0, wrap_u32 (by omega) (by omega), wrap_u8 (by omega) (by omega)]; rfl
 have ho0 : 0 ≤ oN x := by unfold oN; omega
 have d1 : decide (0 ≤ oN x) = true := decide_eq_true ho0
 have f1 : IntKind.i64.wrap ((IntKind.u32.wrap (x.tdiv 4194304)).tmod 16) = x / 4194304 % 16 := by
  rw [tdivE h0, wrap_u32 (by omega) (by omega), tmodE (by omega), wrap_64 (by omega) (by omega)]
 have f2 : IntKind.i64.wrap ((IntKind.u32.wrap (x.tdiv 262144)).tmod 16) = x / 262144 % 16 := by
  rw [tdivE h0, wrap_u32 (by omega) (by omega), tmodE (by omega), wrap_64 (by omega) (by omega)]
 have f3 : IntKind.i64.wrap ((IntKind.u32.wrap (x.tdiv 16384)).tmod 16) = x / 16384 % 16 := by
  rw [tdivE h0, wrap_u32 (by omega) (by omega), tmodE (by omega), wrap_64 (by omega) (by omega)]
 have t1 : x.tmod 16384 = x % 16384 := tmodE h0
 have t2 : x.tmod 4194304 = x % 4194304 := tmodE h0
 have m1 : IntKind.i64.wrap (x % 16384) = x % 16384 := wrap_64 (by omega) (by omega)
 have m2 : IntKind.i64.wrap (x % 4194304) = x % 4194304 := wrap_64 (by omega) (by omega)
 have m3 : IntKind.i64.wrap (x % 16384 - 16384) = x % 16384 - 16384 := wrap_64 (by omega) (by omega)
 have m4 : IntKind.i64.wrap (x % 4194304 - 4194304) = x % 4194304 - 4194304 := wrap_64 (by omega) (by omega)
 have hE : Value.tuple #[.agg #[.int .u8 0, .int .i64 0, .int .i64 0, .int .i64 0, .int .i64 0], .int .i64 6] = errTk := rfl
 have hV : ∀ op a b c n, Value.tuple #[.agg #[.int .u8 op, .int .i64 a, .int .i64 b, .int .i64 c, .int .i64 n], .int .i64 0] = .tuple #[cdV op a b c n, .int .i64 0] := fun _ _ _ _ _ => rfl
 simp only [ho, f1, f2, f3, t1, t2, m1, m2, m3, m4, hE, hV, tk_r ho0]
 rw [d1, cond_true]
 by_cases h : oN x < 22
 case neg =>
  rw [formR_ge h, take_bad h]
  exact congrArg some (tk_bad h)
 rw [formR_lt h]
 unfold takeV
 rcases form_cases ho0 h with e | e | e | e | e | e | e <;> rw [e]
 ·rfl
 ·rfl
 ·unfold sg; cases decide (x % 16384 ≥ 8192) <;> rfl
 ·unfold sg; cases decide (x % 4194304 ≥ 2097152) <;> rfl
 ·unfold sg; cases decide (x % 4194304 ≥ 2097152) <;> rfl
 ·rfl
 ·rfl
end Go.Proofs.YtgohbcbdgakjeaaGreatDoor
noncomputable section
namespace Go.Proofs.YtgohbcbdgakjeaaGreatDoor
open Go.Proofs.YtgohbcbdgakjeaaGreatDoor.Ev Go.RowKit
abbrev Low (gl : Gl) : Prop := ∀ g k v, gl g k = some v → g < 1000 ∧ lowV 8 v = true
theorem fnCd {gl : Gl} (hF : GlF gl) (hgl : Low gl) {H : Hs} (hH : H.OK Tryz.prog gl) {f : FuncId} {gg : C5 Bool} {vv : C5 Value} (h : ∀ op a b c n, 0 ≤ op → gg op a b c n = true → evF gl H f [cdV op a b c n] = some (vv op a b c n)) : FnOK Tryz.prog gl f (afCd gg vv) :=
 fn_of (syF_ok hF) goodB hgl tglob hH (L := 100) (G := 40) (d := 40) fun args σ v e => by
  unfold afCd at e
  split at e
  ·rename_i op a b c n
   simp only [Option.some.injEq, Prod.mk.injEq, Bool.and_eq_true, decide_eq_true_eq] at e
   obtain ⟨⟨h1, h2⟩, rfl⟩ := e
   exact ⟨rfl, h op a b c n h1 h2⟩
  ·cases e
theorem fn_form {gl : Gl} (hF : GlF gl) (hgl : Low gl) : FnOK Tryz.prog gl 66 (afForm formR) :=
 fn_of (syF_ok hF) goodB hgl tglob HB0_ok (L := 100) (G := 40) (d := 40) fun args σ v e => by
  unfold afForm at e
  split at e
  ·rename_i op
   simp only [Option.some.injEq, Prod.mk.injEq, decide_eq_true_eq] at e
   obtain ⟨h1, rfl⟩ := e
   exact ⟨rfl, form_eq gl op h1⟩
  ·cases e
theorem fn_cmay {gl : Gl} (hF : GlF gl) (hgl : Low gl) : FnOK Tryz.prog gl 53 (afCd tt5 (i5 .i64 cmayI)) := fnCd hF hgl HB0_ok fun op a b c n h _ => cmay_eq gl op a b c n h
def putV : C5 Value := fun op a b c n => .tuple #[.int .u32 (putN op a b c n), .int .i64 (cmayI op a b c n)]
def mayV : C5 Value := fun op a b c n => .bool (cmay op a b c n)
theorem one_ok {gl : Gl} {a : List (FuncId × AF)} (h : ∀ p ∈ a, FnOK Tryz.prog gl p.1 p.2) : (hsOf a [] []).OK Tryz.prog gl := hsOf_ok h (fun _ h => by cases h) (fun _ h => by cases h)
theorem HM3_ok {gl : Gl} (hF : GlF gl) (hgl : Low gl) : (HM3 cmayI).OK Tryz.prog gl := one_ok fun p hp => by
 simp only [List.mem_cons, List.not_mem_nil, or_false] at hp
 subst hp
 exact fn_cmay hF hgl
theorem fn_cput {gl : Gl} (hF : GlF gl) (hgl : Low gl) : FnOK Tryz.prog gl 31 (afCd tt5 putV) := fnCd hF hgl (HM3_ok hF hgl) fun op a b c n h _ => cput_eq gl op a b c n h
theorem HM3r_ok {gl : Gl} (hF : GlF gl) (hgl : Low gl) : (HM3r formR).OK Tryz.prog gl := one_ok fun p hp => by
 simp only [List.mem_cons, List.not_mem_nil, or_false] at hp
 subst hp
 exact fn_form hF hgl
theorem fn_rmay {gl : Gl} (hF : GlF gl) (hgl : Low gl) : FnOK Tryz.prog gl 64 (afCd tt5 mayV) := fnCd hF hgl (HM3r_ok hF hgl) fun op a b c n h _ => rmay_eq gl op a b c n h
theorem fn_rword {gl : Gl} (hF : GlF gl) (hgl : Low gl) : FnOK Tryz.prog gl 65 (afCd cmay (i5 .u32 wordN)) := fnCd hF hgl (HM3r_ok hF hgl) fun op a b c n _ h => rword_eq gl op a b c n h
theorem HM3p_ok {gl : Gl} (hF : GlF gl) (hgl : Low gl) : (HM3p putN cmayI).OK Tryz.prog gl := one_ok fun p hp => by
 simp only [List.mem_cons, List.not_mem_nil, or_false] at hp
 subst hp
 exact fn_cput hF hgl
theorem HM3t_ok {gl : Gl} (hF : GlF gl) (hgl : Low gl) : (HM3t formR cmay cmay wordN).OK Tryz.prog gl := one_ok fun p hp => by
 simp only [List.mem_cons, List.not_mem_nil, or_false] at hp
 rcases hp with rfl | rfl | rfl
 ·exact fn_form hF hgl
 ·exact fn_rmay hF hgl
 ·exact fn_rword hF hgl
def afTake (tk : Int → Value) : AF := fun args _ => match args with
 | [.int .u32 x] => some (decide (0 ≤ x) && decide (x < 4294967296), tk x)
 | _ => none
theorem fnTake {gl : Gl} (hF : GlF gl) (hgl : Low gl) {H : Hs} (hH : H.OK Tryz.prog gl) {f : FuncId} {tk : Int → Value} (h : ∀ x, 0 ≤ x → x < 4294967296 → evF gl H f [.int .u32 x] = some (tk x)) : FnOK Tryz.prog gl f (afTake tk) :=
 fn_of (syF_ok hF) goodB hgl tglob hH (L := 100) (G := 40) (d := 40) fun args σ v e => by
  unfold afTake at e
  split at e
  ·rename_i x
   simp only [Option.some.injEq, Prod.mk.injEq, Bool.and_eq_true, decide_eq_true_eq] at e
   obtain ⟨⟨h1, h2⟩, rfl⟩ := e
   exact ⟨rfl, h x h1 h2⟩
  ·cases e
theorem fn_ctake {gl : Gl} (hF : GlF gl) (hgl : Low gl) : FnOK Tryz.prog gl 32 (afTake takeV) := fnTake hF hgl (HM3p_ok hF hgl) fun x => ctake_eq gl x
theorem fn_rtake {gl : Gl} (hF : GlF gl) (hgl : Low gl) : FnOK Tryz.prog gl 37 (afTake takeV) := fnTake hF hgl (HM3t_ok hF hgl) fun x => rtake_eq gl x
end Go.Proofs.YtgohbcbdgakjeaaGreatDoor
noncomputable section
namespace Go.Proofs.YtgohbcbdgakjeaaGreatDoor
open Go.Proofs.YtgohbcbdgakjeaaGreatDoor.Ev Go.RowKit
def afDig (p : Int → Bool) (it : Int → ByteArray) : AF := fun args _ => match args with
 | [.int .i64 n] => some (p n, .string (it n))
 | _ => none
def HDg (p : Int → Bool) (it : Int → ByteArray) : Hs := hsOf [(22, afDig p it)] [] []
noncomputable abbrev bodyF (gl : Gl) (H : Hs) (f : FuncId) (args : List Value) : Option Value := funSK noSy Tryz.prog gl exB 100 40 (H.hl f) (callS Tryz.prog gl exB H 100 40 40) (callSK noSy Tryz.prog gl exB H 100 40 40) f args LS.start flatR
set_option maxRecDepth 100000 in
theorem r_dig (gl : Gl) (p : Int → Bool) (it : Int → ByteArray) (n : Int) : bodyF gl (HDg p it) 22 [.int .i64 n] =
 let z0 := IntKind.i64.wrap (n.tdiv 10)
 let z1 := IntKind.i64.wrap (0 - n)
 cond (decide (n < 0)) (
 cond (p z1) (
 cond ((1 + (it z1).size).ble 9223372036854775807) (
 some (.string ((⟨#[45]⟩ : ByteArray) ++ it z1))) (
 none)) (
 none)) (
 cond (decide (n < 10)) (
 some (.string ({ data := #[UInt8.ofNat (IntKind.u8.wrap (IntKind.i64.wrap (48 + n))).toNat] }))) (
 cond (p z0) (
 cond (p (n.tmod 10)) (
 cond (((it z0).size + (it (n.tmod 10)).size).ble 9223372036854775807) (
 some (.string (it z0 ++ it (n.tmod 10)))) (
 none)) (
 none)) (
 none))) := by kernel_rfl
theorem itoa_small {n : Int} (h0 : 0 ≤ n) (h1 : n < 10) : itoaB n = (⟨#[UInt8.ofNat (48 + n.toNat)]⟩ : ByteArray) := by
 rw [itoaB_pos h0]; unfold decB; rw [Lib.decDigits_one (by omega)]
theorem itoa_big {n : Int} (h : 10 ≤ n) : itoaB n = itoaB (n / 10) ++ itoaB (n % 10) := by
 rw [itoaB_pos (by omega), itoaB_pos (by omega), itoaB_pos (by omega)]
 have e1 : (n / 10).toNat = n.toNat / 10 := by omega
 have e2 : (n % 10).toNat = n.toNat % 10 := by omega
 unfold decB
 rw [e1, e2, Lib.decDigits, dif_neg (by omega), Lib.decDigits_one (i := n.toNat % 10) (by omega)]
 apply ByteArray.ext
 simp [ByteArray.data_append]
theorem itoa_minus {n : Int} (h : n < 0) : itoaB n = (⟨#[45]⟩ : ByteArray) ++ itoaB (0 - n) := by
 rw [itoaB_neg h, itoaB_pos (by omega)]
 congr 2
 omega
theorem decB_le {n : Nat} (h : n < 18446744073709551616) : (decB n).size ≤ 20 := by
 have : (decB n).size = (Lib.decDigits n).length := by unfold decB; simp [ByteArray.size]
 rw [this, Lib.decDigits_length]
 exact Lib.nDigits_le20 n (by omega)
theorem itoa_size {n : Int} (h0 : -9223372036854775808 ≤ n) (h1 : n ≤ 9223372036854775807) : (itoaB n).size ≤ 21 := by
 by_cases h : n < 0
 ·rw [itoaB_neg h, ByteArray.size_append]
  have := decB_le (n := n.natAbs) (by omega)
  have e : (⟨#[45]⟩ : ByteArray).size = 1 := rfl
  omega
 ·rw [itoaB_pos (by omega)]
  have := decB_le (n := n.toNat) (by omega)
  omega
def below (N : Nat) : Int → Bool := fun n => decide (0 ≤ n) && decide (n < (N : Int))
theorem dig_nat {gl : Gl} (hgl : Low gl) : ∀ N : Nat, N ≤ 9223372036854775808 → FnOK Tryz.prog gl 22 (afDig (below N) itoaB)
 | 0, _ => FnOK.flat hgl tglob fun args σ v h => by
  unfold afDig at h
  split at h
  ·rename_i n
   simp only [Option.some.injEq, Prod.mk.injEq, below, Bool.and_eq_true, decide_eq_true_eq] at h
   omega
  ·cases h
 | N + 1, hN => FnOK.flat hgl tglob fun args σ v h => by
  have ih := dig_nat hgl N (by omega)
  have hH : (HDg (below N) itoaB).OK Tryz.prog gl := one_ok fun p hp => by
   simp only [List.mem_cons, List.not_mem_nil, or_false] at hp
   subst hp
   exact ih
  unfold afDig at h
  split at h
  ·rename_i n
   simp only [Option.some.injEq, Prod.mk.injEq, below, Bool.and_eq_true, decide_eq_true_eq] at h
   obtain ⟨⟨h0, h1⟩, rfl⟩ := h
   refine ⟨rfl, rfl, fun w hw => flatB noSy_ok goodB hgl tglob hH (L := 100) (G := 40) (d := 40) rfl ?_ hw⟩
   show bodyF gl (HDg (below N) itoaB) 22 [.int .i64 n] = _
   rw [r_dig, decide_eq_false (show ¬ n < 0 by omega), cond_false]
   by_cases hs : n < 10
   ·rw [decide_eq_true hs, cond_true, itoa_small h0 hs]
    have e : (IntKind.u8.wrap (IntKind.i64.wrap (48 + n))).toNat = 48 + n.toNat := by
     rw [wrap_64 (by omega) (by omega), wrap_u8 (by omega) (by omega)]; omega
    rw [e]
   ·rw [decide_eq_false hs, cond_false, tdivE h0, tmodE h0, wrap_64 (by omega) (by omega)]
    have q1 := itoa_size (n := n / 10) (by omega) (by omega)
    have q2 := itoa_size (n := n % 10) (by omega) (by omega)
    refine condI (by unfold below; rw [decide_eq_true (by omega), decide_eq_true (by omega)]; rfl) (condI (by unfold below; rw [decide_eq_true (by omega), decide_eq_true (by omega)]; rfl) (condI (nble (by omega)) ?_))
    rw [← itoa_big (by omega)]
  ·cases h
def smallN : Int → Bool := fun n => decide (-4294967296 ≤ n) && decide (n ≤ 4294967296)
theorem fn_dig {gl : Gl} (hgl : Low gl) : FnOK Tryz.prog gl 22 (afDig smallN itoaB) := FnOK.flat hgl tglob fun args σ v h => by
  have ih := dig_nat hgl 4294967297 (by omega)
  have hH : (HDg (below 4294967297) itoaB).OK Tryz.prog gl := one_ok fun p hp => by
   simp only [List.mem_cons, List.not_mem_nil, or_false] at hp
   subst hp
   exact ih
  unfold afDig at h
  split at h
  ·rename_i n
   simp only [Option.some.injEq, Prod.mk.injEq, smallN, Bool.and_eq_true, decide_eq_true_eq] at h
   obtain ⟨⟨h0, h1⟩, rfl⟩ := h
   refine ⟨rfl, rfl, fun w hw => flatB noSy_ok goodB hgl tglob hH (L := 100) (G := 40) (d := 40) rfl ?_ hw⟩
   show bodyF gl (HDg (below 4294967297) itoaB) 22 [.int .i64 n] = _
   rw [r_dig]
   dsimp only
   by_cases hneg : n < 0
   ·rw [decide_eq_true hneg, cond_true, wrap_64 (by omega) (by omega)]
    have q1 := itoa_size (n := 0 - n) (by omega) (by omega)
    refine condI (by unfold below; rw [decide_eq_true (by omega), decide_eq_true (by omega)]; rfl) (condI (nble (by omega)) ?_)
    rw [← itoa_minus hneg]
   rw [decide_eq_false hneg, cond_false]
   by_cases hs : n < 10
   ·rw [decide_eq_true hs, cond_true, itoa_small (by omega) hs]
    have e : (IntKind.u8.wrap (IntKind.i64.wrap (48 + n))).toNat = 48 + n.toNat := by
     rw [wrap_64 (by omega) (by omega), wrap_u8 (by omega) (by omega)]; omega
    rw [e]
   ·rw [decide_eq_false hs, cond_false, tdivE (by omega), tmodE (by omega), wrap_64 (by omega) (by omega)]
    have q1 := itoa_size (n := n / 10) (by omega) (by omega)
    have q2 := itoa_size (n := n % 10) (by omega) (by omega)
    refine condI (by unfold below; rw [decide_eq_true (by omega), decide_eq_true (by omega)]; rfl) (condI (by unfold below; rw [decide_eq_true (by omega), decide_eq_true (by omega)]; rfl) (condI (nble (by omega)) ?_))
    rw [← itoa_big (by omega)]
  ·cases h
end Go.Proofs.YtgohbcbdgakjeaaGreatDoor
noncomputable section
namespace Go.Proofs.YtgohbcbdgakjeaaGreatDoor
open Go.Proofs.YtgohbcbdgakjeaaGreatDoor.Ev Go.RowKit
def joinB (sep : ByteArray) : List ByteArray → ByteArray
 | [] => .empty
 | [x] => x
 | x :: y :: l => x ++ sep ++ joinB sep (y :: l)
theorem joinB_spec (sep : ByteArray) : ∀ l : List ByteArray, (joinB sep l).data.toList = Lib.join (l.map (·.data.toList)) sep.data.toList
 | [] => rfl
 | [x] => by simp [joinB, Lib.join_one]
 | x :: y :: l => by
  have ih := joinB_spec sep (y :: l)
  unfold Lib.join at ih ⊢
  rw [List.map_cons] at ih
  rw [List.map_cons, List.map_cons, List.intercalate_cons_cons, ← ih]
  simp [joinB, ByteArray.data_append]
def afJoin : AF := fun args σ => match args with
 | [.slice (some a) n c, .string sep] => (match σ.heap.get a.block with
  | some (.row b) => (strsOf ((b.cells.drop a.off).take n)).bind fun xs => cond (Nat.beq xs.length n && Nat.ble 1 n && Nat.ble n c && Nat.ble n 1000) (some (Nat.ble (joinB sep xs).size 140737488355328, .string (joinB sep xs))) none
  | _ => none)
 | _ => none
theorem fn_join {gl : Gl} : FnOK Tryz.prog gl 40 afJoin := by
 intro args σ c v hk hc φ w args' hr hl
 subst hc
 unfold afJoin at hk
 split at hk
 ·rename_i a n cc sep
  split at hk
  ·rename_i b hb
   obtain ⟨xs, h1, h2⟩ := Option.bind_eq_some_iff.1 hk
   rw [Bool.cond_eq_ite] at h2
   split at h2
   case isFalse => cases h2
   rename_i hcnd
   simp only [Bool.and_eq_true] at hcnd
   simp only [Option.some.injEq, Prod.mk.injEq] at h2
   obtain ⟨⟨⟨g1, g2⟩, g3⟩, g4⟩ := hcnd
   obtain ⟨g5, rfl⟩ := h2
   have g1 := Nat.eq_of_beq_eq_true g1
   have g2 := Nat.le_of_ble_eq_true g2
   have g3 := Nat.le_of_ble_eq_true g3
   have g4 := Nat.le_of_ble_eq_true g4
   have g5 := Nat.le_of_ble_eq_true g5
   subst g1
   have hcells := strsOf_spec h1
   obtain ⟨hlen, hl⟩ := hl
   obtain ⟨x0, x1, e⟩ : ∃ x0 x1, args'.toList = [x0, x1] := by
    match hq : args'.toList, hlen with
    | [x0, x1], _ => exact ⟨x0, x1, rfl⟩
   have v0 := hl 0 _ x0 rfl (by rw [e]; rfl)
   have v1 := hl 1 _ x1 rfl (by rw [e]; rfl)
   cases v1
   cases v0 with
   | slice _ a' _ _ c' hs =>
    obtain ⟨s1, s2, r, s3, s4, s5, s6⟩ := hs
    obtain ⟨r', x, hr1, hr2, hr3⟩ := hr.live a.block _ hb
    rw [s3] at hr1; cases hr1
    obtain ⟨cl, fz', rfl, hcl, hcap⟩ := hr3
    have hoff : a'.off = a.off ∧ cc ≤ c' := by
     cases hrc : r.cap with
     | none => obtain ⟨h, h'⟩ := s5 hrc; exact ⟨h, by omega⟩
     | some q =>
      obtain ⟨S, z⟩ := q
      obtain ⟨h, h', _⟩ := s6 S z hrc
      exact ⟨h' (by omega), h⟩
    obtain ⟨blk, off, spot⟩ := a'
    simp only at s2 s4 hoff
    obtain ⟨rfl, hcc⟩ := hoff
    subst s2
    subst s4
    have e : args' = #[.slice (some ⟨r.blk, a.off, none⟩) xs.length c', .string sep] := by rw [← Array.toArray_toList (xs := args'), e]
    subst e
    refine Calls.mono (Tryz.strings_Join r.blk a.off c' xs sep w ?_ (hr.bound _ _ s3) (by omega) (by omega) ?_) ?_
    ·intro j y hj
     have h3 : ((b.cells.drop a.off).take xs.length)[j]? = some (.string y) := by rw [hcells, List.getElem?_map, hj]; rfl
     have hjl : j < xs.length := (List.getElem?_eq_some_iff.1 hj).1
     rw [List.getElem?_take_of_lt hjl, List.getElem?_drop] at h3
     obtain ⟨v', h4, h5⟩ := hcl _ _ h3
     cases h5
     unfold World.cell?
     simp only [hr2]
     simpa using h4
    ·rw [← joinB_spec, Array.length_toList]; exact g5
    ·rintro e w1 ⟨rfl, hb⟩
     refine ⟨_, rfl, ?_, hb⟩
     have : (⟨(Lib.join (xs.map (·.data.toList)) sep.data.toList).toArray⟩ : ByteArray) = joinB sep xs := by rw [← joinB_spec]
     rw [this]
     exact .string _
  ·cases hk
 ·cases hk
end Go.Proofs.YtgohbcbdgakjeaaGreatDoor
noncomputable section
namespace Go.Proofs.YtgohbcbdgakjeaaGreatDoor
open Go.Proofs.YtgohbcbdgakjeaaGreatDoor.Ev Go.RowKit
abbrev GlP (gl : Gl) : Prop := ∀ (i : Nat) z, Lib.pow10Tab[i]? = some z → gl 2 i = some (.int .u64 z)
end Go.Proofs.YtgohbcbdgakjeaaGreatDoor
