/- Decimal numbers and strings.Join, of at most a thousand texts. -/
import Derived.Test.YtgohnfkidkomhaaDoorK1
noncomputable section
noncomputable section
namespace Go.Proofs.YtgohnfkidkomhaaDoor
open Go.Proofs.YtgohnfkidkomhaaDoor.Ev Go.RowKit

/-! Instructions: their forms. -/
def formsL : List Int := [0, 1, 1, 1, 1, 1, 1, 1, 2, 2, 2, 1, 3, 2, 2, 2, 4, 4, 0, 5, 6, 0]
def symI (zs : List Int) : Sym := ⟨zs.map (Value.int .i64), fun _ o => nthI zs o, fun _ => ByteArray.empty, fun k o => decide (k = .i64) && Nat.ble (o + 1) zs.length, fun _ => false⟩
theorem symI_of {zs : List Int} {f : Nat → Option Value} (h : ∀ (i : Nat) z, zs[i]? = some z → f i = some (.int .i64 z)) : (symI zs).Of f where
  int := fun k o h1 => by
    simp only [symI, Bool.and_eq_true, decide_eq_true_eq] at h1 ⊢
    obtain ⟨rfl, h2⟩ := h1
    have h2 := Nat.le_of_ble_eq_true h2
    exact h o _ (nthI_get h2)
  str := fun o h1 => by cases h1
def syF : Sy := fun i => cond (Nat.beq i 0) (some (symI formsL)) none
def GlF (gl : Gl) : Prop := ∀ (i : Nat) z, formsL[i]? = some z → gl 0 i = some (.int .i64 z)
theorem syF_ok {gl : Gl} (h : GlF gl) : SyOK gl syF := fun i S e => by
  unfold syF at e
  rw [Bool.cond_eq_ite] at e
  split at e
  · rename_i q
    cases e
    rw [nbeq] at q
    subst q
    exact ⟨fun hl => by omega, fun _ => symI_of h⟩
  · cases e
def cdV (op a b c n : Int) : Value := .agg #[.int .u8 op, .int .i64 a, .int .i64 b, .int .i64 c, .int .i64 n]
noncomputable abbrev evF (gl : Gl) (H : Hs) (f : FuncId) (args : List Value) : Option Value := callSK syF Tryd.prog gl exB H 100 40 40 (.fn f) args LS.start flatR
set_option maxRecDepth 100000 in
theorem r_cmay (gl : Gl) (op a b c n : Int) : evF gl HB0 88 [cdV op a b c n] =
 cond (decide (op ≥ 22)) (
 some (.int .i64 2)) (
 cond (decide (0 ≤ op) && (decide (op < 22))) (
 cond ((symI formsL).okI .i64 (0 + op.toNat * 1)) (
 cond ((symI formsL).int .i64 (0 + op.toNat * 1) == 1) (
 qs [c, c, c, b, b, a] (
 cond (decide (a ≥ 0)) (
 cond (decide (a < 16)) (
 cond (decide (b ≥ 0)) (
 cond (decide (b < 16)) (
 cond (decide (c ≥ 0)) (
 cond (decide (c < 16)) (
 qs [c, b, a, op, a, b, c, op, a, b, c, op, a, b, c, op, a, b, c, op, a, b, c] (
 cond (!(op == op && (a == a && (b == b && (c == c && (0 == n && true)))))) (
 some (.int .i64 2)) (
 some (.int .i64 0)))) (
 qs [c, b, a, op, a, b, c, op, a, b, c, op, a, b, c, op, a, b, c, op, a, b, c] (
 some (.int .i64 2)))) (
 qs [c, b, a, op, a, b, c, op, a, b, c, op, a, b, c, op, a, b, c, op, a, b, c] (
 some (.int .i64 2)))) (
 qs [b, a, op, a, b, c, op, a, b, c, op, a, b, c, op, a, b, c, op, a, b, c] (
 some (.int .i64 2)))) (
 qs [b, a, op, a, b, c, op, a, b, c, op, a, b, c, op, a, b, c, op, a, b, c] (
 some (.int .i64 2)))) (
 qs [a, op, a, b, c, op, a, b, c, op, a, b, c, op, a, b, c, op, a, b, c] (
 some (.int .i64 2)))) (
 qs [a, op, a, b, c, op, a, b, c, op, a, b, c, op, a, b, c, op, a, b, c] (
 some (.int .i64 2))))) (
 cond ((symI formsL).int .i64 (0 + op.toNat * 1) == 2) (
 qs [n, n, n, b, b, a] (
 cond (decide (a ≥ 0)) (
 cond (decide (a < 16)) (
 cond (decide (b ≥ 0)) (
 cond (decide (b < 16)) (
 cond (decide (n ≥ -8192)) (
 cond (decide (n < 8192)) (
 qs [n, b, a, op, a, b, n, op, a, b, n, op, a, b, n, op, a, b, n] (
 cond (!(op == op && (a == a && (b == b && (0 == c && (n == n && true)))))) (
 some (.int .i64 2)) (
 some (.int .i64 0)))) (
 qs [n, b, a, op, a, b, n, op, a, b, n, op, a, b, n, op, a, b, n] (
 some (.int .i64 2)))) (
 qs [n, b, a, op, a, b, n, op, a, b, n, op, a, b, n, op, a, b, n] (
 some (.int .i64 2)))) (
 qs [b, a, op, a, b, n, op, a, b, n, op, a, b, n, op, a, b, n] (
 some (.int .i64 2)))) (
 qs [b, a, op, a, b, n, op, a, b, n, op, a, b, n, op, a, b, n] (
 some (.int .i64 2)))) (
 qs [a, op, a, b, n, op, a, b, n, op, a, b, n, op, a, b, n] (
 some (.int .i64 2)))) (
 qs [a, op, a, b, n, op, a, b, n, op, a, b, n, op, a, b, n] (
 some (.int .i64 2))))) (
 cond ((symI formsL).int .i64 (0 + op.toNat * 1) == 3) (
 qs [n, n, a] (
 cond (decide (a ≥ 0)) (
 cond (decide (a < 16)) (
 cond (decide (n ≥ -2097152)) (
 cond (decide (n < 2097152)) (
 qs [n, a, op, a, n, op, a, n, op, a, n, op, a, n, op, a, n] (
 cond (!(op == op && (a == a && (0 == b && (0 == c && (n == n && true)))))) (
 some (.int .i64 2)) (
 some (.int .i64 0)))) (
 qs [n, a, op, a, n, op, a, n, op, a, n, op, a, n, op, a, n] (
 some (.int .i64 2)))) (
 qs [n, a, op, a, n, op, a, n, op, a, n, op, a, n, op, a, n] (
 some (.int .i64 2)))) (
 qs [a, op, a, n, op, a, n, op, a, n, op, a, n, op, a, n] (
 some (.int .i64 2)))) (
 qs [a, op, a, n, op, a, n, op, a, n, op, a, n, op, a, n] (
 some (.int .i64 2))))) (
 cond ((symI formsL).int .i64 (0 + op.toNat * 1) == 4) (
 cond (decide (n ≥ -2097152)) (
 cond (decide (n < 2097152)) (
 qs [n, op, n, op, n, op, n, op, n, op, n] (
 cond (!(op == op && (0 == a && (0 == b && (0 == c && (n == n && true)))))) (
 some (.int .i64 2)) (
 some (.int .i64 0)))) (
 qs [n, op, n, op, n, op, n, op, n, op, n] (
 some (.int .i64 2)))) (
 qs [n, op, n, op, n, op, n, op, n, op, n] (
 some (.int .i64 2)))) (
 cond ((symI formsL).int .i64 (0 + op.toNat * 1) == 5) (
 cond (decide (n ≥ 0)) (
 cond (decide (n ≤ 255)) (
 qs [n, n, n, op, n] (
 cond (!(op == op && (0 == a && (0 == b && (0 == c && (n == n && true)))))) (
 some (.int .i64 2)) (
 some (.int .i64 0)))) (
 qs [n, n, n, op, n] (
 some (.int .i64 2)))) (
 qs [n, op, n] (
 some (.int .i64 2)))) (
 cond ((symI formsL).int .i64 (0 + op.toNat * 1) == 6) (
 cond (decide (a ≥ 0)) (
 cond (decide (a < 16)) (
 qs [a, op, a, op, a, op, a, op, a, op, a] (
 cond (!(op == op && (a == a && (0 == b && (0 == c && (0 == n && true)))))) (
 some (.int .i64 2)) (
 some (.int .i64 0)))) (
 qs [a, op, a, op, a, op, a, op, a, op, a] (
 some (.int .i64 2)))) (
 qs [a, op, a, op, a, op, a, op, a, op, a] (
 some (.int .i64 2)))) (
 qs [op, op, op, op, op] (
 cond (!(op == op && (0 == a && (0 == b && (0 == c && (0 == n && true)))))) (
 some (.int .i64 2)) (
 some (.int .i64 0)))))))))) (
 none)) (
 none)) := by kernel_rfl
end Go.Proofs.YtgohnfkidkomhaaDoor

noncomputable section
namespace Go.Proofs.YtgohnfkidkomhaaDoor
open Go.Proofs.YtgohnfkidkomhaaDoor.Ev Go.RowKit

/-- The form of an instruction. -/
def formN (op : Int) : Int := nthI formsL op.toNat
/-- May an instruction be? -/
def cmay (op a b c n : Int) : Bool :=
  decide (0 ≤ op) && decide (op < 22) && (match formN op with
    | 1 => decide (a ≥ 0) && (decide (a < 16) && (decide (b ≥ 0) && (decide (b < 16) && (decide (c ≥ 0) && (decide (c < 16) && decide (0 = n))))))
    | 2 => decide (a ≥ 0) && (decide (a < 16) && (decide (b ≥ 0) && (decide (b < 16) && (decide (n ≥ -8192) && (decide (n < 8192) && decide (0 = c))))))
    | 3 => decide (a ≥ 0) && (decide (a < 16) && (decide (n ≥ -2097152) && (decide (n < 2097152) && (decide (0 = b) && decide (0 = c)))))
    | 4 => decide (n ≥ -2097152) && (decide (n < 2097152) && (decide (0 = a) && (decide (0 = b) && decide (0 = c))))
    | 5 => decide (n ≥ 0) && (decide (n ≤ 255) && (decide (0 = a) && (decide (0 = b) && decide (0 = c))))
    | 6 => decide (a ≥ 0) && (decide (a < 16) && (decide (0 = b) && (decide (0 = c) && decide (0 = n))))
    | _ => decide (0 = a) && (decide (0 = b) && (decide (0 = c) && decide (0 = n))))
theorem form_cases {op : Int} (h0 : 0 ≤ op) (h1 : op < 22) : formN op = 0 ∨ formN op = 1 ∨ formN op = 2 ∨ formN op = 3 ∨ formN op = 4 ∨ formN op = 5 ∨ formN op = 6 := by
  obtain ⟨k, rfl⟩ : ∃ k : Nat, op = (k : Int) := ⟨op.toNat, by omega⟩
  have : ∀ k : Fin 22, nthI formsL k.1 = 0 ∨ nthI formsL k.1 = 1 ∨ nthI formsL k.1 = 2 ∨ nthI formsL k.1 = 3 ∨ nthI formsL k.1 = 4 ∨ nthI formsL k.1 = 5 ∨ nthI formsL k.1 = 6 := by decide
  exact this ⟨k, by omega⟩
theorem beqI (a b : Int) : (a == b) = decide (a = b) := rfl
theorem cmay_eq (gl : Gl) (op a b c n : Int) (h0 : 0 ≤ op) : evF gl HB0 88 [cdV op a b c n] = some (.int .i64 (cond (cmay op a b c n) 0 2)) := by
  rw [r_cmay]
  by_cases h : op ≥ 22
  · rw [decide_eq_true h]
    unfold cmay
    rw [decide_eq_false (show ¬ op < 22 by omega), Bool.and_false, Bool.false_and]
    rfl
  have h1 : op < 22 := by omega
  have k0 : (symI formsL).okI .i64 (0 + op.toNat * 1) = true := by
    simp only [symI, decide_true, Bool.true_and]
    exact nble (by show _ ≤ 22; omega)
  have k1 : (symI formsL).int .i64 (0 + op.toNat * 1) = formN op := by
    show nthI formsL (0 + op.toNat * 1) = nthI formsL op.toNat
    rw [Nat.zero_add, Nat.mul_one]
  have hf := form_cases h0 h1
  unfold cmay
  simp only [decide_eq_false h, decide_eq_true h0, decide_eq_true h1, Bool.and_self, cond_true, cond_false, k0, k1, qs_eq, beqI, decide_true, Bool.true_and, Bool.and_true]
  generalize formN op = f at *
  rcases hf with e | e | e | e | e | e | e <;> subst e
  · cases decide (0 = a) <;> cases decide (0 = b) <;> cases decide (0 = c) <;> cases decide (0 = n) <;> rfl
  · cases decide (a ≥ 0) <;> cases decide (a < 16) <;> cases decide (b ≥ 0) <;> cases decide (b < 16) <;> cases decide (c ≥ 0) <;> cases decide (c < 16) <;> cases decide (0 = n) <;> rfl
  · cases decide (a ≥ 0) <;> cases decide (a < 16) <;> cases decide (b ≥ 0) <;> cases decide (b < 16) <;> cases decide (n ≥ -8192) <;> cases decide (n < 8192) <;> cases decide (0 = c) <;> rfl
  · cases decide (a ≥ 0) <;> cases decide (a < 16) <;> cases decide (n ≥ -2097152) <;> cases decide (n < 2097152) <;> cases decide (0 = b) <;> cases decide (0 = c) <;> rfl
  · cases decide (n ≥ -2097152) <;> cases decide (n < 2097152) <;> cases decide (0 = a) <;> cases decide (0 = b) <;> cases decide (0 = c) <;> rfl
  · cases decide (n ≥ 0) <;> cases decide (n ≤ 255) <;> cases decide (0 = a) <;> cases decide (0 = b) <;> cases decide (0 = c) <;> rfl
  · cases decide (a ≥ 0) <;> cases decide (a < 16) <;> cases decide (0 = b) <;> cases decide (0 = c) <;> cases decide (0 = n) <;> rfl
end Go.Proofs.YtgohnfkidkomhaaDoor

noncomputable section
namespace Go.Proofs.YtgohnfkidkomhaaDoor
open Go.Proofs.YtgohnfkidkomhaaDoor.Ev Go.RowKit

/-! Instructions and words. -/
abbrev C5 (α : Type) := Int → Int → Int → Int → Int → α
def afCd (gg : C5 Bool) (vv : C5 Value) : AF := fun args _ => match args with
  | [.agg ⟨[.int .u8 op, .int .i64 a, .int .i64 b, .int .i64 c, .int .i64 n]⟩] => some (decide (0 ≤ op) && gg op a b c n, vv op a b c n)
  | _ => none
def tt5 : C5 Bool := fun _ _ _ _ _ => true
def i5 (k : IntKind) (m : C5 Int) : C5 Value := fun op a b c n => .int k (m op a b c n)
def HM3 (mm : C5 Int) : Hs := hsOf [(88, afCd tt5 (i5 .i64 mm))] [] []
set_option maxRecDepth 100000 in
theorem r_cput (gl : Gl) (mm : C5 Int) (op a b c n : Int) : evF gl (HM3 mm) 79 [cdV op a b c n] =
 cond (decide (0 ≤ op) && true) (
 cond (mm op a b c n != 0) (
 some (.tuple #[(.int .u32 0), (.int .i64 (mm op a b c n))])) (
 cond (decide (0 ≤ op) && (decide (op < 22))) (
 cond ((symI formsL).okI .i64 (0 + op.toNat * 1)) (
 cond ((symI formsL).int .i64 (0 + op.toNat * 1) == 2) (
 some (.tuple #[(.int .u32 (IntKind.u32.wrap (↑(BitVec.ofInt 32 (IntKind.u32.wrap (↑(BitVec.ofInt 32 (IntKind.u32.wrap (↑(BitVec.ofInt 32 (IntKind.u32.wrap (↑(BitVec.ofInt 32 (IntKind.u32.wrap (IntKind.u32.wrap op * 67108864)) ||| BitVec.ofInt 32 (IntKind.u32.wrap (IntKind.u32.wrap a * 4194304))).toNat : Int)) ||| BitVec.ofInt 32 (IntKind.u32.wrap (IntKind.u32.wrap b * 262144))).toNat : Int)) ||| BitVec.ofInt 32 (IntKind.u32.wrap (IntKind.u32.wrap c * 16384))).toNat : Int)) ||| BitVec.ofInt 32 (IntKind.u32.wrap (↑(BitVec.ofInt 32 (IntKind.u32.wrap n) &&& BitVec.ofInt 32 16383).toNat : Int))).toNat : Int))), (.int .i64 0)])) (
 some (.tuple #[(.int .u32 (IntKind.u32.wrap (↑(BitVec.ofInt 32 (IntKind.u32.wrap (↑(BitVec.ofInt 32 (IntKind.u32.wrap (↑(BitVec.ofInt 32 (IntKind.u32.wrap (↑(BitVec.ofInt 32 (IntKind.u32.wrap (IntKind.u32.wrap op * 67108864)) ||| BitVec.ofInt 32 (IntKind.u32.wrap (IntKind.u32.wrap a * 4194304))).toNat : Int)) ||| BitVec.ofInt 32 (IntKind.u32.wrap (IntKind.u32.wrap b * 262144))).toNat : Int)) ||| BitVec.ofInt 32 (IntKind.u32.wrap (IntKind.u32.wrap c * 16384))).toNat : Int)) ||| BitVec.ofInt 32 (IntKind.u32.wrap (↑(BitVec.ofInt 32 (IntKind.u32.wrap n) &&& BitVec.ofInt 32 4194303).toNat : Int))).toNat : Int))), (.int .i64 0)]))) (
 none)) (
 none))) (
 none) := by kernel_rfl
end Go.Proofs.YtgohnfkidkomhaaDoor

noncomputable section
namespace Go.Proofs.YtgohnfkidkomhaaDoor
open Go.Proofs.YtgohnfkidkomhaaDoor.Ev Go.RowKit

/-! Instructions and words: the numbers. -/
theorem wrap_u32 {x : Int} (h0 : 0 ≤ x) (h1 : x < 4294967296) : IntKind.u32.wrap x = x := by
  simp [IntKind.wrap, IntKind.bits, IntKind.signed]; omega
theorem wrap_64 {x : Int} (h0 : -9223372036854775808 ≤ x) (h1 : x < 9223372036854775808) : IntKind.i64.wrap x = x := by
  simp [IntKind.wrap, IntKind.bits, IntKind.signed]; omega
theorem bv_toNat {x : Int} (h0 : 0 ≤ x) (h1 : x < 4294967296) : (BitVec.ofInt 32 x).toNat = x.toNat := by
  rw [BitVec.toNat_ofInt]
  have : (x % ((2 ^ 32 : Nat) : Int)) = x := by
    apply Int.emod_eq_of_lt h0
    simpa using h1
  rw [this]
theorem and_u32 {x : Int} (h0 : 0 ≤ x) (h1 : x < 4294967296) (k : Nat) (hk : k < 32) : IntKind.u32.wrap (↑(BitVec.ofInt 32 x &&& BitVec.ofInt 32 (2 ^ k - 1)).toNat : Int) = x % 2 ^ k := by
  have h2 : (1 : Int) ≤ 2 ^ k := by have := Int.pow_pos (n := 2) (m := k) (by decide); omega
  have h3 : (2 : Int) ^ k ≤ 2 ^ 31 := by
    have := Nat.pow_le_pow_right (n := 2) (by decide) (show k ≤ 31 by omega)
    exact_mod_cast this
  rw [BitVec.toNat_and, bv_toNat h0 h1, bv_toNat (by omega) (by omega)]
  have e : ((2 : Int) ^ k - 1).toNat = 2 ^ k - 1 := by
    have : ((2 : Int) ^ k) = ((2 ^ k : Nat) : Int) := by push_cast; rfl
    rw [this]
    omega
  rw [e, Nat.and_two_pow_sub_one_eq_mod]
  have hx : x = (x.toNat : Int) := by omega
  rw [hx]
  simp only [Int.toNat_natCast]
  have e2 : ((x.toNat % 2 ^ k : Nat) : Int) = (x.toNat : Int) % 2 ^ k := by push_cast; rfl
  rw [e2]
  apply wrap_u32
  · exact Int.emod_nonneg _ (by omega)
  · have := Int.emod_lt_of_pos (x.toNat : Int) (b := 2 ^ k) (by omega)
    omega
theorem or_u32 {a b : Int} (k : Nat) (ha : 0 ≤ a) (hb : 0 ≤ b) (hb2 : b < 2 ^ k) (h1 : 2 ^ k * a + b < 4294967296) : IntKind.u32.wrap (↑(BitVec.ofInt 32 (2 ^ k * a) ||| BitVec.ofInt 32 b).toNat : Int) = 2 ^ k * a + b := by
  obtain ⟨a, rfl⟩ := Int.eq_ofNat_of_zero_le ha
  obtain ⟨b, rfl⟩ := Int.eq_ofNat_of_zero_le hb
  have e : (2 : Int) ^ k * (a : Int) = ((2 ^ k * a : Nat) : Int) := by push_cast; rfl
  have e2 : ((2 : Int) ^ k) = ((2 ^ k : Nat) : Int) := by push_cast; rfl
  rw [e] at h1 ⊢
  rw [e2] at hb2
  rw [BitVec.toNat_or, bv_toNat (by omega) (by omega), bv_toNat hb (by omega), Int.toNat_natCast, Int.toNat_natCast, ← Nat.two_pow_add_eq_or_of_lt (by omega)]
  rw [wrap_u32 (by omega) (by omega)]
  push_cast
  rfl
end Go.Proofs.YtgohnfkidkomhaaDoor

noncomputable section
namespace Go.Proofs.YtgohnfkidkomhaaDoor
open Go.Proofs.YtgohnfkidkomhaaDoor.Ev Go.RowKit

/-! Instructions and words: told, and taken. -/
def wordN : C5 Int := fun op a b c n => (((op * 16 + a) * 16 + b) * 16 + c) * 16384 + (if n < 0 then (if formN op = 2 then n + 16384 else n + 4194304) else n)
def cmayI : C5 Int := fun op a b c n => cond (cmay op a b c n) 0 2
def putN : C5 Int := fun op a b c n => cond (cmay op a b c n) (wordN op a b c n) 0
theorem wrap32 (x : Int) : IntKind.u32.wrap x = x % 4294967296 := by
  simp [IntKind.wrap, IntKind.bits, IntKind.signed]
theorem or_add {A b : Int} (k : Nat) (hA : A % 2 ^ k = 0) (h0 : 0 ≤ A) (hb : 0 ≤ b) (hb2 : b < 2 ^ k) (h1 : A + b < 4294967296) : IntKind.u32.wrap (↑(BitVec.ofInt 32 A ||| BitVec.ofInt 32 b).toNat : Int) = A + b := by
  have h2 : (0 : Int) < 2 ^ k := Int.pow_pos (n := 2) (m := k) (by decide)
  have e : A = 2 ^ k * (A / 2 ^ k) := by
    have := Int.mul_ediv_add_emod A (2 ^ k)
    omega
  have h3 : 0 ≤ A / 2 ^ k := Int.ediv_nonneg h0 (by omega)
  have h := or_u32 (a := A / 2 ^ k) (b := b) k h3 hb hb2 (by rw [← e]; exact h1)
  rw [← e] at h
  exact h
structure CF (op a b c n : Int) : Prop where
  o0 : 0 ≤ op
  o1 : op < 22
  a0 : 0 ≤ a
  a1 : a < 16
  b0 : 0 ≤ b
  b1 : b < 16
  c0 : 0 ≤ c
  c1 : c < 16
  n : (formN op = 1 ∧ n = 0) ∨ (formN op = 2 ∧ c = 0 ∧ -8192 ≤ n ∧ n < 8192) ∨ (formN op ≠ 1 ∧ formN op ≠ 2 ∧ b = 0 ∧ c = 0 ∧ -2097152 ≤ n ∧ n < 2097152)
theorem cmay_f {op a b c n : Int} (h : cmay op a b c n = true) : CF op a b c n := by
  unfold cmay at h
  simp only [Bool.and_eq_true, decide_eq_true_eq] at h
  obtain ⟨⟨h0, h1⟩, h⟩ := h
  rcases form_cases h0 h1 with e | e | e | e | e | e | e <;> rw [e] at h <;> simp only [Bool.and_eq_true, decide_eq_true_eq] at h <;> refine ⟨h0, h1, ?_, ?_, ?_, ?_, ?_, ?_, ?_⟩ <;> omega
theorem word_lt {op a b c n : Int} (h : cmay op a b c n = true) : 0 ≤ wordN op a b c n ∧ wordN op a b c n < 4294967296 := by
  obtain ⟨h0, h1, h2, h3, h4, h5, h6, h7, h8⟩ := cmay_f h
  unfold wordN
  split <;> (try split) <;> omega
theorem tup_eq {x y : Int} {e : Value} (h : x = y) : some (Value.tuple #[.int .u32 x, e]) = some (Value.tuple #[.int .u32 y, e]) := by rw [h]
theorem cput_eq (gl : Gl) (op a b c n : Int) (h0 : 0 ≤ op) : evF gl (HM3 cmayI) 79 [cdV op a b c n] = some (.tuple #[.int .u32 (putN op a b c n), .int .i64 (cmayI op a b c n)]) := by
  rw [r_cput]
  unfold putN cmayI
  rw [decide_eq_true h0]
  by_cases h : cmay op a b c n = true
  case neg => rw [Bool.eq_false_iff.2 h]; rfl
  have hf := cmay_f h
  obtain ⟨_, h1, h2, h3, h4, h5, h6, h7, h8⟩ := hf
  have k0 : (symI formsL).okI .i64 (0 + op.toNat * 1) = true := by
    simp only [symI, decide_true, Bool.true_and]
    exact nble (by show _ ≤ 22; omega)
  have k1 : (symI formsL).int .i64 (0 + op.toNat * 1) = formN op := by
    show nthI formsL (0 + op.toNat * 1) = nthI formsL op.toNat
    rw [Nat.zero_add, Nat.mul_one]
  have n1 : IntKind.u32.wrap (↑(BitVec.ofInt 32 (IntKind.u32.wrap n) &&& BitVec.ofInt 32 16383).toNat : Int) = IntKind.u32.wrap n % 16384 := and_u32 (x := IntKind.u32.wrap n) (by rw [wrap32]; omega) (by rw [wrap32]; omega) 14 (by decide)
  have n2 : IntKind.u32.wrap (↑(BitVec.ofInt 32 (IntKind.u32.wrap n) &&& BitVec.ofInt 32 4194303).toNat : Int) = IntKind.u32.wrap n % 4194304 := and_u32 (x := IntKind.u32.wrap n) (by rw [wrap32]; omega) (by rw [wrap32]; omega) 22 (by decide)
  simp only [h, decide_eq_true h1, k0, k1, n1, n2, cond_true, Bool.and_self, beqI]
  rw [show ((0 : Int) != 0) = false from rfl, cond_false]
  have e1 : IntKind.u32.wrap (IntKind.u32.wrap op * 67108864) = op * 67108864 := by rw [wrap_u32 h0 (by omega), wrap_u32 (by omega) (by omega)]
  have e2 : IntKind.u32.wrap (IntKind.u32.wrap a * 4194304) = a * 4194304 := by rw [wrap_u32 h2 (by omega), wrap_u32 (by omega) (by omega)]
  have e3 : IntKind.u32.wrap (IntKind.u32.wrap b * 262144) = b * 262144 := by rw [wrap_u32 h4 (by omega), wrap_u32 (by omega) (by omega)]
  have e4 : IntKind.u32.wrap (IntKind.u32.wrap c * 16384) = c * 16384 := by rw [wrap_u32 h6 (by omega), wrap_u32 (by omega) (by omega)]
  rw [e1, e2, e3, e4, wrap32 n]
  rw [or_add (A := op * 67108864) (b := a * 4194304) 26 (by omega) (by omega) (by omega) (by omega) (by omega), or_add (A := op * 67108864 + a * 4194304) (b := b * 262144) 22 (by omega) (by omega) (by omega) (by omega) (by omega), or_add (A := op * 67108864 + a * 4194304 + b * 262144) (b := c * 16384) 18 (by omega) (by omega) (by omega) (by omega) (by omega)]
  generalize hA : op * 67108864 + a * 4194304 + b * 262144 + c * 16384 = A
  unfold wordN
  by_cases hq : formN op = 2
  · rw [decide_eq_true hq, cond_true, or_add (A := A) (b := n % 4294967296 % 16384) 14 (by omega) (by omega) (by omega) (by omega) (by omega), if_pos hq]
    refine tup_eq ?_
    split <;> omega
  · rw [decide_eq_false hq, cond_false, if_neg hq]
    rcases h8 with ⟨h8, rfl⟩ | h8 | h8
    · rw [or_add (A := A) (b := 0 % 4294967296 % 4194304) 14 (by omega) (by omega) (by omega) (by omega) (by omega)]
      refine tup_eq ?_
      split <;> omega
    · omega
    · rw [or_add (A := A) (b := n % 4294967296 % 4194304) 22 (by omega) (by omega) (by omega) (by omega) (by omega)]
      refine tup_eq ?_
      split <;> omega
end Go.Proofs.YtgohnfkidkomhaaDoor

noncomputable section
namespace Go.Proofs.YtgohnfkidkomhaaDoor
open Go.Proofs.YtgohnfkidkomhaaDoor.Ev Go.RowKit

/-! Words that are taken. -/
def oN (x : Int) : Int := x / 67108864
def sg (m h : Int) : Int := cond (decide (m ≥ h)) (m - 2 * h) m
end Go.Proofs.YtgohnfkidkomhaaDoor

noncomputable section
namespace Go.Proofs.YtgohnfkidkomhaaDoor
open Go.Proofs.YtgohnfkidkomhaaDoor.Ev Go.RowKit

/-! Words and instructions: what is answered of the functions. -/
abbrev Low (gl : Gl) : Prop := ∀ g k v, gl g k = some v → g < 1000 ∧ lowV 8 v = true
theorem fnCd {gl : Gl} (hF : GlF gl) (hgl : Low gl) {H : Hs} (hH : H.OK Tryd.prog gl) {f : FuncId} {gg : C5 Bool} {vv : C5 Value} (h : ∀ op a b c n, 0 ≤ op → gg op a b c n = true → evF gl H f [cdV op a b c n] = some (vv op a b c n)) : FnOK Tryd.prog gl f (afCd gg vv) :=
  fn_of (syF_ok hF) goodB hgl tglob hH (L := 100) (G := 40) (d := 40) fun args σ v e => by
    unfold afCd at e
    split at e
    · rename_i op a b c n
      simp only [Option.some.injEq, Prod.mk.injEq, Bool.and_eq_true, decide_eq_true_eq] at e
      obtain ⟨⟨h1, h2⟩, rfl⟩ := e
      exact ⟨rfl, h op a b c n h1 h2⟩
    · cases e
theorem fn_cmay {gl : Gl} (hF : GlF gl) (hgl : Low gl) : FnOK Tryd.prog gl 88 (afCd tt5 (i5 .i64 cmayI)) := fnCd hF hgl HB0_ok fun op a b c n h _ => cmay_eq gl op a b c n h
def putV : C5 Value := fun op a b c n => .tuple #[.int .u32 (putN op a b c n), .int .i64 (cmayI op a b c n)]
theorem one_ok {gl : Gl} {a : List (FuncId × AF)} (h : ∀ p ∈ a, FnOK Tryd.prog gl p.1 p.2) : (hsOf a [] []).OK Tryd.prog gl := hsOf_ok h (fun _ h => by cases h) (fun _ h => by cases h)
theorem HM3_ok {gl : Gl} (hF : GlF gl) (hgl : Low gl) : (HM3 cmayI).OK Tryd.prog gl := one_ok fun p hp => by
  simp only [List.mem_cons, List.not_mem_nil, or_false] at hp
  subst hp
  exact fn_cmay hF hgl
theorem fn_cput {gl : Gl} (hF : GlF gl) (hgl : Low gl) : FnOK Tryd.prog gl 79 (afCd tt5 putV) := fnCd hF hgl (HM3_ok hF hgl) fun op a b c n h _ => cput_eq gl op a b c n h
end Go.Proofs.YtgohnfkidkomhaaDoor
