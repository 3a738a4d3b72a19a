/- Numbers of 32 bits that came in. -/
import Derived.Test.YtgohnfkidkomhaaDoorM1
noncomputable section
noncomputable section
namespace Go.Proofs.YtgohnfkidkomhaaDoor
open Go.Proofs.YtgohnfkidkomhaaDoor.Ev Go.RowKit

/-! Lists of words: the rounds. -/
structure TkF where
  o : Int → Int
  a : Int → Int
  b : Int → Int
  c : Int → Int
  n : Int → Int
  e : Int → Int
def TkF.v (T : TkF) (x : Int) : Value := .tuple #[cdV (T.o x) (T.a x) (T.b x) (T.c x) (T.n x), .int .i64 (T.e x)]
abbrev e0 : Value := .string ⟨#[]⟩
end Go.Proofs.YtgohnfkidkomhaaDoor

noncomputable section
namespace Go.Proofs.YtgohnfkidkomhaaDoor
open Go.Proofs.YtgohnfkidkomhaaDoor.Ev Go.RowKit

/-! Lists of words: the functions' answers. -/
structure GoB (B : ByteArray) (i : Nat) (ws : List Int) (R : ByteArray × Nat × Bool) : Prop where
  lo : i ≤ R.2.1
  hi : R.2.1 ≤ i + ws.length
  szlo : B.size + (R.2.1 - i) ≤ R.1.size
  szhi : R.1.size ≤ B.size + 101 * (R.2.1 - i)
end Go.Proofs.YtgohnfkidkomhaaDoor

noncomputable section
namespace Go.Proofs.YtgohnfkidkomhaaDoor
open Go.Proofs.YtgohnfkidkomhaaDoor.Ev Go.RowKit
open Go.ChangeShapes Go.WideShapes Go.ChangeAt

/-! ListLists: true, of any words. -/
theorem u32_bounds {n : Int} (h : (Lit.int .u32 n).wf = true) : 0 ≤ n ∧ n < 4294967296 := by
  simp only [Lit.wf, Bool.and_eq_true, decide_eq_true_eq] at h
  have e1 : IntKind.min .u32 = 0 := by decide +kernel
  have e2 : IntKind.max .u32 = 4294967295 := by decide +kernel
  rw [e1, e2] at h
  omega
end Go.Proofs.YtgohnfkidkomhaaDoor
