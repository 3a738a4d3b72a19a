/- Numbers of 32 bits that came in. -/
import Derived.Test.YtgohbcbdgakjeaaGreatDoorM1
noncomputable section
noncomputable section
namespace Go.Proofs.YtgohbcbdgakjeaaGreatDoor
open Go.Proofs.YtgohbcbdgakjeaaGreatDoor.Ev Go.RowKit
structure TkF where
 o : Int → Int
 a : Int → Int
 b : Int → Int
 c : Int → Int
 n : Int → Int
 e : Int → Int
def TkF.v (T : TkF) (x : Int) : Value := .tuple #[cdV (T.o x) (T.a x) (T.b x) (T.c x) (T.n x), .int .i64 (T.e x)]
abbrev e0 : Value := .string ⟨#[]⟩
abbrev z0 : Value := .int .i64 0
end Go.Proofs.YtgohbcbdgakjeaaGreatDoor
noncomputable section
namespace Go.Proofs.YtgohbcbdgakjeaaGreatDoor
open Go.Proofs.YtgohbcbdgakjeaaGreatDoor.Ev Go.RowKit
theorem form_all (op : Int) : formN op = 0 ∨ formN op = 1 ∨ formN op = 2 ∨ formN op = 3 ∨ formN op = 4 ∨ formN op = 5 ∨ formN op = 6 := by
 have : ∀ k : Nat, nthI formsL k = 0 ∨ nthI formsL k = 1 ∨ nthI formsL k = 2 ∨ nthI formsL k = 3 ∨ nthI formsL k = 4 ∨ nthI formsL k = 5 ∨ nthI formsL k = 6 := fun k => by
  rcases Nat.lt_or_ge k 22 with h | h
  ·have : ∀ k : Fin 22, nthI formsL k.1 = 0 ∨ nthI formsL k.1 = 1 ∨ nthI formsL k.1 = 2 ∨ nthI formsL k.1 = 3 ∨ nthI formsL k.1 = 4 ∨ nthI formsL k.1 = 5 ∨ nthI formsL k.1 = 6 := by decide
   exact this ⟨k, h⟩
  ·obtain ⟨m, rfl⟩ : ∃ m, k = m + 22 := ⟨k - 22, by omega⟩
   exact .inl rfl
 exact this op.toNat
def fA (x : Int) : Int := match formN (oN x) with
 | 1 => x / 4194304 % 16
 | 2 => x / 4194304 % 16
 | 3 => x / 4194304 % 16
 | 6 => x / 4194304 % 16
 | _ => 0
def fB (x : Int) : Int := match formN (oN x) with
 | 1 => x / 262144 % 16
 | 2 => x / 262144 % 16
 | _ => 0
def fC (x : Int) : Int := match formN (oN x) with
 | 1 => x / 16384 % 16
 | _ => 0
def fN (x : Int) : Int := match formN (oN x) with
 | 2 => sg (x % 16384) 8192
 | 3 => sg (x % 4194304) 2097152
 | 4 => sg (x % 4194304) 2097152
 | 5 => x % 4194304
 | _ => 0
theorem takeV_eq (x : Int) : takeV x = tkV x (oN x) (fA x) (fB x) (fC x) (fN x) := by
 unfold takeV fA fB fC fN
 rcases form_all (oN x) with e | e | e | e | e | e | e <;> rw [e] <;> rfl
def okW (x : Int) : Bool := cmay (oN x) (fA x) (fB x) (fC x) (fN x) && decide (wordN (oN x) (fA x) (fB x) (fC x) (fN x) = x)
def TW : TkF where
 o x := cond (okW x) (oN x) 0
 a x := cond (okW x) (fA x) 0
 b x := cond (okW x) (fB x) 0
 c x := cond (okW x) (fC x) 0
 n x := cond (okW x) (fN x) 0
 e x := cond (okW x) 0 6
theorem TW_v (x : Int) : TW.v x = takeV x := by
 rw [takeV_eq]
 unfold TkF.v tkV
 show Value.tuple #[cdV (cond (okW x) _ _) (cond (okW x) _ _) (cond (okW x) _ _) (cond (okW x) _ _) (cond (okW x) _ _), .int .i64 (cond (okW x) 0 6)] = cond (okW x) _ _
 cases okW x <;> rfl
theorem TW_af : afTake TW.v = afTake takeV := congrArg afTake (funext TW_v)
def wC (ws : List Int) : List Value := ws.map (.int .u32)
end Go.Proofs.YtgohbcbdgakjeaaGreatDoor
noncomputable section
namespace Go.Proofs.YtgohbcbdgakjeaaGreatDoor
open Go.Proofs.YtgohbcbdgakjeaaGreatDoor.Ev Go.RowKit
end Go.Proofs.YtgohbcbdgakjeaaGreatDoor
