/- Numbers of 32 bits that came in. -/
import Derived.Test.YtgohnfkidkomhaaDoorM1
import Derived.Lib.ItoaLen
noncomputable section
noncomputable section
namespace Go.Proofs.YtgohnfkidkomhaaDoor
open Go.Proofs.YtgohnfkidkomhaaDoor.Ev Go.RowKit

/-! Lists of words: the rounds. -/
abbrev e0 : Value := .string ⟨#[]⟩
abbrev z0 : Value := .int .i64 0
end Go.Proofs.YtgohnfkidkomhaaDoor

noncomputable section
namespace Go.Proofs.YtgohnfkidkomhaaDoor
open Go.Proofs.YtgohnfkidkomhaaDoor.Ev Go.RowKit

/-! Lists of words: what they are. -/
def fA (x : Int) : Int := match formN (oN x) with
  | 1 => x / 4194304 % 16
  | 2 => x / 4194304 % 16
  | 3 => x / 4194304 % 16
  | 6 => x / 4194304 % 16
  | _ => 0
def fB (x : Int) : Int := match formN (oN x) with
  | 1 => x / 262144 % 16
  | 2 => x / 262144 % 16
  | _ => 0
def fC (x : Int) : Int := match formN (oN x) with
  | 1 => x / 16384 % 16
  | _ => 0
def fN (x : Int) : Int := match formN (oN x) with
  | 2 => sg (x % 16384) 8192
  | 3 => sg (x % 4194304) 2097152
  | 4 => sg (x % 4194304) 2097152
  | 5 => x % 4194304
  | _ => 0
def okW (x : Int) : Bool := cmay (oN x) (fA x) (fB x) (fC x) (fN x) && decide (wordN (oN x) (fA x) (fB x) (fC x) (fN x) = x)
def wC (ws : List Int) : List Value := ws.map (.int .u32)
end Go.Proofs.YtgohnfkidkomhaaDoor

noncomputable section
namespace Go.Proofs.YtgohnfkidkomhaaDoor
open Go.Proofs.YtgohnfkidkomhaaDoor.Ev Go.RowKit

/-! Lists of words: the functions' answers. -/
end Go.Proofs.YtgohnfkidkomhaaDoor
