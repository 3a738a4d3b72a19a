/- Texts' parts. No condition. -/
import Derived.Test.YtgohbcbdgakjeaaGreatDoorK1
import Derived.Test.YtgohbcbdgakjeaaGreatDoorShelf
import Derived.Shelf.Strconv.Itoa3
import Derived.Lib.AppendIntMem
import Derived.Lib.Walk
import Derived.WalkKit
import Derived.ProofKit
import Derived.Test.YtgohbcbdgakjeaaGreatDoorM1
noncomputable section
noncomputable section
namespace Go.Proofs.YtgohbcbdgakjeaaGreatDoor
open Go.Proofs.YtgohbcbdgakjeaaGreatDoor.Ev Go.RowKit
theorem condC {R : Type} {b : Bool} {x y r : Option R} (h1 : b = true → x = r) (h2 : b = false → y = r) : cond b x y = r := by
 cases b
 ·exact h2 rfl
 ·exact h1 rfl
abbrev C4 (α : Type) := Int → Int → Int → Int → α
end Go.Proofs.YtgohbcbdgakjeaaGreatDoor
noncomputable section
namespace Go.Proofs.YtgohbcbdgakjeaaGreatDoor
open Go.Proofs.YtgohbcbdgakjeaaGreatDoor.Ev Go.RowKit
def v4 (k : IntKind) (m : Int) : C4 Value := fun _ _ _ _ => .int k m
def b4 (b : Bool) : C4 Value := fun _ _ _ _ => .bool b
end Go.Proofs.YtgohbcbdgakjeaaGreatDoor
