/- The document's assembler of one line: residuals; labels found. -/
import Derived.Test.YtgohbcbdgakjeaaGreatDoorR1
import Derived.Test.YtgohbcbdgakjeaaGreatDoorB1
noncomputable section
noncomputable section
namespace Go.Proofs.YtgohbcbdgakjeaaGreatDoor
open Go.Proofs.YtgohbcbdgakjeaaGreatDoor.Ev Go.RowKit
def mrLive : List Nat := [8, 3, 6, 5, 7, 0, 2, 4]
def mrOut : List Nat := [3, 5, 2, 4]
def mrV (i n f : Int) (s : ByteArray) : List Value := [.int .i64 i, pK 1000, .int .i64 n, pK 1001, .int .i64 f, .string s, slN, .int .i64 0]
def mrT (v : Nat) (ls : List Value) (m : Nat) (o : List Value) (b : Nat) : List (Option LObj) := match v with
 | 0 => [txRow slN slN]
 | 1 => [txRow (slK0 b m) slN, lsRow ls]
 | 2 => [txRow slN (slK0 b 1), onsRow o]
 | _ => [txRow (slK0 b m) (slK0 (b + 1) 1), lsRow ls, onsRow o]
def mrL (v : Nat) (ls : List Value) (m : Nat) (o cs : List Value) : List (Option LObj) := match v with
 | 0 => rlR0 cs
 | 1 => rlR1 cs ls m
 | 2 => tL0 cs o
 | _ => tL cs ls m o
def flH : Hd := fun _ _ => some .fail
def HM0 (t l : Hd) : Hs := hsOf [] [(33, t), (34, l)] []
set_option maxRecDepth 100000 in
theorem r_mrN (gl : Gl) (g : GS) (a e : Int) (i : Int) (s : ByteArray) : roundK noSy Tryz.prog gl exB (hsOf [] [(33, tlN g a e)] []) 100 40 40 16 0 mrLive (mrV i 1 0 s, spotRow 0 0 :: mrT 0 [] 0 [] 1002) (rndK Tryz.prog 1002 mrLive mrOut) =
 let z1 := IntKind.i64.wrap (i + 1)
 let z2 := (↑s.size : Int)
 let z0 : Option (LSt ⊕ Out) := cond (decide (0 ≤ i) && (decide (i ≤ z2))) (
 cond (g [.string (subS s 0 i)] []) (
 cond (e != 0) (
 some (.inr (.ret, ([(.pointer (some ⟨1000, 0, none⟩)), (.pointer (some ⟨1001, 0, none⟩)), (.slice none 0 0), (.int .i64 (e))], [some (.row ⟨[(.int .i64 1), (.int .i64 (a))], 36, (0, 0), 0, false, false⟩), some (.row ⟨[(.slice none 0 0), (.slice none 0 0)], 73, (0, 0), 0, false, false⟩)])))) (
 some (.inl ([(.int .i64 z1), (.pointer (some ⟨1000, 0, none⟩)), (.int .i64 2), (.pointer (some ⟨1001, 0, none⟩)), (.int .i64 z1), (.string (s)), (.slice none 0 0), (.int .i64 0)], [some (.row ⟨[(.int .i64 0), (.int .i64 0)], 36, (0, 0), 0, false, false⟩), some (.row ⟨[(.slice none 0 0), (.slice none 0 0)], 73, (0, 0), 0, false, false⟩)])))) (
 none)) (
 none)
 cond (decide (i ≤ z2)) (
 cond (decide (i < z2)) (
 cond (decide (0 ≤ i) && (decide (i < z2))) (
 cond (byteAt s i != 10) (
 some (.inl ([(.int .i64 z1), (.pointer (some ⟨1000, 0, none⟩)), (.int .i64 1), (.pointer (some ⟨1001, 0, none⟩)), (.int .i64 0), (.string (s)), (.slice none 0 0), (.int .i64 0)], [some (.row ⟨[(.int .i64 0), (.int .i64 0)], 36, (0, 0), 0, false, false⟩), some (.row ⟨[(.slice none 0 0), (.slice none 0 0)], 73, (0, 0), 0, false, false⟩)]))) z0) (
 none)) z0) (
 some (.inr (.exit 0, ([(.pointer (some ⟨1000, 0, none⟩)), (.pointer (some ⟨1001, 0, none⟩)), (.slice none 0 0), (.int .i64 0)], [some (.row ⟨[(.int .i64 0), (.int .i64 0)], 36, (0, 0), 0, false, false⟩), some (.row ⟨[(.slice none 0 0), (.slice none 0 0)], 73, (0, 0), 0, false, false⟩)])))) := by kernel_rfl
set_option maxRecDepth 100000 in
theorem r_mr0 (gl : Gl) (g g2 : GS) (cs : List Value) (k : Nat) (ix er i : Int) (s : ByteArray) : roundK (syL 1002 cs) Tryz.prog gl exB (HM0 (tlK g cs k) (liH g2 ix er (mrL 0 [] 0 [] cs))) 100 40 40 16 0 mrLive (mrV i 1 0 s, spotRow 0 0 :: mrT 0 [] 0 [] 1002) (rndK Tryz.prog 1002 mrLive mrOut) =
 let z1 := 0 + ix.toNat * 4 + 3
 let z2 := List.all cs (af 8) && true
 let z3 := IntKind.i64.wrap (i + 1)
 let z4 := (↑s.size : Int)
 let z0 : Option (LSt ⊕ Out) := cond (decide (0 ≤ i) && (decide (i ≤ z4))) (
 cond (g [.string (subS s 0 i)] []) (
 cond z2 (
 cond z2 (
 cond (g2 [.pointer (some ⟨1000, 0, none⟩), .slice (some ⟨1001, 0, none⟩) k k, .int .i64 1] [some (.row ⟨[.slice none 0 0, .slice none 0 0], 73, (0, 0), 0, false, false⟩), some (.row ⟨cs, 59, (0, 0), 4, false, false⟩)]) (
 cond z2 (
 cond (er != 0) (
 cond (decide (0 ≤ ix) && (decide (ix < (↑k : Int))) && (k.ble k)) (
 cond (sameL cs cs) (
 cond ((symOf cs).okI .i64 z1) (
 cond (sameL cs cs) (
 cond ((symOf cs).okI .i64 z1) (
 qs [(symOf cs).int .i64 z1] (
 some (.inr (.ret, ([(.pointer (some ⟨1000, 0, none⟩)), (.pointer (some ⟨1001, 0, none⟩)), (.slice none 0 0), (.int .i64 (er))], [some (.row ⟨[(.int .i64 1), (.int .i64 ((symOf cs).int .i64 z1))], 36, (0, 0), 0, false, false⟩), some (.row ⟨[(.slice none 0 0), (.slice none 0 0)], 73, (0, 0), 0, false, false⟩)]))))) (
 none)) (
 none)) (
 none)) (
 none)) (
 none)) (
 some (.inl ([(.int .i64 z3), (.pointer (some ⟨1000, 0, none⟩)), (.int .i64 2), (.pointer (some ⟨1001, 0, none⟩)), (.int .i64 z3), (.string (s)), (.slice none 0 0), (.int .i64 0)], [some (.row ⟨[(.int .i64 0), (.int .i64 0)], 36, (0, 0), 0, false, false⟩), some (.row ⟨[(.slice none 0 0), (.slice none 0 0)], 73, (0, 0), 0, false, false⟩)])))) (
 none)) (
 none)) (
 none)) (
 none)) (
 none)) (
 none)
 cond (decide (i ≤ z4)) (
 cond (decide (i < z4)) (
 cond (decide (0 ≤ i) && (decide (i < z4))) (
 cond (byteAt s i != 10) (
 some (.inl ([(.int .i64 z3), (.pointer (some ⟨1000, 0, none⟩)), (.int .i64 1), (.pointer (some ⟨1001, 0, none⟩)), (.int .i64 0), (.string (s)), (.slice none 0 0), (.int .i64 0)], [some (.row ⟨[(.int .i64 0), (.int .i64 0)], 36, (0, 0), 0, false, false⟩), some (.row ⟨[(.slice none 0 0), (.slice none 0 0)], 73, (0, 0), 0, false, false⟩)]))) z0) (
 none)) z0) (
 some (.inr (.exit 0, ([(.pointer (some ⟨1000, 0, none⟩)), (.pointer (some ⟨1001, 0, none⟩)), (.slice none 0 0), (.int .i64 0)], [some (.row ⟨[(.int .i64 0), (.int .i64 0)], 36, (0, 0), 0, false, false⟩), some (.row ⟨[(.slice none 0 0), (.slice none 0 0)], 73, (0, 0), 0, false, false⟩)])))) := by kernel_rfl
set_option maxRecDepth 100000 in
theorem r_mr1 (gl : Gl) (g g2 : GS) (cs : List Value) (k : Nat) (ix er i : Int) (s : ByteArray) (ls : List Value) (m : Nat) : roundK (syL 1002 cs) Tryz.prog gl exB (HM0 (tlK g cs k) (liH g2 ix er (mrL 1 ls m [] cs))) 100 40 40 16 0 mrLive (mrV i 1 0 s, spotRow 0 0 :: mrT 0 [] 0 [] 1002) (rndK Tryz.prog 1002 mrLive mrOut) =
 let z1 := 0 + ix.toNat * 4 + 3
 let z2 := List.all ls (af 8) && true
 let z3 := IntKind.i64.wrap (i + 1)
 let z4 := (↑s.size : Int)
 let z0 : Option (LSt ⊕ Out) := cond (decide (0 ≤ i) && (decide (i ≤ z4))) (
 cond (g [.string (subS s 0 i)] []) (
 cond (List.all cs (af 8) && true) (
 cond (List.all cs (af 8) && true) (
 cond (g2 [.pointer (some ⟨1000, 0, none⟩), .slice (some ⟨1001, 0, none⟩) k k, .int .i64 1] [some (.row ⟨[.slice none 0 0, .slice none 0 0], 73, (0, 0), 0, false, false⟩), some (.row ⟨cs, 59, (0, 0), 4, false, false⟩)]) (
 cond (List.all cs (af 8) && z2) (
 cond (er != 0) (
 cond (decide (0 ≤ ix) && (decide (ix < (↑k : Int))) && (k.ble k)) (
 cond (sameL cs cs) (
 cond ((symOf cs).okI .i64 z1) (
 cond (sameL cs cs) (
 cond ((symOf cs).okI .i64 z1) (
 qs [(symOf cs).int .i64 z1] (
 cond z2 (
 some (.inr (.ret, ([(.pointer (some ⟨1000, 0, none⟩)), (.pointer (some ⟨1001, 0, none⟩)), (.slice none 0 0), (.int .i64 (er))], [some (.row ⟨[(.int .i64 1), (.int .i64 ((symOf cs).int .i64 z1))], 36, (0, 0), 0, false, false⟩), some (.row ⟨[(.slice (some ⟨1002, 0, none⟩) (m) (m)), (.slice none 0 0)], 73, (0, 0), 0, false, false⟩), some (.row ⟨ls, 99, (0, 0), 2, false, false⟩)])))) (
 none))) (
 none)) (
 none)) (
 none)) (
 none)) (
 none)) (
 cond z2 (
 some (.inl ([(.int .i64 z3), (.pointer (some ⟨1000, 0, none⟩)), (.int .i64 2), (.pointer (some ⟨1001, 0, none⟩)), (.int .i64 z3), (.string (s)), (.slice none 0 0), (.int .i64 0)], [some (.row ⟨[(.int .i64 0), (.int .i64 0)], 36, (0, 0), 0, false, false⟩), some (.row ⟨[(.slice (some ⟨1002, 0, none⟩) (m) (m)), (.slice none 0 0)], 73, (0, 0), 0, false, false⟩), some (.row ⟨ls, 99, (0, 0), 2, false, false⟩)]))) (
 none))) (
 none)) (
 none)) (
 none)) (
 none)) (
 none)) (
 none)
 cond (decide (i ≤ z4)) (
 cond (decide (i < z4)) (
 cond (decide (0 ≤ i) && (decide (i < z4))) (
 cond (byteAt s i != 10) (
 some (.inl ([(.int .i64 z3), (.pointer (some ⟨1000, 0, none⟩)), (.int .i64 1), (.pointer (some ⟨1001, 0, none⟩)), (.int .i64 0), (.string (s)), (.slice none 0 0), (.int .i64 0)], [some (.row ⟨[(.int .i64 0), (.int .i64 0)], 36, (0, 0), 0, false, false⟩), some (.row ⟨[(.slice none 0 0), (.slice none 0 0)], 73, (0, 0), 0, false, false⟩)]))) z0) (
 none)) z0) (
 some (.inr (.exit 0, ([(.pointer (some ⟨1000, 0, none⟩)), (.pointer (some ⟨1001, 0, none⟩)), (.slice none 0 0), (.int .i64 0)], [some (.row ⟨[(.int .i64 0), (.int .i64 0)], 36, (0, 0), 0, false, false⟩), some (.row ⟨[(.slice none 0 0), (.slice none 0 0)], 73, (0, 0), 0, false, false⟩)])))) := by kernel_rfl
set_option maxRecDepth 100000 in
theorem r_mr2 (gl : Gl) (g g2 : GS) (cs : List Value) (k : Nat) (ix er i : Int) (s : ByteArray) (op a b c n ln y : Int) (lb : ByteArray) : roundK (syL 1002 cs) Tryz.prog gl exB (HM0 (tlK g cs k) (liH g2 ix er (mrL 2 [] 0 (onC op a b c n ln y lb) cs))) 100 40 40 16 0 mrLive (mrV i 1 0 s, spotRow 0 0 :: mrT 0 [] 0 [] 1002) (rndK Tryz.prog 1002 mrLive mrOut) =
 let z1 := 0 + ix.toNat * 4 + 3
 let z2 := List.all cs (af 8) && true
 let z3 := IntKind.i64.wrap (i + 1)
 let z4 := (↑s.size : Int)
 let z0 : Option (LSt ⊕ Out) := cond (decide (0 ≤ i) && (decide (i ≤ z4))) (
 cond (g [.string (subS s 0 i)] []) (
 cond z2 (
 cond z2 (
 cond (g2 [.pointer (some ⟨1000, 0, none⟩), .slice (some ⟨1001, 0, none⟩) k k, .int .i64 1] [some (.row ⟨[.slice none 0 0, .slice none 0 0], 73, (0, 0), 0, false, false⟩), some (.row ⟨cs, 59, (0, 0), 4, false, false⟩)]) (
 cond z2 (
 cond (er != 0) (
 cond (decide (0 ≤ ix) && (decide (ix < (↑k : Int))) && (k.ble k)) (
 cond (sameL cs cs) (
 cond ((symOf cs).okI .i64 z1) (
 cond (sameL cs cs) (
 cond ((symOf cs).okI .i64 z1) (
 qs [(symOf cs).int .i64 z1] (
 some (.inr (.ret, ([(.pointer (some ⟨1000, 0, none⟩)), (.pointer (some ⟨1001, 0, none⟩)), (.slice none 0 0), (.int .i64 (er))], [some (.row ⟨[(.int .i64 1), (.int .i64 ((symOf cs).int .i64 z1))], 36, (0, 0), 0, false, false⟩), some (.row ⟨[(.slice none 0 0), (.slice (some ⟨1002, 0, none⟩) 1 1)], 73, (0, 0), 0, false, false⟩), some (.row ⟨[(.int .u8 (op)), (.int .i64 (a)), (.int .i64 (b)), (.int .i64 (c)), (.int .i64 (n)), (.int .i64 (ln)), (.int .i64 (y)), (.string (lb))], 75, (0, 0), 8, false, false⟩)]))))) (
 none)) (
 none)) (
 none)) (
 none)) (
 none)) (
 some (.inl ([(.int .i64 z3), (.pointer (some ⟨1000, 0, none⟩)), (.int .i64 2), (.pointer (some ⟨1001, 0, none⟩)), (.int .i64 z3), (.string (s)), (.slice none 0 0), (.int .i64 0)], [some (.row ⟨[(.int .i64 0), (.int .i64 0)], 36, (0, 0), 0, false, false⟩), some (.row ⟨[(.slice none 0 0), (.slice (some ⟨1002, 0, none⟩) 1 1)], 73, (0, 0), 0, false, false⟩), some (.row ⟨[(.int .u8 (op)), (.int .i64 (a)), (.int .i64 (b)), (.int .i64 (c)), (.int .i64 (n)), (.int .i64 (ln)), (.int .i64 (y)), (.string (lb))], 75, (0, 0), 8, false, false⟩)])))) (
 none)) (
 none)) (
 none)) (
 none)) (
 none)) (
 none)
 cond (decide (i ≤ z4)) (
 cond (decide (i < z4)) (
 cond (decide (0 ≤ i) && (decide (i < z4))) (
 cond (byteAt s i != 10) (
 some (.inl ([(.int .i64 z3), (.pointer (some ⟨1000, 0, none⟩)), (.int .i64 1), (.pointer (some ⟨1001, 0, none⟩)), (.int .i64 0), (.string (s)), (.slice none 0 0), (.int .i64 0)], [some (.row ⟨[(.int .i64 0), (.int .i64 0)], 36, (0, 0), 0, false, false⟩), some (.row ⟨[(.slice none 0 0), (.slice none 0 0)], 73, (0, 0), 0, false, false⟩)]))) z0) (
 none)) z0) (
 some (.inr (.exit 0, ([(.pointer (some ⟨1000, 0, none⟩)), (.pointer (some ⟨1001, 0, none⟩)), (.slice none 0 0), (.int .i64 0)], [some (.row ⟨[(.int .i64 0), (.int .i64 0)], 36, (0, 0), 0, false, false⟩), some (.row ⟨[(.slice none 0 0), (.slice none 0 0)], 73, (0, 0), 0, false, false⟩)])))) := by kernel_rfl
set_option maxRecDepth 100000 in
theorem r_mr3 (gl : Gl) (g g2 : GS) (cs : List Value) (k : Nat) (ix er i : Int) (s : ByteArray) (ls : List Value) (m : Nat) (op a b c n ln y : Int) (lb : ByteArray) : roundK (syL 1002 cs) Tryz.prog gl exB (HM0 (tlK g cs k) (liH g2 ix er (mrL 3 ls m (onC op a b c n ln y lb) cs))) 100 40 40 16 0 mrLive (mrV i 1 0 s, spotRow 0 0 :: mrT 0 [] 0 [] 1002) (rndK Tryz.prog 1002 mrLive mrOut) =
 let z1 := 0 + ix.toNat * 4 + 3
 let z2 := List.all ls (af 8) && true
 let z3 := IntKind.i64.wrap (i + 1)
 let z4 := (↑s.size : Int)
 let z0 : Option (LSt ⊕ Out) := cond (decide (0 ≤ i) && (decide (i ≤ z4))) (
 cond (g [.string (subS s 0 i)] []) (
 cond (List.all cs (af 8) && true) (
 cond (List.all cs (af 8) && true) (
 cond (g2 [.pointer (some ⟨1000, 0, none⟩), .slice (some ⟨1001, 0, none⟩) k k, .int .i64 1] [some (.row ⟨[.slice none 0 0, .slice none 0 0], 73, (0, 0), 0, false, false⟩), some (.row ⟨cs, 59, (0, 0), 4, false, false⟩)]) (
 cond (List.all cs (af 8) && z2) (
 cond (er != 0) (
 cond (decide (0 ≤ ix) && (decide (ix < (↑k : Int))) && (k.ble k)) (
 cond (sameL cs cs) (
 cond ((symOf cs).okI .i64 z1) (
 cond (sameL cs cs) (
 cond ((symOf cs).okI .i64 z1) (
 qs [(symOf cs).int .i64 z1] (
 cond z2 (
 some (.inr (.ret, ([(.pointer (some ⟨1000, 0, none⟩)), (.pointer (some ⟨1001, 0, none⟩)), (.slice none 0 0), (.int .i64 (er))], [some (.row ⟨[(.int .i64 1), (.int .i64 ((symOf cs).int .i64 z1))], 36, (0, 0), 0, false, false⟩), some (.row ⟨[(.slice (some ⟨1002, 0, none⟩) (m) (m)), (.slice (some ⟨1003, 0, none⟩) 1 1)], 73, (0, 0), 0, false, false⟩), some (.row ⟨ls, 99, (0, 0), 2, false, false⟩), some (.row ⟨[(.int .u8 (op)), (.int .i64 (a)), (.int .i64 (b)), (.int .i64 (c)), (.int .i64 (n)), (.int .i64 (ln)), (.int .i64 (y)), (.string (lb))], 75, (0, 0), 8, false, false⟩)])))) (
 none))) (
 none)) (
 none)) (
 none)) (
 none)) (
 none)) (
 cond z2 (
 some (.inl ([(.int .i64 z3), (.pointer (some ⟨1000, 0, none⟩)), (.int .i64 2), (.pointer (some ⟨1001, 0, none⟩)), (.int .i64 z3), (.string (s)), (.slice none 0 0), (.int .i64 0)], [some (.row ⟨[(.int .i64 0), (.int .i64 0)], 36, (0, 0), 0, false, false⟩), some (.row ⟨[(.slice (some ⟨1002, 0, none⟩) (m) (m)), (.slice (some ⟨1003, 0, none⟩) 1 1)], 73, (0, 0), 0, false, false⟩), some (.row ⟨ls, 99, (0, 0), 2, false, false⟩), some (.row ⟨[(.int .u8 (op)), (.int .i64 (a)), (.int .i64 (b)), (.int .i64 (c)), (.int .i64 (n)), (.int .i64 (ln)), (.int .i64 (y)), (.string (lb))], 75, (0, 0), 8, false, false⟩)]))) (
 none))) (
 none)) (
 none)) (
 none)) (
 none)) (
 none)) (
 none)
 cond (decide (i ≤ z4)) (
 cond (decide (i < z4)) (
 cond (decide (0 ≤ i) && (decide (i < z4))) (
 cond (byteAt s i != 10) (
 some (.inl ([(.int .i64 z3), (.pointer (some ⟨1000, 0, none⟩)), (.int .i64 1), (.pointer (some ⟨1001, 0, none⟩)), (.int .i64 0), (.string (s)), (.slice none 0 0), (.int .i64 0)], [some (.row ⟨[(.int .i64 0), (.int .i64 0)], 36, (0, 0), 0, false, false⟩), some (.row ⟨[(.slice none 0 0), (.slice none 0 0)], 73, (0, 0), 0, false, false⟩)]))) z0) (
 none)) z0) (
 some (.inr (.exit 0, ([(.pointer (some ⟨1000, 0, none⟩)), (.pointer (some ⟨1001, 0, none⟩)), (.slice none 0 0), (.int .i64 0)], [some (.row ⟨[(.int .i64 0), (.int .i64 0)], 36, (0, 0), 0, false, false⟩), some (.row ⟨[(.slice none 0 0), (.slice none 0 0)], 73, (0, 0), 0, false, false⟩)])))) := by kernel_rfl
set_option maxRecDepth 100000 in
theorem r_mx0 (gl : Gl) (i f : Int) (s : ByteArray) : roundK noSy Tryz.prog gl exB (HM0 flH flH) 100 40 40 16 0 mrLive (mrV i 2 f s, spotRow 0 0 :: mrT 0 [] 0 [] 1002) (rndK Tryz.prog 1002 mrLive mrOut) =
 let z1 := (↑s.size : Int)
 let z0 : Option (LSt ⊕ Out) := cond (decide (0 ≤ f) && (decide (f ≤ i)) && (decide (i ≤ z1))) (
 none) (
 none)
 cond (decide (i ≤ z1)) (
 cond (decide (i < z1)) (
 cond (decide (0 ≤ i) && (decide (i < z1))) (
 cond (byteAt s i != 10) (
 some (.inl ([(.int .i64 (IntKind.i64.wrap (i + 1))), (.pointer (some ⟨1000, 0, none⟩)), (.int .i64 2), (.pointer (some ⟨1001, 0, none⟩)), (.int .i64 (f)), (.string (s)), (.slice none 0 0), (.int .i64 0)], [some (.row ⟨[(.int .i64 0), (.int .i64 0)], 36, (0, 0), 0, false, false⟩), some (.row ⟨[(.slice none 0 0), (.slice none 0 0)], 73, (0, 0), 0, false, false⟩)]))) z0) (
 none)) z0) (
 some (.inr (.exit 0, ([(.pointer (some ⟨1000, 0, none⟩)), (.pointer (some ⟨1001, 0, none⟩)), (.slice none 0 0), (.int .i64 0)], [some (.row ⟨[(.int .i64 0), (.int .i64 0)], 36, (0, 0), 0, false, false⟩), some (.row ⟨[(.slice none 0 0), (.slice none 0 0)], 73, (0, 0), 0, false, false⟩)])))) := by kernel_rfl
set_option maxRecDepth 100000 in
theorem r_mx1 (gl : Gl) (i f : Int) (s : ByteArray) (ls : List Value) (m : Nat) : roundK noSy Tryz.prog gl exB (HM0 flH flH) 100 40 40 16 0 mrLive (mrV i 2 f s, spotRow 0 0 :: mrT 1 ls m [] 1002) (rndK Tryz.prog 1002 mrLive mrOut) =
 let z1 := (↑s.size : Int)
 let z0 : Option (LSt ⊕ Out) := cond (decide (0 ≤ f) && (decide (f ≤ i)) && (decide (i ≤ z1))) (
 none) (
 none)
 cond (decide (i ≤ z1)) (
 cond (decide (i < z1)) (
 cond (decide (0 ≤ i) && (decide (i < z1))) (
 cond (byteAt s i != 10) (
 cond (List.all ls (af 8) && true) (
 some (.inl ([(.int .i64 (IntKind.i64.wrap (i + 1))), (.pointer (some ⟨1000, 0, none⟩)), (.int .i64 2), (.pointer (some ⟨1001, 0, none⟩)), (.int .i64 (f)), (.string (s)), (.slice none 0 0), (.int .i64 0)], [some (.row ⟨[(.int .i64 0), (.int .i64 0)], 36, (0, 0), 0, false, false⟩), some (.row ⟨[(.slice (some ⟨1002, 0, none⟩) (m) (m)), (.slice none 0 0)], 73, (0, 0), 0, false, false⟩), some (.row ⟨ls, 99, (0, 0), 2, false, false⟩)]))) (
 none)) z0) (
 none)) z0) (
 cond (List.all ls (af 8) && true) (
 some (.inr (.exit 0, ([(.pointer (some ⟨1000, 0, none⟩)), (.pointer (some ⟨1001, 0, none⟩)), (.slice none 0 0), (.int .i64 0)], [some (.row ⟨[(.int .i64 0), (.int .i64 0)], 36, (0, 0), 0, false, false⟩), some (.row ⟨[(.slice (some ⟨1002, 0, none⟩) (m) (m)), (.slice none 0 0)], 73, (0, 0), 0, false, false⟩), some (.row ⟨ls, 99, (0, 0), 2, false, false⟩)])))) (
 none)) := by kernel_rfl
set_option maxRecDepth 100000 in
theorem r_mx2 (gl : Gl) (i f : Int) (s : ByteArray) (op a b c n ln y : Int) (lb : ByteArray) : roundK noSy Tryz.prog gl exB (HM0 flH flH) 100 40 40 16 0 mrLive (mrV i 2 f s, spotRow 0 0 :: mrT 2 [] 0 (onC op a b c n ln y lb) 1002) (rndK Tryz.prog 1002 mrLive mrOut) =
 let z1 := (↑s.size : Int)
 let z0 : Option (LSt ⊕ Out) := cond (decide (0 ≤ f) && (decide (f ≤ i)) && (decide (i ≤ z1))) (
 none) (
 none)
 cond (decide (i ≤ z1)) (
 cond (decide (i < z1)) (
 cond (decide (0 ≤ i) && (decide (i < z1))) (
 cond (byteAt s i != 10) (
 some (.inl ([(.int .i64 (IntKind.i64.wrap (i + 1))), (.pointer (some ⟨1000, 0, none⟩)), (.int .i64 2), (.pointer (some ⟨1001, 0, none⟩)), (.int .i64 (f)), (.string (s)), (.slice none 0 0), (.int .i64 0)], [some (.row ⟨[(.int .i64 0), (.int .i64 0)], 36, (0, 0), 0, false, false⟩), some (.row ⟨[(.slice none 0 0), (.slice (some ⟨1002, 0, none⟩) 1 1)], 73, (0, 0), 0, false, false⟩), some (.row ⟨[(.int .u8 (op)), (.int .i64 (a)), (.int .i64 (b)), (.int .i64 (c)), (.int .i64 (n)), (.int .i64 (ln)), (.int .i64 (y)), (.string (lb))], 75, (0, 0), 8, false, false⟩)]))) z0) (
 none)) z0) (
 some (.inr (.exit 0, ([(.pointer (some ⟨1000, 0, none⟩)), (.pointer (some ⟨1001, 0, none⟩)), (.slice none 0 0), (.int .i64 0)], [some (.row ⟨[(.int .i64 0), (.int .i64 0)], 36, (0, 0), 0, false, false⟩), some (.row ⟨[(.slice none 0 0), (.slice (some ⟨1002, 0, none⟩) 1 1)], 73, (0, 0), 0, false, false⟩), some (.row ⟨[(.int .u8 (op)), (.int .i64 (a)), (.int .i64 (b)), (.int .i64 (c)), (.int .i64 (n)), (.int .i64 (ln)), (.int .i64 (y)), (.string (lb))], 75, (0, 0), 8, false, false⟩)])))) := by kernel_rfl
set_option maxRecDepth 100000 in
theorem r_mx3 (gl : Gl) (i f : Int) (s : ByteArray) (ls : List Value) (m : Nat) (op a b c n ln y : Int) (lb : ByteArray) : roundK noSy Tryz.prog gl exB (HM0 flH flH) 100 40 40 16 0 mrLive (mrV i 2 f s, spotRow 0 0 :: mrT 3 ls m (onC op a b c n ln y lb) 1002) (rndK Tryz.prog 1002 mrLive mrOut) =
 let z1 := (↑s.size : Int)
 let z0 : Option (LSt ⊕ Out) := cond (decide (0 ≤ f) && (decide (f ≤ i)) && (decide (i ≤ z1))) (
 none) (
 none)
 cond (decide (i ≤ z1)) (
 cond (decide (i < z1)) (
 cond (decide (0 ≤ i) && (decide (i < z1))) (
 cond (byteAt s i != 10) (
 cond (List.all ls (af 8) && true) (
 some (.inl ([(.int .i64 (IntKind.i64.wrap (i + 1))), (.pointer (some ⟨1000, 0, none⟩)), (.int .i64 2), (.pointer (some ⟨1001, 0, none⟩)), (.int .i64 (f)), (.string (s)), (.slice none 0 0), (.int .i64 0)], [some (.row ⟨[(.int .i64 0), (.int .i64 0)], 36, (0, 0), 0, false, false⟩), some (.row ⟨[(.slice (some ⟨1002, 0, none⟩) (m) (m)), (.slice (some ⟨1003, 0, none⟩) 1 1)], 73, (0, 0), 0, false, false⟩), some (.row ⟨ls, 99, (0, 0), 2, false, false⟩), some (.row ⟨[(.int .u8 (op)), (.int .i64 (a)), (.int .i64 (b)), (.int .i64 (c)), (.int .i64 (n)), (.int .i64 (ln)), (.int .i64 (y)), (.string (lb))], 75, (0, 0), 8, false, false⟩)]))) (
 none)) z0) (
 none)) z0) (
 cond (List.all ls (af 8) && true) (
 some (.inr (.exit 0, ([(.pointer (some ⟨1000, 0, none⟩)), (.pointer (some ⟨1001, 0, none⟩)), (.slice none 0 0), (.int .i64 0)], [some (.row ⟨[(.int .i64 0), (.int .i64 0)], 36, (0, 0), 0, false, false⟩), some (.row ⟨[(.slice (some ⟨1002, 0, none⟩) (m) (m)), (.slice (some ⟨1003, 0, none⟩) 1 1)], 73, (0, 0), 0, false, false⟩), some (.row ⟨ls, 99, (0, 0), 2, false, false⟩), some (.row ⟨[(.int .u8 (op)), (.int .i64 (a)), (.int .i64 (b)), (.int .i64 (c)), (.int .i64 (n)), (.int .i64 (ln)), (.int .i64 (y)), (.string (lb))], 75, (0, 0), 8, false, false⟩)])))) (
 none)) := by kernel_rfl
end Go.Proofs.YtgohbcbdgakjeaaGreatDoor
noncomputable section
namespace Go.Proofs.YtgohbcbdgakjeaaGreatDoor
open Go.Proofs.YtgohbcbdgakjeaaGreatDoor.Ev Go.RowKit
def mrO (x : Ex) (e : Int) (rows : List (Option LObj)) : Out := (x, [pK 1000, pK 1001, slN, .int .i64 e], rows)
def HMe (g : GS) (o : Out) (fd : Hd) (pw pe : C5 Int) : Hs := hsOf [(36, afCd tt5 fun op a b c n => .tuple #[.int .u32 (pw op a b c n), .int .i64 (pe op a b c n)])] [(35, fd)] [(16, [(0, ⟨mrLive, mrOut, gH g o⟩)])]
abbrev mkCall (gl : Gl) (H : Hs) (s : ByteArray) : Option Out := callSK noSy Tryz.prog gl exB H 100 40 40 (.fn 16) [.string s] (rowsOf []) (exitK Tryz.prog 1000)
set_option maxRecDepth 100000 in
theorem r_meT0 (gl : Gl) (g : GS) (pw pe : C5 Int) (s : ByteArray) (x y e : Int) : mkCall gl (HMe g (mrO .ret e (spotRow x y :: mrT 0 [] 0 [] 1002)) flH pw pe) s =
 cond (g [.int .i64 0, .pointer (some ⟨1000, 0, none⟩), .int .i64 1, .pointer (some ⟨1001, 0, none⟩), .int .i64 0, .string s, .slice none 0 0, .int .i64 0] [some (.row ⟨[.int .i64 0, .int .i64 0], 36, (0, 0), 0, false, false⟩), some (.row ⟨[.slice none 0 0, .slice none 0 0], 73, (0, 0), 0, false, false⟩)]) (
 some (.normal, ([(.tuple #[(.slice none 0 0), (.agg #[(.int .i64 (x)), (.int .i64 (y))]), (.int .i64 (e))])], []))) (
 none) := by kernel_rfl
set_option maxRecDepth 100000 in
theorem r_meT1 (gl : Gl) (g : GS) (pw pe : C5 Int) (s : ByteArray) (ls : List Value) (m : Nat) (x y e : Int) : mkCall gl (HMe g (mrO .ret e (spotRow x y :: mrT 1 ls m [] 1002)) flH pw pe) s =
 cond (g [.int .i64 0, .pointer (some ⟨1000, 0, none⟩), .int .i64 1, .pointer (some ⟨1001, 0, none⟩), .int .i64 0, .string s, .slice none 0 0, .int .i64 0] [some (.row ⟨[.int .i64 0, .int .i64 0], 36, (0, 0), 0, false, false⟩), some (.row ⟨[.slice none 0 0, .slice none 0 0], 73, (0, 0), 0, false, false⟩)]) (
 cond (List.all ls (af 8) && true) (
 some (.normal, ([(.tuple #[(.slice none 0 0), (.agg #[(.int .i64 (x)), (.int .i64 (y))]), (.int .i64 (e))])], []))) (
 none)) (
 none) := by kernel_rfl
set_option maxRecDepth 100000 in
theorem r_me0 (gl : Gl) (g : GS) (pw pe : C5 Int) (s : ByteArray) : mkCall gl (HMe g (mrO (.exit 0) 0 (spotRow 0 0 :: mrT 0 [] 0 [] 1002)) flH pw pe) s =
 cond (g [.int .i64 0, .pointer (some ⟨1000, 0, none⟩), .int .i64 1, .pointer (some ⟨1001, 0, none⟩), .int .i64 0, .string s, .slice none 0 0, .int .i64 0] [some (.row ⟨[.int .i64 0, .int .i64 0], 36, (0, 0), 0, false, false⟩), some (.row ⟨[.slice none 0 0, .slice none 0 0], 73, (0, 0), 0, false, false⟩)]) (
 some (.normal, ([(.tuple #[(.slice none 0 0), (.agg #[(.int .i64 0), (.int .i64 0)]), (.int .i64 0)])], []))) (
 none) := by kernel_rfl
set_option maxRecDepth 100000 in
theorem r_me1 (gl : Gl) (g : GS) (pw pe : C5 Int) (s : ByteArray) (ls : List Value) (m : Nat) : mkCall gl (HMe g (mrO (.exit 0) 0 (spotRow 0 0 :: mrT 1 ls m [] 1002)) flH pw pe) s =
 cond (g [.int .i64 0, .pointer (some ⟨1000, 0, none⟩), .int .i64 1, .pointer (some ⟨1001, 0, none⟩), .int .i64 0, .string s, .slice none 0 0, .int .i64 0] [some (.row ⟨[.int .i64 0, .int .i64 0], 36, (0, 0), 0, false, false⟩), some (.row ⟨[.slice none 0 0, .slice none 0 0], 73, (0, 0), 0, false, false⟩)]) (
 cond (List.all ls (af 8) && true) (
 some (.normal, ([(.tuple #[(.slice none 0 0), (.agg #[(.int .i64 0), (.int .i64 0)]), (.int .i64 0)])], []))) (
 none)) (
 none) := by kernel_rfl
set_option maxRecDepth 100000 in
theorem r_me2 (gl : Gl) (g : GS) (pw pe : C5 Int) (s : ByteArray) (op a b c n ln y : Int) (lb : ByteArray) : mkCall gl (HMe g (mrO (.exit 0) 0 (spotRow 0 0 :: mrT 2 [] 0 (onC op a b c n ln y lb) 1002)) (fun _ _ => none) pw pe) s =
 cond (g [.int .i64 0, .pointer (some ⟨1000, 0, none⟩), .int .i64 1, .pointer (some ⟨1001, 0, none⟩), .int .i64 0, .string s, .slice none 0 0, .int .i64 0] [some (.row ⟨[.int .i64 0, .int .i64 0], 36, (0, 0), 0, false, false⟩), some (.row ⟨[.slice none 0 0, .slice none 0 0], 73, (0, 0), 0, false, false⟩)]) (
 cond (lb.toList == (⟨#[]⟩ : ByteArray).toList) (
 cond (decide (0 ≤ op) && true) (
 cond (pe op a b c n != 0) (
 qs [ln, y] (
 some (.normal, ([(.tuple #[(.slice none 0 0), (.agg #[(.int .i64 (ln)), (.int .i64 (y))]), (.int .i64 5)])], [])))) (
 some (.normal, ([(.tuple #[(.slice (some ⟨1000, 0, none⟩) 1 1), (.agg #[(.int .i64 0), (.int .i64 0)]), (.int .i64 0)])], [some (.row ⟨[(.int .u32 (pw op a b c n))], 26, (0, 0), 1, false, false⟩)])))) (
 none)) (
 qs [ln, y] (
 some (.normal, ([(.tuple #[(.slice none 0 0), (.agg #[(.int .i64 (ln)), (.int .i64 (y))]), (.int .i64 212)])], []))))) (
 none) := by kernel_rfl
set_option maxRecDepth 100000 in
theorem r_me3 (gl : Gl) (g : GS) (pw pe : C5 Int) (s : ByteArray) (ls : List Value) (m : Nat) (op a b c n ln y : Int) (lb : ByteArray) (g2 : GS) (fa : Int) (fb : Bool) : mkCall gl (HMe g (mrO (.exit 0) 0 (spotRow 0 0 :: mrT 3 ls m (onC op a b c n ln y lb) 1002)) (fdH g2 fa fb (fdR1 ls m (onC op a b c n ln y lb))) pw pe) s =
 let z0 : Option Out := qs [ln, y] (
 some (.normal, ([(.tuple #[(.slice none 0 0), (.agg #[(.int .i64 (ln)), (.int .i64 (y))]), (.int .i64 5)])], [])))
 let z1 := List.all ls (af 8) && true
 cond (g [.int .i64 0, .pointer (some ⟨1000, 0, none⟩), .int .i64 1, .pointer (some ⟨1001, 0, none⟩), .int .i64 0, .string s, .slice none 0 0, .int .i64 0] [some (.row ⟨[.int .i64 0, .int .i64 0], 36, (0, 0), 0, false, false⟩), some (.row ⟨[.slice none 0 0, .slice none 0 0], 73, (0, 0), 0, false, false⟩)]) (
 cond z1 (
 cond (lb.toList == (⟨#[]⟩ : ByteArray).toList) (
 cond (decide (0 ≤ op) && true) (
 cond (pe op a b c n != 0) z0 (
 some (.normal, ([(.tuple #[(.slice (some ⟨1000, 0, none⟩) 1 1), (.agg #[(.int .i64 0), (.int .i64 0)]), (.int .i64 0)])], [some (.row ⟨[(.int .u32 (pw op a b c n))], 26, (0, 0), 1, false, false⟩)])))) (
 none)) (
 cond z1 (
 cond (g2 [.pointer (some ⟨1000, 0, none⟩), .string lb] [some (.row ⟨[.slice (some ⟨1001, 0, none⟩) m m, .slice (some ⟨1002, 0, none⟩) 1 1], 73, (0, 0), 0, false, false⟩), some (.row ⟨ls, 99, (0, 0), 2, false, false⟩), some (.row ⟨onC op a b c n ln y lb, 75, (0, 0), 8, false, false⟩)]) (
 cond z1 (
 cond (fb) (
 cond (decide (0 ≤ op) && true) (
 cond (pe op a b c (IntKind.i64.wrap (fa - 1)) != 0) z0 (
 some (.normal, ([(.tuple #[(.slice (some ⟨1000, 0, none⟩) 1 1), (.agg #[(.int .i64 0), (.int .i64 0)]), (.int .i64 0)])], [some (.row ⟨[(.int .u32 (pw op a b c (IntKind.i64.wrap (fa - 1))))], 26, (0, 0), 1, false, false⟩)])))) (
 none)) (
 qs [ln, y] (
 some (.normal, ([(.tuple #[(.slice none 0 0), (.agg #[(.int .i64 (ln)), (.int .i64 (y))]), (.int .i64 212)])], []))))) (
 none)) (
 none)) (
 none))) (
 none)) (
 none) := by kernel_rfl
set_option maxRecDepth 100000 in
theorem r_rput (gl : Gl) (mm : C5 Bool) (ww : C5 Int) (op a b c n : Int) : callSK noSy Tryz.prog gl exB (hsOf [(64, afCd tt5 fun op a b c n => .bool (mm op a b c n)), (65, afCd mm (i5 .u32 ww))] [] []) 100 40 40 (.fn 36) [cdV op a b c n] LS.start flatR =
 cond (decide (0 ≤ op) && true) (
 cond (mm op a b c n) (
 cond (decide (0 ≤ op) && (mm op a b c n)) (
 some (.tuple #[(.int .u32 (ww op a b c n)), (.int .i64 0)])) (
 none)) (
 some (.tuple #[(.int .u32 0), (.int .i64 2)]))) (
 none) := by kernel_rfl
end Go.Proofs.YtgohbcbdgakjeaaGreatDoor
noncomputable section
namespace Go.Proofs.YtgohbcbdgakjeaaGreatDoor
open Go.Proofs.YtgohbcbdgakjeaaGreatDoor.Ev Go.RowKit
def opR (s : ByteArray) : Int := cond (mapHas opsE s) (mapI opsE s) 22
theorem tlQ (a b : ByteArray) : (a.toList == b.toList) = (b == a) := by
 rw [beqS]
 cases h : b == a with
 | true => rw [baq] at h; exact decide_eq_true h.symm
 | false => exact decide_eq_false fun e => by rw [e, show (b == b) = true from baq.2 rfl] at h; cases h
def opN (s : ByteArray) : MEs → Option Value
 | [] => some (.int .u8 22)
 | e :: es => match e with
  | (.string a, .int _ n, _) => cond (s == a) (some (.int .u8 n)) (opN s es)
  | _ => none
theorem opN_eq (s : ByteArray) : ∀ es : MEs, (∀ e ∈ es, ∃ a n c, e = (.string a, .int .u8 n, c)) → opN s es = some (.int .u8 (cond (mapHas es s) (mapI es s) 22))
 | [], _ => rfl
 | e :: es, h => by
  obtain ⟨a, n, c, rfl⟩ := h e (List.mem_cons_self ..)
  have ih := opN_eq s es fun x hx => h x (List.mem_cons_of_mem _ hx)
  show cond (s == a) (some (.int .u8 n)) (opN s es) = some (.int .u8 (cond (cond (s == a) true (mapHas es s)) (cond (s == a) n (mapI es s)) 22))
  cases s == a with
  | true => rfl
  | false => exact ih
theorem fn_rop {gl : Gl} (hgl : Low gl) : FnOK Tryz.prog gl 61 (afOpR opR) := fn_ofT hgl fun args σ v h => by
 unfold afOpR at h
 split at h
 ·rename_i s
  simp only [Option.some.injEq, Prod.mk.injEq, true_and] at h
  subst h
  refine ⟨rfl, noSy, HB0, 100, 40, 40, noSy_ok, HB0_ok, (r_rop gl s).trans ?_⟩
  simp only [tlQ]
  exact opN_eq s opsE fun e he => by
   unfold opsE at he
   simp only [List.mem_cons, List.not_mem_nil, or_false] at he
   rcases he with rfl | rfl | rfl | rfl | rfl | rfl | rfl | rfl | rfl | rfl | rfl | rfl | rfl | rfl | rfl | rfl | rfl | rfl | rfl | rfl | rfl | rfl <;> exact ⟨_, _, _, rfl⟩
 ·cases h
def wB (w : Int) : UInt8 := if w = 0 then 114 else if w = 1 then 110 else 112
def fmB (n : Int) : ByteArray := if n < 22 then ⟨((wantsOf n).map wB).toArray⟩ else ⟨#[114, 114, 114]⟩
theorem fn_rfm {gl : Gl} (hgl : Low gl) : FnOK Tryz.prog gl 62 (afFmR fmB) := fn_ofT hgl fun args σ v h => by
 unfold afFmR at h
 split at h
 ·rename_i n
  simp only [Option.some.injEq, Prod.mk.injEq, decide_eq_true_eq] at h
  obtain ⟨h0, rfl⟩ := h
  refine ⟨rfl, noSy, HB0, 100, 40, 40, noSy_ok, HB0_ok, (r_rfm gl n).trans ?_⟩
  by_cases h1 : n < 22
  ·rcases (show n = 0 ∨ n = 1 ∨ n = 2 ∨ n = 3 ∨ n = 4 ∨ n = 5 ∨ n = 6 ∨ n = 7 ∨ n = 8 ∨ n = 9 ∨ n = 10 ∨ n = 11 ∨ n = 12 ∨ n = 13 ∨ n = 14 ∨ n = 15 ∨ n = 16 ∨ n = 17 ∨ n = 18 ∨ n = 19 ∨ n = 20 ∨ n = 21 by omega) with rfl | rfl | rfl | rfl | rfl | rfl | rfl | rfl | rfl | rfl | rfl | rfl | rfl | rfl | rfl | rfl | rfl | rfl | rfl | rfl | rfl | rfl <;> rfl
  ·have ne : ∀ k : Int, k < 22 → (n == k) = false := fun k hk => by rw [beqD]; exact decide_eq_false (by omega)
   rw [show fmB n = ⟨#[114, 114, 114]⟩ from if_neg h1]
   rw [ne 0 (by decide), ne 18 (by decide), ne 21 (by decide), ne 8 (by decide), ne 9 (by decide), ne 10 (by decide), ne 12 (by decide), ne 13 (by decide), ne 14 (by decide), ne 15 (by decide), ne 16 (by decide), ne 17 (by decide), ne 19 (by decide), ne 20 (by decide)]
   rfl
 ·cases h
def ftB (w k : Int) : Bool := cond (decide (w = 114) && decide (k = 2)) true (cond (!decide (w = 114) && decide (k = 3)) true (decide (w = 112) && decide (k = 1)))
set_option maxRecDepth 100000 in
theorem r_ft (gl : Gl) (w k n a : Int) (t : ByteArray) : callSK noSy Tryz.prog gl exB HB0 100 40 40 (.fn 63) [.int .u8 w, .agg #[.int .u8 k, .string t, .int .i64 n, .int .i64 a]] LS.start flatR =
 let z0 : Option Value := cond (w == 112) (
 cond (k == 1) (
 some (.bool true)) (
 some (.bool false))) (
 some (.bool false))
 let z1 : Option Value := cond (w != 114) (
 cond (k == 3) (
 some (.bool true)) z0) z0
 cond (w == 114) (
 cond (k == 2) (
 some (.bool true)) z1) z1 := by kernel_rfl
theorem fn_ft {gl : Gl} (hgl : Low gl) : FnOK Tryz.prog gl 63 (afFt ftB) := fn_ofT hgl fun args σ v h => by
 unfold afFt at h
 split at h
 ·rename_i w k t n a
  simp only [Option.some.injEq, Prod.mk.injEq, true_and] at h
  subst h
  refine ⟨rfl, noSy, HB0, 100, 40, 40, noSy_ok, HB0_ok, (r_ft gl w k n a t).trans ?_⟩
  unfold ftB
  simp only [beqD, bneD, Bool.cond_eq_ite, Bool.and_eq_true, decide_eq_true_eq, Bool.not_eq_true', decide_eq_false_iff_not]
  by_cases c1 : w = 114 <;> by_cases c2 : k = 2 <;> by_cases c3 : k = 3 <;> by_cases c4 : w = 112 <;> by_cases c5 : k = 1 <;> simp [c1, c2, c3, c4, c5, qs] <;> omega
 ·cases h
theorem fn_rput {gl : Gl} (hF : GlF gl) (hgl : Low gl) : FnOK Tryz.prog gl 36 (afCd tt5 putV) := fn_ofT hgl fun args σ v h => by
 unfold afCd at h
 split at h
 ·rename_i op a b c n
  simp only [Option.some.injEq, Prod.mk.injEq, Bool.and_eq_true, decide_eq_true_eq] at h
  obtain ⟨⟨h0, _⟩, rfl⟩ := h
  refine ⟨rfl, noSy, _, 100, 40, 40, noSy_ok, one_ok fun p hp => ?_, (r_rput gl cmay wordN op a b c n).trans (condI (by rw [decide_eq_true h0]; rfl) ?_)⟩
  ·simp only [List.mem_cons, List.not_mem_nil, or_false] at hp
   rcases hp with rfl | rfl
   ·exact fn_rmay hF hgl
   ·exact fn_rword hF hgl
  ·unfold putV putN cmayI
   cases cmay op a b c n with
   | true => exact condI rfl (condI (by rw [decide_eq_true h0]; rfl) rfl)
   | false => rfl
 ·cases h
def lbC (lb : Lb) : List Value := lb.flatMap fun p => [.string p.1, .int .i64 p.2]
theorem lbC_len : ∀ lb : Lb, (lbC lb).length = lb.length * 2
 | [] => rfl
 | p :: lb => by
  show (([.string p.1, .int .i64 p.2] : List Value) ++ lbC lb).length = _
  simp only [List.length_append, lbC_len lb, List.length_cons, List.length_nil]
  omega
theorem lbC_all (lb : Lb) : (lbC lb).all (af 8) = true := by
 induction lb with
 | nil => rfl
 | cons p lb ih =>
  show (([.string p.1, .int .i64 p.2] : List Value) ++ lbC lb).all (af 8) = true
  rw [List.all_append, ih]
  rfl
theorem lbC_snoc (lb : Lb) (p : ByteArray × Int) : lbC (lb ++ [p]) = lbC lb ++ [.string p.1, .int .i64 p.2] := by
 unfold lbC
 rw [List.flatMap_append]
 simp
theorem lbC_get : ∀ (lb : Lb) (i : Nat) (q : ByteArray × Int), lb[i]? = some q → (lbC lb)[i * 2]? = some (.string q.1) ∧ (lbC lb)[i * 2 + 1]? = some (.int .i64 q.2)
 | [], _, _, h => by cases h
 | p :: lb, 0, q, h => by cases h; exact ⟨rfl, rfl⟩
 | p :: lb, i + 1, q, h => by
  have := lbC_get lb i q h
  rw [Nat.succ_mul]
  exact this
theorem lb_get {lb : Lb} {i : Nat} (h : i < lb.length) : (symOf (lbC lb)).okS (0 + i * 2) = true ∧ (symOf (lbC lb)).str (0 + i * 2) = lb[i].1 ∧ (symOf (lbC lb)).okI .i64 (0 + i * 2 + 1) = true ∧ (symOf (lbC lb)).int .i64 (0 + i * 2 + 1) = lb[i].2 := by
 obtain ⟨g0, g1⟩ := lbC_get lb i lb[i] (List.getElem?_eq_getElem h)
 rw [Nat.zero_add]
 refine ⟨?_, ?_, ?_, ?_⟩
 ·show cellIsS _ = true; rw [g0]; rfl
 ·show cellS _ = _; rw [g0]; rfl
 ·show cellIsI .i64 _ = true; rw [g1]; rfl
 ·show cellI _ = _; rw [g1]; rfl
def fdO (p : Ex × Int × Bool) (rows : List (Option LObj)) : Out := (p.1, [pK 1000, .int .i64 p.2.1, .bool p.2.2], rows)
def fdG (s : ByteArray) : Lb → Ex × Int × Bool
 | [] => (.exit 0, 0, false)
 | p :: l => cond (s == p.1) (.ret, p.2, true) (fdG s l)
theorem fdG_eq (s : ByteArray) : ∀ l : Lb, fdG s l = (cond (lbHas l s) .ret (.exit 0), lbAt l s, lbHas l s)
 | [] => rfl
 | p :: l => by
  rw [fdG, fdG_eq s l, lbHas, lbAt]
  cases s == p.1 <;> rfl
def HFd (g : GS) (o : Out) : Hs := hsOf [] [] [(35, [(0, ⟨fdLive, [0, 4, 5], gH g o⟩)])]
set_option maxRecDepth 100000 in
theorem r_fc0 (gl : Gl) (g : GS) (a : Int) (b : Bool) (s : ByteArray) (cs : List Value) (k : Nat) : callSK noSy Tryz.prog gl exB (HFd g (fdO (.exit 0, a, b) (fdR0 cs k))) 100 40 40 (.fn 35) [pK 1000, .string s] (rowsOf (fdR0 cs k)) (exitK Tryz.prog 1002) =
 let z0 := List.all cs (af 8) && true
 cond z0 (
 cond (g [.int .i64 0, .pointer (some ⟨1000, 0, none⟩), .string s, .int .i64 0, .bool false] [some (.row ⟨[.slice (some ⟨1001, 0, none⟩) k k, .slice none 0 0], 73, (0, 0), 0, false, false⟩), some (.row ⟨cs, 99, (0, 0), 2, false, false⟩)]) (
 cond z0 (
 cond z0 (
 some (.normal, ([(.tuple #[(.int .i64 0), (.bool false)])], [some (.row ⟨[(.slice (some ⟨1001, 0, none⟩) (k) (k)), (.slice none 0 0)], 73, (0, 0), 0, false, false⟩), some (.row ⟨cs, 99, (0, 0), 2, false, false⟩)]))) (
 none)) (
 none)) (
 none)) (
 none) := by kernel_rfl
set_option maxRecDepth 100000 in
theorem r_fc1 (gl : Gl) (g : GS) (a : Int) (b : Bool) (s : ByteArray) (cs : List Value) (k : Nat) : callSK noSy Tryz.prog gl exB (HFd g (fdO (.ret, a, b) (fdR0 cs k))) 100 40 40 (.fn 35) [pK 1000, .string s] (rowsOf (fdR0 cs k)) (exitK Tryz.prog 1002) =
 let z0 := List.all cs (af 8) && true
 cond z0 (
 cond (g [.int .i64 0, .pointer (some ⟨1000, 0, none⟩), .string s, .int .i64 0, .bool false] [some (.row ⟨[.slice (some ⟨1001, 0, none⟩) k k, .slice none 0 0], 73, (0, 0), 0, false, false⟩), some (.row ⟨cs, 99, (0, 0), 2, false, false⟩)]) (
 cond z0 (
 cond z0 (
 some (.normal, ([(.tuple #[(.int .i64 (a)), (.bool (b))])], [some (.row ⟨[(.slice (some ⟨1001, 0, none⟩) (k) (k)), (.slice none 0 0)], 73, (0, 0), 0, false, false⟩), some (.row ⟨cs, 99, (0, 0), 2, false, false⟩)]))) (
 none)) (
 none)) (
 none)) (
 none) := by kernel_rfl
set_option maxRecDepth 100000 in
theorem r_fc2 (gl : Gl) (g : GS) (a : Int) (b : Bool) (s : ByteArray) (cs : List Value) (k : Nat) (ts : List Value) : callSK noSy Tryz.prog gl exB (HFd g (fdO (.exit 0, a, b) (fdR1 cs k ts))) 100 40 40 (.fn 35) [pK 1000, .string s] (rowsOf (fdR1 cs k ts)) (exitK Tryz.prog 1003) =
 let z0 := List.all cs (af 8) && (List.all ts (af 8) && true)
 cond z0 (
 cond (g [.int .i64 0, .pointer (some ⟨1000, 0, none⟩), .string s, .int .i64 0, .bool false] [some (.row ⟨[.slice (some ⟨1001, 0, none⟩) k k, .slice (some ⟨1002, 0, none⟩) 1 1], 73, (0, 0), 0, false, false⟩), some (.row ⟨cs, 99, (0, 0), 2, false, false⟩), some (.row ⟨ts, 75, (0, 0), 8, false, false⟩)]) (
 cond z0 (
 cond z0 (
 some (.normal, ([(.tuple #[(.int .i64 0), (.bool false)])], [some (.row ⟨[(.slice (some ⟨1001, 0, none⟩) (k) (k)), (.slice (some ⟨1002, 0, none⟩) 1 1)], 73, (0, 0), 0, false, false⟩), some (.row ⟨cs, 99, (0, 0), 2, false, false⟩), some (.row ⟨ts, 75, (0, 0), 8, false, false⟩)]))) (
 none)) (
 none)) (
 none)) (
 none) := by kernel_rfl
set_option maxRecDepth 100000 in
theorem r_fc3 (gl : Gl) (g : GS) (a : Int) (b : Bool) (s : ByteArray) (cs : List Value) (k : Nat) (ts : List Value) : callSK noSy Tryz.prog gl exB (HFd g (fdO (.ret, a, b) (fdR1 cs k ts))) 100 40 40 (.fn 35) [pK 1000, .string s] (rowsOf (fdR1 cs k ts)) (exitK Tryz.prog 1003) =
 let z0 := List.all cs (af 8) && (List.all ts (af 8) && true)
 cond z0 (
 cond (g [.int .i64 0, .pointer (some ⟨1000, 0, none⟩), .string s, .int .i64 0, .bool false] [some (.row ⟨[.slice (some ⟨1001, 0, none⟩) k k, .slice (some ⟨1002, 0, none⟩) 1 1], 73, (0, 0), 0, false, false⟩), some (.row ⟨cs, 99, (0, 0), 2, false, false⟩), some (.row ⟨ts, 75, (0, 0), 8, false, false⟩)]) (
 cond z0 (
 cond z0 (
 some (.normal, ([(.tuple #[(.int .i64 (a)), (.bool (b))])], [some (.row ⟨[(.slice (some ⟨1001, 0, none⟩) (k) (k)), (.slice (some ⟨1002, 0, none⟩) 1 1)], 73, (0, 0), 0, false, false⟩), some (.row ⟨cs, 99, (0, 0), 2, false, false⟩), some (.row ⟨ts, 75, (0, 0), 8, false, false⟩)]))) (
 none)) (
 none)) (
 none)) (
 none) := by kernel_rfl
end Go.Proofs.YtgohbcbdgakjeaaGreatDoor
noncomputable section
namespace Go.Proofs.YtgohbcbdgakjeaaGreatDoor
open Go.Proofs.YtgohbcbdgakjeaaGreatDoor.Ev Go.RowKit
theorem bN {i k : Nat} (h : i < k) : (decide ((0 : Int) ≤ (i : Int)) && decide ((i : Int) < (k : Int)) && k.ble k) = true := by
 rw [decide_eq_true (show (0 : Int) ≤ (i : Int) by omega), decide_eq_true (show (i : Int) < (k : Int) by omega), nble (Nat.le_refl _)]; rfl
theorem fd_loop0 {gl : Gl} (hgl : Low gl) {s : ByteArray} {lb : Lb} (hl : lb.length ≤ 1000) : LpOK Tryz.prog gl 35 0 ⟨fdLive, [0, 4, 5], gH (atS (fdV 0 s) (fdR0 (lbC lb) lb.length)) (fdO (fdG s lb) (fdR0 (lbC lb) lb.length))⟩ :=
 loop_here goodB hgl tglob (st0 := (fdV 0 s, fdR0 (lbC lb) lb.length)) (by show 1002 ≤ most; decide) ⟨{i : Nat // i ≤ lb.length}, fun i => (fdV ((i.1 : Nat) : Int) s, fdR0 (lbC lb) lb.length), fun i => some (fdO (fdG s (lb.drop i.1)) (fdR0 (lbC lb) lb.length)), fun i => lb.length - i.1, ⟨0, Nat.zero_le _⟩, rfl, rfl, by
  rintro ⟨i, hi⟩ o ho
  simp only at hi ho
  cases ho
  have al := andI (lbC_all lb) (show true = true from rfl)
  by_cases h : i = lb.length
  ·subst h
   refine ⟨syL 1001 (lbC lb), HB0, 100, 40, 40, .inr (fdO (.exit 0, 0, false) (fdR0 (lbC lb) lb.length)), syL_ok (by decide) _, HB0_ok, (r_fd0 gl (lb.length : Int) s (lbC lb) lb.length).trans (condE (decide_eq_false (by omega)) (condI al rfl)), ?_⟩
   show fdO (.exit 0, 0, false) _ = fdO (fdG s (lb.drop lb.length)) _
   rw [List.drop_length]
   rfl
  ·have hi2 : i < lb.length := by omega
   obtain ⟨g0, g1, g2, g3⟩ := lb_get hi2
   have w : IntKind.i64.wrap ((i : Int) + 1) = ((i + 1 : Nat) : Int) := wrapS (by omega)
   refine ⟨syL 1001 (lbC lb), HB0, 100, 40, 40, cond (s == lb[i].1) (.inr (fdO (.ret, lb[i].2, true) (fdR0 (lbC lb) lb.length))) (.inl (fdV ((i + 1 : Nat) : Int) s, fdR0 (lbC lb) lb.length)), syL_ok (by decide) _, HB0_ok, (r_fd0 gl (i : Int) s (lbC lb) lb.length).trans ?_, ?_⟩
   ·rw [Int.toNat_natCast, g1, g3, tlQ, w]
    refine condI (decide_eq_true (by omega)) (condI (bN hi2) (condI (sameL_self _) (condI g0 ?_)))
    cases s == lb[i].1 with
    | true => exact condI rfl (condI (bN hi2) (condI (sameL_self _) (condI g2 (condI al rfl))))
    | false => exact condE rfl (condI al rfl)
   ·have e4 : lb.drop i = lb[i] :: lb.drop (i + 1) := List.drop_eq_getElem_cons hi2
    rw [e4, fdG]
    cases s == lb[i].1 with
    | true => rfl
    | false => exact ⟨⟨i + 1, by omega⟩, rfl, (by show lb.length - (i + 1) < lb.length - i; omega), rfl⟩⟩
theorem fd_loop1 {gl : Gl} (hgl : Low gl) {s : ByteArray} {lb : Lb} {ts : List Value} (hts : ts.all (af 8) = true) (hl : lb.length ≤ 1000) : LpOK Tryz.prog gl 35 0 ⟨fdLive, [0, 4, 5], gH (atS (fdV 0 s) (fdR1 (lbC lb) lb.length ts)) (fdO (fdG s lb) (fdR1 (lbC lb) lb.length ts))⟩ :=
 loop_here goodB hgl tglob (st0 := (fdV 0 s, fdR1 (lbC lb) lb.length ts)) (by show 1003 ≤ most; decide) ⟨{i : Nat // i ≤ lb.length}, fun i => (fdV ((i.1 : Nat) : Int) s, fdR1 (lbC lb) lb.length ts), fun i => some (fdO (fdG s (lb.drop i.1)) (fdR1 (lbC lb) lb.length ts)), fun i => lb.length - i.1, ⟨0, Nat.zero_le _⟩, rfl, rfl, by
  rintro ⟨i, hi⟩ o ho
  simp only at hi ho
  cases ho
  have al := andI (lbC_all lb) (andI hts (show true = true from rfl))
  by_cases h : i = lb.length
  ·subst h
   refine ⟨syL 1001 (lbC lb), HB0, 100, 40, 40, .inr (fdO (.exit 0, 0, false) (fdR1 (lbC lb) lb.length ts)), syL_ok (by decide) _, HB0_ok, (r_fd1 gl (lb.length : Int) s (lbC lb) lb.length ts).trans (condE (decide_eq_false (by omega)) (condI al rfl)), ?_⟩
   show fdO (.exit 0, 0, false) _ = fdO (fdG s (lb.drop lb.length)) _
   rw [List.drop_length]
   rfl
  ·have hi2 : i < lb.length := by omega
   obtain ⟨g0, g1, g2, g3⟩ := lb_get hi2
   have w : IntKind.i64.wrap ((i : Int) + 1) = ((i + 1 : Nat) : Int) := wrapS (by omega)
   refine ⟨syL 1001 (lbC lb), HB0, 100, 40, 40, cond (s == lb[i].1) (.inr (fdO (.ret, lb[i].2, true) (fdR1 (lbC lb) lb.length ts))) (.inl (fdV ((i + 1 : Nat) : Int) s, fdR1 (lbC lb) lb.length ts)), syL_ok (by decide) _, HB0_ok, (r_fd1 gl (i : Int) s (lbC lb) lb.length ts).trans ?_, ?_⟩
   ·rw [Int.toNat_natCast, g1, g3, tlQ, w]
    refine condI (decide_eq_true (by omega)) (condI (bN hi2) (condI (sameL_self _) (condI g0 ?_)))
    cases s == lb[i].1 with
    | true => exact condI rfl (condI (bN hi2) (condI (sameL_self _) (condI g2 (condI al rfl))))
    | false => exact condE rfl (condI al rfl)
   ·have e4 : lb.drop i = lb[i] :: lb.drop (i + 1) := List.drop_eq_getElem_cons hi2
    rw [e4, fdG]
    cases s == lb[i].1 with
    | true => rfl
    | false => exact ⟨⟨i + 1, by omega⟩, rfl, (by show lb.length - (i + 1) < lb.length - i; omega), rfl⟩⟩
theorem HFd_ok {gl : Gl} {g : GS} {o : Out} (h : LpOK Tryz.prog gl 35 0 ⟨fdLive, [0, 4, 5], gH g o⟩) : (HFd g o).OK Tryz.prog gl := hsOf_ok (fun _ h => by cases h) (fun _ h => by cases h) (fun p hp q hq => by
 simp only [List.mem_cons, List.not_mem_nil, or_false] at hp
 subst hp
 simp only [List.mem_cons, List.not_mem_nil, or_false] at hq
 subst hq
 exact h)
theorem find_at0 {gl : Gl} (hgl : Low gl) {s : ByteArray} {lb : Lb} (hl : lb.length ≤ 1000) : SubOK Tryz.prog gl 35 (fdH (atS [pK 1000, .string s] (fdR0 (lbC lb) lb.length)) (lbAt lb s) (lbHas lb s) (fdR0 (lbC lb) lb.length)) := by
 refine sub_at goodB hgl tglob (by show 1002 ≤ most; decide) ⟨noSy, _, 100, 40, 40, noSy_ok, HFd_ok (fd_loop0 hgl (s := s) hl), ?_⟩
 have al := andI (lbC_all lb) (show true = true from rfl)
 have hn : ∀ l : Lb, lbHas l s = false → lbAt l s = 0 := fun l => by
  induction l with
  | nil => exact fun _ => rfl
  | cons p l ih =>
   intro h
   rw [lbHas] at h
   rw [lbAt]
   cases hp : s == p.1 with
   | true => rw [hp] at h; cases h
   | false => rw [hp] at h; exact ih h
 rw [fdG_eq]
 cases h : lbHas lb s with
 | true => exact (r_fc1 gl _ (lbAt lb s) true s (lbC lb) lb.length).trans (condI al (condI (atS_self _ _) (condI al (condI al rfl))))
 | false =>
  rw [hn lb h]
  exact (r_fc0 gl _ 0 false s (lbC lb) lb.length).trans (condI al (condI (atS_self _ _) (condI al (condI al rfl))))
theorem find_at1 {gl : Gl} (hgl : Low gl) {s : ByteArray} {lb : Lb} {ts : List Value} (hts : ts.all (af 8) = true) (hl : lb.length ≤ 1000) : SubOK Tryz.prog gl 35 (fdH (atS [pK 1000, .string s] (fdR1 (lbC lb) lb.length ts)) (lbAt lb s) (lbHas lb s) (fdR1 (lbC lb) lb.length ts)) := by
 refine sub_at goodB hgl tglob (by show 1003 ≤ most; decide) ⟨noSy, _, 100, 40, 40, noSy_ok, HFd_ok (fd_loop1 hgl (s := s) hts hl), ?_⟩
 have al := andI (lbC_all lb) (andI hts (show true = true from rfl))
 have hn : ∀ l : Lb, lbHas l s = false → lbAt l s = 0 := fun l => by
  induction l with
  | nil => exact fun _ => rfl
  | cons p l ih =>
   intro h
   rw [lbHas] at h
   rw [lbAt]
   cases hp : s == p.1 with
   | true => rw [hp] at h; cases h
   | false => rw [hp] at h; exact ih h
 rw [fdG_eq]
 cases h : lbHas lb s with
 | true => exact (r_fc3 gl _ (lbAt lb s) true s (lbC lb) lb.length ts).trans (condI al (condI (atS_self _ _) (condI al (condI al rfl))))
 | false =>
  rw [hn lb h]
  exact (r_fc2 gl _ 0 false s (lbC lb) lb.length ts).trans (condI al (condI (atS_self _ _) (condI al (condI al rfl))))
def rlRows (l : List Tok) (lb : Lb) : List (Option LObj) := match lb with
 | [] => rlR0 (toksC l)
 | _ :: _ => rlR1 (toksC l) (lbC lb) lb.length
def rlSt (i : Nat) (num : Int) (l : List Tok) (lb : Lb) : LSt := (rlV (i : Int) num l.length, rlRows l lb)
def rlEnd (num : Int) (l : List Tok) (r : Nat × Lb × Bool) : Out := cond r.2.2 (rlO .ret (r.1 : Int) num l.length (r.1 : Int) 211 (rlRows l r.2.1)) (rlO (.exit 0) (r.1 : Int) num l.length 0 0 (rlRows l r.2.1))
theorem rl_round {gl : Gl} (hgl : Low gl) {i : Nat} {num : Int} {l : List Tok} {lb : Lb} (hi : i ≤ l.length) (hl : l.length ≤ 1000) (hlb : lb.length ≤ 1000) : ∃ H : Hs, H.OK Tryz.prog gl ∧
  roundK (syL 1001 (toksC l)) Tryz.prog gl exB H 100 40 40 34 0 rlLive (rlSt i num l lb) (rndK Tryz.prog 1002 rlLive rlOut) =
   some (cond (lbIs l i) (cond (lbHas lb (tk l i).text) (.inr (rlEnd num l (i, lb, true))) (.inl (rlSt (i + 2) num l (lb ++ [((tk l i).text, 0)])))) (.inr (rlEnd num l (i, lb, false)))) := by
 have w1 : IntKind.i64.wrap ((i : Int) + 1) = ((i + 1 : Nat) : Int) := by rw [wrap_64 (by omega) (by omega)]; omega
 have w2 : IntKind.i64.wrap ((i : Int) + 2) = ((i + 2 : Nat) : Int) := by rw [wrap_64 (by omega) (by omega)]; omega
 have aC := andI (toksC_all l) (show true = true from rfl)
 have aL := andI (toksC_all l) (andI (lbC_all lb) (show true = true from rfl))
 unfold lbIs
 cases lb with
 | nil =>
  refine ⟨HB0, HB0_ok, (r_rl0 gl (i : Int) num (toksC l) l.length).trans ?_⟩
  rw [w1, w2]
  by_cases h : i + 1 < l.length
  case neg =>
   rw [decide_eq_false h]
   exact condE (decide_eq_false (by omega)) (condI aC rfl)
  have h1 : i < l.length := by omega
  obtain ⟨k0, k1, k2, k3, _, _, _, _⟩ := tkA h1
  obtain ⟨m0, m1, _, _, _, _, _, _⟩ := tkA h
  rw [decide_eq_true h, Int.toNat_natCast, Int.toNat_natCast, k1, m1, k3, beqD, beqD]
  refine condI (decide_eq_true (by omega)) (condI (bN h1) (condI (sameL_self _) (condI k0 ?_)))
  cases decide ((tk l i).kind = 1) with
  | false => exact condE rfl (condI aC rfl)
  | true =>
   refine condI rfl (condI (bN h) (condI (sameL_self _) (condI m0 ?_)))
   cases decide ((tk l (i + 1)).kind = 5) with
   | false => exact condE rfl (condI aC rfl)
   | true => exact condI rfl (condI (bN h1) (condI (sameL_self _) (condI k2 (condI (bN h1) (condI (sameL_self _) (condI k2 (condI (sameL_self _) (condI k2 (condI (veq_str _) (condI aC rfl))))))))))
 | cons p lb' =>
  have hf := find_at0 hgl (s := (tk l i).text) (lb := p :: lb') hlb
  refine ⟨_, hsOf_ok (fun _ h => by cases h) (fun q hq => by
   simp only [List.mem_cons, List.not_mem_nil, or_false] at hq
   subst hq
   exact hf) (fun _ h => by cases h), (r_rl1 gl _ (lbAt (p :: lb') (tk l i).text) (lbHas (p :: lb') (tk l i).text) (i : Int) num (toksC l) l.length (lbC (p :: lb')) (p :: lb').length).trans ?_⟩
  rw [w1, w2]
  by_cases h : i + 1 < l.length
  case neg =>
   rw [decide_eq_false h]
   exact condE (decide_eq_false (by omega)) (condI aL rfl)
  have h1 : i < l.length := by omega
  obtain ⟨k0, k1, k2, k3, _, _, _, _⟩ := tkA h1
  obtain ⟨m0, m1, _, _, _, _, _, _⟩ := tkA h
  rw [decide_eq_true h, Int.toNat_natCast, Int.toNat_natCast, k1, m1, k3, beqD, beqD]
  refine condI (decide_eq_true (by omega)) (condI (bN h1) (condI (sameL_self _) (condI k0 ?_)))
  cases decide ((tk l i).kind = 1) with
  | false => exact condE rfl (condI aL rfl)
  | true =>
   refine condI rfl (condI (bN h) (condI (sameL_self _) (condI m0 ?_)))
   cases decide ((tk l (i + 1)).kind = 5) with
   | false => exact condE rfl (condI aL rfl)
   | true =>
    refine condI rfl (condI (bN h1) (condI (sameL_self _) (condI k2 (condI (andI (lbC_all _) rfl) (condI (atS_self _ _) (condI (andI (lbC_all _) rfl) ?_))))))
    cases hh : lbHas (p :: lb') (tk l i).text with
    | true => exact condI rfl (condI aL rfl)
    | false =>
     have en : lbC (p :: lb') ++ [Value.string (tk l i).text, Value.int .i64 0] = lbC ((p :: lb') ++ [((tk l i).text, 0)]) := (lbC_snoc (p :: lb') ((tk l i).text, 0)).symm
     rw [en]
     have len : (p :: lb').length + 1 = ((p :: lb') ++ [((tk l i).text, (0 : Int))]).length := by rw [List.length_append]; rfl
     refine condE rfl (condI (bN h1) (condI (sameL_self _) (condI k2 (condI (nble (Nat.le_refl _)) (condI (by rw [nble (by omega), nble (by omega)]; rfl) (condI (by rw [lbC_len]; exact Nat.beq_refl _) (condI (sameL_self _) (condI k2 (condI (veq_str _) (condI (veqSl _ _) (condI (andI (toksC_all l) (andI (lbC_all _) rfl)) ?_)))))))))))
     rw [len]
     rfl
theorem rl_loop {gl : Gl} (hgl : Low gl) {num : Int} {l : List Tok} (hl : l.length ≤ 1000) : LpOK Tryz.prog gl 34 0 ⟨rlLive, rlOut, gH (atS (rlV 0 num l.length) (rlR0 (toksC l))) (rlEnd num l (lbGo l 0 (l.length + 1) 0 []))⟩ :=
 loop_here goodB hgl tglob (st0 := (rlV 0 num l.length, rlR0 (toksC l))) (by show 1002 ≤ most; decide) ⟨{p : Nat × Lb // p.1 ≤ l.length ∧ p.2.length ≤ p.1}, fun p => rlSt p.1.1 num l p.1.2, fun p => some (rlEnd num l (lbGo l 0 (l.length + 1 - p.1.1) p.1.1 p.1.2)), fun p => l.length - p.1.1, ⟨(0, []), Nat.zero_le _, Nat.zero_le _⟩, rfl, rfl, by
  rintro ⟨⟨i, lb⟩, hi, hlb⟩ o ho
  simp only at hi hlb ho
  cases ho
  obtain ⟨H, hH, hr⟩ := rl_round hgl (num := num) (lb := lb) hi hl (by omega)
  refine ⟨syL 1001 (toksC l), H, 100, 40, 40, _, syL_ok (by decide) _, hH, hr, ?_⟩
  obtain ⟨f, hf⟩ : ∃ f, l.length + 1 - i = f + 1 := ⟨l.length - i, by omega⟩
  rw [hf, lbGo]
  cases h1 : lbIs l i with
  | false => rfl
  | true =>
   have h2 := lbIs_lt h1
   rw [cond_true, cond_true]
   cases h3 : lbHas lb (tk l i).text with
   | true => rfl
   | false =>
    refine ⟨⟨(i + 2, lb ++ [((tk l i).text, 0)]), by simp only; omega, by simp only [List.length_append, List.length_singleton]; omega⟩, rfl, by simp only; omega, ?_⟩
    simp only [cond_false]
    rw [lbGo_fuel (l.length + 1 - (i + 2)) f (i + 2) _ (by omega) (by omega)]⟩
end Go.Proofs.YtgohbcbdgakjeaaGreatDoor
