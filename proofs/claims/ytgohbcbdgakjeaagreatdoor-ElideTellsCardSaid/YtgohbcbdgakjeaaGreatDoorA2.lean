/- asm: residuals of the code that reads an instruction, one behind others. -/
import Derived.Test.YtgohbcbdgakjeaaGreatDoorA1
noncomputable section
noncomputable section
namespace Go.Proofs.YtgohbcbdgakjeaaGreatDoor
open Go.Proofs.YtgohbcbdgakjeaaGreatDoor.Ev Go.RowKit
set_option maxRecDepth 100000 in
theorem r_li1H (gl : Gl) (g : GS) (gw : Int → Bool) (i num : Int) (cs : List Value) (k : Nat) (es lb lb' : MEs) (eo c c' : Nat) (td : List Value) (n : Nat) : li1 gl g gw [] i num cs k es lb lb' eo c c' td n =
 let z4 := liRows1 cs es lb' eo c' td n
 let z5 := mapI es (tT cs i)
 let z2 := td ++ [(.int .u8 z5), (.int .i64 0), (.int .i64 0), (.int .i64 0), (.int .i64 0), (.int .i64 0), (.int .i64 0), (.string ((⟨#[]⟩ : ByteArray)))]
 let z6 := (symOf cs).okS (0 + i.toNat * 4 + 1)
 let z7 := gB cs es lb' td
 let z3 : Option Out := cond z7 (
 lE (i) z4) (
 none)
 let z8 := veq 8 (.string (tT cs i)) (.string (tT cs i))
 let z9 := 0 + i.toNat * 4
 let z0 : Option Out := cond (sameL cs cs) (
 cond z6 (
 cond z8 (
 cond (bG (i) k) (
 cond (sameL cs cs) (
 cond ((symOf cs).okI .u8 z9) (
 cond ((symOf cs).int .u8 z9 != 1) z3 (
 cond ((↑n : Int) == 1024) (
 cond z7 (
 some (.normal, ([(.tuple #[(.int .i64 (i)), (.int .i64 7)])], z4))) (
 none)) (
 cond (gw z5) (
 cond (decide (w1 i < (↑k : Int))) (
 cond z7 (
 lE (w1 i) z4) (
 none)) (
 cond (n.ble n) (
 cond (((n + 1) * 72).ble 140737488355328 && ((n + 1).ble 1099511627776)) (
 cond ((n * 8).beq td.length) (
 qs [mapI es (tT cs i)] (
 cond (veq 8 (.slice (some ⟨1004, 0, none⟩) n n) (.slice (some ⟨1004, 0, none⟩) n n)) (
 cond (List.all cs (af 8) && (List.all es (fun e => af 8 e.fst && af 8 e.snd.fst) && (List.all lb' (fun e => af 8 e.fst && af 8 e.snd.fst) && (List.all z2 (af 8) && true)))) (
 some (.normal, ([(.tuple #[(.int .i64 0), (.int .i64 0)])], [some (.row ⟨[(.map (some 1002)), (.map (some 1003)), (.slice (some ⟨1005, 0, none⟩) (n + 1) (n + 1))], 52, (0, 0), 0, false, false⟩), some (.row ⟨cs, 59, (0, 0), 4, false, false⟩), some (.map (es) (eo)), some (.map (lb') (c')), none, some (.row ⟨z2, 63, (0, 0), 8, false, false⟩)]))) (
 none)) (
 none))) (
 none)) (
 none)) (
 none))) (
 none)))) (
 none)) (
 none)) (
 none)) (
 none)) (
 none)) (
 none)
 let z1 : Option Out := cond (sameL cs cs) (
 cond z6 (
 cond z8 (
 cond (bG (i) k) (
 cond (sameL cs cs) (
 cond ((symOf cs).okI .u8 z9) (
 cond ((symOf cs).int .u8 z9 != 1) z3 z3) (
 none)) (
 none)) (
 none)) (
 none)) (
 none)) (
 none)
 let z10 := mapHas es (tT cs i)
 cond (gB cs es lb td) (
 cond (g [.int .i64 0, .pointer (some ⟨1000, 0, none⟩), .slice (some ⟨1001, 0, none⟩) k k, .int .i64 num, .int .i64 0, .int .i64 0] [some (.row ⟨[.map (some 1002), .map (some 1003), .slice (some ⟨1004, 0, none⟩) n n], 52, (0, 0), 0, false, false⟩), some (.row ⟨cs, 59, (0, 0), 4, false, false⟩), some (LObj.map es eo), some (LObj.map lb c), some (.row ⟨td, 63, (0, 0), 8, false, false⟩)]) (
 cond z7 (
 cond (i == (↑k : Int)) (
 cond z7 (
 some (.normal, ([(.tuple #[(.int .i64 0), (.int .i64 0)])], z4))) (
 none)) (
 cond (bG (i) k) (
 cond (sameL cs cs) (
 cond z6 (
 cond (mapOk .u8 es) (
 cond z10 (
 cond (mapOk .u8 es) (
 cond z10 (
 cond (veq 8 (.tuple #[.int .u8 z5, .bool true]) (.tuple #[.int .u8 z5, .bool true])) z0 (
 none)) (
 cond (veq 8 (.tuple #[.int .u8 0, .bool false]) (.tuple #[.int .u8 z5, .bool true])) z0 (
 none))) (
 none)) (
 cond (mapOk .u8 es) (
 cond z10 (
 cond (veq 8 (.tuple #[.int .u8 z5, .bool true]) (.tuple #[.int .u8 0, .bool false])) z1 (
 none)) z1) (
 none))) (
 none)) (
 none)) (
 none)) (
 none))) (
 none)) (
 none)) (
 none) := by kernel_rfl
set_option maxRecDepth 100000 in
theorem r_li1R3 (gl : Gl) (g : GS) (gw : Int → Bool) (i num : Int) (cs : List Value) (k : Nat) (es lb lb' : MEs) (eo c c' : Nat) (td : List Value) (n : Nat) : li1 gl g gw [0, 0, 0] i num cs k es lb lb' eo c c' td n =
 let z2 := liRows1 cs es lb' eo c' td n
 let z4 := gB cs es lb' td
 let z5 : Option Out := cond z4 (
 lE (IntKind.i64.wrap ((↑k : Int) - 1)) z2) (
 none)
 let z6 := mapI es (tT cs i)
 let z3 := td ++ [(.int .u8 z6), (.int .i64 ((symOf cs).int .i64 (0 + (w1 i).toNat * 4 + 2))), (.int .i64 ((symOf cs).int .i64 (0 + (w3 i).toNat * 4 + 2))), (.int .i64 ((symOf cs).int .i64 (0 + (w5 i).toNat * 4 + 2))), (.int .i64 0), (.int .i64 0), (.int .i64 0), (.string ((⟨#[]⟩ : ByteArray)))]
 let z7 := (symOf cs).okS (0 + i.toNat * 4 + 1)
 let z8 : Option Out := cond z4 (
 lE (i) z2) (
 none)
 let z9 := veq 8 (.string (tT cs i)) (.string (tT cs i))
 let z10 := 0 + i.toNat * 4
 let z0 : Option Out := cond (sameL cs cs) (
 cond z7 (
 cond z9 (
 cond (bG (i) k) (
 cond (sameL cs cs) (
 cond ((symOf cs).okI .u8 z10) (
 cond ((symOf cs).int .u8 z10 != 1) z8 (
 cond ((↑n : Int) == 1024) (
 cond z4 (
 some (.normal, ([(.tuple #[(.int .i64 (i)), (.int .i64 7)])], z2))) (
 none)) (
 cond (gw z6) (
 cond (decide (w1 i ≥ (↑k : Int))) z5 (
 cond (bG (w1 i) k) (
 cond (sameL cs cs) (
 cond (tG cs (w1 i)) (
 cond (tQ cs (w1 i) == 2) (
 cond (decide (w2 i ≥ (↑k : Int))) (
 cond z4 (
 lE (mI k (w2 i)) z2) (
 none)) (
 cond (bG (w2 i) k) (
 cond (sameL cs cs) (
 cond ((symOf cs).okI .u8 (0 + (w2 i).toNat * 4)) (
 cond (tP cs (w2 i) != 4) (
 cond z4 (
 lE (mI k (w2 i)) z2) (
 none)) (
 cond (decide (w3 i ≥ (↑k : Int))) z5 (
 cond (bG (w3 i) k) (
 cond (sameL cs cs) (
 cond (tG cs (w3 i)) (
 cond (tQ cs (w3 i) == 2) (
 cond (decide (w4 i ≥ (↑k : Int))) (
 cond z4 (
 lE (mI k (w4 i)) z2) (
 none)) (
 cond (bG (w4 i) k) (
 cond (sameL cs cs) (
 cond ((symOf cs).okI .u8 (0 + (w4 i).toNat * 4)) (
 cond (tP cs (w4 i) != 4) (
 cond z4 (
 lE (mI k (w4 i)) z2) (
 none)) (
 cond (decide (w5 i ≥ (↑k : Int))) z5 (
 cond (bG (w5 i) k) (
 cond (sameL cs cs) (
 cond (tG cs (w5 i)) (
 cond (tQ cs (w5 i) == 2) (
 cond (decide (w6 i < (↑k : Int))) (
 cond z4 (
 lE (w6 i) z2) (
 none)) (
 cond (n.ble n) (
 cond (((n + 1) * 72).ble 140737488355328 && ((n + 1).ble 1099511627776)) (
 cond ((n * 8).beq td.length) (
 qs [mapI es (tT cs i), (symOf cs).int .i64 (0 + (w1 i).toNat * 4 + (1 + 1)), (symOf cs).int .i64
 (0 + (w3 i).toNat * 4 + (1 + 1)), (symOf cs).int .i64
 (0 +
 (IntKind.i64.wrap
 (w4 i + 1)).toNat *
 4 +
 (1 + 1))] (
 cond (veq 8 (.slice (some ⟨1004, 0, none⟩) n n) (.slice (some ⟨1004, 0, none⟩) n n)) (
 cond (List.all cs (af 8) && (List.all es (fun e => af 8 e.fst && af 8 e.snd.fst) && (List.all lb' (fun e => af 8 e.fst && af 8 e.snd.fst) && (List.all z3 (af 8) && true)))) (
 some (.normal, ([(.tuple #[(.int .i64 0), (.int .i64 0)])], [some (.row ⟨[(.map (some 1002)), (.map (some 1003)), (.slice (some ⟨1005, 0, none⟩) (n + 1) (n + 1))], 52, (0, 0), 0, false, false⟩), some (.row ⟨cs, 59, (0, 0), 4, false, false⟩), some (.map (es) (eo)), some (.map (lb') (c')), none, some (.row ⟨z3, 63, (0, 0), 8, false, false⟩)]))) (
 none)) (
 none))) (
 none)) (
 none)) (
 none))) (
 cond z4 (
 lE (w5 i) z2) (
 none))) (
 none)) (
 none)) (
 none)))) (
 none)) (
 none)) (
 none))) (
 cond z4 (
 lE (w3 i) z2) (
 none))) (
 none)) (
 none)) (
 none)))) (
 none)) (
 none)) (
 none))) (
 cond z4 (
 lE (w1 i) z2) (
 none))) (
 none)) (
 none)) (
 none))) (
 none)))) (
 none)) (
 none)) (
 none)) (
 none)) (
 none)) (
 none)
 let z1 : Option Out := cond (sameL cs cs) (
 cond z7 (
 cond z9 (
 cond (bG (i) k) (
 cond (sameL cs cs) (
 cond ((symOf cs).okI .u8 z10) (
 cond ((symOf cs).int .u8 z10 != 1) z8 z8) (
 none)) (
 none)) (
 none)) (
 none)) (
 none)) (
 none)
 let z11 := mapHas es (tT cs i)
 cond (gB cs es lb td) (
 cond (g [.int .i64 0, .pointer (some ⟨1000, 0, none⟩), .slice (some ⟨1001, 0, none⟩) k k, .int .i64 num, .int .i64 0, .int .i64 0] [some (.row ⟨[.map (some 1002), .map (some 1003), .slice (some ⟨1004, 0, none⟩) n n], 52, (0, 0), 0, false, false⟩), some (.row ⟨cs, 59, (0, 0), 4, false, false⟩), some (LObj.map es eo), some (LObj.map lb c), some (.row ⟨td, 63, (0, 0), 8, false, false⟩)]) (
 cond z4 (
 cond (i == (↑k : Int)) (
 cond z4 (
 some (.normal, ([(.tuple #[(.int .i64 0), (.int .i64 0)])], z2))) (
 none)) (
 cond (bG (i) k) (
 cond (sameL cs cs) (
 cond z7 (
 cond (mapOk .u8 es) (
 cond z11 (
 cond (mapOk .u8 es) (
 cond z11 (
 cond (veq 8 (.tuple #[.int .u8 z6, .bool true]) (.tuple #[.int .u8 z6, .bool true])) z0 (
 none)) (
 cond (veq 8 (.tuple #[.int .u8 0, .bool false]) (.tuple #[.int .u8 z6, .bool true])) z0 (
 none))) (
 none)) (
 cond (mapOk .u8 es) (
 cond z11 (
 cond (veq 8 (.tuple #[.int .u8 z6, .bool true]) (.tuple #[.int .u8 0, .bool false])) z1 (
 none)) z1) (
 none))) (
 none)) (
 none)) (
 none)) (
 none))) (
 none)) (
 none)) (
 none) := by kernel_rfl
set_option maxRecDepth 100000 in
theorem r_li1RN (gl : Gl) (g : GS) (gw : Int → Bool) (i num : Int) (cs : List Value) (k : Nat) (es lb lb' : MEs) (eo c c' : Nat) (td : List Value) (n : Nat) : li1 gl g gw [0, 0, 1] i num cs k es lb lb' eo c c' td n =
 let z2 := liRows1 cs es lb' eo c' td n
 let z4 := gB cs es lb' td
 let z5 : Option Out := cond z4 (
 lE (IntKind.i64.wrap ((↑k : Int) - 1)) z2) (
 none)
 let z6 := mapI es (tT cs i)
 let z3 := td ++ [(.int .u8 z6), (.int .i64 ((symOf cs).int .i64 (0 + (w1 i).toNat * 4 + 2))), (.int .i64 ((symOf cs).int .i64 (0 + (w3 i).toNat * 4 + 2))), (.int .i64 0), (.int .i64 ((symOf cs).int .i64 (0 + (w5 i).toNat * 4 + 2))), (.int .i64 (num)), (.int .i64 ((symOf cs).int .i64 (0 + (w5 i).toNat * 4 + 3))), (.string ((⟨#[]⟩ : ByteArray)))]
 let z7 := (symOf cs).okS (0 + i.toNat * 4 + 1)
 let z8 : Option Out := cond z4 (
 lE (i) z2) (
 none)
 let z9 := veq 8 (.string (tT cs i)) (.string (tT cs i))
 let z10 := 0 + i.toNat * 4
 let z0 : Option Out := cond (sameL cs cs) (
 cond z7 (
 cond z9 (
 cond (bG (i) k) (
 cond (sameL cs cs) (
 cond ((symOf cs).okI .u8 z10) (
 cond ((symOf cs).int .u8 z10 != 1) z8 (
 cond ((↑n : Int) == 1024) (
 cond z4 (
 some (.normal, ([(.tuple #[(.int .i64 (i)), (.int .i64 7)])], z2))) (
 none)) (
 cond (gw z6) (
 cond (decide (w1 i ≥ (↑k : Int))) z5 (
 cond (bG (w1 i) k) (
 cond (sameL cs cs) (
 cond (tG cs (w1 i)) (
 cond (tQ cs (w1 i) == 2) (
 cond (decide (w2 i ≥ (↑k : Int))) (
 cond z4 (
 lE (mI k (w2 i)) z2) (
 none)) (
 cond (bG (w2 i) k) (
 cond (sameL cs cs) (
 cond ((symOf cs).okI .u8 (0 + (w2 i).toNat * 4)) (
 cond (tP cs (w2 i) != 4) (
 cond z4 (
 lE (mI k (w2 i)) z2) (
 none)) (
 cond (decide (w3 i ≥ (↑k : Int))) z5 (
 cond (bG (w3 i) k) (
 cond (sameL cs cs) (
 cond (tG cs (w3 i)) (
 cond (tQ cs (w3 i) == 2) (
 cond (decide (w4 i ≥ (↑k : Int))) (
 cond z4 (
 lE (mI k (w4 i)) z2) (
 none)) (
 cond (bG (w4 i) k) (
 cond (sameL cs cs) (
 cond ((symOf cs).okI .u8 (0 + (w4 i).toNat * 4)) (
 cond (tP cs (w4 i) != 4) (
 cond z4 (
 lE (mI k (w4 i)) z2) (
 none)) (
 cond (decide (w5 i ≥ (↑k : Int))) z5 (
 cond (bG (w5 i) k) (
 cond (sameL cs cs) (
 cond (tG cs (w5 i)) (
 cond (tQ cs (w5 i) == 3) (
 cond (decide (w6 i < (↑k : Int))) (
 cond z4 (
 lE (w6 i) z2) (
 none)) (
 cond (n.ble n) (
 cond (((n + 1) * 72).ble 140737488355328 && ((n + 1).ble 1099511627776)) (
 cond ((n * 8).beq td.length) (
 qs [mapI es (tT cs i), (symOf cs).int .i64 (0 + (w1 i).toNat * 4 + (1 + 1)), (symOf cs).int .i64
 (0 + (w3 i).toNat * 4 + (1 + 1)), (symOf cs).int .i64
 (0 +
 (IntKind.i64.wrap
 (w4 i + 1)).toNat *
 4 +
 (1 + 1)), num, (symOf cs).int .i64
 (0 +
 (IntKind.i64.wrap
 (w4 i + 1)).toNat *
 4 +
 (1 + 1 + 1))] (
 cond (veq 8 (.slice (some ⟨1004, 0, none⟩) n n) (.slice (some ⟨1004, 0, none⟩) n n)) (
 cond (List.all cs (af 8) && (List.all es (fun e => af 8 e.fst && af 8 e.snd.fst) && (List.all lb' (fun e => af 8 e.fst && af 8 e.snd.fst) && (List.all z3 (af 8) && true)))) (
 some (.normal, ([(.tuple #[(.int .i64 0), (.int .i64 0)])], [some (.row ⟨[(.map (some 1002)), (.map (some 1003)), (.slice (some ⟨1005, 0, none⟩) (n + 1) (n + 1))], 52, (0, 0), 0, false, false⟩), some (.row ⟨cs, 59, (0, 0), 4, false, false⟩), some (.map (es) (eo)), some (.map (lb') (c')), none, some (.row ⟨z3, 63, (0, 0), 8, false, false⟩)]))) (
 none)) (
 none))) (
 none)) (
 none)) (
 none))) (
 cond z4 (
 lE (w5 i) z2) (
 none))) (
 none)) (
 none)) (
 none)))) (
 none)) (
 none)) (
 none))) (
 cond z4 (
 lE (w3 i) z2) (
 none))) (
 none)) (
 none)) (
 none)))) (
 none)) (
 none)) (
 none))) (
 cond z4 (
 lE (w1 i) z2) (
 none))) (
 none)) (
 none)) (
 none))) (
 none)))) (
 none)) (
 none)) (
 none)) (
 none)) (
 none)) (
 none)
 let z1 : Option Out := cond (sameL cs cs) (
 cond z7 (
 cond z9 (
 cond (bG (i) k) (
 cond (sameL cs cs) (
 cond ((symOf cs).okI .u8 z10) (
 cond ((symOf cs).int .u8 z10 != 1) z8 z8) (
 none)) (
 none)) (
 none)) (
 none)) (
 none)) (
 none)
 let z11 := mapHas es (tT cs i)
 cond (gB cs es lb td) (
 cond (g [.int .i64 0, .pointer (some ⟨1000, 0, none⟩), .slice (some ⟨1001, 0, none⟩) k k, .int .i64 num, .int .i64 0, .int .i64 0] [some (.row ⟨[.map (some 1002), .map (some 1003), .slice (some ⟨1004, 0, none⟩) n n], 52, (0, 0), 0, false, false⟩), some (.row ⟨cs, 59, (0, 0), 4, false, false⟩), some (LObj.map es eo), some (LObj.map lb c), some (.row ⟨td, 63, (0, 0), 8, false, false⟩)]) (
 cond z4 (
 cond (i == (↑k : Int)) (
 cond z4 (
 some (.normal, ([(.tuple #[(.int .i64 0), (.int .i64 0)])], z2))) (
 none)) (
 cond (bG (i) k) (
 cond (sameL cs cs) (
 cond z7 (
 cond (mapOk .u8 es) (
 cond z11 (
 cond (mapOk .u8 es) (
 cond z11 (
 cond (veq 8 (.tuple #[.int .u8 z6, .bool true]) (.tuple #[.int .u8 z6, .bool true])) z0 (
 none)) (
 cond (veq 8 (.tuple #[.int .u8 0, .bool false]) (.tuple #[.int .u8 z6, .bool true])) z0 (
 none))) (
 none)) (
 cond (mapOk .u8 es) (
 cond z11 (
 cond (veq 8 (.tuple #[.int .u8 z6, .bool true]) (.tuple #[.int .u8 0, .bool false])) z1 (
 none)) z1) (
 none))) (
 none)) (
 none)) (
 none)) (
 none))) (
 none)) (
 none)) (
 none) := by kernel_rfl
set_option maxRecDepth 100000 in
theorem r_li1RP (gl : Gl) (g : GS) (gw : Int → Bool) (i num : Int) (cs : List Value) (k : Nat) (es lb lb' : MEs) (eo c c' : Nat) (td : List Value) (n : Nat) : li1 gl g gw [0, 0, 2] i num cs k es lb lb' eo c c' td n =
 let z1 := liRows1 cs es lb' eo c' td n
 let z5 := gB cs es lb' td
 let z6 : Option Out := cond z5 (
 lE (IntKind.i64.wrap ((↑k : Int) - 1)) z1) (
 none)
 let z7 := mapI es (tT cs i)
 let z8 := veq 8 (.slice (some ⟨1004, 0, none⟩) n n) (.slice (some ⟨1004, 0, none⟩) n n)
 let z9 := (symOf cs).str (0 + (w5 i).toNat * 4 + 1)
 let z10 := (symOf cs).okS (0 + i.toNat * 4 + 1)
 let z11 := ((n + 1) * 72).ble 140737488355328 && ((n + 1).ble 1099511627776)
 let z12 := 0 +
 (IntKind.i64.wrap
 (w4 i + 1)).toNat *
 4 +
 (1 + 1 + 1)
 let z13 : Option Out := cond z5 (
 lE (i) z1) (
 none)
 let z14 := (symOf cs).int .i64 (0 + (w1 i).toNat * 4 + 2)
 let z15 := (symOf cs).int .i64 (0 + (w3 i).toNat * 4 + 2)
 let z16 := (symOf cs).int .i64 (0 + (w5 i).toNat * 4 + 3)
 let z3 := td ++ [(.int .u8 z7), (.int .i64 z14), (.int .i64 z15), (.int .i64 0), (.int .i64 ((symOf cs).int .i64 (0 + (w5 i).toNat * 4 + 2))), (.int .i64 (num)), (.int .i64 z16), (.string ((⟨#[]⟩ : ByteArray)))]
 let z4 := td ++ [(.int .u8 z7), (.int .i64 z14), (.int .i64 z15), (.int .i64 0), (.int .i64 0), (.int .i64 (num)), (.int .i64 z16), (.string z9)]
 let z17 := veq 8 (.string (tT cs i)) (.string (tT cs i))
 let z18 := 0 + i.toNat * 4
 let z0 : Option Out := cond (sameL cs cs) (
 cond z10 (
 cond z17 (
 cond (bG (i) k) (
 cond (sameL cs cs) (
 cond ((symOf cs).okI .u8 z18) (
 cond ((symOf cs).int .u8 z18 != 1) z13 (
 cond ((↑n : Int) == 1024) (
 cond z5 (
 some (.normal, ([(.tuple #[(.int .i64 (i)), (.int .i64 7)])], z1))) (
 none)) (
 cond (gw z7) (
 cond (decide (w1 i ≥ (↑k : Int))) z6 (
 cond (bG (w1 i) k) (
 cond (sameL cs cs) (
 cond (tG cs (w1 i)) (
 cond (tQ cs (w1 i) == 2) (
 cond (decide (w2 i ≥ (↑k : Int))) (
 cond z5 (
 lE (mI k (w2 i)) z1) (
 none)) (
 cond (bG (w2 i) k) (
 cond (sameL cs cs) (
 cond ((symOf cs).okI .u8 (0 + (w2 i).toNat * 4)) (
 cond (tP cs (w2 i) != 4) (
 cond z5 (
 lE (mI k (w2 i)) z1) (
 none)) (
 cond (decide (w3 i ≥ (↑k : Int))) z6 (
 cond (bG (w3 i) k) (
 cond (sameL cs cs) (
 cond (tG cs (w3 i)) (
 cond (tQ cs (w3 i) == 2) (
 cond (decide (w4 i ≥ (↑k : Int))) (
 cond z5 (
 lE (mI k (w4 i)) z1) (
 none)) (
 cond (bG (w4 i) k) (
 cond (sameL cs cs) (
 cond ((symOf cs).okI .u8 (0 + (w4 i).toNat * 4)) (
 cond (tP cs (w4 i) != 4) (
 cond z5 (
 lE (mI k (w4 i)) z1) (
 none)) (
 cond (decide (w5 i ≥ (↑k : Int))) z6 (
 cond (bG (w5 i) k) (
 cond (sameL cs cs) (
 cond (tG cs (w5 i)) (
 cond (tQ cs (w5 i) == 3) (
 cond (decide (w6 i < (↑k : Int))) (
 cond z5 (
 lE (w6 i) z1) (
 none)) (
 cond (n.ble n) (
 cond z11 (
 cond ((n * 8).beq td.length) (
 qs [mapI es (tT cs i), (symOf cs).int .i64 (0 + (w1 i).toNat * 4 + (1 + 1)), (symOf cs).int .i64
 (0 + (w3 i).toNat * 4 + (1 + 1)), (symOf cs).int .i64
 (0 +
 (IntKind.i64.wrap
 (w4 i + 1)).toNat *
 4 +
 (1 + 1)), num, (symOf cs).int .i64
 z12] (
 cond z8 (
 cond (List.all cs (af 8) && (List.all es (fun e => af 8 e.fst && af 8 e.snd.fst) && (List.all lb' (fun e => af 8 e.fst && af 8 e.snd.fst) && (List.all z3 (af 8) && true)))) (
 some (.normal, ([(.tuple #[(.int .i64 0), (.int .i64 0)])], [some (.row ⟨[(.map (some 1002)), (.map (some 1003)), (.slice (some ⟨1005, 0, none⟩) (n + 1) (n + 1))], 52, (0, 0), 0, false, false⟩), some (.row ⟨cs, 59, (0, 0), 4, false, false⟩), some (.map (es) (eo)), some (.map (lb') (c')), none, some (.row ⟨z3, 63, (0, 0), 8, false, false⟩)]))) (
 none)) (
 none))) (
 none)) (
 none)) (
 none))) (
 cond (tQ cs (w5 i) == 1) (
 cond (decide (w6 i < (↑k : Int))) (
 cond z5 (
 lE (w6 i) z1) (
 none)) (
 cond (n.ble n) (
 cond z11 (
 cond ((n * 8).beq td.length) (
 qs [mapI es (tT cs i), (symOf cs).int .i64 (0 + (w1 i).toNat * 4 + (1 + 1)), (symOf cs).int .i64
 (0 + (w3 i).toNat * 4 + (1 + 1)), num, (symOf cs).int .i64
 z12] (
 cond (veq 7 (.string z9) (.string z9)) (
 cond z8 (
 cond (List.all cs (af 8) && (List.all es (fun e => af 8 e.fst && af 8 e.snd.fst) && (List.all lb' (fun e => af 8 e.fst && af 8 e.snd.fst) && (List.all z4 (af 8) && true)))) (
 some (.normal, ([(.tuple #[(.int .i64 0), (.int .i64 0)])], [some (.row ⟨[(.map (some 1002)), (.map (some 1003)), (.slice (some ⟨1005, 0, none⟩) (n + 1) (n + 1))], 52, (0, 0), 0, false, false⟩), some (.row ⟨cs, 59, (0, 0), 4, false, false⟩), some (.map (es) (eo)), some (.map (lb') (c')), none, some (.row ⟨z4, 63, (0, 0), 8, false, false⟩)]))) (
 none)) (
 none)) (
 none))) (
 none)) (
 none)) (
 none))) (
 cond z5 (
 lE (w5 i) z1) (
 none)))) (
 none)) (
 none)) (
 none)))) (
 none)) (
 none)) (
 none))) (
 cond z5 (
 lE (w3 i) z1) (
 none))) (
 none)) (
 none)) (
 none)))) (
 none)) (
 none)) (
 none))) (
 cond z5 (
 lE (w1 i) z1) (
 none))) (
 none)) (
 none)) (
 none))) (
 none)))) (
 none)) (
 none)) (
 none)) (
 none)) (
 none)) (
 none)
 let z2 : Option Out := cond (sameL cs cs) (
 cond z10 (
 cond z17 (
 cond (bG (i) k) (
 cond (sameL cs cs) (
 cond ((symOf cs).okI .u8 z18) (
 cond ((symOf cs).int .u8 z18 != 1) z13 z13) (
 none)) (
 none)) (
 none)) (
 none)) (
 none)) (
 none)
 let z19 := mapHas es (tT cs i)
 cond (gB cs es lb td) (
 cond (g [.int .i64 0, .pointer (some ⟨1000, 0, none⟩), .slice (some ⟨1001, 0, none⟩) k k, .int .i64 num, .int .i64 0, .int .i64 0] [some (.row ⟨[.map (some 1002), .map (some 1003), .slice (some ⟨1004, 0, none⟩) n n], 52, (0, 0), 0, false, false⟩), some (.row ⟨cs, 59, (0, 0), 4, false, false⟩), some (LObj.map es eo), some (LObj.map lb c), some (.row ⟨td, 63, (0, 0), 8, false, false⟩)]) (
 cond z5 (
 cond (i == (↑k : Int)) (
 cond z5 (
 some (.normal, ([(.tuple #[(.int .i64 0), (.int .i64 0)])], z1))) (
 none)) (
 cond (bG (i) k) (
 cond (sameL cs cs) (
 cond z10 (
 cond (mapOk .u8 es) (
 cond z19 (
 cond (mapOk .u8 es) (
 cond z19 (
 cond (veq 8 (.tuple #[.int .u8 z7, .bool true]) (.tuple #[.int .u8 z7, .bool true])) z0 (
 none)) (
 cond (veq 8 (.tuple #[.int .u8 0, .bool false]) (.tuple #[.int .u8 z7, .bool true])) z0 (
 none))) (
 none)) (
 cond (mapOk .u8 es) (
 cond z19 (
 cond (veq 8 (.tuple #[.int .u8 z7, .bool true]) (.tuple #[.int .u8 0, .bool false])) z2 (
 none)) z2) (
 none))) (
 none)) (
 none)) (
 none)) (
 none))) (
 none)) (
 none)) (
 none) := by kernel_rfl
set_option maxRecDepth 100000 in
theorem r_li1SN (gl : Gl) (g : GS) (gw : Int → Bool) (i num : Int) (cs : List Value) (k : Nat) (es lb lb' : MEs) (eo c c' : Nat) (td : List Value) (n : Nat) : li1 gl g gw [0, 1] i num cs k es lb lb' eo c c' td n =
 let z3 := liRows1 cs es lb' eo c' td n
 let z4 := gB cs es lb' td
 let z5 := mapI es (tT cs i)
 let z2 := td ++ [(.int .u8 z5), (.int .i64 ((symOf cs).int .i64 (0 + (w1 i).toNat * 4 + 2))), (.int .i64 0), (.int .i64 0), (.int .i64 ((symOf cs).int .i64 (0 + (w3 i).toNat * 4 + 2))), (.int .i64 (num)), (.int .i64 ((symOf cs).int .i64 (0 + (w3 i).toNat * 4 + 3))), (.string ((⟨#[]⟩ : ByteArray)))]
 let z6 := (symOf cs).okS (0 + i.toNat * 4 + 1)
 let z7 : Option Out := cond z4 (
 lE (IntKind.i64.wrap ((↑k : Int) - 1)) z3) (
 none)
 let z8 : Option Out := cond z4 (
 lE (i) z3) (
 none)
 let z9 := veq 8 (.string (tT cs i)) (.string (tT cs i))
 let z10 := 0 + i.toNat * 4
 let z0 : Option Out := cond (sameL cs cs) (
 cond z6 (
 cond z9 (
 cond (bG (i) k) (
 cond (sameL cs cs) (
 cond ((symOf cs).okI .u8 z10) (
 cond ((symOf cs).int .u8 z10 != 1) z8 (
 cond ((↑n : Int) == 1024) (
 cond z4 (
 some (.normal, ([(.tuple #[(.int .i64 (i)), (.int .i64 7)])], z3))) (
 none)) (
 cond (gw z5) (
 cond (decide (w1 i ≥ (↑k : Int))) z7 (
 cond (bG (w1 i) k) (
 cond (sameL cs cs) (
 cond (tG cs (w1 i)) (
 cond (tQ cs (w1 i) == 2) (
 cond (decide (w2 i ≥ (↑k : Int))) (
 cond z4 (
 lE (mI k (w2 i)) z3) (
 none)) (
 cond (bG (w2 i) k) (
 cond (sameL cs cs) (
 cond ((symOf cs).okI .u8 (0 + (w2 i).toNat * 4)) (
 cond (tP cs (w2 i) != 4) (
 cond z4 (
 lE (mI k (w2 i)) z3) (
 none)) (
 cond (decide (w3 i ≥ (↑k : Int))) z7 (
 cond (bG (w3 i) k) (
 cond (sameL cs cs) (
 cond (tG cs (w3 i)) (
 cond (tQ cs (w3 i) == 3) (
 cond (decide (w4 i < (↑k : Int))) (
 cond z4 (
 lE (w4 i) z3) (
 none)) (
 cond (n.ble n) (
 cond (((n + 1) * 72).ble 140737488355328 && ((n + 1).ble 1099511627776)) (
 cond ((n * 8).beq td.length) (
 qs [mapI es (tT cs i), (symOf cs).int .i64 (0 + (w1 i).toNat * 4 + (1 + 1)), (symOf cs).int .i64
 (0 + (w3 i).toNat * 4 + (1 + 1)), num, (symOf cs).int .i64
 (0 + (w3 i).toNat * 4 + (1 + 1 + 1))] (
 cond (veq 8 (.slice (some ⟨1004, 0, none⟩) n n) (.slice (some ⟨1004, 0, none⟩) n n)) (
 cond (List.all cs (af 8) && (List.all es (fun e => af 8 e.fst && af 8 e.snd.fst) && (List.all lb' (fun e => af 8 e.fst && af 8 e.snd.fst) && (List.all z2 (af 8) && true)))) (
 some (.normal, ([(.tuple #[(.int .i64 0), (.int .i64 0)])], [some (.row ⟨[(.map (some 1002)), (.map (some 1003)), (.slice (some ⟨1005, 0, none⟩) (n + 1) (n + 1))], 52, (0, 0), 0, false, false⟩), some (.row ⟨cs, 59, (0, 0), 4, false, false⟩), some (.map (es) (eo)), some (.map (lb') (c')), none, some (.row ⟨z2, 63, (0, 0), 8, false, false⟩)]))) (
 none)) (
 none))) (
 none)) (
 none)) (
 none))) (
 cond z4 (
 lE (w3 i) z3) (
 none))) (
 none)) (
 none)) (
 none)))) (
 none)) (
 none)) (
 none))) (
 cond z4 (
 lE (w1 i) z3) (
 none))) (
 none)) (
 none)) (
 none))) (
 none)))) (
 none)) (
 none)) (
 none)) (
 none)) (
 none)) (
 none)
 let z1 : Option Out := cond (sameL cs cs) (
 cond z6 (
 cond z9 (
 cond (bG (i) k) (
 cond (sameL cs cs) (
 cond ((symOf cs).okI .u8 z10) (
 cond ((symOf cs).int .u8 z10 != 1) z8 z8) (
 none)) (
 none)) (
 none)) (
 none)) (
 none)) (
 none)
 let z11 := mapHas es (tT cs i)
 cond (gB cs es lb td) (
 cond (g [.int .i64 0, .pointer (some ⟨1000, 0, none⟩), .slice (some ⟨1001, 0, none⟩) k k, .int .i64 num, .int .i64 0, .int .i64 0] [some (.row ⟨[.map (some 1002), .map (some 1003), .slice (some ⟨1004, 0, none⟩) n n], 52, (0, 0), 0, false, false⟩), some (.row ⟨cs, 59, (0, 0), 4, false, false⟩), some (LObj.map es eo), some (LObj.map lb c), some (.row ⟨td, 63, (0, 0), 8, false, false⟩)]) (
 cond z4 (
 cond (i == (↑k : Int)) (
 cond z4 (
 some (.normal, ([(.tuple #[(.int .i64 0), (.int .i64 0)])], z3))) (
 none)) (
 cond (bG (i) k) (
 cond (sameL cs cs) (
 cond z6 (
 cond (mapOk .u8 es) (
 cond z11 (
 cond (mapOk .u8 es) (
 cond z11 (
 cond (veq 8 (.tuple #[.int .u8 z5, .bool true]) (.tuple #[.int .u8 z5, .bool true])) z0 (
 none)) (
 cond (veq 8 (.tuple #[.int .u8 0, .bool false]) (.tuple #[.int .u8 z5, .bool true])) z0 (
 none))) (
 none)) (
 cond (mapOk .u8 es) (
 cond z11 (
 cond (veq 8 (.tuple #[.int .u8 z5, .bool true]) (.tuple #[.int .u8 0, .bool false])) z1 (
 none)) z1) (
 none))) (
 none)) (
 none)) (
 none)) (
 none))) (
 none)) (
 none)) (
 none) := by kernel_rfl
set_option maxRecDepth 100000 in
theorem r_li1J (gl : Gl) (g : GS) (gw : Int → Bool) (i num : Int) (cs : List Value) (k : Nat) (es lb lb' : MEs) (eo c c' : Nat) (td : List Value) (n : Nat) : li1 gl g gw [2] i num cs k es lb lb' eo c c' td n =
 let z4 := liRows1 cs es lb' eo c' td n
 let z5 := gB cs es lb' td
 let z6 := mapI es (tT cs i)
 let z7 := veq 8 (.slice (some ⟨1004, 0, none⟩) n n) (.slice (some ⟨1004, 0, none⟩) n n)
 let z8 := (symOf cs).str (0 + (w1 i).toNat * 4 + 1)
 let z9 := (symOf cs).okS (0 + i.toNat * 4 + 1)
 let z10 := ((n + 1) * 72).ble 140737488355328 && ((n + 1).ble 1099511627776)
 let z11 : Option Out := cond z5 (
 lE (i) z4) (
 none)
 let z12 := (symOf cs).int .i64 (0 + (w1 i).toNat * 4 + 3)
 let z2 := td ++ [(.int .u8 z6), (.int .i64 0), (.int .i64 0), (.int .i64 0), (.int .i64 ((symOf cs).int .i64 (0 + (w1 i).toNat * 4 + 2))), (.int .i64 (num)), (.int .i64 z12), (.string ((⟨#[]⟩ : ByteArray)))]
 let z3 := td ++ [(.int .u8 z6), (.int .i64 0), (.int .i64 0), (.int .i64 0), (.int .i64 0), (.int .i64 (num)), (.int .i64 z12), (.string z8)]
 let z13 := veq 8 (.string (tT cs i)) (.string (tT cs i))
 let z14 := 0 + i.toNat * 4
 let z0 : Option Out := cond (sameL cs cs) (
 cond z9 (
 cond z13 (
 cond (bG (i) k) (
 cond (sameL cs cs) (
 cond ((symOf cs).okI .u8 z14) (
 cond ((symOf cs).int .u8 z14 != 1) z11 (
 cond ((↑n : Int) == 1024) (
 cond z5 (
 some (.normal, ([(.tuple #[(.int .i64 (i)), (.int .i64 7)])], z4))) (
 none)) (
 cond (gw z6) (
 cond (decide (w1 i ≥ (↑k : Int))) (
 cond z5 (
 lE (IntKind.i64.wrap ((↑k : Int) - 1)) z4) (
 none)) (
 cond (bG (w1 i) k) (
 cond (sameL cs cs) (
 cond (tG cs (w1 i)) (
 cond (tQ cs (w1 i) == 3) (
 cond (decide (w2 i < (↑k : Int))) (
 cond z5 (
 lE (w2 i) z4) (
 none)) (
 cond (n.ble n) (
 cond z10 (
 cond ((n * 8).beq td.length) (
 qs [mapI es (tT cs i), (symOf cs).int .i64 (0 + (w1 i).toNat * 4 + (1 + 1)), num, (symOf cs).int .i64 (0 + (w1 i).toNat * 4 + (1 + 1 + 1))] (
 cond z7 (
 cond (List.all cs (af 8) && (List.all es (fun e => af 8 e.fst && af 8 e.snd.fst) && (List.all lb' (fun e => af 8 e.fst && af 8 e.snd.fst) && (List.all z2 (af 8) && true)))) (
 some (.normal, ([(.tuple #[(.int .i64 0), (.int .i64 0)])], [some (.row ⟨[(.map (some 1002)), (.map (some 1003)), (.slice (some ⟨1005, 0, none⟩) (n + 1) (n + 1))], 52, (0, 0), 0, false, false⟩), some (.row ⟨cs, 59, (0, 0), 4, false, false⟩), some (.map (es) (eo)), some (.map (lb') (c')), none, some (.row ⟨z2, 63, (0, 0), 8, false, false⟩)]))) (
 none)) (
 none))) (
 none)) (
 none)) (
 none))) (
 cond (tQ cs (w1 i) == 1) (
 cond (decide (w2 i < (↑k : Int))) (
 cond z5 (
 lE (w2 i) z4) (
 none)) (
 cond (n.ble n) (
 cond z10 (
 cond ((n * 8).beq td.length) (
 qs [mapI es (tT cs i), num, (symOf cs).int .i64 (0 + (w1 i).toNat * 4 + (1 + 1 + 1))] (
 cond (veq 7 (.string z8) (.string z8)) (
 cond z7 (
 cond (List.all cs (af 8) && (List.all es (fun e => af 8 e.fst && af 8 e.snd.fst) && (List.all lb' (fun e => af 8 e.fst && af 8 e.snd.fst) && (List.all z3 (af 8) && true)))) (
 some (.normal, ([(.tuple #[(.int .i64 0), (.int .i64 0)])], [some (.row ⟨[(.map (some 1002)), (.map (some 1003)), (.slice (some ⟨1005, 0, none⟩) (n + 1) (n + 1))], 52, (0, 0), 0, false, false⟩), some (.row ⟨cs, 59, (0, 0), 4, false, false⟩), some (.map (es) (eo)), some (.map (lb') (c')), none, some (.row ⟨z3, 63, (0, 0), 8, false, false⟩)]))) (
 none)) (
 none)) (
 none))) (
 none)) (
 none)) (
 none))) (
 cond z5 (
 lE (w1 i) z4) (
 none)))) (
 none)) (
 none)) (
 none))) (
 none)))) (
 none)) (
 none)) (
 none)) (
 none)) (
 none)) (
 none)
 let z1 : Option Out := cond (sameL cs cs) (
 cond z9 (
 cond z13 (
 cond (bG (i) k) (
 cond (sameL cs cs) (
 cond ((symOf cs).okI .u8 z14) (
 cond ((symOf cs).int .u8 z14 != 1) z11 z11) (
 none)) (
 none)) (
 none)) (
 none)) (
 none)) (
 none)
 let z15 := mapHas es (tT cs i)
 cond (gB cs es lb td) (
 cond (g [.int .i64 0, .pointer (some ⟨1000, 0, none⟩), .slice (some ⟨1001, 0, none⟩) k k, .int .i64 num, .int .i64 0, .int .i64 0] [some (.row ⟨[.map (some 1002), .map (some 1003), .slice (some ⟨1004, 0, none⟩) n n], 52, (0, 0), 0, false, false⟩), some (.row ⟨cs, 59, (0, 0), 4, false, false⟩), some (LObj.map es eo), some (LObj.map lb c), some (.row ⟨td, 63, (0, 0), 8, false, false⟩)]) (
 cond z5 (
 cond (i == (↑k : Int)) (
 cond z5 (
 some (.normal, ([(.tuple #[(.int .i64 0), (.int .i64 0)])], z4))) (
 none)) (
 cond (bG (i) k) (
 cond (sameL cs cs) (
 cond z9 (
 cond (mapOk .u8 es) (
 cond z15 (
 cond (mapOk .u8 es) (
 cond z15 (
 cond (veq 8 (.tuple #[.int .u8 z6, .bool true]) (.tuple #[.int .u8 z6, .bool true])) z0 (
 none)) (
 cond (veq 8 (.tuple #[.int .u8 0, .bool false]) (.tuple #[.int .u8 z6, .bool true])) z0 (
 none))) (
 none)) (
 cond (mapOk .u8 es) (
 cond z15 (
 cond (veq 8 (.tuple #[.int .u8 z6, .bool true]) (.tuple #[.int .u8 0, .bool false])) z1 (
 none)) z1) (
 none))) (
 none)) (
 none)) (
 none)) (
 none))) (
 none)) (
 none)) (
 none) := by kernel_rfl
set_option maxRecDepth 100000 in
theorem r_li1A (gl : Gl) (g : GS) (gw : Int → Bool) (i num : Int) (cs : List Value) (k : Nat) (es lb lb' : MEs) (eo c c' : Nat) (td : List Value) (n : Nat) : li1 gl g gw [1] i num cs k es lb lb' eo c c' td n =
 let z3 := liRows1 cs es lb' eo c' td n
 let z4 := gB cs es lb' td
 let z5 := mapI es (tT cs i)
 let z2 := td ++ [(.int .u8 z5), (.int .i64 0), (.int .i64 0), (.int .i64 0), (.int .i64 ((symOf cs).int .i64 (0 + (w1 i).toNat * 4 + 2))), (.int .i64 (num)), (.int .i64 ((symOf cs).int .i64 (0 + (w1 i).toNat * 4 + 3))), (.string ((⟨#[]⟩ : ByteArray)))]
 let z6 := (symOf cs).okS (0 + i.toNat * 4 + 1)
 let z7 : Option Out := cond z4 (
 lE (i) z3) (
 none)
 let z8 := veq 8 (.string (tT cs i)) (.string (tT cs i))
 let z9 := 0 + i.toNat * 4
 let z0 : Option Out := cond (sameL cs cs) (
 cond z6 (
 cond z8 (
 cond (bG (i) k) (
 cond (sameL cs cs) (
 cond ((symOf cs).okI .u8 z9) (
 cond ((symOf cs).int .u8 z9 != 1) z7 (
 cond ((↑n : Int) == 1024) (
 cond z4 (
 some (.normal, ([(.tuple #[(.int .i64 (i)), (.int .i64 7)])], z3))) (
 none)) (
 cond (gw z5) (
 cond (decide (w1 i ≥ (↑k : Int))) (
 cond z4 (
 lE (IntKind.i64.wrap ((↑k : Int) - 1)) z3) (
 none)) (
 cond (bG (w1 i) k) (
 cond (sameL cs cs) (
 cond (tG cs (w1 i)) (
 cond (tQ cs (w1 i) == 3) (
 cond (decide (w2 i < (↑k : Int))) (
 cond z4 (
 lE (w2 i) z3) (
 none)) (
 cond (n.ble n) (
 cond (((n + 1) * 72).ble 140737488355328 && ((n + 1).ble 1099511627776)) (
 cond ((n * 8).beq td.length) (
 qs [mapI es (tT cs i), (symOf cs).int .i64 (0 + (w1 i).toNat * 4 + (1 + 1)), num, (symOf cs).int .i64 (0 + (w1 i).toNat * 4 + (1 + 1 + 1))] (
 cond (veq 8 (.slice (some ⟨1004, 0, none⟩) n n) (.slice (some ⟨1004, 0, none⟩) n n)) (
 cond (List.all cs (af 8) && (List.all es (fun e => af 8 e.fst && af 8 e.snd.fst) && (List.all lb' (fun e => af 8 e.fst && af 8 e.snd.fst) && (List.all z2 (af 8) && true)))) (
 some (.normal, ([(.tuple #[(.int .i64 0), (.int .i64 0)])], [some (.row ⟨[(.map (some 1002)), (.map (some 1003)), (.slice (some ⟨1005, 0, none⟩) (n + 1) (n + 1))], 52, (0, 0), 0, false, false⟩), some (.row ⟨cs, 59, (0, 0), 4, false, false⟩), some (.map (es) (eo)), some (.map (lb') (c')), none, some (.row ⟨z2, 63, (0, 0), 8, false, false⟩)]))) (
 none)) (
 none))) (
 none)) (
 none)) (
 none))) (
 cond z4 (
 lE (w1 i) z3) (
 none))) (
 none)) (
 none)) (
 none))) (
 none)))) (
 none)) (
 none)) (
 none)) (
 none)) (
 none)) (
 none)
 let z1 : Option Out := cond (sameL cs cs) (
 cond z6 (
 cond z8 (
 cond (bG (i) k) (
 cond (sameL cs cs) (
 cond ((symOf cs).okI .u8 z9) (
 cond ((symOf cs).int .u8 z9 != 1) z7 z7) (
 none)) (
 none)) (
 none)) (
 none)) (
 none)) (
 none)
 let z10 := mapHas es (tT cs i)
 cond (gB cs es lb td) (
 cond (g [.int .i64 0, .pointer (some ⟨1000, 0, none⟩), .slice (some ⟨1001, 0, none⟩) k k, .int .i64 num, .int .i64 0, .int .i64 0] [some (.row ⟨[.map (some 1002), .map (some 1003), .slice (some ⟨1004, 0, none⟩) n n], 52, (0, 0), 0, false, false⟩), some (.row ⟨cs, 59, (0, 0), 4, false, false⟩), some (LObj.map es eo), some (LObj.map lb c), some (.row ⟨td, 63, (0, 0), 8, false, false⟩)]) (
 cond z4 (
 cond (i == (↑k : Int)) (
 cond z4 (
 some (.normal, ([(.tuple #[(.int .i64 0), (.int .i64 0)])], z3))) (
 none)) (
 cond (bG (i) k) (
 cond (sameL cs cs) (
 cond z6 (
 cond (mapOk .u8 es) (
 cond z10 (
 cond (mapOk .u8 es) (
 cond z10 (
 cond (veq 8 (.tuple #[.int .u8 z5, .bool true]) (.tuple #[.int .u8 z5, .bool true])) z0 (
 none)) (
 cond (veq 8 (.tuple #[.int .u8 0, .bool false]) (.tuple #[.int .u8 z5, .bool true])) z0 (
 none))) (
 none)) (
 cond (mapOk .u8 es) (
 cond z10 (
 cond (veq 8 (.tuple #[.int .u8 z5, .bool true]) (.tuple #[.int .u8 0, .bool false])) z1 (
 none)) z1) (
 none))) (
 none)) (
 none)) (
 none)) (
 none))) (
 none)) (
 none)) (
 none) := by kernel_rfl
set_option maxRecDepth 100000 in
theorem r_li1T (gl : Gl) (g : GS) (gw : Int → Bool) (i num : Int) (cs : List Value) (k : Nat) (es lb lb' : MEs) (eo c c' : Nat) (td : List Value) (n : Nat) : li1 gl g gw [0] i num cs k es lb lb' eo c c' td n =
 let z3 := liRows1 cs es lb' eo c' td n
 let z4 := gB cs es lb' td
 let z5 := mapI es (tT cs i)
 let z2 := td ++ [(.int .u8 z5), (.int .i64 ((symOf cs).int .i64 (0 + (w1 i).toNat * 4 + 2))), (.int .i64 0), (.int .i64 0), (.int .i64 0), (.int .i64 0), (.int .i64 0), (.string ((⟨#[]⟩ : ByteArray)))]
 let z6 := (symOf cs).okS (0 + i.toNat * 4 + 1)
 let z7 : Option Out := cond z4 (
 lE (i) z3) (
 none)
 let z8 := veq 8 (.string (tT cs i)) (.string (tT cs i))
 let z9 := 0 + i.toNat * 4
 let z0 : Option Out := cond (sameL cs cs) (
 cond z6 (
 cond z8 (
 cond (bG (i) k) (
 cond (sameL cs cs) (
 cond ((symOf cs).okI .u8 z9) (
 cond ((symOf cs).int .u8 z9 != 1) z7 (
 cond ((↑n : Int) == 1024) (
 cond z4 (
 some (.normal, ([(.tuple #[(.int .i64 (i)), (.int .i64 7)])], z3))) (
 none)) (
 cond (gw z5) (
 cond (decide (w1 i ≥ (↑k : Int))) (
 cond z4 (
 lE (IntKind.i64.wrap ((↑k : Int) - 1)) z3) (
 none)) (
 cond (bG (w1 i) k) (
 cond (sameL cs cs) (
 cond (tG cs (w1 i)) (
 cond (tQ cs (w1 i) == 2) (
 cond (decide (w2 i < (↑k : Int))) (
 cond z4 (
 lE (w2 i) z3) (
 none)) (
 cond (n.ble n) (
 cond (((n + 1) * 72).ble 140737488355328 && ((n + 1).ble 1099511627776)) (
 cond ((n * 8).beq td.length) (
 qs [mapI es (tT cs i), (symOf cs).int .i64 (0 + (w1 i).toNat * 4 + (1 + 1))] (
 cond (veq 8 (.slice (some ⟨1004, 0, none⟩) n n) (.slice (some ⟨1004, 0, none⟩) n n)) (
 cond (List.all cs (af 8) && (List.all es (fun e => af 8 e.fst && af 8 e.snd.fst) && (List.all lb' (fun e => af 8 e.fst && af 8 e.snd.fst) && (List.all z2 (af 8) && true)))) (
 some (.normal, ([(.tuple #[(.int .i64 0), (.int .i64 0)])], [some (.row ⟨[(.map (some 1002)), (.map (some 1003)), (.slice (some ⟨1005, 0, none⟩) (n + 1) (n + 1))], 52, (0, 0), 0, false, false⟩), some (.row ⟨cs, 59, (0, 0), 4, false, false⟩), some (.map (es) (eo)), some (.map (lb') (c')), none, some (.row ⟨z2, 63, (0, 0), 8, false, false⟩)]))) (
 none)) (
 none))) (
 none)) (
 none)) (
 none))) (
 cond z4 (
 lE (w1 i) z3) (
 none))) (
 none)) (
 none)) (
 none))) (
 none)))) (
 none)) (
 none)) (
 none)) (
 none)) (
 none)) (
 none)
 let z1 : Option Out := cond (sameL cs cs) (
 cond z6 (
 cond z8 (
 cond (bG (i) k) (
 cond (sameL cs cs) (
 cond ((symOf cs).okI .u8 z9) (
 cond ((symOf cs).int .u8 z9 != 1) z7 z7) (
 none)) (
 none)) (
 none)) (
 none)) (
 none)) (
 none)
 let z10 := mapHas es (tT cs i)
 cond (gB cs es lb td) (
 cond (g [.int .i64 0, .pointer (some ⟨1000, 0, none⟩), .slice (some ⟨1001, 0, none⟩) k k, .int .i64 num, .int .i64 0, .int .i64 0] [some (.row ⟨[.map (some 1002), .map (some 1003), .slice (some ⟨1004, 0, none⟩) n n], 52, (0, 0), 0, false, false⟩), some (.row ⟨cs, 59, (0, 0), 4, false, false⟩), some (LObj.map es eo), some (LObj.map lb c), some (.row ⟨td, 63, (0, 0), 8, false, false⟩)]) (
 cond z4 (
 cond (i == (↑k : Int)) (
 cond z4 (
 some (.normal, ([(.tuple #[(.int .i64 0), (.int .i64 0)])], z3))) (
 none)) (
 cond (bG (i) k) (
 cond (sameL cs cs) (
 cond z6 (
 cond (mapOk .u8 es) (
 cond z10 (
 cond (mapOk .u8 es) (
 cond z10 (
 cond (veq 8 (.tuple #[.int .u8 z5, .bool true]) (.tuple #[.int .u8 z5, .bool true])) z0 (
 none)) (
 cond (veq 8 (.tuple #[.int .u8 0, .bool false]) (.tuple #[.int .u8 z5, .bool true])) z0 (
 none))) (
 none)) (
 cond (mapOk .u8 es) (
 cond z10 (
 cond (veq 8 (.tuple #[.int .u8 z5, .bool true]) (.tuple #[.int .u8 0, .bool false])) z1 (
 none)) z1) (
 none))) (
 none)) (
 none)) (
 none)) (
 none))) (
 none)) (
 none)) (
 none) := by kernel_rfl
end Go.Proofs.YtgohbcbdgakjeaaGreatDoor
