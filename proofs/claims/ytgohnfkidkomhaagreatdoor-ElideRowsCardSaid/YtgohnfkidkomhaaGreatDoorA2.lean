/- asm: residuals of the code that reads an instruction, one behind others. -/
import Derived.Test.YtgohnfkidkomhaaGreatDoorA1
noncomputable section
noncomputable section
namespace Go.Proofs.YtgohnfkidkomhaaGreatDoor
open Go.Proofs.YtgohnfkidkomhaaGreatDoor.Ev Go.RowKit

/-! asm: the same, behind other instructions. -/
set_option maxRecDepth 100000 in
theorem r_li1H (gl : Gl) (g : GS) (gw : Int → Bool) (i num : Int) (cs : List Value) (k : Nat) (es lb lb' : MEs) (eo c c' : Nat) (td : List Value) (n : Nat) : li1 gl g gw [] i num cs k es lb lb' eo c c' td n =
 cond (gB cs es lb td) (
 cond (g [.int .i64 0, .pointer (some ⟨1000, 0, none⟩), .slice (some ⟨1001, 0, none⟩) k k, .int .i64 num, .int .i64 0, .int .i64 0] [some (.row ⟨[.map (some 1002), .map (some 1003), .slice (some ⟨1004, 0, none⟩) n n], 51, (0, 0), 0, false, false⟩), some (.row ⟨cs, 59, (0, 0), 4, false, false⟩), some (LObj.map es eo), some (LObj.map lb c), some (.row ⟨td, 63, (0, 0), 8, false, false⟩)]) (
 cond (gB cs es lb' td) (
 cond (i == (↑k : Int)) (
 cond (gB cs es lb' td) (
 some (.normal, ([(.tuple #[(.int .i64 0), (.int .i64 0)])], (liRows1 cs es lb' eo c' td n)))) (
 none)) (
 cond (bG (i) k) (
 cond (sameL cs cs) (
 cond ((symOf cs).okS (0 + i.toNat * 4 + 1)) (
 cond (mapOk .u8 es) (
 cond (mapHas es (tT cs i)) (
 cond (mapOk .u8 es) (
 cond (mapHas es (tT cs i)) (
 cond (veq 8 (.tuple #[.int .u8 (mapI es (tT cs i)), .bool true]) (.tuple #[.int .u8 (mapI es (tT cs i)), .bool true])) (
 cond (sameL cs cs) (
 cond ((symOf cs).okS (0 + i.toNat * 4 + 1)) (
 cond (veq 8 (.string (tT cs i)) (.string (tT cs i))) (
 cond (bG (i) k) (
 cond (sameL cs cs) (
 cond ((symOf cs).okI .u8 (0 + i.toNat * 4)) (
 cond ((symOf cs).int .u8 (0 + i.toNat * 4) != 1) (
 cond (gB cs es lb' td) (
 lE (i) (liRows1 cs es lb' eo c' td n)) (
 none)) (
 cond ((↑n : Int) == 1024) (
 cond (gB cs es lb' td) (
 some (.normal, ([(.tuple #[(.int .i64 (i)), (.int .i64 7)])], (liRows1 cs es lb' eo c' td n)))) (
 none)) (
 cond (gw (mapI es (tT cs i))) (
 cond (decide (w1 i < (↑k : Int))) (
 cond (gB cs es lb' td) (
 lE (w1 i) (liRows1 cs es lb' eo c' td n)) (
 none)) (
 cond (n.ble n) (
 cond (((n + 1) * 72).ble 140737488355328 && ((n + 1).ble 1099511627776)) (
 cond ((n * 8).beq td.length) (
 qs [mapI es (tT cs i)] (
 cond (veq 8 (.slice (some ⟨1004, 0, none⟩) n n) (.slice (some ⟨1004, 0, none⟩) n n)) (
 cond (List.all cs (af 8) && (List.all es (fun e => af 8 e.fst && af 8 e.snd.fst) && (List.all lb' (fun e => af 8 e.fst && af 8 e.snd.fst) && (List.all (td ++ [(.int .u8 (mapI es (tT cs i))), (.int .i64 0), (.int .i64 0), (.int .i64 0), (.int .i64 0), (.int .i64 0), (.int .i64 0), (.string ((⟨#[]⟩ : ByteArray)))]) (af 8) && true)))) (
 some (.normal, ([(.tuple #[(.int .i64 0), (.int .i64 0)])], [some (.row ⟨[(.map (some 1002)), (.map (some 1003)), (.slice (some ⟨1005, 0, none⟩) (n + 1) (n + 1))], 51, (0, 0), 0, false, false⟩), some (.row ⟨cs, 59, (0, 0), 4, false, false⟩), some (.map (es) (eo)), some (.map (lb') (c')), none, some (.row ⟨(td ++ [(.int .u8 (mapI es (tT cs i))), (.int .i64 0), (.int .i64 0), (.int .i64 0), (.int .i64 0), (.int .i64 0), (.int .i64 0), (.string ((⟨#[]⟩ : ByteArray)))]), 63, (0, 0), 8, false, false⟩)]))) (
 none)) (
 none))) (
 none)) (
 none)) (
 none))) (
 none)))) (
 none)) (
 none)) (
 none)) (
 none)) (
 none)) (
 none)) (
 none)) (
 cond (veq 8 (.tuple #[.int .u8 0, .bool false]) (.tuple #[.int .u8 (mapI es (tT cs i)), .bool true])) (
 cond (sameL cs cs) (
 cond ((symOf cs).okS (0 + i.toNat * 4 + 1)) (
 cond (veq 8 (.string (tT cs i)) (.string (tT cs i))) (
 cond (bG (i) k) (
 cond (sameL cs cs) (
 cond ((symOf cs).okI .u8 (0 + i.toNat * 4)) (
 cond ((symOf cs).int .u8 (0 + i.toNat * 4) != 1) (
 cond (gB cs es lb' td) (
 lE (i) (liRows1 cs es lb' eo c' td n)) (
 none)) (
 cond ((↑n : Int) == 1024) (
 cond (gB cs es lb' td) (
 some (.normal, ([(.tuple #[(.int .i64 (i)), (.int .i64 7)])], (liRows1 cs es lb' eo c' td n)))) (
 none)) (
 cond (gw (mapI es (tT cs i))) (
 cond (decide (w1 i < (↑k : Int))) (
 cond (gB cs es lb' td) (
 lE (w1 i) (liRows1 cs es lb' eo c' td n)) (
 none)) (
 cond (n.ble n) (
 cond (((n + 1) * 72).ble 140737488355328 && ((n + 1).ble 1099511627776)) (
 cond ((n * 8).beq td.length) (
 qs [mapI es (tT cs i)] (
 cond (veq 8 (.slice (some ⟨1004, 0, none⟩) n n) (.slice (some ⟨1004, 0, none⟩) n n)) (
 cond (List.all cs (af 8) && (List.all es (fun e => af 8 e.fst && af 8 e.snd.fst) && (List.all lb' (fun e => af 8 e.fst && af 8 e.snd.fst) && (List.all (td ++ [(.int .u8 (mapI es (tT cs i))), (.int .i64 0), (.int .i64 0), (.int .i64 0), (.int .i64 0), (.int .i64 0), (.int .i64 0), (.string ((⟨#[]⟩ : ByteArray)))]) (af 8) && true)))) (
 some (.normal, ([(.tuple #[(.int .i64 0), (.int .i64 0)])], [some (.row ⟨[(.map (some 1002)), (.map (some 1003)), (.slice (some ⟨1005, 0, none⟩) (n + 1) (n + 1))], 51, (0, 0), 0, false, false⟩), some (.row ⟨cs, 59, (0, 0), 4, false, false⟩), some (.map (es) (eo)), some (.map (lb') (c')), none, some (.row ⟨(td ++ [(.int .u8 (mapI es (tT cs i))), (.int .i64 0), (.int .i64 0), (.int .i64 0), (.int .i64 0), (.int .i64 0), (.int .i64 0), (.string ((⟨#[]⟩ : ByteArray)))]), 63, (0, 0), 8, false, false⟩)]))) (
 none)) (
 none))) (
 none)) (
 none)) (
 none))) (
 none)))) (
 none)) (
 none)) (
 none)) (
 none)) (
 none)) (
 none)) (
 none))) (
 none)) (
 cond (mapOk .u8 es) (
 cond (mapHas es (tT cs i)) (
 cond (veq 8 (.tuple #[.int .u8 (mapI es (tT cs i)), .bool true]) (.tuple #[.int .u8 0, .bool false])) (
 cond (sameL cs cs) (
 cond ((symOf cs).okS (0 + i.toNat * 4 + 1)) (
 cond (veq 8 (.string (tT cs i)) (.string (tT cs i))) (
 cond (bG (i) k) (
 cond (sameL cs cs) (
 cond ((symOf cs).okI .u8 (0 + i.toNat * 4)) (
 cond ((symOf cs).int .u8 (0 + i.toNat * 4) != 1) (
 cond (gB cs es lb' td) (
 lE (i) (liRows1 cs es lb' eo c' td n)) (
 none)) (
 cond (gB cs es lb' td) (
 lE (i) (liRows1 cs es lb' eo c' td n)) (
 none))) (
 none)) (
 none)) (
 none)) (
 none)) (
 none)) (
 none)) (
 none)) (
 cond (sameL cs cs) (
 cond ((symOf cs).okS (0 + i.toNat * 4 + 1)) (
 cond (veq 8 (.string (tT cs i)) (.string (tT cs i))) (
 cond (bG (i) k) (
 cond (sameL cs cs) (
 cond ((symOf cs).okI .u8 (0 + i.toNat * 4)) (
 cond ((symOf cs).int .u8 (0 + i.toNat * 4) != 1) (
 cond (gB cs es lb' td) (
 lE (i) (liRows1 cs es lb' eo c' td n)) (
 none)) (
 cond (gB cs es lb' td) (
 lE (i) (liRows1 cs es lb' eo c' td n)) (
 none))) (
 none)) (
 none)) (
 none)) (
 none)) (
 none)) (
 none))) (
 none))) (
 none)) (
 none)) (
 none)) (
 none))) (
 none)) (
 none)) (
 none) := by kernel_rfl
set_option maxRecDepth 100000 in
theorem r_li1R3 (gl : Gl) (g : GS) (gw : Int → Bool) (i num : Int) (cs : List Value) (k : Nat) (es lb lb' : MEs) (eo c c' : Nat) (td : List Value) (n : Nat) : li1 gl g gw [0, 0, 0] i num cs k es lb lb' eo c c' td n =
 cond (gB cs es lb td) (
 cond (g [.int .i64 0, .pointer (some ⟨1000, 0, none⟩), .slice (some ⟨1001, 0, none⟩) k k, .int .i64 num, .int .i64 0, .int .i64 0] [some (.row ⟨[.map (some 1002), .map (some 1003), .slice (some ⟨1004, 0, none⟩) n n], 51, (0, 0), 0, false, false⟩), some (.row ⟨cs, 59, (0, 0), 4, false, false⟩), some (LObj.map es eo), some (LObj.map lb c), some (.row ⟨td, 63, (0, 0), 8, false, false⟩)]) (
 cond (gB cs es lb' td) (
 cond (i == (↑k : Int)) (
 cond (gB cs es lb' td) (
 some (.normal, ([(.tuple #[(.int .i64 0), (.int .i64 0)])], (liRows1 cs es lb' eo c' td n)))) (
 none)) (
 cond (bG (i) k) (
 cond (sameL cs cs) (
 cond ((symOf cs).okS (0 + i.toNat * 4 + 1)) (
 cond (mapOk .u8 es) (
 cond (mapHas es (tT cs i)) (
 cond (mapOk .u8 es) (
 cond (mapHas es (tT cs i)) (
 cond (veq 8 (.tuple #[.int .u8 (mapI es (tT cs i)), .bool true]) (.tuple #[.int .u8 (mapI es (tT cs i)), .bool true])) (
 cond (sameL cs cs) (
 cond ((symOf cs).okS (0 + i.toNat * 4 + 1)) (
 cond (veq 8 (.string (tT cs i)) (.string (tT cs i))) (
 cond (bG (i) k) (
 cond (sameL cs cs) (
 cond ((symOf cs).okI .u8 (0 + i.toNat * 4)) (
 cond ((symOf cs).int .u8 (0 + i.toNat * 4) != 1) (
 cond (gB cs es lb' td) (
 lE (i) (liRows1 cs es lb' eo c' td n)) (
 none)) (
 cond ((↑n : Int) == 1024) (
 cond (gB cs es lb' td) (
 some (.normal, ([(.tuple #[(.int .i64 (i)), (.int .i64 7)])], (liRows1 cs es lb' eo c' td n)))) (
 none)) (
 cond (gw (mapI es (tT cs i))) (
 cond (decide (w1 i ≥ (↑k : Int))) (
 cond (gB cs es lb' td) (
 lE (IntKind.i64.wrap ((↑k : Int) - 1)) (liRows1 cs es lb' eo c' td n)) (
 none)) (
 cond (bG (w1 i) k) (
 cond (sameL cs cs) (
 cond (tG cs (w1 i)) (
 cond (tQ cs (w1 i) == 2) (
 cond (decide (w2 i ≥ (↑k : Int))) (
 cond (gB cs es lb' td) (
 lE (mI k (w2 i)) (liRows1 cs es lb' eo c' td n)) (
 none)) (
 cond (bG (w2 i) k) (
 cond (sameL cs cs) (
 cond ((symOf cs).okI .u8 (0 + (w2 i).toNat * 4)) (
 cond (tP cs (w2 i) != 4) (
 cond (gB cs es lb' td) (
 lE (mI k (w2 i)) (liRows1 cs es lb' eo c' td n)) (
 none)) (
 cond (decide (w3 i ≥ (↑k : Int))) (
 cond (gB cs es lb' td) (
 lE (IntKind.i64.wrap ((↑k : Int) - 1)) (liRows1 cs es lb' eo c' td n)) (
 none)) (
 cond (bG (w3 i) k) (
 cond (sameL cs cs) (
 cond (tG cs (w3 i)) (
 cond (tQ cs (w3 i) == 2) (
 cond (decide (w4 i ≥ (↑k : Int))) (
 cond (gB cs es lb' td) (
 lE (mI k (w4 i)) (liRows1 cs es lb' eo c' td n)) (
 none)) (
 cond (bG (w4 i) k) (
 cond (sameL cs cs) (
 cond ((symOf cs).okI .u8 (0 + (w4 i).toNat * 4)) (
 cond (tP cs (w4 i) != 4) (
 cond (gB cs es lb' td) (
 lE (mI k (w4 i)) (liRows1 cs es lb' eo c' td n)) (
 none)) (
 cond (decide (w5 i ≥ (↑k : Int))) (
 cond (gB cs es lb' td) (
 lE (IntKind.i64.wrap ((↑k : Int) - 1)) (liRows1 cs es lb' eo c' td n)) (
 none)) (
 cond (bG (w5 i) k) (
 cond (sameL cs cs) (
 cond (tG cs (w5 i)) (
 cond (tQ cs (w5 i) == 2) (
 cond (decide (w6 i < (↑k : Int))) (
 cond (gB cs es lb' td) (
 lE (w6 i) (liRows1 cs es lb' eo c' td n)) (
 none)) (
 cond (n.ble n) (
 cond (((n + 1) * 72).ble 140737488355328 && ((n + 1).ble 1099511627776)) (
 cond ((n * 8).beq td.length) (
 qs [mapI es (tT cs i), (symOf cs).int .i64 (0 + (w1 i).toNat * 4 + (1 + 1)), (symOf cs).int .i64
 (0 + (w3 i).toNat * 4 + (1 + 1)), (symOf cs).int .i64
 (0 +
 (IntKind.i64.wrap
 (w4 i + 1)).toNat *
 4 +
 (1 + 1))] (
 cond (veq 8 (.slice (some ⟨1004, 0, none⟩) n n) (.slice (some ⟨1004, 0, none⟩) n n)) (
 cond (List.all cs (af 8) && (List.all es (fun e => af 8 e.fst && af 8 e.snd.fst) && (List.all lb' (fun e => af 8 e.fst && af 8 e.snd.fst) && (List.all (td ++ [(.int .u8 (mapI es (tT cs i))), (.int .i64 ((symOf cs).int .i64 (0 + (w1 i).toNat * 4 + 2))), (.int .i64 ((symOf cs).int .i64 (0 + (w3 i).toNat * 4 + 2))), (.int .i64 ((symOf cs).int .i64 (0 + (w5 i).toNat * 4 + 2))), (.int .i64 0), (.int .i64 0), (.int .i64 0), (.string ((⟨#[]⟩ : ByteArray)))]) (af 8) && true)))) (
 some (.normal, ([(.tuple #[(.int .i64 0), (.int .i64 0)])], [some (.row ⟨[(.map (some 1002)), (.map (some 1003)), (.slice (some ⟨1005, 0, none⟩) (n + 1) (n + 1))], 51, (0, 0), 0, false, false⟩), some (.row ⟨cs, 59, (0, 0), 4, false, false⟩), some (.map (es) (eo)), some (.map (lb') (c')), none, some (.row ⟨(td ++ [(.int .u8 (mapI es (tT cs i))), (.int .i64 ((symOf cs).int .i64 (0 + (w1 i).toNat * 4 + 2))), (.int .i64 ((symOf cs).int .i64 (0 + (w3 i).toNat * 4 + 2))), (.int .i64 ((symOf cs).int .i64 (0 + (w5 i).toNat * 4 + 2))), (.int .i64 0), (.int .i64 0), (.int .i64 0), (.string ((⟨#[]⟩ : ByteArray)))]), 63, (0, 0), 8, false, false⟩)]))) (
 none)) (
 none))) (
 none)) (
 none)) (
 none))) (
 cond (gB cs es lb' td) (
 lE (w5 i) (liRows1 cs es lb' eo c' td n)) (
 none))) (
 none)) (
 none)) (
 none)))) (
 none)) (
 none)) (
 none))) (
 cond (gB cs es lb' td) (
 lE (w3 i) (liRows1 cs es lb' eo c' td n)) (
 none))) (
 none)) (
 none)) (
 none)))) (
 none)) (
 none)) (
 none))) (
 cond (gB cs es lb' td) (
 lE (w1 i) (liRows1 cs es lb' eo c' td n)) (
 none))) (
 none)) (
 none)) (
 none))) (
 none)))) (
 none)) (
 none)) (
 none)) (
 none)) (
 none)) (
 none)) (
 none)) (
 cond (veq 8 (.tuple #[.int .u8 0, .bool false]) (.tuple #[.int .u8 (mapI es (tT cs i)), .bool true])) (
 cond (sameL cs cs) (
 cond ((symOf cs).okS (0 + i.toNat * 4 + 1)) (
 cond (veq 8 (.string (tT cs i)) (.string (tT cs i))) (
 cond (bG (i) k) (
 cond (sameL cs cs) (
 cond ((symOf cs).okI .u8 (0 + i.toNat * 4)) (
 cond ((symOf cs).int .u8 (0 + i.toNat * 4) != 1) (
 cond (gB cs es lb' td) (
 lE (i) (liRows1 cs es lb' eo c' td n)) (
 none)) (
 cond ((↑n : Int) == 1024) (
 cond (gB cs es lb' td) (
 some (.normal, ([(.tuple #[(.int .i64 (i)), (.int .i64 7)])], (liRows1 cs es lb' eo c' td n)))) (
 none)) (
 cond (gw (mapI es (tT cs i))) (
 cond (decide (w1 i ≥ (↑k : Int))) (
 cond (gB cs es lb' td) (
 lE (IntKind.i64.wrap ((↑k : Int) - 1)) (liRows1 cs es lb' eo c' td n)) (
 none)) (
 cond (bG (w1 i) k) (
 cond (sameL cs cs) (
 cond (tG cs (w1 i)) (
 cond (tQ cs (w1 i) == 2) (
 cond (decide (w2 i ≥ (↑k : Int))) (
 cond (gB cs es lb' td) (
 lE (mI k (w2 i)) (liRows1 cs es lb' eo c' td n)) (
 none)) (
 cond (bG (w2 i) k) (
 cond (sameL cs cs) (
 cond ((symOf cs).okI .u8 (0 + (w2 i).toNat * 4)) (
 cond (tP cs (w2 i) != 4) (
 cond (gB cs es lb' td) (
 lE (mI k (w2 i)) (liRows1 cs es lb' eo c' td n)) (
 none)) (
 cond (decide (w3 i ≥ (↑k : Int))) (
 cond (gB cs es lb' td) (
 lE (IntKind.i64.wrap ((↑k : Int) - 1)) (liRows1 cs es lb' eo c' td n)) (
 none)) (
 cond (bG (w3 i) k) (
 cond (sameL cs cs) (
 cond (tG cs (w3 i)) (
 cond (tQ cs (w3 i) == 2) (
 cond (decide (w4 i ≥ (↑k : Int))) (
 cond (gB cs es lb' td) (
 lE (mI k (w4 i)) (liRows1 cs es lb' eo c' td n)) (
 none)) (
 cond (bG (w4 i) k) (
 cond (sameL cs cs) (
 cond ((symOf cs).okI .u8 (0 + (w4 i).toNat * 4)) (
 cond (tP cs (w4 i) != 4) (
 cond (gB cs es lb' td) (
 lE (mI k (w4 i)) (liRows1 cs es lb' eo c' td n)) (
 none)) (
 cond (decide (w5 i ≥ (↑k : Int))) (
 cond (gB cs es lb' td) (
 lE (IntKind.i64.wrap ((↑k : Int) - 1)) (liRows1 cs es lb' eo c' td n)) (
 none)) (
 cond (bG (w5 i) k) (
 cond (sameL cs cs) (
 cond (tG cs (w5 i)) (
 cond (tQ cs (w5 i) == 2) (
 cond (decide (w6 i < (↑k : Int))) (
 cond (gB cs es lb' td) (
 lE (w6 i) (liRows1 cs es lb' eo c' td n)) (
 none)) (
 cond (n.ble n) (
 cond (((n + 1) * 72).ble 140737488355328 && ((n + 1).ble 1099511627776)) (
 cond ((n * 8).beq td.length) (
 qs [mapI es (tT cs i), (symOf cs).int .i64 (0 + (w1 i).toNat * 4 + (1 + 1)), (symOf cs).int .i64
 (0 + (w3 i).toNat * 4 + (1 + 1)), (symOf cs).int .i64
 (0 +
 (IntKind.i64.wrap
 (w4 i + 1)).toNat *
 4 +
 (1 + 1))] (
 cond (veq 8 (.slice (some ⟨1004, 0, none⟩) n n) (.slice (some ⟨1004, 0, none⟩) n n)) (
 cond (List.all cs (af 8) && (List.all es (fun e => af 8 e.fst && af 8 e.snd.fst) && (List.all lb' (fun e => af 8 e.fst && af 8 e.snd.fst) && (List.all (td ++ [(.int .u8 (mapI es (tT cs i))), (.int .i64 ((symOf cs).int .i64 (0 + (w1 i).toNat * 4 + 2))), (.int .i64 ((symOf cs).int .i64 (0 + (w3 i).toNat * 4 + 2))), (.int .i64 ((symOf cs).int .i64 (0 + (w5 i).toNat * 4 + 2))), (.int .i64 0), (.int .i64 0), (.int .i64 0), (.string ((⟨#[]⟩ : ByteArray)))]) (af 8) && true)))) (
 some (.normal, ([(.tuple #[(.int .i64 0), (.int .i64 0)])], [some (.row ⟨[(.map (some 1002)), (.map (some 1003)), (.slice (some ⟨1005, 0, none⟩) (n + 1) (n + 1))], 51, (0, 0), 0, false, false⟩), some (.row ⟨cs, 59, (0, 0), 4, false, false⟩), some (.map (es) (eo)), some (.map (lb') (c')), none, some (.row ⟨(td ++ [(.int .u8 (mapI es (tT cs i))), (.int .i64 ((symOf cs).int .i64 (0 + (w1 i).toNat * 4 + 2))), (.int .i64 ((symOf cs).int .i64 (0 + (w3 i).toNat * 4 + 2))), (.int .i64 ((symOf cs).int .i64 (0 + (w5 i).toNat * 4 + 2))), (.int .i64 0), (.int .i64 0), (.int .i64 0), (.string ((⟨#[]⟩ : ByteArray)))]), 63, (0, 0), 8, false, false⟩)]))) (
 none)) (
 none))) (
 none)) (
 none)) (
 none))) (
 cond (gB cs es lb' td) (
 lE (w5 i) (liRows1 cs es lb' eo c' td n)) (
 none))) (
 none)) (
 none)) (
 none)))) (
 none)) (
 none)) (
 none))) (
 cond (gB cs es lb' td) (
 lE (w3 i) (liRows1 cs es lb' eo c' td n)) (
 none))) (
 none)) (
 none)) (
 none)))) (
 none)) (
 none)) (
 none))) (
 cond (gB cs es lb' td) (
 lE (w1 i) (liRows1 cs es lb' eo c' td n)) (
 none))) (
 none)) (
 none)) (
 none))) (
 none)))) (
 none)) (
 none)) (
 none)) (
 none)) (
 none)) (
 none)) (
 none))) (
 none)) (
 cond (mapOk .u8 es) (
 cond (mapHas es (tT cs i)) (
 cond (veq 8 (.tuple #[.int .u8 (mapI es (tT cs i)), .bool true]) (.tuple #[.int .u8 0, .bool false])) (
 cond (sameL cs cs) (
 cond ((symOf cs).okS (0 + i.toNat * 4 + 1)) (
 cond (veq 8 (.string (tT cs i)) (.string (tT cs i))) (
 cond (bG (i) k) (
 cond (sameL cs cs) (
 cond ((symOf cs).okI .u8 (0 + i.toNat * 4)) (
 cond ((symOf cs).int .u8 (0 + i.toNat * 4) != 1) (
 cond (gB cs es lb' td) (
 lE (i) (liRows1 cs es lb' eo c' td n)) (
 none)) (
 cond (gB cs es lb' td) (
 lE (i) (liRows1 cs es lb' eo c' td n)) (
 none))) (
 none)) (
 none)) (
 none)) (
 none)) (
 none)) (
 none)) (
 none)) (
 cond (sameL cs cs) (
 cond ((symOf cs).okS (0 + i.toNat * 4 + 1)) (
 cond (veq 8 (.string (tT cs i)) (.string (tT cs i))) (
 cond (bG (i) k) (
 cond (sameL cs cs) (
 cond ((symOf cs).okI .u8 (0 + i.toNat * 4)) (
 cond ((symOf cs).int .u8 (0 + i.toNat * 4) != 1) (
 cond (gB cs es lb' td) (
 lE (i) (liRows1 cs es lb' eo c' td n)) (
 none)) (
 cond (gB cs es lb' td) (
 lE (i) (liRows1 cs es lb' eo c' td n)) (
 none))) (
 none)) (
 none)) (
 none)) (
 none)) (
 none)) (
 none))) (
 none))) (
 none)) (
 none)) (
 none)) (
 none))) (
 none)) (
 none)) (
 none) := by kernel_rfl
set_option maxRecDepth 100000 in
theorem r_li1RN (gl : Gl) (g : GS) (gw : Int → Bool) (i num : Int) (cs : List Value) (k : Nat) (es lb lb' : MEs) (eo c c' : Nat) (td : List Value) (n : Nat) : li1 gl g gw [0, 0, 1] i num cs k es lb lb' eo c c' td n =
 cond (gB cs es lb td) (
 cond (g [.int .i64 0, .pointer (some ⟨1000, 0, none⟩), .slice (some ⟨1001, 0, none⟩) k k, .int .i64 num, .int .i64 0, .int .i64 0] [some (.row ⟨[.map (some 1002), .map (some 1003), .slice (some ⟨1004, 0, none⟩) n n], 51, (0, 0), 0, false, false⟩), some (.row ⟨cs, 59, (0, 0), 4, false, false⟩), some (LObj.map es eo), some (LObj.map lb c), some (.row ⟨td, 63, (0, 0), 8, false, false⟩)]) (
 cond (gB cs es lb' td) (
 cond (i == (↑k : Int)) (
 cond (gB cs es lb' td) (
 some (.normal, ([(.tuple #[(.int .i64 0), (.int .i64 0)])], (liRows1 cs es lb' eo c' td n)))) (
 none)) (
 cond (bG (i) k) (
 cond (sameL cs cs) (
 cond ((symOf cs).okS (0 + i.toNat * 4 + 1)) (
 cond (mapOk .u8 es) (
 cond (mapHas es (tT cs i)) (
 cond (mapOk .u8 es) (
 cond (mapHas es (tT cs i)) (
 cond (veq 8 (.tuple #[.int .u8 (mapI es (tT cs i)), .bool true]) (.tuple #[.int .u8 (mapI es (tT cs i)), .bool true])) (
 cond (sameL cs cs) (
 cond ((symOf cs).okS (0 + i.toNat * 4 + 1)) (
 cond (veq 8 (.string (tT cs i)) (.string (tT cs i))) (
 cond (bG (i) k) (
 cond (sameL cs cs) (
 cond ((symOf cs).okI .u8 (0 + i.toNat * 4)) (
 cond ((symOf cs).int .u8 (0 + i.toNat * 4) != 1) (
 cond (gB cs es lb' td) (
 lE (i) (liRows1 cs es lb' eo c' td n)) (
 none)) (
 cond ((↑n : Int) == 1024) (
 cond (gB cs es lb' td) (
 some (.normal, ([(.tuple #[(.int .i64 (i)), (.int .i64 7)])], (liRows1 cs es lb' eo c' td n)))) (
 none)) (
 cond (gw (mapI es (tT cs i))) (
 cond (decide (w1 i ≥ (↑k : Int))) (
 cond (gB cs es lb' td) (
 lE (IntKind.i64.wrap ((↑k : Int) - 1)) (liRows1 cs es lb' eo c' td n)) (
 none)) (
 cond (bG (w1 i) k) (
 cond (sameL cs cs) (
 cond (tG cs (w1 i)) (
 cond (tQ cs (w1 i) == 2) (
 cond (decide (w2 i ≥ (↑k : Int))) (
 cond (gB cs es lb' td) (
 lE (mI k (w2 i)) (liRows1 cs es lb' eo c' td n)) (
 none)) (
 cond (bG (w2 i) k) (
 cond (sameL cs cs) (
 cond ((symOf cs).okI .u8 (0 + (w2 i).toNat * 4)) (
 cond (tP cs (w2 i) != 4) (
 cond (gB cs es lb' td) (
 lE (mI k (w2 i)) (liRows1 cs es lb' eo c' td n)) (
 none)) (
 cond (decide (w3 i ≥ (↑k : Int))) (
 cond (gB cs es lb' td) (
 lE (IntKind.i64.wrap ((↑k : Int) - 1)) (liRows1 cs es lb' eo c' td n)) (
 none)) (
 cond (bG (w3 i) k) (
 cond (sameL cs cs) (
 cond (tG cs (w3 i)) (
 cond (tQ cs (w3 i) == 2) (
 cond (decide (w4 i ≥ (↑k : Int))) (
 cond (gB cs es lb' td) (
 lE (mI k (w4 i)) (liRows1 cs es lb' eo c' td n)) (
 none)) (
 cond (bG (w4 i) k) (
 cond (sameL cs cs) (
 cond ((symOf cs).okI .u8 (0 + (w4 i).toNat * 4)) (
 cond (tP cs (w4 i) != 4) (
 cond (gB cs es lb' td) (
 lE (mI k (w4 i)) (liRows1 cs es lb' eo c' td n)) (
 none)) (
 cond (decide (w5 i ≥ (↑k : Int))) (
 cond (gB cs es lb' td) (
 lE (IntKind.i64.wrap ((↑k : Int) - 1)) (liRows1 cs es lb' eo c' td n)) (
 none)) (
 cond (bG (w5 i) k) (
 cond (sameL cs cs) (
 cond (tG cs (w5 i)) (
 cond (tQ cs (w5 i) == 3) (
 cond (decide (w6 i < (↑k : Int))) (
 cond (gB cs es lb' td) (
 lE (w6 i) (liRows1 cs es lb' eo c' td n)) (
 none)) (
 cond (n.ble n) (
 cond (((n + 1) * 72).ble 140737488355328 && ((n + 1).ble 1099511627776)) (
 cond ((n * 8).beq td.length) (
 qs [mapI es (tT cs i), (symOf cs).int .i64 (0 + (w1 i).toNat * 4 + (1 + 1)), (symOf cs).int .i64
 (0 + (w3 i).toNat * 4 + (1 + 1)), (symOf cs).int .i64
 (0 +
 (IntKind.i64.wrap
 (w4 i + 1)).toNat *
 4 +
 (1 + 1)), num, (symOf cs).int .i64
 (0 +
 (IntKind.i64.wrap
 (w4 i + 1)).toNat *
 4 +
 (1 + 1 + 1))] (
 cond (veq 8 (.slice (some ⟨1004, 0, none⟩) n n) (.slice (some ⟨1004, 0, none⟩) n n)) (
 cond (List.all cs (af 8) && (List.all es (fun e => af 8 e.fst && af 8 e.snd.fst) && (List.all lb' (fun e => af 8 e.fst && af 8 e.snd.fst) && (List.all (td ++ [(.int .u8 (mapI es (tT cs i))), (.int .i64 ((symOf cs).int .i64 (0 + (w1 i).toNat * 4 + 2))), (.int .i64 ((symOf cs).int .i64 (0 + (w3 i).toNat * 4 + 2))), (.int .i64 0), (.int .i64 ((symOf cs).int .i64 (0 + (w5 i).toNat * 4 + 2))), (.int .i64 (num)), (.int .i64 ((symOf cs).int .i64 (0 + (w5 i).toNat * 4 + 3))), (.string ((⟨#[]⟩ : ByteArray)))]) (af 8) && true)))) (
 some (.normal, ([(.tuple #[(.int .i64 0), (.int .i64 0)])], [some (.row ⟨[(.map (some 1002)), (.map (some 1003)), (.slice (some ⟨1005, 0, none⟩) (n + 1) (n + 1))], 51, (0, 0), 0, false, false⟩), some (.row ⟨cs, 59, (0, 0), 4, false, false⟩), some (.map (es) (eo)), some (.map (lb') (c')), none, some (.row ⟨(td ++ [(.int .u8 (mapI es (tT cs i))), (.int .i64 ((symOf cs).int .i64 (0 + (w1 i).toNat * 4 + 2))), (.int .i64 ((symOf cs).int .i64 (0 + (w3 i).toNat * 4 + 2))), (.int .i64 0), (.int .i64 ((symOf cs).int .i64 (0 + (w5 i).toNat * 4 + 2))), (.int .i64 (num)), (.int .i64 ((symOf cs).int .i64 (0 + (w5 i).toNat * 4 + 3))), (.string ((⟨#[]⟩ : ByteArray)))]), 63, (0, 0), 8, false, false⟩)]))) (
 none)) (
 none))) (
 none)) (
 none)) (
 none))) (
 cond (gB cs es lb' td) (
 lE (w5 i) (liRows1 cs es lb' eo c' td n)) (
 none))) (
 none)) (
 none)) (
 none)))) (
 none)) (
 none)) (
 none))) (
 cond (gB cs es lb' td) (
 lE (w3 i) (liRows1 cs es lb' eo c' td n)) (
 none))) (
 none)) (
 none)) (
 none)))) (
 none)) (
 none)) (
 none))) (
 cond (gB cs es lb' td) (
 lE (w1 i) (liRows1 cs es lb' eo c' td n)) (
 none))) (
 none)) (
 none)) (
 none))) (
 none)))) (
 none)) (
 none)) (
 none)) (
 none)) (
 none)) (
 none)) (
 none)) (
 cond (veq 8 (.tuple #[.int .u8 0, .bool false]) (.tuple #[.int .u8 (mapI es (tT cs i)), .bool true])) (
 cond (sameL cs cs) (
 cond ((symOf cs).okS (0 + i.toNat * 4 + 1)) (
 cond (veq 8 (.string (tT cs i)) (.string (tT cs i))) (
 cond (bG (i) k) (
 cond (sameL cs cs) (
 cond ((symOf cs).okI .u8 (0 + i.toNat * 4)) (
 cond ((symOf cs).int .u8 (0 + i.toNat * 4) != 1) (
 cond (gB cs es lb' td) (
 lE (i) (liRows1 cs es lb' eo c' td n)) (
 none)) (
 cond ((↑n : Int) == 1024) (
 cond (gB cs es lb' td) (
 some (.normal, ([(.tuple #[(.int .i64 (i)), (.int .i64 7)])], (liRows1 cs es lb' eo c' td n)))) (
 none)) (
 cond (gw (mapI es (tT cs i))) (
 cond (decide (w1 i ≥ (↑k : Int))) (
 cond (gB cs es lb' td) (
 lE (IntKind.i64.wrap ((↑k : Int) - 1)) (liRows1 cs es lb' eo c' td n)) (
 none)) (
 cond (bG (w1 i) k) (
 cond (sameL cs cs) (
 cond (tG cs (w1 i)) (
 cond (tQ cs (w1 i) == 2) (
 cond (decide (w2 i ≥ (↑k : Int))) (
 cond (gB cs es lb' td) (
 lE (mI k (w2 i)) (liRows1 cs es lb' eo c' td n)) (
 none)) (
 cond (bG (w2 i) k) (
 cond (sameL cs cs) (
 cond ((symOf cs).okI .u8 (0 + (w2 i).toNat * 4)) (
 cond (tP cs (w2 i) != 4) (
 cond (gB cs es lb' td) (
 lE (mI k (w2 i)) (liRows1 cs es lb' eo c' td n)) (
 none)) (
 cond (decide (w3 i ≥ (↑k : Int))) (
 cond (gB cs es lb' td) (
 lE (IntKind.i64.wrap ((↑k : Int) - 1)) (liRows1 cs es lb' eo c' td n)) (
 none)) (
 cond (bG (w3 i) k) (
 cond (sameL cs cs) (
 cond (tG cs (w3 i)) (
 cond (tQ cs (w3 i) == 2) (
 cond (decide (w4 i ≥ (↑k : Int))) (
 cond (gB cs es lb' td) (
 lE (mI k (w4 i)) (liRows1 cs es lb' eo c' td n)) (
 none)) (
 cond (bG (w4 i) k) (
 cond (sameL cs cs) (
 cond ((symOf cs).okI .u8 (0 + (w4 i).toNat * 4)) (
 cond (tP cs (w4 i) != 4) (
 cond (gB cs es lb' td) (
 lE (mI k (w4 i)) (liRows1 cs es lb' eo c' td n)) (
 none)) (
 cond (decide (w5 i ≥ (↑k : Int))) (
 cond (gB cs es lb' td) (
 lE (IntKind.i64.wrap ((↑k : Int) - 1)) (liRows1 cs es lb' eo c' td n)) (
 none)) (
 cond (bG (w5 i) k) (
 cond (sameL cs cs) (
 cond (tG cs (w5 i)) (
 cond (tQ cs (w5 i) == 3) (
 cond (decide (w6 i < (↑k : Int))) (
 cond (gB cs es lb' td) (
 lE (w6 i) (liRows1 cs es lb' eo c' td n)) (
 none)) (
 cond (n.ble n) (
 cond (((n + 1) * 72).ble 140737488355328 && ((n + 1).ble 1099511627776)) (
 cond ((n * 8).beq td.length) (
 qs [mapI es (tT cs i), (symOf cs).int .i64 (0 + (w1 i).toNat * 4 + (1 + 1)), (symOf cs).int .i64
 (0 + (w3 i).toNat * 4 + (1 + 1)), (symOf cs).int .i64
 (0 +
 (IntKind.i64.wrap
 (w4 i + 1)).toNat *
 4 +
 (1 + 1)), num, (symOf cs).int .i64
 (0 +
 (IntKind.i64.wrap
 (w4 i + 1)).toNat *
 4 +
 (1 + 1 + 1))] (
 cond (veq 8 (.slice (some ⟨1004, 0, none⟩) n n) (.slice (some ⟨1004, 0, none⟩) n n)) (
 cond (List.all cs (af 8) && (List.all es (fun e => af 8 e.fst && af 8 e.snd.fst) && (List.all lb' (fun e => af 8 e.fst && af 8 e.snd.fst) && (List.all (td ++ [(.int .u8 (mapI es (tT cs i))), (.int .i64 ((symOf cs).int .i64 (0 + (w1 i).toNat * 4 + 2))), (.int .i64 ((symOf cs).int .i64 (0 + (w3 i).toNat * 4 + 2))), (.int .i64 0), (.int .i64 ((symOf cs).int .i64 (0 + (w5 i).toNat * 4 + 2))), (.int .i64 (num)), (.int .i64 ((symOf cs).int .i64 (0 + (w5 i).toNat * 4 + 3))), (.string ((⟨#[]⟩ : ByteArray)))]) (af 8) && true)))) (
 some (.normal, ([(.tuple #[(.int .i64 0), (.int .i64 0)])], [some (.row ⟨[(.map (some 1002)), (.map (some 1003)), (.slice (some ⟨1005, 0, none⟩) (n + 1) (n + 1))], 51, (0, 0), 0, false, false⟩), some (.row ⟨cs, 59, (0, 0), 4, false, false⟩), some (.map (es) (eo)), some (.map (lb') (c')), none, some (.row ⟨(td ++ [(.int .u8 (mapI es (tT cs i))), (.int .i64 ((symOf cs).int .i64 (0 + (w1 i).toNat * 4 + 2))), (.int .i64 ((symOf cs).int .i64 (0 + (w3 i).toNat * 4 + 2))), (.int .i64 0), (.int .i64 ((symOf cs).int .i64 (0 + (w5 i).toNat * 4 + 2))), (.int .i64 (num)), (.int .i64 ((symOf cs).int .i64 (0 + (w5 i).toNat * 4 + 3))), (.string ((⟨#[]⟩ : ByteArray)))]), 63, (0, 0), 8, false, false⟩)]))) (
 none)) (
 none))) (
 none)) (
 none)) (
 none))) (
 cond (gB cs es lb' td) (
 lE (w5 i) (liRows1 cs es lb' eo c' td n)) (
 none))) (
 none)) (
 none)) (
 none)))) (
 none)) (
 none)) (
 none))) (
 cond (gB cs es lb' td) (
 lE (w3 i) (liRows1 cs es lb' eo c' td n)) (
 none))) (
 none)) (
 none)) (
 none)))) (
 none)) (
 none)) (
 none))) (
 cond (gB cs es lb' td) (
 lE (w1 i) (liRows1 cs es lb' eo c' td n)) (
 none))) (
 none)) (
 none)) (
 none))) (
 none)))) (
 none)) (
 none)) (
 none)) (
 none)) (
 none)) (
 none)) (
 none))) (
 none)) (
 cond (mapOk .u8 es) (
 cond (mapHas es (tT cs i)) (
 cond (veq 8 (.tuple #[.int .u8 (mapI es (tT cs i)), .bool true]) (.tuple #[.int .u8 0, .bool false])) (
 cond (sameL cs cs) (
 cond ((symOf cs).okS (0 + i.toNat * 4 + 1)) (
 cond (veq 8 (.string (tT cs i)) (.string (tT cs i))) (
 cond (bG (i) k) (
 cond (sameL cs cs) (
 cond ((symOf cs).okI .u8 (0 + i.toNat * 4)) (
 cond ((symOf cs).int .u8 (0 + i.toNat * 4) != 1) (
 cond (gB cs es lb' td) (
 lE (i) (liRows1 cs es lb' eo c' td n)) (
 none)) (
 cond (gB cs es lb' td) (
 lE (i) (liRows1 cs es lb' eo c' td n)) (
 none))) (
 none)) (
 none)) (
 none)) (
 none)) (
 none)) (
 none)) (
 none)) (
 cond (sameL cs cs) (
 cond ((symOf cs).okS (0 + i.toNat * 4 + 1)) (
 cond (veq 8 (.string (tT cs i)) (.string (tT cs i))) (
 cond (bG (i) k) (
 cond (sameL cs cs) (
 cond ((symOf cs).okI .u8 (0 + i.toNat * 4)) (
 cond ((symOf cs).int .u8 (0 + i.toNat * 4) != 1) (
 cond (gB cs es lb' td) (
 lE (i) (liRows1 cs es lb' eo c' td n)) (
 none)) (
 cond (gB cs es lb' td) (
 lE (i) (liRows1 cs es lb' eo c' td n)) (
 none))) (
 none)) (
 none)) (
 none)) (
 none)) (
 none)) (
 none))) (
 none))) (
 none)) (
 none)) (
 none)) (
 none))) (
 none)) (
 none)) (
 none) := by kernel_rfl
set_option maxRecDepth 100000 in
theorem r_li1RP (gl : Gl) (g : GS) (gw : Int → Bool) (i num : Int) (cs : List Value) (k : Nat) (es lb lb' : MEs) (eo c c' : Nat) (td : List Value) (n : Nat) : li1 gl g gw [0, 0, 2] i num cs k es lb lb' eo c c' td n =
 cond (gB cs es lb td) (
 cond (g [.int .i64 0, .pointer (some ⟨1000, 0, none⟩), .slice (some ⟨1001, 0, none⟩) k k, .int .i64 num, .int .i64 0, .int .i64 0] [some (.row ⟨[.map (some 1002), .map (some 1003), .slice (some ⟨1004, 0, none⟩) n n], 51, (0, 0), 0, false, false⟩), some (.row ⟨cs, 59, (0, 0), 4, false, false⟩), some (LObj.map es eo), some (LObj.map lb c), some (.row ⟨td, 63, (0, 0), 8, false, false⟩)]) (
 cond (gB cs es lb' td) (
 cond (i == (↑k : Int)) (
 cond (gB cs es lb' td) (
 some (.normal, ([(.tuple #[(.int .i64 0), (.int .i64 0)])], (liRows1 cs es lb' eo c' td n)))) (
 none)) (
 cond (bG (i) k) (
 cond (sameL cs cs) (
 cond ((symOf cs).okS (0 + i.toNat * 4 + 1)) (
 cond (mapOk .u8 es) (
 cond (mapHas es (tT cs i)) (
 cond (mapOk .u8 es) (
 cond (mapHas es (tT cs i)) (
 cond (veq 8 (.tuple #[.int .u8 (mapI es (tT cs i)), .bool true]) (.tuple #[.int .u8 (mapI es (tT cs i)), .bool true])) (
 cond (sameL cs cs) (
 cond ((symOf cs).okS (0 + i.toNat * 4 + 1)) (
 cond (veq 8 (.string (tT cs i)) (.string (tT cs i))) (
 cond (bG (i) k) (
 cond (sameL cs cs) (
 cond ((symOf cs).okI .u8 (0 + i.toNat * 4)) (
 cond ((symOf cs).int .u8 (0 + i.toNat * 4) != 1) (
 cond (gB cs es lb' td) (
 lE (i) (liRows1 cs es lb' eo c' td n)) (
 none)) (
 cond ((↑n : Int) == 1024) (
 cond (gB cs es lb' td) (
 some (.normal, ([(.tuple #[(.int .i64 (i)), (.int .i64 7)])], (liRows1 cs es lb' eo c' td n)))) (
 none)) (
 cond (gw (mapI es (tT cs i))) (
 cond (decide (w1 i ≥ (↑k : Int))) (
 cond (gB cs es lb' td) (
 lE (IntKind.i64.wrap ((↑k : Int) - 1)) (liRows1 cs es lb' eo c' td n)) (
 none)) (
 cond (bG (w1 i) k) (
 cond (sameL cs cs) (
 cond (tG cs (w1 i)) (
 cond (tQ cs (w1 i) == 2) (
 cond (decide (w2 i ≥ (↑k : Int))) (
 cond (gB cs es lb' td) (
 lE (mI k (w2 i)) (liRows1 cs es lb' eo c' td n)) (
 none)) (
 cond (bG (w2 i) k) (
 cond (sameL cs cs) (
 cond ((symOf cs).okI .u8 (0 + (w2 i).toNat * 4)) (
 cond (tP cs (w2 i) != 4) (
 cond (gB cs es lb' td) (
 lE (mI k (w2 i)) (liRows1 cs es lb' eo c' td n)) (
 none)) (
 cond (decide (w3 i ≥ (↑k : Int))) (
 cond (gB cs es lb' td) (
 lE (IntKind.i64.wrap ((↑k : Int) - 1)) (liRows1 cs es lb' eo c' td n)) (
 none)) (
 cond (bG (w3 i) k) (
 cond (sameL cs cs) (
 cond (tG cs (w3 i)) (
 cond (tQ cs (w3 i) == 2) (
 cond (decide (w4 i ≥ (↑k : Int))) (
 cond (gB cs es lb' td) (
 lE (mI k (w4 i)) (liRows1 cs es lb' eo c' td n)) (
 none)) (
 cond (bG (w4 i) k) (
 cond (sameL cs cs) (
 cond ((symOf cs).okI .u8 (0 + (w4 i).toNat * 4)) (
 cond (tP cs (w4 i) != 4) (
 cond (gB cs es lb' td) (
 lE (mI k (w4 i)) (liRows1 cs es lb' eo c' td n)) (
 none)) (
 cond (decide (w5 i ≥ (↑k : Int))) (
 cond (gB cs es lb' td) (
 lE (IntKind.i64.wrap ((↑k : Int) - 1)) (liRows1 cs es lb' eo c' td n)) (
 none)) (
 cond (bG (w5 i) k) (
 cond (sameL cs cs) (
 cond (tG cs (w5 i)) (
 cond (tQ cs (w5 i) == 3) (
 cond (decide (w6 i < (↑k : Int))) (
 cond (gB cs es lb' td) (
 lE (w6 i) (liRows1 cs es lb' eo c' td n)) (
 none)) (
 cond (n.ble n) (
 cond (((n + 1) * 72).ble 140737488355328 && ((n + 1).ble 1099511627776)) (
 cond ((n * 8).beq td.length) (
 qs [mapI es (tT cs i), (symOf cs).int .i64 (0 + (w1 i).toNat * 4 + (1 + 1)), (symOf cs).int .i64
 (0 + (w3 i).toNat * 4 + (1 + 1)), (symOf cs).int .i64
 (0 +
 (IntKind.i64.wrap
 (w4 i + 1)).toNat *
 4 +
 (1 + 1)), num, (symOf cs).int .i64
 (0 +
 (IntKind.i64.wrap
 (w4 i + 1)).toNat *
 4 +
 (1 + 1 + 1))] (
 cond (veq 8 (.slice (some ⟨1004, 0, none⟩) n n) (.slice (some ⟨1004, 0, none⟩) n n)) (
 cond (List.all cs (af 8) && (List.all es (fun e => af 8 e.fst && af 8 e.snd.fst) && (List.all lb' (fun e => af 8 e.fst && af 8 e.snd.fst) && (List.all (td ++ [(.int .u8 (mapI es (tT cs i))), (.int .i64 ((symOf cs).int .i64 (0 + (w1 i).toNat * 4 + 2))), (.int .i64 ((symOf cs).int .i64 (0 + (w3 i).toNat * 4 + 2))), (.int .i64 0), (.int .i64 ((symOf cs).int .i64 (0 + (w5 i).toNat * 4 + 2))), (.int .i64 (num)), (.int .i64 ((symOf cs).int .i64 (0 + (w5 i).toNat * 4 + 3))), (.string ((⟨#[]⟩ : ByteArray)))]) (af 8) && true)))) (
 some (.normal, ([(.tuple #[(.int .i64 0), (.int .i64 0)])], [some (.row ⟨[(.map (some 1002)), (.map (some 1003)), (.slice (some ⟨1005, 0, none⟩) (n + 1) (n + 1))], 51, (0, 0), 0, false, false⟩), some (.row ⟨cs, 59, (0, 0), 4, false, false⟩), some (.map (es) (eo)), some (.map (lb') (c')), none, some (.row ⟨(td ++ [(.int .u8 (mapI es (tT cs i))), (.int .i64 ((symOf cs).int .i64 (0 + (w1 i).toNat * 4 + 2))), (.int .i64 ((symOf cs).int .i64 (0 + (w3 i).toNat * 4 + 2))), (.int .i64 0), (.int .i64 ((symOf cs).int .i64 (0 + (w5 i).toNat * 4 + 2))), (.int .i64 (num)), (.int .i64 ((symOf cs).int .i64 (0 + (w5 i).toNat * 4 + 3))), (.string ((⟨#[]⟩ : ByteArray)))]), 63, (0, 0), 8, false, false⟩)]))) (
 none)) (
 none))) (
 none)) (
 none)) (
 none))) (
 cond (tQ cs (w5 i) == 1) (
 cond (decide (w6 i < (↑k : Int))) (
 cond (gB cs es lb' td) (
 lE (w6 i) (liRows1 cs es lb' eo c' td n)) (
 none)) (
 cond (n.ble n) (
 cond (((n + 1) * 72).ble 140737488355328 && ((n + 1).ble 1099511627776)) (
 cond ((n * 8).beq td.length) (
 qs [mapI es (tT cs i), (symOf cs).int .i64 (0 + (w1 i).toNat * 4 + (1 + 1)), (symOf cs).int .i64
 (0 + (w3 i).toNat * 4 + (1 + 1)), num, (symOf cs).int .i64
 (0 +
 (IntKind.i64.wrap
 (w4 i + 1)).toNat *
 4 +
 (1 + 1 + 1))] (
 cond (veq 7 (.string ((symOf cs).str (0 + (w5 i).toNat * 4 + 1))) (.string ((symOf cs).str (0 + (w5 i).toNat * 4 + 1)))) (
 cond (veq 8 (.slice (some ⟨1004, 0, none⟩) n n) (.slice (some ⟨1004, 0, none⟩) n n)) (
 cond (List.all cs (af 8) && (List.all es (fun e => af 8 e.fst && af 8 e.snd.fst) && (List.all lb' (fun e => af 8 e.fst && af 8 e.snd.fst) && (List.all (td ++ [(.int .u8 (mapI es (tT cs i))), (.int .i64 ((symOf cs).int .i64 (0 + (w1 i).toNat * 4 + 2))), (.int .i64 ((symOf cs).int .i64 (0 + (w3 i).toNat * 4 + 2))), (.int .i64 0), (.int .i64 0), (.int .i64 (num)), (.int .i64 ((symOf cs).int .i64 (0 + (w5 i).toNat * 4 + 3))), (.string ((symOf cs).str (0 + (w5 i).toNat * 4 + 1)))]) (af 8) && true)))) (
 some (.normal, ([(.tuple #[(.int .i64 0), (.int .i64 0)])], [some (.row ⟨[(.map (some 1002)), (.map (some 1003)), (.slice (some ⟨1005, 0, none⟩) (n + 1) (n + 1))], 51, (0, 0), 0, false, false⟩), some (.row ⟨cs, 59, (0, 0), 4, false, false⟩), some (.map (es) (eo)), some (.map (lb') (c')), none, some (.row ⟨(td ++ [(.int .u8 (mapI es (tT cs i))), (.int .i64 ((symOf cs).int .i64 (0 + (w1 i).toNat * 4 + 2))), (.int .i64 ((symOf cs).int .i64 (0 + (w3 i).toNat * 4 + 2))), (.int .i64 0), (.int .i64 0), (.int .i64 (num)), (.int .i64 ((symOf cs).int .i64 (0 + (w5 i).toNat * 4 + 3))), (.string ((symOf cs).str (0 + (w5 i).toNat * 4 + 1)))]), 63, (0, 0), 8, false, false⟩)]))) (
 none)) (
 none)) (
 none))) (
 none)) (
 none)) (
 none))) (
 cond (gB cs es lb' td) (
 lE (w5 i) (liRows1 cs es lb' eo c' td n)) (
 none)))) (
 none)) (
 none)) (
 none)))) (
 none)) (
 none)) (
 none))) (
 cond (gB cs es lb' td) (
 lE (w3 i) (liRows1 cs es lb' eo c' td n)) (
 none))) (
 none)) (
 none)) (
 none)))) (
 none)) (
 none)) (
 none))) (
 cond (gB cs es lb' td) (
 lE (w1 i) (liRows1 cs es lb' eo c' td n)) (
 none))) (
 none)) (
 none)) (
 none))) (
 none)))) (
 none)) (
 none)) (
 none)) (
 none)) (
 none)) (
 none)) (
 none)) (
 cond (veq 8 (.tuple #[.int .u8 0, .bool false]) (.tuple #[.int .u8 (mapI es (tT cs i)), .bool true])) (
 cond (sameL cs cs) (
 cond ((symOf cs).okS (0 + i.toNat * 4 + 1)) (
 cond (veq 8 (.string (tT cs i)) (.string (tT cs i))) (
 cond (bG (i) k) (
 cond (sameL cs cs) (
 cond ((symOf cs).okI .u8 (0 + i.toNat * 4)) (
 cond ((symOf cs).int .u8 (0 + i.toNat * 4) != 1) (
 cond (gB cs es lb' td) (
 lE (i) (liRows1 cs es lb' eo c' td n)) (
 none)) (
 cond ((↑n : Int) == 1024) (
 cond (gB cs es lb' td) (
 some (.normal, ([(.tuple #[(.int .i64 (i)), (.int .i64 7)])], (liRows1 cs es lb' eo c' td n)))) (
 none)) (
 cond (gw (mapI es (tT cs i))) (
 cond (decide (w1 i ≥ (↑k : Int))) (
 cond (gB cs es lb' td) (
 lE (IntKind.i64.wrap ((↑k : Int) - 1)) (liRows1 cs es lb' eo c' td n)) (
 none)) (
 cond (bG (w1 i) k) (
 cond (sameL cs cs) (
 cond (tG cs (w1 i)) (
 cond (tQ cs (w1 i) == 2) (
 cond (decide (w2 i ≥ (↑k : Int))) (
 cond (gB cs es lb' td) (
 lE (mI k (w2 i)) (liRows1 cs es lb' eo c' td n)) (
 none)) (
 cond (bG (w2 i) k) (
 cond (sameL cs cs) (
 cond ((symOf cs).okI .u8 (0 + (w2 i).toNat * 4)) (
 cond (tP cs (w2 i) != 4) (
 cond (gB cs es lb' td) (
 lE (mI k (w2 i)) (liRows1 cs es lb' eo c' td n)) (
 none)) (
 cond (decide (w3 i ≥ (↑k : Int))) (
 cond (gB cs es lb' td) (
 lE (IntKind.i64.wrap ((↑k : Int) - 1)) (liRows1 cs es lb' eo c' td n)) (
 none)) (
 cond (bG (w3 i) k) (
 cond (sameL cs cs) (
 cond (tG cs (w3 i)) (
 cond (tQ cs (w3 i) == 2) (
 cond (decide (w4 i ≥ (↑k : Int))) (
 cond (gB cs es lb' td) (
 lE (mI k (w4 i)) (liRows1 cs es lb' eo c' td n)) (
 none)) (
 cond (bG (w4 i) k) (
 cond (sameL cs cs) (
 cond ((symOf cs).okI .u8 (0 + (w4 i).toNat * 4)) (
 cond (tP cs (w4 i) != 4) (
 cond (gB cs es lb' td) (
 lE (mI k (w4 i)) (liRows1 cs es lb' eo c' td n)) (
 none)) (
 cond (decide (w5 i ≥ (↑k : Int))) (
 cond (gB cs es lb' td) (
 lE (IntKind.i64.wrap ((↑k : Int) - 1)) (liRows1 cs es lb' eo c' td n)) (
 none)) (
 cond (bG (w5 i) k) (
 cond (sameL cs cs) (
 cond (tG cs (w5 i)) (
 cond (tQ cs (w5 i) == 3) (
 cond (decide (w6 i < (↑k : Int))) (
 cond (gB cs es lb' td) (
 lE (w6 i) (liRows1 cs es lb' eo c' td n)) (
 none)) (
 cond (n.ble n) (
 cond (((n + 1) * 72).ble 140737488355328 && ((n + 1).ble 1099511627776)) (
 cond ((n * 8).beq td.length) (
 qs [mapI es (tT cs i), (symOf cs).int .i64 (0 + (w1 i).toNat * 4 + (1 + 1)), (symOf cs).int .i64
 (0 + (w3 i).toNat * 4 + (1 + 1)), (symOf cs).int .i64
 (0 +
 (IntKind.i64.wrap
 (w4 i + 1)).toNat *
 4 +
 (1 + 1)), num, (symOf cs).int .i64
 (0 +
 (IntKind.i64.wrap
 (w4 i + 1)).toNat *
 4 +
 (1 + 1 + 1))] (
 cond (veq 8 (.slice (some ⟨1004, 0, none⟩) n n) (.slice (some ⟨1004, 0, none⟩) n n)) (
 cond (List.all cs (af 8) && (List.all es (fun e => af 8 e.fst && af 8 e.snd.fst) && (List.all lb' (fun e => af 8 e.fst && af 8 e.snd.fst) && (List.all (td ++ [(.int .u8 (mapI es (tT cs i))), (.int .i64 ((symOf cs).int .i64 (0 + (w1 i).toNat * 4 + 2))), (.int .i64 ((symOf cs).int .i64 (0 + (w3 i).toNat * 4 + 2))), (.int .i64 0), (.int .i64 ((symOf cs).int .i64 (0 + (w5 i).toNat * 4 + 2))), (.int .i64 (num)), (.int .i64 ((symOf cs).int .i64 (0 + (w5 i).toNat * 4 + 3))), (.string ((⟨#[]⟩ : ByteArray)))]) (af 8) && true)))) (
 some (.normal, ([(.tuple #[(.int .i64 0), (.int .i64 0)])], [some (.row ⟨[(.map (some 1002)), (.map (some 1003)), (.slice (some ⟨1005, 0, none⟩) (n + 1) (n + 1))], 51, (0, 0), 0, false, false⟩), some (.row ⟨cs, 59, (0, 0), 4, false, false⟩), some (.map (es) (eo)), some (.map (lb') (c')), none, some (.row ⟨(td ++ [(.int .u8 (mapI es (tT cs i))), (.int .i64 ((symOf cs).int .i64 (0 + (w1 i).toNat * 4 + 2))), (.int .i64 ((symOf cs).int .i64 (0 + (w3 i).toNat * 4 + 2))), (.int .i64 0), (.int .i64 ((symOf cs).int .i64 (0 + (w5 i).toNat * 4 + 2))), (.int .i64 (num)), (.int .i64 ((symOf cs).int .i64 (0 + (w5 i).toNat * 4 + 3))), (.string ((⟨#[]⟩ : ByteArray)))]), 63, (0, 0), 8, false, false⟩)]))) (
 none)) (
 none))) (
 none)) (
 none)) (
 none))) (
 cond (tQ cs (w5 i) == 1) (
 cond (decide (w6 i < (↑k : Int))) (
 cond (gB cs es lb' td) (
 lE (w6 i) (liRows1 cs es lb' eo c' td n)) (
 none)) (
 cond (n.ble n) (
 cond (((n + 1) * 72).ble 140737488355328 && ((n + 1).ble 1099511627776)) (
 cond ((n * 8).beq td.length) (
 qs [mapI es (tT cs i), (symOf cs).int .i64 (0 + (w1 i).toNat * 4 + (1 + 1)), (symOf cs).int .i64
 (0 + (w3 i).toNat * 4 + (1 + 1)), num, (symOf cs).int .i64
 (0 +
 (IntKind.i64.wrap
 (w4 i + 1)).toNat *
 4 +
 (1 + 1 + 1))] (
 cond (veq 7 (.string ((symOf cs).str (0 + (w5 i).toNat * 4 + 1))) (.string ((symOf cs).str (0 + (w5 i).toNat * 4 + 1)))) (
 cond (veq 8 (.slice (some ⟨1004, 0, none⟩) n n) (.slice (some ⟨1004, 0, none⟩) n n)) (
 cond (List.all cs (af 8) && (List.all es (fun e => af 8 e.fst && af 8 e.snd.fst) && (List.all lb' (fun e => af 8 e.fst && af 8 e.snd.fst) && (List.all (td ++ [(.int .u8 (mapI es (tT cs i))), (.int .i64 ((symOf cs).int .i64 (0 + (w1 i).toNat * 4 + 2))), (.int .i64 ((symOf cs).int .i64 (0 + (w3 i).toNat * 4 + 2))), (.int .i64 0), (.int .i64 0), (.int .i64 (num)), (.int .i64 ((symOf cs).int .i64 (0 + (w5 i).toNat * 4 + 3))), (.string ((symOf cs).str (0 + (w5 i).toNat * 4 + 1)))]) (af 8) && true)))) (
 some (.normal, ([(.tuple #[(.int .i64 0), (.int .i64 0)])], [some (.row ⟨[(.map (some 1002)), (.map (some 1003)), (.slice (some ⟨1005, 0, none⟩) (n + 1) (n + 1))], 51, (0, 0), 0, false, false⟩), some (.row ⟨cs, 59, (0, 0), 4, false, false⟩), some (.map (es) (eo)), some (.map (lb') (c')), none, some (.row ⟨(td ++ [(.int .u8 (mapI es (tT cs i))), (.int .i64 ((symOf cs).int .i64 (0 + (w1 i).toNat * 4 + 2))), (.int .i64 ((symOf cs).int .i64 (0 + (w3 i).toNat * 4 + 2))), (.int .i64 0), (.int .i64 0), (.int .i64 (num)), (.int .i64 ((symOf cs).int .i64 (0 + (w5 i).toNat * 4 + 3))), (.string ((symOf cs).str (0 + (w5 i).toNat * 4 + 1)))]), 63, (0, 0), 8, false, false⟩)]))) (
 none)) (
 none)) (
 none))) (
 none)) (
 none)) (
 none))) (
 cond (gB cs es lb' td) (
 lE (w5 i) (liRows1 cs es lb' eo c' td n)) (
 none)))) (
 none)) (
 none)) (
 none)))) (
 none)) (
 none)) (
 none))) (
 cond (gB cs es lb' td) (
 lE (w3 i) (liRows1 cs es lb' eo c' td n)) (
 none))) (
 none)) (
 none)) (
 none)))) (
 none)) (
 none)) (
 none))) (
 cond (gB cs es lb' td) (
 lE (w1 i) (liRows1 cs es lb' eo c' td n)) (
 none))) (
 none)) (
 none)) (
 none))) (
 none)))) (
 none)) (
 none)) (
 none)) (
 none)) (
 none)) (
 none)) (
 none))) (
 none)) (
 cond (mapOk .u8 es) (
 cond (mapHas es (tT cs i)) (
 cond (veq 8 (.tuple #[.int .u8 (mapI es (tT cs i)), .bool true]) (.tuple #[.int .u8 0, .bool false])) (
 cond (sameL cs cs) (
 cond ((symOf cs).okS (0 + i.toNat * 4 + 1)) (
 cond (veq 8 (.string (tT cs i)) (.string (tT cs i))) (
 cond (bG (i) k) (
 cond (sameL cs cs) (
 cond ((symOf cs).okI .u8 (0 + i.toNat * 4)) (
 cond ((symOf cs).int .u8 (0 + i.toNat * 4) != 1) (
 cond (gB cs es lb' td) (
 lE (i) (liRows1 cs es lb' eo c' td n)) (
 none)) (
 cond (gB cs es lb' td) (
 lE (i) (liRows1 cs es lb' eo c' td n)) (
 none))) (
 none)) (
 none)) (
 none)) (
 none)) (
 none)) (
 none)) (
 none)) (
 cond (sameL cs cs) (
 cond ((symOf cs).okS (0 + i.toNat * 4 + 1)) (
 cond (veq 8 (.string (tT cs i)) (.string (tT cs i))) (
 cond (bG (i) k) (
 cond (sameL cs cs) (
 cond ((symOf cs).okI .u8 (0 + i.toNat * 4)) (
 cond ((symOf cs).int .u8 (0 + i.toNat * 4) != 1) (
 cond (gB cs es lb' td) (
 lE (i) (liRows1 cs es lb' eo c' td n)) (
 none)) (
 cond (gB cs es lb' td) (
 lE (i) (liRows1 cs es lb' eo c' td n)) (
 none))) (
 none)) (
 none)) (
 none)) (
 none)) (
 none)) (
 none))) (
 none))) (
 none)) (
 none)) (
 none)) (
 none))) (
 none)) (
 none)) (
 none) := by kernel_rfl
set_option maxRecDepth 100000 in
theorem r_li1SN (gl : Gl) (g : GS) (gw : Int → Bool) (i num : Int) (cs : List Value) (k : Nat) (es lb lb' : MEs) (eo c c' : Nat) (td : List Value) (n : Nat) : li1 gl g gw [0, 1] i num cs k es lb lb' eo c c' td n =
 cond (gB cs es lb td) (
 cond (g [.int .i64 0, .pointer (some ⟨1000, 0, none⟩), .slice (some ⟨1001, 0, none⟩) k k, .int .i64 num, .int .i64 0, .int .i64 0] [some (.row ⟨[.map (some 1002), .map (some 1003), .slice (some ⟨1004, 0, none⟩) n n], 51, (0, 0), 0, false, false⟩), some (.row ⟨cs, 59, (0, 0), 4, false, false⟩), some (LObj.map es eo), some (LObj.map lb c), some (.row ⟨td, 63, (0, 0), 8, false, false⟩)]) (
 cond (gB cs es lb' td) (
 cond (i == (↑k : Int)) (
 cond (gB cs es lb' td) (
 some (.normal, ([(.tuple #[(.int .i64 0), (.int .i64 0)])], (liRows1 cs es lb' eo c' td n)))) (
 none)) (
 cond (bG (i) k) (
 cond (sameL cs cs) (
 cond ((symOf cs).okS (0 + i.toNat * 4 + 1)) (
 cond (mapOk .u8 es) (
 cond (mapHas es (tT cs i)) (
 cond (mapOk .u8 es) (
 cond (mapHas es (tT cs i)) (
 cond (veq 8 (.tuple #[.int .u8 (mapI es (tT cs i)), .bool true]) (.tuple #[.int .u8 (mapI es (tT cs i)), .bool true])) (
 cond (sameL cs cs) (
 cond ((symOf cs).okS (0 + i.toNat * 4 + 1)) (
 cond (veq 8 (.string (tT cs i)) (.string (tT cs i))) (
 cond (bG (i) k) (
 cond (sameL cs cs) (
 cond ((symOf cs).okI .u8 (0 + i.toNat * 4)) (
 cond ((symOf cs).int .u8 (0 + i.toNat * 4) != 1) (
 cond (gB cs es lb' td) (
 lE (i) (liRows1 cs es lb' eo c' td n)) (
 none)) (
 cond ((↑n : Int) == 1024) (
 cond (gB cs es lb' td) (
 some (.normal, ([(.tuple #[(.int .i64 (i)), (.int .i64 7)])], (liRows1 cs es lb' eo c' td n)))) (
 none)) (
 cond (gw (mapI es (tT cs i))) (
 cond (decide (w1 i ≥ (↑k : Int))) (
 cond (gB cs es lb' td) (
 lE (IntKind.i64.wrap ((↑k : Int) - 1)) (liRows1 cs es lb' eo c' td n)) (
 none)) (
 cond (bG (w1 i) k) (
 cond (sameL cs cs) (
 cond (tG cs (w1 i)) (
 cond (tQ cs (w1 i) == 2) (
 cond (decide (w2 i ≥ (↑k : Int))) (
 cond (gB cs es lb' td) (
 lE (mI k (w2 i)) (liRows1 cs es lb' eo c' td n)) (
 none)) (
 cond (bG (w2 i) k) (
 cond (sameL cs cs) (
 cond ((symOf cs).okI .u8 (0 + (w2 i).toNat * 4)) (
 cond (tP cs (w2 i) != 4) (
 cond (gB cs es lb' td) (
 lE (mI k (w2 i)) (liRows1 cs es lb' eo c' td n)) (
 none)) (
 cond (decide (w3 i ≥ (↑k : Int))) (
 cond (gB cs es lb' td) (
 lE (IntKind.i64.wrap ((↑k : Int) - 1)) (liRows1 cs es lb' eo c' td n)) (
 none)) (
 cond (bG (w3 i) k) (
 cond (sameL cs cs) (
 cond (tG cs (w3 i)) (
 cond (tQ cs (w3 i) == 3) (
 cond (decide (w4 i < (↑k : Int))) (
 cond (gB cs es lb' td) (
 lE (w4 i) (liRows1 cs es lb' eo c' td n)) (
 none)) (
 cond (n.ble n) (
 cond (((n + 1) * 72).ble 140737488355328 && ((n + 1).ble 1099511627776)) (
 cond ((n * 8).beq td.length) (
 qs [mapI es (tT cs i), (symOf cs).int .i64 (0 + (w1 i).toNat * 4 + (1 + 1)), (symOf cs).int .i64
 (0 + (w3 i).toNat * 4 + (1 + 1)), num, (symOf cs).int .i64
 (0 + (w3 i).toNat * 4 + (1 + 1 + 1))] (
 cond (veq 8 (.slice (some ⟨1004, 0, none⟩) n n) (.slice (some ⟨1004, 0, none⟩) n n)) (
 cond (List.all cs (af 8) && (List.all es (fun e => af 8 e.fst && af 8 e.snd.fst) && (List.all lb' (fun e => af 8 e.fst && af 8 e.snd.fst) && (List.all (td ++ [(.int .u8 (mapI es (tT cs i))), (.int .i64 ((symOf cs).int .i64 (0 + (w1 i).toNat * 4 + 2))), (.int .i64 0), (.int .i64 0), (.int .i64 ((symOf cs).int .i64 (0 + (w3 i).toNat * 4 + 2))), (.int .i64 (num)), (.int .i64 ((symOf cs).int .i64 (0 + (w3 i).toNat * 4 + 3))), (.string ((⟨#[]⟩ : ByteArray)))]) (af 8) && true)))) (
 some (.normal, ([(.tuple #[(.int .i64 0), (.int .i64 0)])], [some (.row ⟨[(.map (some 1002)), (.map (some 1003)), (.slice (some ⟨1005, 0, none⟩) (n + 1) (n + 1))], 51, (0, 0), 0, false, false⟩), some (.row ⟨cs, 59, (0, 0), 4, false, false⟩), some (.map (es) (eo)), some (.map (lb') (c')), none, some (.row ⟨(td ++ [(.int .u8 (mapI es (tT cs i))), (.int .i64 ((symOf cs).int .i64 (0 + (w1 i).toNat * 4 + 2))), (.int .i64 0), (.int .i64 0), (.int .i64 ((symOf cs).int .i64 (0 + (w3 i).toNat * 4 + 2))), (.int .i64 (num)), (.int .i64 ((symOf cs).int .i64 (0 + (w3 i).toNat * 4 + 3))), (.string ((⟨#[]⟩ : ByteArray)))]), 63, (0, 0), 8, false, false⟩)]))) (
 none)) (
 none))) (
 none)) (
 none)) (
 none))) (
 cond (gB cs es lb' td) (
 lE (w3 i) (liRows1 cs es lb' eo c' td n)) (
 none))) (
 none)) (
 none)) (
 none)))) (
 none)) (
 none)) (
 none))) (
 cond (gB cs es lb' td) (
 lE (w1 i) (liRows1 cs es lb' eo c' td n)) (
 none))) (
 none)) (
 none)) (
 none))) (
 none)))) (
 none)) (
 none)) (
 none)) (
 none)) (
 none)) (
 none)) (
 none)) (
 cond (veq 8 (.tuple #[.int .u8 0, .bool false]) (.tuple #[.int .u8 (mapI es (tT cs i)), .bool true])) (
 cond (sameL cs cs) (
 cond ((symOf cs).okS (0 + i.toNat * 4 + 1)) (
 cond (veq 8 (.string (tT cs i)) (.string (tT cs i))) (
 cond (bG (i) k) (
 cond (sameL cs cs) (
 cond ((symOf cs).okI .u8 (0 + i.toNat * 4)) (
 cond ((symOf cs).int .u8 (0 + i.toNat * 4) != 1) (
 cond (gB cs es lb' td) (
 lE (i) (liRows1 cs es lb' eo c' td n)) (
 none)) (
 cond ((↑n : Int) == 1024) (
 cond (gB cs es lb' td) (
 some (.normal, ([(.tuple #[(.int .i64 (i)), (.int .i64 7)])], (liRows1 cs es lb' eo c' td n)))) (
 none)) (
 cond (gw (mapI es (tT cs i))) (
 cond (decide (w1 i ≥ (↑k : Int))) (
 cond (gB cs es lb' td) (
 lE (IntKind.i64.wrap ((↑k : Int) - 1)) (liRows1 cs es lb' eo c' td n)) (
 none)) (
 cond (bG (w1 i) k) (
 cond (sameL cs cs) (
 cond (tG cs (w1 i)) (
 cond (tQ cs (w1 i) == 2) (
 cond (decide (w2 i ≥ (↑k : Int))) (
 cond (gB cs es lb' td) (
 lE (mI k (w2 i)) (liRows1 cs es lb' eo c' td n)) (
 none)) (
 cond (bG (w2 i) k) (
 cond (sameL cs cs) (
 cond ((symOf cs).okI .u8 (0 + (w2 i).toNat * 4)) (
 cond (tP cs (w2 i) != 4) (
 cond (gB cs es lb' td) (
 lE (mI k (w2 i)) (liRows1 cs es lb' eo c' td n)) (
 none)) (
 cond (decide (w3 i ≥ (↑k : Int))) (
 cond (gB cs es lb' td) (
 lE (IntKind.i64.wrap ((↑k : Int) - 1)) (liRows1 cs es lb' eo c' td n)) (
 none)) (
 cond (bG (w3 i) k) (
 cond (sameL cs cs) (
 cond (tG cs (w3 i)) (
 cond (tQ cs (w3 i) == 3) (
 cond (decide (w4 i < (↑k : Int))) (
 cond (gB cs es lb' td) (
 lE (w4 i) (liRows1 cs es lb' eo c' td n)) (
 none)) (
 cond (n.ble n) (
 cond (((n + 1) * 72).ble 140737488355328 && ((n + 1).ble 1099511627776)) (
 cond ((n * 8).beq td.length) (
 qs [mapI es (tT cs i), (symOf cs).int .i64 (0 + (w1 i).toNat * 4 + (1 + 1)), (symOf cs).int .i64
 (0 + (w3 i).toNat * 4 + (1 + 1)), num, (symOf cs).int .i64
 (0 + (w3 i).toNat * 4 + (1 + 1 + 1))] (
 cond (veq 8 (.slice (some ⟨1004, 0, none⟩) n n) (.slice (some ⟨1004, 0, none⟩) n n)) (
 cond (List.all cs (af 8) && (List.all es (fun e => af 8 e.fst && af 8 e.snd.fst) && (List.all lb' (fun e => af 8 e.fst && af 8 e.snd.fst) && (List.all (td ++ [(.int .u8 (mapI es (tT cs i))), (.int .i64 ((symOf cs).int .i64 (0 + (w1 i).toNat * 4 + 2))), (.int .i64 0), (.int .i64 0), (.int .i64 ((symOf cs).int .i64 (0 + (w3 i).toNat * 4 + 2))), (.int .i64 (num)), (.int .i64 ((symOf cs).int .i64 (0 + (w3 i).toNat * 4 + 3))), (.string ((⟨#[]⟩ : ByteArray)))]) (af 8) && true)))) (
 some (.normal, ([(.tuple #[(.int .i64 0), (.int .i64 0)])], [some (.row ⟨[(.map (some 1002)), (.map (some 1003)), (.slice (some ⟨1005, 0, none⟩) (n + 1) (n + 1))], 51, (0, 0), 0, false, false⟩), some (.row ⟨cs, 59, (0, 0), 4, false, false⟩), some (.map (es) (eo)), some (.map (lb') (c')), none, some (.row ⟨(td ++ [(.int .u8 (mapI es (tT cs i))), (.int .i64 ((symOf cs).int .i64 (0 + (w1 i).toNat * 4 + 2))), (.int .i64 0), (.int .i64 0), (.int .i64 ((symOf cs).int .i64 (0 + (w3 i).toNat * 4 + 2))), (.int .i64 (num)), (.int .i64 ((symOf cs).int .i64 (0 + (w3 i).toNat * 4 + 3))), (.string ((⟨#[]⟩ : ByteArray)))]), 63, (0, 0), 8, false, false⟩)]))) (
 none)) (
 none))) (
 none)) (
 none)) (
 none))) (
 cond (gB cs es lb' td) (
 lE (w3 i) (liRows1 cs es lb' eo c' td n)) (
 none))) (
 none)) (
 none)) (
 none)))) (
 none)) (
 none)) (
 none))) (
 cond (gB cs es lb' td) (
 lE (w1 i) (liRows1 cs es lb' eo c' td n)) (
 none))) (
 none)) (
 none)) (
 none))) (
 none)))) (
 none)) (
 none)) (
 none)) (
 none)) (
 none)) (
 none)) (
 none))) (
 none)) (
 cond (mapOk .u8 es) (
 cond (mapHas es (tT cs i)) (
 cond (veq 8 (.tuple #[.int .u8 (mapI es (tT cs i)), .bool true]) (.tuple #[.int .u8 0, .bool false])) (
 cond (sameL cs cs) (
 cond ((symOf cs).okS (0 + i.toNat * 4 + 1)) (
 cond (veq 8 (.string (tT cs i)) (.string (tT cs i))) (
 cond (bG (i) k) (
 cond (sameL cs cs) (
 cond ((symOf cs).okI .u8 (0 + i.toNat * 4)) (
 cond ((symOf cs).int .u8 (0 + i.toNat * 4) != 1) (
 cond (gB cs es lb' td) (
 lE (i) (liRows1 cs es lb' eo c' td n)) (
 none)) (
 cond (gB cs es lb' td) (
 lE (i) (liRows1 cs es lb' eo c' td n)) (
 none))) (
 none)) (
 none)) (
 none)) (
 none)) (
 none)) (
 none)) (
 none)) (
 cond (sameL cs cs) (
 cond ((symOf cs).okS (0 + i.toNat * 4 + 1)) (
 cond (veq 8 (.string (tT cs i)) (.string (tT cs i))) (
 cond (bG (i) k) (
 cond (sameL cs cs) (
 cond ((symOf cs).okI .u8 (0 + i.toNat * 4)) (
 cond ((symOf cs).int .u8 (0 + i.toNat * 4) != 1) (
 cond (gB cs es lb' td) (
 lE (i) (liRows1 cs es lb' eo c' td n)) (
 none)) (
 cond (gB cs es lb' td) (
 lE (i) (liRows1 cs es lb' eo c' td n)) (
 none))) (
 none)) (
 none)) (
 none)) (
 none)) (
 none)) (
 none))) (
 none))) (
 none)) (
 none)) (
 none)) (
 none))) (
 none)) (
 none)) (
 none) := by kernel_rfl
set_option maxRecDepth 100000 in
theorem r_li1J (gl : Gl) (g : GS) (gw : Int → Bool) (i num : Int) (cs : List Value) (k : Nat) (es lb lb' : MEs) (eo c c' : Nat) (td : List Value) (n : Nat) : li1 gl g gw [2] i num cs k es lb lb' eo c c' td n =
 cond (gB cs es lb td) (
 cond (g [.int .i64 0, .pointer (some ⟨1000, 0, none⟩), .slice (some ⟨1001, 0, none⟩) k k, .int .i64 num, .int .i64 0, .int .i64 0] [some (.row ⟨[.map (some 1002), .map (some 1003), .slice (some ⟨1004, 0, none⟩) n n], 51, (0, 0), 0, false, false⟩), some (.row ⟨cs, 59, (0, 0), 4, false, false⟩), some (LObj.map es eo), some (LObj.map lb c), some (.row ⟨td, 63, (0, 0), 8, false, false⟩)]) (
 cond (gB cs es lb' td) (
 cond (i == (↑k : Int)) (
 cond (gB cs es lb' td) (
 some (.normal, ([(.tuple #[(.int .i64 0), (.int .i64 0)])], (liRows1 cs es lb' eo c' td n)))) (
 none)) (
 cond (bG (i) k) (
 cond (sameL cs cs) (
 cond ((symOf cs).okS (0 + i.toNat * 4 + 1)) (
 cond (mapOk .u8 es) (
 cond (mapHas es (tT cs i)) (
 cond (mapOk .u8 es) (
 cond (mapHas es (tT cs i)) (
 cond (veq 8 (.tuple #[.int .u8 (mapI es (tT cs i)), .bool true]) (.tuple #[.int .u8 (mapI es (tT cs i)), .bool true])) (
 cond (sameL cs cs) (
 cond ((symOf cs).okS (0 + i.toNat * 4 + 1)) (
 cond (veq 8 (.string (tT cs i)) (.string (tT cs i))) (
 cond (bG (i) k) (
 cond (sameL cs cs) (
 cond ((symOf cs).okI .u8 (0 + i.toNat * 4)) (
 cond ((symOf cs).int .u8 (0 + i.toNat * 4) != 1) (
 cond (gB cs es lb' td) (
 lE (i) (liRows1 cs es lb' eo c' td n)) (
 none)) (
 cond ((↑n : Int) == 1024) (
 cond (gB cs es lb' td) (
 some (.normal, ([(.tuple #[(.int .i64 (i)), (.int .i64 7)])], (liRows1 cs es lb' eo c' td n)))) (
 none)) (
 cond (gw (mapI es (tT cs i))) (
 cond (decide (w1 i ≥ (↑k : Int))) (
 cond (gB cs es lb' td) (
 lE (IntKind.i64.wrap ((↑k : Int) - 1)) (liRows1 cs es lb' eo c' td n)) (
 none)) (
 cond (bG (w1 i) k) (
 cond (sameL cs cs) (
 cond (tG cs (w1 i)) (
 cond (tQ cs (w1 i) == 3) (
 cond (decide (w2 i < (↑k : Int))) (
 cond (gB cs es lb' td) (
 lE (w2 i) (liRows1 cs es lb' eo c' td n)) (
 none)) (
 cond (n.ble n) (
 cond (((n + 1) * 72).ble 140737488355328 && ((n + 1).ble 1099511627776)) (
 cond ((n * 8).beq td.length) (
 qs [mapI es (tT cs i), (symOf cs).int .i64 (0 + (w1 i).toNat * 4 + (1 + 1)), num, (symOf cs).int .i64 (0 + (w1 i).toNat * 4 + (1 + 1 + 1))] (
 cond (veq 8 (.slice (some ⟨1004, 0, none⟩) n n) (.slice (some ⟨1004, 0, none⟩) n n)) (
 cond (List.all cs (af 8) && (List.all es (fun e => af 8 e.fst && af 8 e.snd.fst) && (List.all lb' (fun e => af 8 e.fst && af 8 e.snd.fst) && (List.all (td ++ [(.int .u8 (mapI es (tT cs i))), (.int .i64 0), (.int .i64 0), (.int .i64 0), (.int .i64 ((symOf cs).int .i64 (0 + (w1 i).toNat * 4 + 2))), (.int .i64 (num)), (.int .i64 ((symOf cs).int .i64 (0 + (w1 i).toNat * 4 + 3))), (.string ((⟨#[]⟩ : ByteArray)))]) (af 8) && true)))) (
 some (.normal, ([(.tuple #[(.int .i64 0), (.int .i64 0)])], [some (.row ⟨[(.map (some 1002)), (.map (some 1003)), (.slice (some ⟨1005, 0, none⟩) (n + 1) (n + 1))], 51, (0, 0), 0, false, false⟩), some (.row ⟨cs, 59, (0, 0), 4, false, false⟩), some (.map (es) (eo)), some (.map (lb') (c')), none, some (.row ⟨(td ++ [(.int .u8 (mapI es (tT cs i))), (.int .i64 0), (.int .i64 0), (.int .i64 0), (.int .i64 ((symOf cs).int .i64 (0 + (w1 i).toNat * 4 + 2))), (.int .i64 (num)), (.int .i64 ((symOf cs).int .i64 (0 + (w1 i).toNat * 4 + 3))), (.string ((⟨#[]⟩ : ByteArray)))]), 63, (0, 0), 8, false, false⟩)]))) (
 none)) (
 none))) (
 none)) (
 none)) (
 none))) (
 cond (tQ cs (w1 i) == 1) (
 cond (decide (w2 i < (↑k : Int))) (
 cond (gB cs es lb' td) (
 lE (w2 i) (liRows1 cs es lb' eo c' td n)) (
 none)) (
 cond (n.ble n) (
 cond (((n + 1) * 72).ble 140737488355328 && ((n + 1).ble 1099511627776)) (
 cond ((n * 8).beq td.length) (
 qs [mapI es (tT cs i), num, (symOf cs).int .i64 (0 + (w1 i).toNat * 4 + (1 + 1 + 1))] (
 cond (veq 7 (.string ((symOf cs).str (0 + (w1 i).toNat * 4 + 1))) (.string ((symOf cs).str (0 + (w1 i).toNat * 4 + 1)))) (
 cond (veq 8 (.slice (some ⟨1004, 0, none⟩) n n) (.slice (some ⟨1004, 0, none⟩) n n)) (
 cond (List.all cs (af 8) && (List.all es (fun e => af 8 e.fst && af 8 e.snd.fst) && (List.all lb' (fun e => af 8 e.fst && af 8 e.snd.fst) && (List.all (td ++ [(.int .u8 (mapI es (tT cs i))), (.int .i64 0), (.int .i64 0), (.int .i64 0), (.int .i64 0), (.int .i64 (num)), (.int .i64 ((symOf cs).int .i64 (0 + (w1 i).toNat * 4 + 3))), (.string ((symOf cs).str (0 + (w1 i).toNat * 4 + 1)))]) (af 8) && true)))) (
 some (.normal, ([(.tuple #[(.int .i64 0), (.int .i64 0)])], [some (.row ⟨[(.map (some 1002)), (.map (some 1003)), (.slice (some ⟨1005, 0, none⟩) (n + 1) (n + 1))], 51, (0, 0), 0, false, false⟩), some (.row ⟨cs, 59, (0, 0), 4, false, false⟩), some (.map (es) (eo)), some (.map (lb') (c')), none, some (.row ⟨(td ++ [(.int .u8 (mapI es (tT cs i))), (.int .i64 0), (.int .i64 0), (.int .i64 0), (.int .i64 0), (.int .i64 (num)), (.int .i64 ((symOf cs).int .i64 (0 + (w1 i).toNat * 4 + 3))), (.string ((symOf cs).str (0 + (w1 i).toNat * 4 + 1)))]), 63, (0, 0), 8, false, false⟩)]))) (
 none)) (
 none)) (
 none))) (
 none)) (
 none)) (
 none))) (
 cond (gB cs es lb' td) (
 lE (w1 i) (liRows1 cs es lb' eo c' td n)) (
 none)))) (
 none)) (
 none)) (
 none))) (
 none)))) (
 none)) (
 none)) (
 none)) (
 none)) (
 none)) (
 none)) (
 none)) (
 cond (veq 8 (.tuple #[.int .u8 0, .bool false]) (.tuple #[.int .u8 (mapI es (tT cs i)), .bool true])) (
 cond (sameL cs cs) (
 cond ((symOf cs).okS (0 + i.toNat * 4 + 1)) (
 cond (veq 8 (.string (tT cs i)) (.string (tT cs i))) (
 cond (bG (i) k) (
 cond (sameL cs cs) (
 cond ((symOf cs).okI .u8 (0 + i.toNat * 4)) (
 cond ((symOf cs).int .u8 (0 + i.toNat * 4) != 1) (
 cond (gB cs es lb' td) (
 lE (i) (liRows1 cs es lb' eo c' td n)) (
 none)) (
 cond ((↑n : Int) == 1024) (
 cond (gB cs es lb' td) (
 some (.normal, ([(.tuple #[(.int .i64 (i)), (.int .i64 7)])], (liRows1 cs es lb' eo c' td n)))) (
 none)) (
 cond (gw (mapI es (tT cs i))) (
 cond (decide (w1 i ≥ (↑k : Int))) (
 cond (gB cs es lb' td) (
 lE (IntKind.i64.wrap ((↑k : Int) - 1)) (liRows1 cs es lb' eo c' td n)) (
 none)) (
 cond (bG (w1 i) k) (
 cond (sameL cs cs) (
 cond (tG cs (w1 i)) (
 cond (tQ cs (w1 i) == 3) (
 cond (decide (w2 i < (↑k : Int))) (
 cond (gB cs es lb' td) (
 lE (w2 i) (liRows1 cs es lb' eo c' td n)) (
 none)) (
 cond (n.ble n) (
 cond (((n + 1) * 72).ble 140737488355328 && ((n + 1).ble 1099511627776)) (
 cond ((n * 8).beq td.length) (
 qs [mapI es (tT cs i), (symOf cs).int .i64 (0 + (w1 i).toNat * 4 + (1 + 1)), num, (symOf cs).int .i64 (0 + (w1 i).toNat * 4 + (1 + 1 + 1))] (
 cond (veq 8 (.slice (some ⟨1004, 0, none⟩) n n) (.slice (some ⟨1004, 0, none⟩) n n)) (
 cond (List.all cs (af 8) && (List.all es (fun e => af 8 e.fst && af 8 e.snd.fst) && (List.all lb' (fun e => af 8 e.fst && af 8 e.snd.fst) && (List.all (td ++ [(.int .u8 (mapI es (tT cs i))), (.int .i64 0), (.int .i64 0), (.int .i64 0), (.int .i64 ((symOf cs).int .i64 (0 + (w1 i).toNat * 4 + 2))), (.int .i64 (num)), (.int .i64 ((symOf cs).int .i64 (0 + (w1 i).toNat * 4 + 3))), (.string ((⟨#[]⟩ : ByteArray)))]) (af 8) && true)))) (
 some (.normal, ([(.tuple #[(.int .i64 0), (.int .i64 0)])], [some (.row ⟨[(.map (some 1002)), (.map (some 1003)), (.slice (some ⟨1005, 0, none⟩) (n + 1) (n + 1))], 51, (0, 0), 0, false, false⟩), some (.row ⟨cs, 59, (0, 0), 4, false, false⟩), some (.map (es) (eo)), some (.map (lb') (c')), none, some (.row ⟨(td ++ [(.int .u8 (mapI es (tT cs i))), (.int .i64 0), (.int .i64 0), (.int .i64 0), (.int .i64 ((symOf cs).int .i64 (0 + (w1 i).toNat * 4 + 2))), (.int .i64 (num)), (.int .i64 ((symOf cs).int .i64 (0 + (w1 i).toNat * 4 + 3))), (.string ((⟨#[]⟩ : ByteArray)))]), 63, (0, 0), 8, false, false⟩)]))) (
 none)) (
 none))) (
 none)) (
 none)) (
 none))) (
 cond (tQ cs (w1 i) == 1) (
 cond (decide (w2 i < (↑k : Int))) (
 cond (gB cs es lb' td) (
 lE (w2 i) (liRows1 cs es lb' eo c' td n)) (
 none)) (
 cond (n.ble n) (
 cond (((n + 1) * 72).ble 140737488355328 && ((n + 1).ble 1099511627776)) (
 cond ((n * 8).beq td.length) (
 qs [mapI es (tT cs i), num, (symOf cs).int .i64 (0 + (w1 i).toNat * 4 + (1 + 1 + 1))] (
 cond (veq 7 (.string ((symOf cs).str (0 + (w1 i).toNat * 4 + 1))) (.string ((symOf cs).str (0 + (w1 i).toNat * 4 + 1)))) (
 cond (veq 8 (.slice (some ⟨1004, 0, none⟩) n n) (.slice (some ⟨1004, 0, none⟩) n n)) (
 cond (List.all cs (af 8) && (List.all es (fun e => af 8 e.fst && af 8 e.snd.fst) && (List.all lb' (fun e => af 8 e.fst && af 8 e.snd.fst) && (List.all (td ++ [(.int .u8 (mapI es (tT cs i))), (.int .i64 0), (.int .i64 0), (.int .i64 0), (.int .i64 0), (.int .i64 (num)), (.int .i64 ((symOf cs).int .i64 (0 + (w1 i).toNat * 4 + 3))), (.string ((symOf cs).str (0 + (w1 i).toNat * 4 + 1)))]) (af 8) && true)))) (
 some (.normal, ([(.tuple #[(.int .i64 0), (.int .i64 0)])], [some (.row ⟨[(.map (some 1002)), (.map (some 1003)), (.slice (some ⟨1005, 0, none⟩) (n + 1) (n + 1))], 51, (0, 0), 0, false, false⟩), some (.row ⟨cs, 59, (0, 0), 4, false, false⟩), some (.map (es) (eo)), some (.map (lb') (c')), none, some (.row ⟨(td ++ [(.int .u8 (mapI es (tT cs i))), (.int .i64 0), (.int .i64 0), (.int .i64 0), (.int .i64 0), (.int .i64 (num)), (.int .i64 ((symOf cs).int .i64 (0 + (w1 i).toNat * 4 + 3))), (.string ((symOf cs).str (0 + (w1 i).toNat * 4 + 1)))]), 63, (0, 0), 8, false, false⟩)]))) (
 none)) (
 none)) (
 none))) (
 none)) (
 none)) (
 none))) (
 cond (gB cs es lb' td) (
 lE (w1 i) (liRows1 cs es lb' eo c' td n)) (
 none)))) (
 none)) (
 none)) (
 none))) (
 none)))) (
 none)) (
 none)) (
 none)) (
 none)) (
 none)) (
 none)) (
 none))) (
 none)) (
 cond (mapOk .u8 es) (
 cond (mapHas es (tT cs i)) (
 cond (veq 8 (.tuple #[.int .u8 (mapI es (tT cs i)), .bool true]) (.tuple #[.int .u8 0, .bool false])) (
 cond (sameL cs cs) (
 cond ((symOf cs).okS (0 + i.toNat * 4 + 1)) (
 cond (veq 8 (.string (tT cs i)) (.string (tT cs i))) (
 cond (bG (i) k) (
 cond (sameL cs cs) (
 cond ((symOf cs).okI .u8 (0 + i.toNat * 4)) (
 cond ((symOf cs).int .u8 (0 + i.toNat * 4) != 1) (
 cond (gB cs es lb' td) (
 lE (i) (liRows1 cs es lb' eo c' td n)) (
 none)) (
 cond (gB cs es lb' td) (
 lE (i) (liRows1 cs es lb' eo c' td n)) (
 none))) (
 none)) (
 none)) (
 none)) (
 none)) (
 none)) (
 none)) (
 none)) (
 cond (sameL cs cs) (
 cond ((symOf cs).okS (0 + i.toNat * 4 + 1)) (
 cond (veq 8 (.string (tT cs i)) (.string (tT cs i))) (
 cond (bG (i) k) (
 cond (sameL cs cs) (
 cond ((symOf cs).okI .u8 (0 + i.toNat * 4)) (
 cond ((symOf cs).int .u8 (0 + i.toNat * 4) != 1) (
 cond (gB cs es lb' td) (
 lE (i) (liRows1 cs es lb' eo c' td n)) (
 none)) (
 cond (gB cs es lb' td) (
 lE (i) (liRows1 cs es lb' eo c' td n)) (
 none))) (
 none)) (
 none)) (
 none)) (
 none)) (
 none)) (
 none))) (
 none))) (
 none)) (
 none)) (
 none)) (
 none))) (
 none)) (
 none)) (
 none) := by kernel_rfl
set_option maxRecDepth 100000 in
theorem r_li1A (gl : Gl) (g : GS) (gw : Int → Bool) (i num : Int) (cs : List Value) (k : Nat) (es lb lb' : MEs) (eo c c' : Nat) (td : List Value) (n : Nat) : li1 gl g gw [1] i num cs k es lb lb' eo c c' td n =
 cond (gB cs es lb td) (
 cond (g [.int .i64 0, .pointer (some ⟨1000, 0, none⟩), .slice (some ⟨1001, 0, none⟩) k k, .int .i64 num, .int .i64 0, .int .i64 0] [some (.row ⟨[.map (some 1002), .map (some 1003), .slice (some ⟨1004, 0, none⟩) n n], 51, (0, 0), 0, false, false⟩), some (.row ⟨cs, 59, (0, 0), 4, false, false⟩), some (LObj.map es eo), some (LObj.map lb c), some (.row ⟨td, 63, (0, 0), 8, false, false⟩)]) (
 cond (gB cs es lb' td) (
 cond (i == (↑k : Int)) (
 cond (gB cs es lb' td) (
 some (.normal, ([(.tuple #[(.int .i64 0), (.int .i64 0)])], (liRows1 cs es lb' eo c' td n)))) (
 none)) (
 cond (bG (i) k) (
 cond (sameL cs cs) (
 cond ((symOf cs).okS (0 + i.toNat * 4 + 1)) (
 cond (mapOk .u8 es) (
 cond (mapHas es (tT cs i)) (
 cond (mapOk .u8 es) (
 cond (mapHas es (tT cs i)) (
 cond (veq 8 (.tuple #[.int .u8 (mapI es (tT cs i)), .bool true]) (.tuple #[.int .u8 (mapI es (tT cs i)), .bool true])) (
 cond (sameL cs cs) (
 cond ((symOf cs).okS (0 + i.toNat * 4 + 1)) (
 cond (veq 8 (.string (tT cs i)) (.string (tT cs i))) (
 cond (bG (i) k) (
 cond (sameL cs cs) (
 cond ((symOf cs).okI .u8 (0 + i.toNat * 4)) (
 cond ((symOf cs).int .u8 (0 + i.toNat * 4) != 1) (
 cond (gB cs es lb' td) (
 lE (i) (liRows1 cs es lb' eo c' td n)) (
 none)) (
 cond ((↑n : Int) == 1024) (
 cond (gB cs es lb' td) (
 some (.normal, ([(.tuple #[(.int .i64 (i)), (.int .i64 7)])], (liRows1 cs es lb' eo c' td n)))) (
 none)) (
 cond (gw (mapI es (tT cs i))) (
 cond (decide (w1 i ≥ (↑k : Int))) (
 cond (gB cs es lb' td) (
 lE (IntKind.i64.wrap ((↑k : Int) - 1)) (liRows1 cs es lb' eo c' td n)) (
 none)) (
 cond (bG (w1 i) k) (
 cond (sameL cs cs) (
 cond (tG cs (w1 i)) (
 cond (tQ cs (w1 i) == 3) (
 cond (decide (w2 i < (↑k : Int))) (
 cond (gB cs es lb' td) (
 lE (w2 i) (liRows1 cs es lb' eo c' td n)) (
 none)) (
 cond (n.ble n) (
 cond (((n + 1) * 72).ble 140737488355328 && ((n + 1).ble 1099511627776)) (
 cond ((n * 8).beq td.length) (
 qs [mapI es (tT cs i), (symOf cs).int .i64 (0 + (w1 i).toNat * 4 + (1 + 1)), num, (symOf cs).int .i64 (0 + (w1 i).toNat * 4 + (1 + 1 + 1))] (
 cond (veq 8 (.slice (some ⟨1004, 0, none⟩) n n) (.slice (some ⟨1004, 0, none⟩) n n)) (
 cond (List.all cs (af 8) && (List.all es (fun e => af 8 e.fst && af 8 e.snd.fst) && (List.all lb' (fun e => af 8 e.fst && af 8 e.snd.fst) && (List.all (td ++ [(.int .u8 (mapI es (tT cs i))), (.int .i64 0), (.int .i64 0), (.int .i64 0), (.int .i64 ((symOf cs).int .i64 (0 + (w1 i).toNat * 4 + 2))), (.int .i64 (num)), (.int .i64 ((symOf cs).int .i64 (0 + (w1 i).toNat * 4 + 3))), (.string ((⟨#[]⟩ : ByteArray)))]) (af 8) && true)))) (
 some (.normal, ([(.tuple #[(.int .i64 0), (.int .i64 0)])], [some (.row ⟨[(.map (some 1002)), (.map (some 1003)), (.slice (some ⟨1005, 0, none⟩) (n + 1) (n + 1))], 51, (0, 0), 0, false, false⟩), some (.row ⟨cs, 59, (0, 0), 4, false, false⟩), some (.map (es) (eo)), some (.map (lb') (c')), none, some (.row ⟨(td ++ [(.int .u8 (mapI es (tT cs i))), (.int .i64 0), (.int .i64 0), (.int .i64 0), (.int .i64 ((symOf cs).int .i64 (0 + (w1 i).toNat * 4 + 2))), (.int .i64 (num)), (.int .i64 ((symOf cs).int .i64 (0 + (w1 i).toNat * 4 + 3))), (.string ((⟨#[]⟩ : ByteArray)))]), 63, (0, 0), 8, false, false⟩)]))) (
 none)) (
 none))) (
 none)) (
 none)) (
 none))) (
 cond (gB cs es lb' td) (
 lE (w1 i) (liRows1 cs es lb' eo c' td n)) (
 none))) (
 none)) (
 none)) (
 none))) (
 none)))) (
 none)) (
 none)) (
 none)) (
 none)) (
 none)) (
 none)) (
 none)) (
 cond (veq 8 (.tuple #[.int .u8 0, .bool false]) (.tuple #[.int .u8 (mapI es (tT cs i)), .bool true])) (
 cond (sameL cs cs) (
 cond ((symOf cs).okS (0 + i.toNat * 4 + 1)) (
 cond (veq 8 (.string (tT cs i)) (.string (tT cs i))) (
 cond (bG (i) k) (
 cond (sameL cs cs) (
 cond ((symOf cs).okI .u8 (0 + i.toNat * 4)) (
 cond ((symOf cs).int .u8 (0 + i.toNat * 4) != 1) (
 cond (gB cs es lb' td) (
 lE (i) (liRows1 cs es lb' eo c' td n)) (
 none)) (
 cond ((↑n : Int) == 1024) (
 cond (gB cs es lb' td) (
 some (.normal, ([(.tuple #[(.int .i64 (i)), (.int .i64 7)])], (liRows1 cs es lb' eo c' td n)))) (
 none)) (
 cond (gw (mapI es (tT cs i))) (
 cond (decide (w1 i ≥ (↑k : Int))) (
 cond (gB cs es lb' td) (
 lE (IntKind.i64.wrap ((↑k : Int) - 1)) (liRows1 cs es lb' eo c' td n)) (
 none)) (
 cond (bG (w1 i) k) (
 cond (sameL cs cs) (
 cond (tG cs (w1 i)) (
 cond (tQ cs (w1 i) == 3) (
 cond (decide (w2 i < (↑k : Int))) (
 cond (gB cs es lb' td) (
 lE (w2 i) (liRows1 cs es lb' eo c' td n)) (
 none)) (
 cond (n.ble n) (
 cond (((n + 1) * 72).ble 140737488355328 && ((n + 1).ble 1099511627776)) (
 cond ((n * 8).beq td.length) (
 qs [mapI es (tT cs i), (symOf cs).int .i64 (0 + (w1 i).toNat * 4 + (1 + 1)), num, (symOf cs).int .i64 (0 + (w1 i).toNat * 4 + (1 + 1 + 1))] (
 cond (veq 8 (.slice (some ⟨1004, 0, none⟩) n n) (.slice (some ⟨1004, 0, none⟩) n n)) (
 cond (List.all cs (af 8) && (List.all es (fun e => af 8 e.fst && af 8 e.snd.fst) && (List.all lb' (fun e => af 8 e.fst && af 8 e.snd.fst) && (List.all (td ++ [(.int .u8 (mapI es (tT cs i))), (.int .i64 0), (.int .i64 0), (.int .i64 0), (.int .i64 ((symOf cs).int .i64 (0 + (w1 i).toNat * 4 + 2))), (.int .i64 (num)), (.int .i64 ((symOf cs).int .i64 (0 + (w1 i).toNat * 4 + 3))), (.string ((⟨#[]⟩ : ByteArray)))]) (af 8) && true)))) (
 some (.normal, ([(.tuple #[(.int .i64 0), (.int .i64 0)])], [some (.row ⟨[(.map (some 1002)), (.map (some 1003)), (.slice (some ⟨1005, 0, none⟩) (n + 1) (n + 1))], 51, (0, 0), 0, false, false⟩), some (.row ⟨cs, 59, (0, 0), 4, false, false⟩), some (.map (es) (eo)), some (.map (lb') (c')), none, some (.row ⟨(td ++ [(.int .u8 (mapI es (tT cs i))), (.int .i64 0), (.int .i64 0), (.int .i64 0), (.int .i64 ((symOf cs).int .i64 (0 + (w1 i).toNat * 4 + 2))), (.int .i64 (num)), (.int .i64 ((symOf cs).int .i64 (0 + (w1 i).toNat * 4 + 3))), (.string ((⟨#[]⟩ : ByteArray)))]), 63, (0, 0), 8, false, false⟩)]))) (
 none)) (
 none))) (
 none)) (
 none)) (
 none))) (
 cond (gB cs es lb' td) (
 lE (w1 i) (liRows1 cs es lb' eo c' td n)) (
 none))) (
 none)) (
 none)) (
 none))) (
 none)))) (
 none)) (
 none)) (
 none)) (
 none)) (
 none)) (
 none)) (
 none))) (
 none)) (
 cond (mapOk .u8 es) (
 cond (mapHas es (tT cs i)) (
 cond (veq 8 (.tuple #[.int .u8 (mapI es (tT cs i)), .bool true]) (.tuple #[.int .u8 0, .bool false])) (
 cond (sameL cs cs) (
 cond ((symOf cs).okS (0 + i.toNat * 4 + 1)) (
 cond (veq 8 (.string (tT cs i)) (.string (tT cs i))) (
 cond (bG (i) k) (
 cond (sameL cs cs) (
 cond ((symOf cs).okI .u8 (0 + i.toNat * 4)) (
 cond ((symOf cs).int .u8 (0 + i.toNat * 4) != 1) (
 cond (gB cs es lb' td) (
 lE (i) (liRows1 cs es lb' eo c' td n)) (
 none)) (
 cond (gB cs es lb' td) (
 lE (i) (liRows1 cs es lb' eo c' td n)) (
 none))) (
 none)) (
 none)) (
 none)) (
 none)) (
 none)) (
 none)) (
 none)) (
 cond (sameL cs cs) (
 cond ((symOf cs).okS (0 + i.toNat * 4 + 1)) (
 cond (veq 8 (.string (tT cs i)) (.string (tT cs i))) (
 cond (bG (i) k) (
 cond (sameL cs cs) (
 cond ((symOf cs).okI .u8 (0 + i.toNat * 4)) (
 cond ((symOf cs).int .u8 (0 + i.toNat * 4) != 1) (
 cond (gB cs es lb' td) (
 lE (i) (liRows1 cs es lb' eo c' td n)) (
 none)) (
 cond (gB cs es lb' td) (
 lE (i) (liRows1 cs es lb' eo c' td n)) (
 none))) (
 none)) (
 none)) (
 none)) (
 none)) (
 none)) (
 none))) (
 none))) (
 none)) (
 none)) (
 none)) (
 none))) (
 none)) (
 none)) (
 none) := by kernel_rfl
set_option maxRecDepth 100000 in
theorem r_li1T (gl : Gl) (g : GS) (gw : Int → Bool) (i num : Int) (cs : List Value) (k : Nat) (es lb lb' : MEs) (eo c c' : Nat) (td : List Value) (n : Nat) : li1 gl g gw [0] i num cs k es lb lb' eo c c' td n =
 cond (gB cs es lb td) (
 cond (g [.int .i64 0, .pointer (some ⟨1000, 0, none⟩), .slice (some ⟨1001, 0, none⟩) k k, .int .i64 num, .int .i64 0, .int .i64 0] [some (.row ⟨[.map (some 1002), .map (some 1003), .slice (some ⟨1004, 0, none⟩) n n], 51, (0, 0), 0, false, false⟩), some (.row ⟨cs, 59, (0, 0), 4, false, false⟩), some (LObj.map es eo), some (LObj.map lb c), some (.row ⟨td, 63, (0, 0), 8, false, false⟩)]) (
 cond (gB cs es lb' td) (
 cond (i == (↑k : Int)) (
 cond (gB cs es lb' td) (
 some (.normal, ([(.tuple #[(.int .i64 0), (.int .i64 0)])], (liRows1 cs es lb' eo c' td n)))) (
 none)) (
 cond (bG (i) k) (
 cond (sameL cs cs) (
 cond ((symOf cs).okS (0 + i.toNat * 4 + 1)) (
 cond (mapOk .u8 es) (
 cond (mapHas es (tT cs i)) (
 cond (mapOk .u8 es) (
 cond (mapHas es (tT cs i)) (
 cond (veq 8 (.tuple #[.int .u8 (mapI es (tT cs i)), .bool true]) (.tuple #[.int .u8 (mapI es (tT cs i)), .bool true])) (
 cond (sameL cs cs) (
 cond ((symOf cs).okS (0 + i.toNat * 4 + 1)) (
 cond (veq 8 (.string (tT cs i)) (.string (tT cs i))) (
 cond (bG (i) k) (
 cond (sameL cs cs) (
 cond ((symOf cs).okI .u8 (0 + i.toNat * 4)) (
 cond ((symOf cs).int .u8 (0 + i.toNat * 4) != 1) (
 cond (gB cs es lb' td) (
 lE (i) (liRows1 cs es lb' eo c' td n)) (
 none)) (
 cond ((↑n : Int) == 1024) (
 cond (gB cs es lb' td) (
 some (.normal, ([(.tuple #[(.int .i64 (i)), (.int .i64 7)])], (liRows1 cs es lb' eo c' td n)))) (
 none)) (
 cond (gw (mapI es (tT cs i))) (
 cond (decide (w1 i ≥ (↑k : Int))) (
 cond (gB cs es lb' td) (
 lE (IntKind.i64.wrap ((↑k : Int) - 1)) (liRows1 cs es lb' eo c' td n)) (
 none)) (
 cond (bG (w1 i) k) (
 cond (sameL cs cs) (
 cond (tG cs (w1 i)) (
 cond (tQ cs (w1 i) == 2) (
 cond (decide (w2 i < (↑k : Int))) (
 cond (gB cs es lb' td) (
 lE (w2 i) (liRows1 cs es lb' eo c' td n)) (
 none)) (
 cond (n.ble n) (
 cond (((n + 1) * 72).ble 140737488355328 && ((n + 1).ble 1099511627776)) (
 cond ((n * 8).beq td.length) (
 qs [mapI es (tT cs i), (symOf cs).int .i64 (0 + (w1 i).toNat * 4 + (1 + 1))] (
 cond (veq 8 (.slice (some ⟨1004, 0, none⟩) n n) (.slice (some ⟨1004, 0, none⟩) n n)) (
 cond (List.all cs (af 8) && (List.all es (fun e => af 8 e.fst && af 8 e.snd.fst) && (List.all lb' (fun e => af 8 e.fst && af 8 e.snd.fst) && (List.all (td ++ [(.int .u8 (mapI es (tT cs i))), (.int .i64 ((symOf cs).int .i64 (0 + (w1 i).toNat * 4 + 2))), (.int .i64 0), (.int .i64 0), (.int .i64 0), (.int .i64 0), (.int .i64 0), (.string ((⟨#[]⟩ : ByteArray)))]) (af 8) && true)))) (
 some (.normal, ([(.tuple #[(.int .i64 0), (.int .i64 0)])], [some (.row ⟨[(.map (some 1002)), (.map (some 1003)), (.slice (some ⟨1005, 0, none⟩) (n + 1) (n + 1))], 51, (0, 0), 0, false, false⟩), some (.row ⟨cs, 59, (0, 0), 4, false, false⟩), some (.map (es) (eo)), some (.map (lb') (c')), none, some (.row ⟨(td ++ [(.int .u8 (mapI es (tT cs i))), (.int .i64 ((symOf cs).int .i64 (0 + (w1 i).toNat * 4 + 2))), (.int .i64 0), (.int .i64 0), (.int .i64 0), (.int .i64 0), (.int .i64 0), (.string ((⟨#[]⟩ : ByteArray)))]), 63, (0, 0), 8, false, false⟩)]))) (
 none)) (
 none))) (
 none)) (
 none)) (
 none))) (
 cond (gB cs es lb' td) (
 lE (w1 i) (liRows1 cs es lb' eo c' td n)) (
 none))) (
 none)) (
 none)) (
 none))) (
 none)))) (
 none)) (
 none)) (
 none)) (
 none)) (
 none)) (
 none)) (
 none)) (
 cond (veq 8 (.tuple #[.int .u8 0, .bool false]) (.tuple #[.int .u8 (mapI es (tT cs i)), .bool true])) (
 cond (sameL cs cs) (
 cond ((symOf cs).okS (0 + i.toNat * 4 + 1)) (
 cond (veq 8 (.string (tT cs i)) (.string (tT cs i))) (
 cond (bG (i) k) (
 cond (sameL cs cs) (
 cond ((symOf cs).okI .u8 (0 + i.toNat * 4)) (
 cond ((symOf cs).int .u8 (0 + i.toNat * 4) != 1) (
 cond (gB cs es lb' td) (
 lE (i) (liRows1 cs es lb' eo c' td n)) (
 none)) (
 cond ((↑n : Int) == 1024) (
 cond (gB cs es lb' td) (
 some (.normal, ([(.tuple #[(.int .i64 (i)), (.int .i64 7)])], (liRows1 cs es lb' eo c' td n)))) (
 none)) (
 cond (gw (mapI es (tT cs i))) (
 cond (decide (w1 i ≥ (↑k : Int))) (
 cond (gB cs es lb' td) (
 lE (IntKind.i64.wrap ((↑k : Int) - 1)) (liRows1 cs es lb' eo c' td n)) (
 none)) (
 cond (bG (w1 i) k) (
 cond (sameL cs cs) (
 cond (tG cs (w1 i)) (
 cond (tQ cs (w1 i) == 2) (
 cond (decide (w2 i < (↑k : Int))) (
 cond (gB cs es lb' td) (
 lE (w2 i) (liRows1 cs es lb' eo c' td n)) (
 none)) (
 cond (n.ble n) (
 cond (((n + 1) * 72).ble 140737488355328 && ((n + 1).ble 1099511627776)) (
 cond ((n * 8).beq td.length) (
 qs [mapI es (tT cs i), (symOf cs).int .i64 (0 + (w1 i).toNat * 4 + (1 + 1))] (
 cond (veq 8 (.slice (some ⟨1004, 0, none⟩) n n) (.slice (some ⟨1004, 0, none⟩) n n)) (
 cond (List.all cs (af 8) && (List.all es (fun e => af 8 e.fst && af 8 e.snd.fst) && (List.all lb' (fun e => af 8 e.fst && af 8 e.snd.fst) && (List.all (td ++ [(.int .u8 (mapI es (tT cs i))), (.int .i64 ((symOf cs).int .i64 (0 + (w1 i).toNat * 4 + 2))), (.int .i64 0), (.int .i64 0), (.int .i64 0), (.int .i64 0), (.int .i64 0), (.string ((⟨#[]⟩ : ByteArray)))]) (af 8) && true)))) (
 some (.normal, ([(.tuple #[(.int .i64 0), (.int .i64 0)])], [some (.row ⟨[(.map (some 1002)), (.map (some 1003)), (.slice (some ⟨1005, 0, none⟩) (n + 1) (n + 1))], 51, (0, 0), 0, false, false⟩), some (.row ⟨cs, 59, (0, 0), 4, false, false⟩), some (.map (es) (eo)), some (.map (lb') (c')), none, some (.row ⟨(td ++ [(.int .u8 (mapI es (tT cs i))), (.int .i64 ((symOf cs).int .i64 (0 + (w1 i).toNat * 4 + 2))), (.int .i64 0), (.int .i64 0), (.int .i64 0), (.int .i64 0), (.int .i64 0), (.string ((⟨#[]⟩ : ByteArray)))]), 63, (0, 0), 8, false, false⟩)]))) (
 none)) (
 none))) (
 none)) (
 none)) (
 none))) (
 cond (gB cs es lb' td) (
 lE (w1 i) (liRows1 cs es lb' eo c' td n)) (
 none))) (
 none)) (
 none)) (
 none))) (
 none)))) (
 none)) (
 none)) (
 none)) (
 none)) (
 none)) (
 none)) (
 none))) (
 none)) (
 cond (mapOk .u8 es) (
 cond (mapHas es (tT cs i)) (
 cond (veq 8 (.tuple #[.int .u8 (mapI es (tT cs i)), .bool true]) (.tuple #[.int .u8 0, .bool false])) (
 cond (sameL cs cs) (
 cond ((symOf cs).okS (0 + i.toNat * 4 + 1)) (
 cond (veq 8 (.string (tT cs i)) (.string (tT cs i))) (
 cond (bG (i) k) (
 cond (sameL cs cs) (
 cond ((symOf cs).okI .u8 (0 + i.toNat * 4)) (
 cond ((symOf cs).int .u8 (0 + i.toNat * 4) != 1) (
 cond (gB cs es lb' td) (
 lE (i) (liRows1 cs es lb' eo c' td n)) (
 none)) (
 cond (gB cs es lb' td) (
 lE (i) (liRows1 cs es lb' eo c' td n)) (
 none))) (
 none)) (
 none)) (
 none)) (
 none)) (
 none)) (
 none)) (
 none)) (
 cond (sameL cs cs) (
 cond ((symOf cs).okS (0 + i.toNat * 4 + 1)) (
 cond (veq 8 (.string (tT cs i)) (.string (tT cs i))) (
 cond (bG (i) k) (
 cond (sameL cs cs) (
 cond ((symOf cs).okI .u8 (0 + i.toNat * 4)) (
 cond ((symOf cs).int .u8 (0 + i.toNat * 4) != 1) (
 cond (gB cs es lb' td) (
 lE (i) (liRows1 cs es lb' eo c' td n)) (
 none)) (
 cond (gB cs es lb' td) (
 lE (i) (liRows1 cs es lb' eo c' td n)) (
 none))) (
 none)) (
 none)) (
 none)) (
 none)) (
 none)) (
 none))) (
 none))) (
 none)) (
 none)) (
 none)) (
 none))) (
 none)) (
 none)) (
 none) := by kernel_rfl
end Go.Proofs.YtgohnfkidkomhaaGreatDoor
