/- The document's assembler: a line's labels, what an instruction wants: residuals. -/
import Derived.Test.YtgohbcbdgakjeaaGreatDoorA5
noncomputable section
noncomputable section
namespace Go.Proofs.YtgohbcbdgakjeaaGreatDoor
open Go.Proofs.YtgohbcbdgakjeaaGreatDoor.Ev Go.RowKit
def txRow (a b : Value) : Option LObj := some (.row ⟨[a, b], 73, (0, 0), 0, false, false⟩)
def lsRow (cs : List Value) : Option LObj := some (.row ⟨cs, 99, (0, 0), 2, false, false⟩)
def onRow (cs : List Value) : Option LObj := some (.row ⟨cs, 75, (0, 0), 0, false, false⟩)
def onsRow (cs : List Value) : Option LObj := some (.row ⟨cs, 75, (0, 0), 8, false, false⟩)
def rgRow (cs : List Value) : Option LObj := some (.row ⟨cs, 3, (0, 0), 1, false, false⟩)
set_option maxRecDepth 100000 in
theorem r_rop (gl : Gl) (s : ByteArray) : callSK noSy Tryz.prog gl exB HB0 100 40 40 (.fn 61) [.string s] LS.start flatR =
 cond ((⟨#[104, 97, 108, 116]⟩ : ByteArray).toList == s.toList) (
 some (.int .u8 0)) (
 cond ((⟨#[97, 100, 100]⟩ : ByteArray).toList == s.toList) (
 some (.int .u8 1)) (
 cond ((⟨#[115, 117, 98]⟩ : ByteArray).toList == s.toList) (
 some (.int .u8 2)) (
 cond ((⟨#[97, 110, 100]⟩ : ByteArray).toList == s.toList) (
 some (.int .u8 3)) (
 cond ((⟨#[111, 114]⟩ : ByteArray).toList == s.toList) (
 some (.int .u8 4)) (
 cond ((⟨#[120, 111, 114]⟩ : ByteArray).toList == s.toList) (
 some (.int .u8 5)) (
 cond ((⟨#[108, 101, 115, 115]⟩ : ByteArray).toList == s.toList) (
 some (.int .u8 6)) (
 cond ((⟨#[109, 117, 108]⟩ : ByteArray).toList == s.toList) (
 some (.int .u8 7)) (
 cond ((⟨#[97, 100, 100, 105]⟩ : ByteArray).toList == s.toList) (
 some (.int .u8 8)) (
 cond ((⟨#[108, 111, 97, 100]⟩ : ByteArray).toList == s.toList) (
 some (.int .u8 9)) (
 cond ((⟨#[115, 116, 111, 114, 101]⟩ : ByteArray).toList == s.toList) (
 some (.int .u8 10)) (
 cond ((⟨#[115, 119, 97, 112]⟩ : ByteArray).toList == s.toList) (
 some (.int .u8 11)) (
 cond ((⟨#[115, 101, 116]⟩ : ByteArray).toList == s.toList) (
 some (.int .u8 12)) (
 cond ((⟨#[98, 101, 113]⟩ : ByteArray).toList == s.toList) (
 some (.int .u8 13)) (
 cond ((⟨#[98, 110, 101]⟩ : ByteArray).toList == s.toList) (
 some (.int .u8 14)) (
 cond ((⟨#[98, 108, 116]⟩ : ByteArray).toList == s.toList) (
 some (.int .u8 15)) (
 cond ((⟨#[106, 117, 109, 112]⟩ : ByteArray).toList == s.toList) (
 some (.int .u8 16)) (
 cond ((⟨#[98, 101, 103, 105, 110]⟩ : ByteArray).toList == s.toList) (
 some (.int .u8 17)) (
 cond ((⟨#[101, 110, 100]⟩ : ByteArray).toList == s.toList) (
 some (.int .u8 18)) (
 cond ((⟨#[97, 98, 111, 114, 116]⟩ : ByteArray).toList == s.toList) (
 some (.int .u8 19)) (
 cond ((⟨#[116, 101, 115, 116]⟩ : ByteArray).toList == s.toList) (
 some (.int .u8 20)) (
 cond ((⟨#[102, 101, 110, 99, 101]⟩ : ByteArray).toList == s.toList) (
 some (.int .u8 21)) (
 some (.int .u8 22))))))))))))))))))))))) := by kernel_rfl
set_option maxRecDepth 100000 in
theorem r_rfm (gl : Gl) (n : Int) : callSK noSy Tryz.prog gl exB HB0 100 40 40 (.fn 62) [.int .u8 n] LS.start flatR =
 let z0 : Option Value := some (.string ((⟨#[114, 114, 110]⟩ : ByteArray)))
 let z1 : Option Value := some (.string ((⟨#[114, 114, 112]⟩ : ByteArray)))
 let z2 : Option Value := some (.string ((⟨#[]⟩ : ByteArray)))
 cond (n == 0) z2 (
 cond (n == 18) z2 (
 cond (n == 21) z2 (
 cond (n == 8) z0 (
 cond (n == 9) z0 (
 cond (n == 10) z0 (
 cond (n == 12) (
 some (.string ((⟨#[114, 110]⟩ : ByteArray)))) (
 cond (n == 13) z1 (
 cond (n == 14) z1 (
 cond (n == 15) z1 (
 cond (n == 16) (
 some (.string ((⟨#[112]⟩ : ByteArray)))) (
 cond (n == 17) (
 some (.string ((⟨#[112]⟩ : ByteArray)))) (
 cond (n == 19) (
 some (.string ((⟨#[110]⟩ : ByteArray)))) (
 cond (n == 20) (
 some (.string ((⟨#[114]⟩ : ByteArray)))) (
 some (.string ((⟨#[114, 114, 114]⟩ : ByteArray))))))))))))))))) := by kernel_rfl
def fdLive : List Nat := [6, 0, 1, 4, 5]
def fdV (i : Int) (s : ByteArray) : List Value := [.int .i64 i, pK 1000, .string s, .int .i64 0, .bool false]
def fdR0 (cs : List Value) (k : Nat) : List (Option LObj) := [txRow (slK0 1001 k) slN, lsRow cs]
def fdR1 (cs : List Value) (k : Nat) (ts : List Value) : List (Option LObj) := [txRow (slK0 1001 k) (slK0 1002 1), lsRow cs, onsRow ts]
set_option maxRecDepth 100000 in
theorem r_fd0 (gl : Gl) (i : Int) (s : ByteArray) (cs : List Value) (k : Nat) : roundK (syL 1001 cs) Tryz.prog gl exB HB0 100 40 40 35 0 fdLive (fdV i s, fdR0 cs k) (rndK Tryz.prog 1002 fdLive [0, 4, 5]) =
 let z0 := decide (0 ≤ i) && (decide (i < (↑k : Int))) && (k.ble k)
 let z1 := List.all cs (af 8) && true
 cond (decide (i < (↑k : Int))) (
 cond z0 (
 cond (sameL cs cs) (
 cond ((symOf cs).okS (0 + i.toNat * 2)) (
 cond (((symOf cs).str (0 + i.toNat * 2)).toList == s.toList) (
 cond z0 (
 cond (sameL cs cs) (
 cond ((symOf cs).okI .i64 (0 + i.toNat * 2 + 1)) (
 cond z1 (
 some (.inr (.ret, ([(.pointer (some ⟨1000, 0, none⟩)), (.int .i64 ((symOf cs).int .i64 (0 + i.toNat * 2 + 1))), (.bool true)], [some (.row ⟨[(.slice (some ⟨1001, 0, none⟩) (k) (k)), (.slice none 0 0)], 73, (0, 0), 0, false, false⟩), some (.row ⟨cs, 99, (0, 0), 2, false, false⟩)])))) (
 none)) (
 none)) (
 none)) (
 none)) (
 cond z1 (
 some (.inl ([(.int .i64 (IntKind.i64.wrap (i + 1))), (.pointer (some ⟨1000, 0, none⟩)), (.string (s)), (.int .i64 0), (.bool false)], [some (.row ⟨[(.slice (some ⟨1001, 0, none⟩) (k) (k)), (.slice none 0 0)], 73, (0, 0), 0, false, false⟩), some (.row ⟨cs, 99, (0, 0), 2, false, false⟩)]))) (
 none))) (
 none)) (
 none)) (
 none)) (
 cond z1 (
 some (.inr (.exit 0, ([(.pointer (some ⟨1000, 0, none⟩)), (.int .i64 0), (.bool false)], [some (.row ⟨[(.slice (some ⟨1001, 0, none⟩) (k) (k)), (.slice none 0 0)], 73, (0, 0), 0, false, false⟩), some (.row ⟨cs, 99, (0, 0), 2, false, false⟩)])))) (
 none)) := by kernel_rfl
set_option maxRecDepth 100000 in
theorem r_fd1 (gl : Gl) (i : Int) (s : ByteArray) (cs : List Value) (k : Nat) (ts : List Value) : roundK (syL 1001 cs) Tryz.prog gl exB HB0 100 40 40 35 0 fdLive (fdV i s, fdR1 cs k ts) (rndK Tryz.prog 1003 fdLive [0, 4, 5]) =
 let z0 := List.all cs (af 8) && (List.all ts (af 8) && true)
 let z1 := decide (0 ≤ i) && (decide (i < (↑k : Int))) && (k.ble k)
 cond (decide (i < (↑k : Int))) (
 cond z1 (
 cond (sameL cs cs) (
 cond ((symOf cs).okS (0 + i.toNat * 2)) (
 cond (((symOf cs).str (0 + i.toNat * 2)).toList == s.toList) (
 cond z1 (
 cond (sameL cs cs) (
 cond ((symOf cs).okI .i64 (0 + i.toNat * 2 + 1)) (
 cond z0 (
 some (.inr (.ret, ([(.pointer (some ⟨1000, 0, none⟩)), (.int .i64 ((symOf cs).int .i64 (0 + i.toNat * 2 + 1))), (.bool true)], [some (.row ⟨[(.slice (some ⟨1001, 0, none⟩) (k) (k)), (.slice (some ⟨1002, 0, none⟩) 1 1)], 73, (0, 0), 0, false, false⟩), some (.row ⟨cs, 99, (0, 0), 2, false, false⟩), some (.row ⟨ts, 75, (0, 0), 8, false, false⟩)])))) (
 none)) (
 none)) (
 none)) (
 none)) (
 cond z0 (
 some (.inl ([(.int .i64 (IntKind.i64.wrap (i + 1))), (.pointer (some ⟨1000, 0, none⟩)), (.string (s)), (.int .i64 0), (.bool false)], [some (.row ⟨[(.slice (some ⟨1001, 0, none⟩) (k) (k)), (.slice (some ⟨1002, 0, none⟩) 1 1)], 73, (0, 0), 0, false, false⟩), some (.row ⟨cs, 99, (0, 0), 2, false, false⟩), some (.row ⟨ts, 75, (0, 0), 8, false, false⟩)]))) (
 none))) (
 none)) (
 none)) (
 none)) (
 cond z0 (
 some (.inr (.exit 0, ([(.pointer (some ⟨1000, 0, none⟩)), (.int .i64 0), (.bool false)], [some (.row ⟨[(.slice (some ⟨1001, 0, none⟩) (k) (k)), (.slice (some ⟨1002, 0, none⟩) 1 1)], 73, (0, 0), 0, false, false⟩), some (.row ⟨cs, 99, (0, 0), 2, false, false⟩), some (.row ⟨ts, 75, (0, 0), 8, false, false⟩)])))) (
 none)) := by kernel_rfl
def rlLive : List Nat := [8, 0, 1, 2, 6, 7]
def rlOut : List Nat := [8, 0, 1, 2, 6, 7]
def rlV (i num : Int) (k : Nat) : List Value := [.int .i64 i, pK 1000, slK0 1001 k, .int .i64 num, .int .i64 0, .int .i64 0]
def rlR0 (cs : List Value) : List (Option LObj) := [txRow slN slN, tokRow cs]
def rlR1 (cs ls : List Value) (m : Nat) : List (Option LObj) := [txRow (slK0 1002 m) slN, tokRow cs, lsRow ls]
def fdH (g : GS) (a : Int) (b : Bool) (rows : List (Option LObj)) : Hd := gH g (.normal, [.tuple #[.int .i64 a, .bool b]], rows)
set_option maxRecDepth 100000 in
theorem r_rl0 (gl : Gl) (i num : Int) (cs : List Value) (k : Nat) : roundK (syL 1001 cs) Tryz.prog gl exB HB0 100 40 40 34 0 rlLive (rlV i num k, rlR0 cs) (rndK Tryz.prog 1002 rlLive rlOut) =
 cond (decide (IntKind.i64.wrap (i + 1) < (↑k : Int))) (
 cond (decide (0 ≤ i) && (decide (i < (↑k : Int))) && (k.ble k)) (
 cond (sameL cs cs) (
 cond ((symOf cs).okI .u8 (0 + i.toNat * 4)) (
 cond ((symOf cs).int .u8 (0 + i.toNat * 4) == 1) (
 cond (decide (0 ≤ IntKind.i64.wrap (i + 1)) && (decide (IntKind.i64.wrap (i + 1) < (↑k : Int))) && (k.ble k)) (
 cond (sameL cs cs) (
 cond ((symOf cs).okI .u8 (0 + (IntKind.i64.wrap (i + 1)).toNat * 4)) (
 cond ((symOf cs).int .u8 (0 + (IntKind.i64.wrap (i + 1)).toNat * 4) == 5) (
 cond (decide (0 ≤ i) && (decide (i < (↑k : Int))) && (k.ble k)) (
 cond (sameL cs cs) (
 cond ((symOf cs).okS (0 + i.toNat * 4 + 1)) (
 cond (decide (0 ≤ i) && (decide (i < (↑k : Int))) && (k.ble k)) (
 cond (sameL cs cs) (
 cond ((symOf cs).okS (0 + i.toNat * 4 + 1)) (
 cond (sameL cs cs) (
 cond ((symOf cs).okS (0 + i.toNat * 4 + 1)) (
 cond (veq 8 (.string ((symOf cs).str (0 + i.toNat * 4 + 1))) (.string ((symOf cs).str (0 + i.toNat * 4 + 1)))) (
 cond (List.all cs (af 8) && true) (
 some (.inl ([(.int .i64 (IntKind.i64.wrap (i + 2))), (.pointer (some ⟨1000, 0, none⟩)), (.slice (some ⟨1001, 0, none⟩) (k) (k)), (.int .i64 (num)), (.int .i64 0), (.int .i64 0)], [some (.row ⟨[(.slice (some ⟨1002, 0, none⟩) 1 1), (.slice none 0 0)], 73, (0, 0), 0, false, false⟩), some (.row ⟨cs, 59, (0, 0), 4, false, false⟩), some (.row ⟨[(.string ((symOf cs).str (0 + i.toNat * 4 + 1))), (.int .i64 0)], 99, (0, 0), 2, false, false⟩)]))) (
 none)) (
 none)) (
 none)) (
 none)) (
 none)) (
 none)) (
 none)) (
 none)) (
 none)) (
 none)) (
 cond (List.all cs (af 8) && true) (
 some (.inr (.exit 0, ([(.int .i64 (i)), (.pointer (some ⟨1000, 0, none⟩)), (.slice (some ⟨1001, 0, none⟩) (k) (k)), (.int .i64 (num)), (.int .i64 0), (.int .i64 0)], [some (.row ⟨[(.slice none 0 0), (.slice none 0 0)], 73, (0, 0), 0, false, false⟩), some (.row ⟨cs, 59, (0, 0), 4, false, false⟩)])))) (
 none))) (
 none)) (
 none)) (
 none)) (
 cond (List.all cs (af 8) && true) (
 some (.inr (.exit 0, ([(.int .i64 (i)), (.pointer (some ⟨1000, 0, none⟩)), (.slice (some ⟨1001, 0, none⟩) (k) (k)), (.int .i64 (num)), (.int .i64 0), (.int .i64 0)], [some (.row ⟨[(.slice none 0 0), (.slice none 0 0)], 73, (0, 0), 0, false, false⟩), some (.row ⟨cs, 59, (0, 0), 4, false, false⟩)])))) (
 none))) (
 none)) (
 none)) (
 none)) (
 cond (List.all cs (af 8) && true) (
 some (.inr (.exit 0, ([(.int .i64 (i)), (.pointer (some ⟨1000, 0, none⟩)), (.slice (some ⟨1001, 0, none⟩) (k) (k)), (.int .i64 (num)), (.int .i64 0), (.int .i64 0)], [some (.row ⟨[(.slice none 0 0), (.slice none 0 0)], 73, (0, 0), 0, false, false⟩), some (.row ⟨cs, 59, (0, 0), 4, false, false⟩)])))) (
 none)) := by kernel_rfl
set_option maxRecDepth 100000 in
theorem r_rl1 (gl : Gl) (g : GS) (a : Int) (b : Bool) (i num : Int) (cs : List Value) (k : Nat) (ls : List Value) (m : Nat) : roundK (syL 1001 cs) Tryz.prog gl exB (hsOf [] [(35, fdH g a b (fdR0 ls m))] []) 100 40 40 34 0 rlLive (rlV i num k, rlR1 cs ls m) (rndK Tryz.prog 1002 rlLive rlOut) =
 cond (decide (IntKind.i64.wrap (i + 1) < (↑k : Int))) (
 cond (decide (0 ≤ i) && (decide (i < (↑k : Int))) && (k.ble k)) (
 cond (sameL cs cs) (
 cond ((symOf cs).okI .u8 (0 + i.toNat * 4)) (
 cond ((symOf cs).int .u8 (0 + i.toNat * 4) == 1) (
 cond (decide (0 ≤ IntKind.i64.wrap (i + 1)) && (decide (IntKind.i64.wrap (i + 1) < (↑k : Int))) && (k.ble k)) (
 cond (sameL cs cs) (
 cond ((symOf cs).okI .u8 (0 + (IntKind.i64.wrap (i + 1)).toNat * 4)) (
 cond ((symOf cs).int .u8 (0 + (IntKind.i64.wrap (i + 1)).toNat * 4) == 5) (
 cond (decide (0 ≤ i) && (decide (i < (↑k : Int))) && (k.ble k)) (
 cond (sameL cs cs) (
 cond ((symOf cs).okS (0 + i.toNat * 4 + 1)) (
 cond (List.all ls (af 8) && true) (
 cond (g [.pointer (some ⟨1000, 0, none⟩), .string ((symOf cs).str (0 + i.toNat * 4 + 1))] [some (.row ⟨[.slice (some ⟨1001, 0, none⟩) m m, .slice none 0 0], 73, (0, 0), 0, false, false⟩), some (.row ⟨ls, 99, (0, 0), 2, false, false⟩)]) (
 cond (List.all ls (af 8) && true) (
 cond (b) (
 cond (List.all cs (af 8) && (List.all ls (af 8) && true)) (
 some (.inr (.ret, ([(.int .i64 (i)), (.pointer (some ⟨1000, 0, none⟩)), (.slice (some ⟨1001, 0, none⟩) (k) (k)), (.int .i64 (num)), (.int .i64 (i)), (.int .i64 211)], [some (.row ⟨[(.slice (some ⟨1002, 0, none⟩) (m) (m)), (.slice none 0 0)], 73, (0, 0), 0, false, false⟩), some (.row ⟨cs, 59, (0, 0), 4, false, false⟩), some (.row ⟨ls, 99, (0, 0), 2, false, false⟩)])))) (
 none)) (
 cond (decide (0 ≤ i) && (decide (i < (↑k : Int))) && (k.ble k)) (
 cond (sameL cs cs) (
 cond ((symOf cs).okS (0 + i.toNat * 4 + 1)) (
 cond (m.ble m) (
 cond (((m + 1) * 24).ble 140737488355328 && ((m + 1).ble 1099511627776)) (
 cond ((m * 2).beq ls.length) (
 cond (sameL cs cs) (
 cond ((symOf cs).okS (0 + i.toNat * 4 + 1)) (
 cond (veq 8 (.string ((symOf cs).str (0 + i.toNat * 4 + 1))) (.string ((symOf cs).str (0 + i.toNat * 4 + 1)))) (
 cond (veq 8 (.slice (some ⟨1002, 0, none⟩) m m) (.slice (some ⟨1002, 0, none⟩) m m)) (
 cond (List.all cs (af 8) && (List.all (ls ++ [(.string ((symOf cs).str (0 + i.toNat * 4 + 1))), (.int .i64 0)]) (af 8) && true)) (
 some (.inl ([(.int .i64 (IntKind.i64.wrap (i + 2))), (.pointer (some ⟨1000, 0, none⟩)), (.slice (some ⟨1001, 0, none⟩) (k) (k)), (.int .i64 (num)), (.int .i64 0), (.int .i64 0)], [some (.row ⟨[(.slice (some ⟨1002, 0, none⟩) (m + 1) (m + 1)), (.slice none 0 0)], 73, (0, 0), 0, false, false⟩), some (.row ⟨cs, 59, (0, 0), 4, false, false⟩), some (.row ⟨(ls ++ [(.string ((symOf cs).str (0 + i.toNat * 4 + 1))), (.int .i64 0)]), 99, (0, 0), 2, false, false⟩)]))) (
 none)) (
 none)) (
 none)) (
 none)) (
 none)) (
 none)) (
 none)) (
 none)) (
 none)) (
 none)) (
 none))) (
 none)) (
 none)) (
 none)) (
 none)) (
 none)) (
 none)) (
 cond (List.all cs (af 8) && (List.all ls (af 8) && true)) (
 some (.inr (.exit 0, ([(.int .i64 (i)), (.pointer (some ⟨1000, 0, none⟩)), (.slice (some ⟨1001, 0, none⟩) (k) (k)), (.int .i64 (num)), (.int .i64 0), (.int .i64 0)], [some (.row ⟨[(.slice (some ⟨1002, 0, none⟩) (m) (m)), (.slice none 0 0)], 73, (0, 0), 0, false, false⟩), some (.row ⟨cs, 59, (0, 0), 4, false, false⟩), some (.row ⟨ls, 99, (0, 0), 2, false, false⟩)])))) (
 none))) (
 none)) (
 none)) (
 none)) (
 cond (List.all cs (af 8) && (List.all ls (af 8) && true)) (
 some (.inr (.exit 0, ([(.int .i64 (i)), (.pointer (some ⟨1000, 0, none⟩)), (.slice (some ⟨1001, 0, none⟩) (k) (k)), (.int .i64 (num)), (.int .i64 0), (.int .i64 0)], [some (.row ⟨[(.slice (some ⟨1002, 0, none⟩) (m) (m)), (.slice none 0 0)], 73, (0, 0), 0, false, false⟩), some (.row ⟨cs, 59, (0, 0), 4, false, false⟩), some (.row ⟨ls, 99, (0, 0), 2, false, false⟩)])))) (
 none))) (
 none)) (
 none)) (
 none)) (
 cond (List.all cs (af 8) && (List.all ls (af 8) && true)) (
 some (.inr (.exit 0, ([(.int .i64 (i)), (.pointer (some ⟨1000, 0, none⟩)), (.slice (some ⟨1001, 0, none⟩) (k) (k)), (.int .i64 (num)), (.int .i64 0), (.int .i64 0)], [some (.row ⟨[(.slice (some ⟨1002, 0, none⟩) (m) (m)), (.slice none 0 0)], 73, (0, 0), 0, false, false⟩), some (.row ⟨cs, 59, (0, 0), 4, false, false⟩), some (.row ⟨ls, 99, (0, 0), 2, false, false⟩)])))) (
 none)) := by kernel_rfl
end Go.Proofs.YtgohbcbdgakjeaaGreatDoor
noncomputable section
namespace Go.Proofs.YtgohbcbdgakjeaaGreatDoor
open Go.Proofs.YtgohbcbdgakjeaaGreatDoor.Ev Go.RowKit
def rwLive : List Nat := [15, 13, 2, 8, 1, 12, 0, 14, 6, 7]
def rwOut : List Nat := [8, 1, 12, 0, 14, 6, 7]
def rwV (k : Int) (f : ByteArray) (num i : Int) (kk : Nat) (rg : Value) : List Value := [.int .i64 k, .string f, .int .i64 num, .int .i64 i, slK0 1000 kk, pK 1001, pK 1002, rg, .int .i64 0, .int .i64 0]
def onC (op a b c n ln x : Int) (lb : ByteArray) : List Value := [.int .u8 op, .int .i64 a, .int .i64 b, .int .i64 c, .int .i64 n, .int .i64 ln, .int .i64 x, .string lb]
def rwR0 (cs : List Value) (op n ln x : Int) (lb : ByteArray) : List (Option LObj) := [tokRow cs, onRow (onC op 0 0 0 n ln x lb), txRow slN slN]
def rwR1 (cs : List Value) (op n ln x : Int) (lb : ByteArray) (ls : List Value) (m : Nat) : List (Option LObj) := [tokRow cs, onRow (onC op 0 0 0 n ln x lb), txRow (slK0 1003 m) slN, lsRow ls]
def afFt (ft : Int → Int → Bool) : AF := fun args _ => match args with
 | [.int .u8 w, .agg ⟨[.int .u8 k, .string _, .int .i64 _, .int .i64 _]⟩] => some (true, .bool (ft w k))
 | _ => none
def HFt (ft : Int → Int → Bool) : Hs := hsOf [(63, afFt ft)] [] []
def rwS (x y : Int) (f : ByteArray) (num i : Int) (kk : Nat) (rg : Value) (rows : List (Option LObj)) : Option (LSt ⊕ Out) := some (.inl ([.int .i64 x, .string f, .int .i64 num, .int .i64 i, slK0 1000 kk, pK 1001, pK 1002, rg, .int .i64 y, .int .i64 y], rows))
def rwE (e : Ex) (i : Int) (kk : Nat) (rg : Value) (r y : Int) (rows : List (Option LObj)) : Option (LSt ⊕ Out) := some (.inr (e, ([.int .i64 i, slK0 1000 kk, pK 1001, pK 1002, rg, .int .i64 r, .int .i64 y], rows)))
def bK (x : Int) (k : Nat) : Bool := decide (0 ≤ x) && (decide (x < (k : Int))) && (k.ble k)
def tN (cs : List Value) (x : Int) : Int := (symOf cs).int .i64 (0 + x.toNat * 4 + 2)
def tA (cs : List Value) (x : Int) : Int := (symOf cs).int .i64 (0 + x.toNat * 4 + 3)
def tS (cs : List Value) (x : Int) : ByteArray := (symOf cs).str (0 + x.toNat * 4 + 1)
set_option maxRecDepth 100000 in
theorem r_rw00 (gl : Gl) (k : Int) (f : ByteArray) (num i : Int) (kk : Nat) (cs : List Value) (op n ln x : Int) (lb : ByteArray) (ft : Int → Int → Bool) : roundK (syL 1000 cs) Tryz.prog gl exB (HFt ft) 100 40 40 34 1 rwLive (rwV k f num i kk slN, rwR0 cs op n ln x lb) (rndK Tryz.prog 1003 rwLive rwOut) =
 let z0 := List.all cs (af 8) && true
 let z1 := rwR0 cs op (n) (ln) (x) (lb) ++ []
 let z2 := decide (0 ≤ k) && (decide (k < (↑f.size : Int)))
 let z3 : Option (LSt ⊕ Out) := cond z0 (
 rwE (.ret) (w1 i) kk (.slice none 0 0) (IntKind.i64.wrap (w1 i - 1)) 210 z1) (
 none)
 let z4 := IntKind.i64.wrap (k + 1)
 let z5 := bK (w1 i) kk
 let z6 : Option (LSt ⊕ Out) := cond z0 (
 rwE (.ret) (w1 i) kk (.slice none 0 0) (w1 i) 210 z1) (
 none)
 let z7 := veq 7 (.string (tS cs (w2 i))) (.string (tS cs (w2 i)))
 let z8 := veq 7 (.string (tS cs (w1 i))) (.string (tS cs (w1 i)))
 let z9 := (symOf cs).okI .i64 (0 + (w2 i).toNat * 4 + 2)
 let z10 := (symOf cs).okI .i64 (0 + (w1 i).toNat * 4 + 2)
 let z11 := bK (w2 i) kk
 cond (decide (k < (↑f.size : Int))) (
 cond (decide (k > 0)) (
 cond (w1 i == (↑kk : Int)) z3 (
 cond z5 (
 cond (sameL cs cs) (
 cond ((symOf cs).okI .u8 (0 + (w1 i).toNat * 4)) (
 cond (tP cs (w1 i) != 4) z6 (
 cond (w2 i == (↑kk : Int)) (
 cond z0 (
 rwE (.ret) (w2 i) kk (.slice none 0 0) (IntKind.i64.wrap (w2 i - 1)) 210 z1) (
 none)) (
 cond z2 (
 cond z11 (
 cond (sameL cs cs) (
 cond (tG cs (w2 i)) (
 cond (ft (byteAt f k) (tQ cs (w2 i))) (
 cond (sameL cs cs) (
 cond (tG cs (w2 i)) (
 qs [tQ cs (w2 i)] (
 cond z7 (
 qs [tN cs (w2 i), tA cs (w2 i)] (
 cond z2 (
 cond (byteAt f k == 114) (
 cond z11 (
 cond (sameL cs cs) (
 cond z9 (
 cond z0 (
 rwS z4 0 f num (w2 i) kk (.slice (some ⟨1003, 0, none⟩) 1 1) (rwR0 cs op (n) (ln) (x) (lb) ++ [rgRow ([(.int .i64 (tN cs (w2 i)))])])) (
 none)) (
 none)) (
 none)) (
 none)) (
 cond z11 (
 cond (sameL cs cs) (
 cond ((symOf cs).okI .i64 (0 + (w2 i).toNat * 4 + 3)) (
 cond z11 (
 cond (sameL cs cs) (
 cond z9 (
 cond z11 (
 cond (sameL cs cs) (
 cond ((symOf cs).okS (0 + (w2 i).toNat * 4 + 1)) (
 cond z0 (
 rwS z4 0 f num (w2 i) kk (.slice none 0 0) (rwR0 cs op (tN cs (w2 i)) (num) (tA cs (w2 i)) (tS cs (w2 i)) ++ [])) (
 none)) (
 none)) (
 none)) (
 none)) (
 none)) (
 none)) (
 none)) (
 none)) (
 none)) (
 none))) (
 none))) (
 none))) (
 none)) (
 none)) (
 cond (sameL cs cs) (
 cond (tG cs (w2 i)) (
 qs [tQ cs (w2 i)] (
 cond z7 (
 qs [tN cs (w2 i), tA cs (w2 i)] (
 cond z0 (
 rwE (.ret) (w2 i) kk (.slice none 0 0) (w2 i) 210 z1) (
 none))) (
 none))) (
 none)) (
 none))) (
 none)) (
 none)) (
 none)) (
 none)))) (
 none)) (
 none)) (
 none))) (
 cond (w1 i == (↑kk : Int)) z3 (
 cond z2 (
 cond z5 (
 cond (sameL cs cs) (
 cond (tG cs (w1 i)) (
 cond (ft (byteAt f k) (tQ cs (w1 i))) (
 cond (sameL cs cs) (
 cond (tG cs (w1 i)) (
 qs [tQ cs (w1 i)] (
 cond z8 (
 qs [tN cs (w1 i), tA cs (w1 i)] (
 cond z2 (
 cond (byteAt f k == 114) (
 cond z5 (
 cond (sameL cs cs) (
 cond z10 (
 cond z0 (
 rwS z4 0 f num (w1 i) kk (.slice (some ⟨1003, 0, none⟩) 1 1) (rwR0 cs op (n) (ln) (x) (lb) ++ [rgRow ([(.int .i64 (tN cs (w1 i)))])])) (
 none)) (
 none)) (
 none)) (
 none)) (
 cond z5 (
 cond (sameL cs cs) (
 cond ((symOf cs).okI .i64 (0 + (w1 i).toNat * 4 + 3)) (
 cond z5 (
 cond (sameL cs cs) (
 cond z10 (
 cond z5 (
 cond (sameL cs cs) (
 cond ((symOf cs).okS (0 + (w1 i).toNat * 4 + 1)) (
 cond z0 (
 rwS z4 0 f num (w1 i) kk (.slice none 0 0) (rwR0 cs op (tN cs (w1 i)) (num) (tA cs (w1 i)) (tS cs (w1 i)) ++ [])) (
 none)) (
 none)) (
 none)) (
 none)) (
 none)) (
 none)) (
 none)) (
 none)) (
 none)) (
 none))) (
 none))) (
 none))) (
 none)) (
 none)) (
 cond (sameL cs cs) (
 cond (tG cs (w1 i)) (
 qs [tQ cs (w1 i)] (
 cond z8 (
 qs [tN cs (w1 i), tA cs (w1 i)] z6) (
 none))) (
 none)) (
 none))) (
 none)) (
 none)) (
 none)) (
 none)))) (
 cond z0 (
 rwE (.exit 2) (i) kk (.slice none 0 0) 0 0 z1) (
 none)) := by kernel_rfl
set_option maxRecDepth 100000 in
theorem r_rw01 (gl : Gl) (k : Int) (f : ByteArray) (num i : Int) (kk : Nat) (cs : List Value) (op n ln x : Int) (lb : ByteArray) (ft : Int → Int → Bool) (rs : List Value) (r : Nat) : roundK (syL 1000 cs) Tryz.prog gl exB (HFt ft) 100 40 40 34 1 rwLive (rwV k f num i kk (slK0 1003 r), rwR0 cs op n ln x lb ++ [rgRow rs]) (rndK Tryz.prog 1003 rwLive rwOut) =
 let z0 := List.all cs (af 8) && (List.all rs (af 8) && true)
 let z1 := rwR0 cs op (n) (ln) (x) (lb) ++ [rgRow (rs)]
 let z2 := decide (0 ≤ k) && (decide (k < (↑f.size : Int)))
 let z3 : Option (LSt ⊕ Out) := cond z0 (
 rwE (.ret) (w1 i) kk (.slice (some ⟨1003, 0, none⟩) (r) (r)) (IntKind.i64.wrap (w1 i - 1)) 210 z1) (
 none)
 let z4 : Option (LSt ⊕ Out) := cond z0 (
 rwE (.ret) (w1 i) kk (.slice (some ⟨1003, 0, none⟩) (r) (r)) (w1 i) 210 z1) (
 none)
 let z5 := IntKind.i64.wrap (k + 1)
 let z6 := ((r + 1) * 8).ble 140737488355328 && ((r + 1).ble 1099511627776)
 let z7 := bK (w1 i) kk
 let z8 := veq 7 (.string (tS cs (w2 i))) (.string (tS cs (w2 i)))
 let z9 := veq 7 (.string (tS cs (w1 i))) (.string (tS cs (w1 i)))
 let z10 := (symOf cs).okI .i64 (0 + (w2 i).toNat * 4 + 2)
 let z11 := (symOf cs).okI .i64 (0 + (w1 i).toNat * 4 + 2)
 let z12 := bK (w2 i) kk
 cond (decide (k < (↑f.size : Int))) (
 cond (decide (k > 0)) (
 cond (w1 i == (↑kk : Int)) z3 (
 cond z7 (
 cond (sameL cs cs) (
 cond ((symOf cs).okI .u8 (0 + (w1 i).toNat * 4)) (
 cond (tP cs (w1 i) != 4) z4 (
 cond (w2 i == (↑kk : Int)) (
 cond z0 (
 rwE (.ret) (w2 i) kk (.slice (some ⟨1003, 0, none⟩) (r) (r)) (IntKind.i64.wrap (w2 i - 1)) 210 z1) (
 none)) (
 cond z2 (
 cond z12 (
 cond (sameL cs cs) (
 cond (tG cs (w2 i)) (
 cond (ft (byteAt f k) (tQ cs (w2 i))) (
 cond (sameL cs cs) (
 cond (tG cs (w2 i)) (
 qs [tQ cs (w2 i)] (
 cond z8 (
 qs [tN cs (w2 i), tA cs (w2 i)] (
 cond z2 (
 cond (byteAt f k == 114) (
 cond z12 (
 cond (sameL cs cs) (
 cond z10 (
 cond (r.ble r) (
 cond z6 (
 cond ((r * 1).beq rs.length) (
 cond (List.all cs (af 8) && (List.all (rs ++ [(.int .i64 (tN cs (w2 i)))]) (af 8) && true)) (
 rwS z5 0 f num (w2 i) kk (.slice (some ⟨1003, 0, none⟩) (r + 1) (r + 1)) (rwR0 cs op (n) (ln) (x) (lb) ++ [rgRow ((rs ++ [(.int .i64 (tN cs (w2 i)))]))])) (
 none)) (
 none)) (
 none)) (
 none)) (
 none)) (
 none)) (
 none)) (
 cond z12 (
 cond (sameL cs cs) (
 cond ((symOf cs).okI .i64 (0 + (w2 i).toNat * 4 + 3)) (
 cond z12 (
 cond (sameL cs cs) (
 cond z10 (
 cond z12 (
 cond (sameL cs cs) (
 cond ((symOf cs).okS (0 + (w2 i).toNat * 4 + 1)) (
 cond z0 (
 rwS z5 0 f num (w2 i) kk (.slice (some ⟨1003, 0, none⟩) (r) (r)) (rwR0 cs op (tN cs (w2 i)) (num) (tA cs (w2 i)) (tS cs (w2 i)) ++ [rgRow (rs)])) (
 none)) (
 none)) (
 none)) (
 none)) (
 none)) (
 none)) (
 none)) (
 none)) (
 none)) (
 none))) (
 none))) (
 none))) (
 none)) (
 none)) (
 cond (sameL cs cs) (
 cond (tG cs (w2 i)) (
 qs [tQ cs (w2 i)] (
 cond z8 (
 qs [tN cs (w2 i), tA cs (w2 i)] (
 cond z0 (
 rwE (.ret) (w2 i) kk (.slice (some ⟨1003, 0, none⟩) (r) (r)) (w2 i) 210 z1) (
 none))) (
 none))) (
 none)) (
 none))) (
 none)) (
 none)) (
 none)) (
 none)))) (
 none)) (
 none)) (
 none))) (
 cond (w1 i == (↑kk : Int)) z3 (
 cond z2 (
 cond z7 (
 cond (sameL cs cs) (
 cond (tG cs (w1 i)) (
 cond (ft (byteAt f k) (tQ cs (w1 i))) (
 cond (sameL cs cs) (
 cond (tG cs (w1 i)) (
 qs [tQ cs (w1 i)] (
 cond z9 (
 qs [tN cs (w1 i), tA cs (w1 i)] (
 cond z2 (
 cond (byteAt f k == 114) (
 cond z7 (
 cond (sameL cs cs) (
 cond z11 (
 cond (r.ble r) (
 cond z6 (
 cond ((r * 1).beq rs.length) (
 cond (List.all cs (af 8) && (List.all (rs ++ [(.int .i64 (tN cs (w1 i)))]) (af 8) && true)) (
 rwS z5 0 f num (w1 i) kk (.slice (some ⟨1003, 0, none⟩) (r + 1) (r + 1)) (rwR0 cs op (n) (ln) (x) (lb) ++ [rgRow ((rs ++ [(.int .i64 (tN cs (w1 i)))]))])) (
 none)) (
 none)) (
 none)) (
 none)) (
 none)) (
 none)) (
 none)) (
 cond z7 (
 cond (sameL cs cs) (
 cond ((symOf cs).okI .i64 (0 + (w1 i).toNat * 4 + 3)) (
 cond z7 (
 cond (sameL cs cs) (
 cond z11 (
 cond z7 (
 cond (sameL cs cs) (
 cond ((symOf cs).okS (0 + (w1 i).toNat * 4 + 1)) (
 cond z0 (
 rwS z5 0 f num (w1 i) kk (.slice (some ⟨1003, 0, none⟩) (r) (r)) (rwR0 cs op (tN cs (w1 i)) (num) (tA cs (w1 i)) (tS cs (w1 i)) ++ [rgRow (rs)])) (
 none)) (
 none)) (
 none)) (
 none)) (
 none)) (
 none)) (
 none)) (
 none)) (
 none)) (
 none))) (
 none))) (
 none))) (
 none)) (
 none)) (
 cond (sameL cs cs) (
 cond (tG cs (w1 i)) (
 qs [tQ cs (w1 i)] (
 cond z9 (
 qs [tN cs (w1 i), tA cs (w1 i)] z4) (
 none))) (
 none)) (
 none))) (
 none)) (
 none)) (
 none)) (
 none)))) (
 cond z0 (
 rwE (.exit 2) (i) kk (.slice (some ⟨1003, 0, none⟩) (r) (r)) 0 0 z1) (
 none)) := by kernel_rfl
set_option maxRecDepth 100000 in
theorem r_rw10 (gl : Gl) (k : Int) (f : ByteArray) (num i : Int) (kk : Nat) (cs : List Value) (op n ln x : Int) (lb : ByteArray) (ft : Int → Int → Bool) (ls : List Value) (m : Nat) : roundK (syL 1000 cs) Tryz.prog gl exB (HFt ft) 100 40 40 34 1 rwLive (rwV k f num i kk slN, rwR1 cs op n ln x lb ls m) (rndK Tryz.prog 1004 rwLive rwOut) =
 let z0 := List.all cs (af 8) && (List.all ls (af 8) && true)
 let z1 := rwR1 cs op (n) (ln) (x) (lb) ls m ++ []
 let z2 := decide (0 ≤ k) && (decide (k < (↑f.size : Int)))
 let z3 : Option (LSt ⊕ Out) := cond z0 (
 rwE (.ret) (w1 i) kk (.slice none 0 0) (IntKind.i64.wrap (w1 i - 1)) 210 z1) (
 none)
 let z4 := IntKind.i64.wrap (k + 1)
 let z5 := bK (w1 i) kk
 let z6 : Option (LSt ⊕ Out) := cond z0 (
 rwE (.ret) (w1 i) kk (.slice none 0 0) (w1 i) 210 z1) (
 none)
 let z7 := veq 7 (.string (tS cs (w2 i))) (.string (tS cs (w2 i)))
 let z8 := veq 7 (.string (tS cs (w1 i))) (.string (tS cs (w1 i)))
 let z9 := (symOf cs).okI .i64 (0 + (w2 i).toNat * 4 + 2)
 let z10 := (symOf cs).okI .i64 (0 + (w1 i).toNat * 4 + 2)
 let z11 := bK (w2 i) kk
 cond (decide (k < (↑f.size : Int))) (
 cond (decide (k > 0)) (
 cond (w1 i == (↑kk : Int)) z3 (
 cond z5 (
 cond (sameL cs cs) (
 cond ((symOf cs).okI .u8 (0 + (w1 i).toNat * 4)) (
 cond (tP cs (w1 i) != 4) z6 (
 cond (w2 i == (↑kk : Int)) (
 cond z0 (
 rwE (.ret) (w2 i) kk (.slice none 0 0) (IntKind.i64.wrap (w2 i - 1)) 210 z1) (
 none)) (
 cond z2 (
 cond z11 (
 cond (sameL cs cs) (
 cond (tG cs (w2 i)) (
 cond (ft (byteAt f k) (tQ cs (w2 i))) (
 cond (sameL cs cs) (
 cond (tG cs (w2 i)) (
 qs [tQ cs (w2 i)] (
 cond z7 (
 qs [tN cs (w2 i), tA cs (w2 i)] (
 cond z2 (
 cond (byteAt f k == 114) (
 cond z11 (
 cond (sameL cs cs) (
 cond z9 (
 cond z0 (
 rwS z4 0 f num (w2 i) kk (.slice (some ⟨1004, 0, none⟩) 1 1) (rwR1 cs op (n) (ln) (x) (lb) ls m ++ [rgRow ([(.int .i64 (tN cs (w2 i)))])])) (
 none)) (
 none)) (
 none)) (
 none)) (
 cond z11 (
 cond (sameL cs cs) (
 cond ((symOf cs).okI .i64 (0 + (w2 i).toNat * 4 + 3)) (
 cond z11 (
 cond (sameL cs cs) (
 cond z9 (
 cond z11 (
 cond (sameL cs cs) (
 cond ((symOf cs).okS (0 + (w2 i).toNat * 4 + 1)) (
 cond z0 (
 rwS z4 0 f num (w2 i) kk (.slice none 0 0) (rwR1 cs op (tN cs (w2 i)) (num) (tA cs (w2 i)) (tS cs (w2 i)) ls m ++ [])) (
 none)) (
 none)) (
 none)) (
 none)) (
 none)) (
 none)) (
 none)) (
 none)) (
 none)) (
 none))) (
 none))) (
 none))) (
 none)) (
 none)) (
 cond (sameL cs cs) (
 cond (tG cs (w2 i)) (
 qs [tQ cs (w2 i)] (
 cond z7 (
 qs [tN cs (w2 i), tA cs (w2 i)] (
 cond z0 (
 rwE (.ret) (w2 i) kk (.slice none 0 0) (w2 i) 210 z1) (
 none))) (
 none))) (
 none)) (
 none))) (
 none)) (
 none)) (
 none)) (
 none)))) (
 none)) (
 none)) (
 none))) (
 cond (w1 i == (↑kk : Int)) z3 (
 cond z2 (
 cond z5 (
 cond (sameL cs cs) (
 cond (tG cs (w1 i)) (
 cond (ft (byteAt f k) (tQ cs (w1 i))) (
 cond (sameL cs cs) (
 cond (tG cs (w1 i)) (
 qs [tQ cs (w1 i)] (
 cond z8 (
 qs [tN cs (w1 i), tA cs (w1 i)] (
 cond z2 (
 cond (byteAt f k == 114) (
 cond z5 (
 cond (sameL cs cs) (
 cond z10 (
 cond z0 (
 rwS z4 0 f num (w1 i) kk (.slice (some ⟨1004, 0, none⟩) 1 1) (rwR1 cs op (n) (ln) (x) (lb) ls m ++ [rgRow ([(.int .i64 (tN cs (w1 i)))])])) (
 none)) (
 none)) (
 none)) (
 none)) (
 cond z5 (
 cond (sameL cs cs) (
 cond ((symOf cs).okI .i64 (0 + (w1 i).toNat * 4 + 3)) (
 cond z5 (
 cond (sameL cs cs) (
 cond z10 (
 cond z5 (
 cond (sameL cs cs) (
 cond ((symOf cs).okS (0 + (w1 i).toNat * 4 + 1)) (
 cond z0 (
 rwS z4 0 f num (w1 i) kk (.slice none 0 0) (rwR1 cs op (tN cs (w1 i)) (num) (tA cs (w1 i)) (tS cs (w1 i)) ls m ++ [])) (
 none)) (
 none)) (
 none)) (
 none)) (
 none)) (
 none)) (
 none)) (
 none)) (
 none)) (
 none))) (
 none))) (
 none))) (
 none)) (
 none)) (
 cond (sameL cs cs) (
 cond (tG cs (w1 i)) (
 qs [tQ cs (w1 i)] (
 cond z8 (
 qs [tN cs (w1 i), tA cs (w1 i)] z6) (
 none))) (
 none)) (
 none))) (
 none)) (
 none)) (
 none)) (
 none)))) (
 cond z0 (
 rwE (.exit 2) (i) kk (.slice none 0 0) 0 0 z1) (
 none)) := by kernel_rfl
set_option maxRecDepth 100000 in
theorem r_rw11 (gl : Gl) (k : Int) (f : ByteArray) (num i : Int) (kk : Nat) (cs : List Value) (op n ln x : Int) (lb : ByteArray) (ft : Int → Int → Bool) (ls : List Value) (m : Nat) (rs : List Value) (r : Nat) : roundK (syL 1000 cs) Tryz.prog gl exB (HFt ft) 100 40 40 34 1 rwLive (rwV k f num i kk (slK0 1004 r), rwR1 cs op n ln x lb ls m ++ [rgRow rs]) (rndK Tryz.prog 1004 rwLive rwOut) =
 let z0 := List.all cs (af 8) && (List.all ls (af 8) && (List.all rs (af 8) && true))
 let z1 := rwR1 cs op (n) (ln) (x) (lb) ls m ++ [rgRow (rs)]
 let z2 := decide (0 ≤ k) && (decide (k < (↑f.size : Int)))
 let z3 : Option (LSt ⊕ Out) := cond z0 (
 rwE (.ret) (w1 i) kk (.slice (some ⟨1004, 0, none⟩) (r) (r)) (IntKind.i64.wrap (w1 i - 1)) 210 z1) (
 none)
 let z4 : Option (LSt ⊕ Out) := cond z0 (
 rwE (.ret) (w1 i) kk (.slice (some ⟨1004, 0, none⟩) (r) (r)) (w1 i) 210 z1) (
 none)
 let z5 := IntKind.i64.wrap (k + 1)
 let z6 := ((r + 1) * 8).ble 140737488355328 && ((r + 1).ble 1099511627776)
 let z7 := bK (w1 i) kk
 let z8 := veq 7 (.string (tS cs (w2 i))) (.string (tS cs (w2 i)))
 let z9 := veq 7 (.string (tS cs (w1 i))) (.string (tS cs (w1 i)))
 let z10 := (symOf cs).okI .i64 (0 + (w2 i).toNat * 4 + 2)
 let z11 := (symOf cs).okI .i64 (0 + (w1 i).toNat * 4 + 2)
 let z12 := bK (w2 i) kk
 cond (decide (k < (↑f.size : Int))) (
 cond (decide (k > 0)) (
 cond (w1 i == (↑kk : Int)) z3 (
 cond z7 (
 cond (sameL cs cs) (
 cond ((symOf cs).okI .u8 (0 + (w1 i).toNat * 4)) (
 cond (tP cs (w1 i) != 4) z4 (
 cond (w2 i == (↑kk : Int)) (
 cond z0 (
 rwE (.ret) (w2 i) kk (.slice (some ⟨1004, 0, none⟩) (r) (r)) (IntKind.i64.wrap (w2 i - 1)) 210 z1) (
 none)) (
 cond z2 (
 cond z12 (
 cond (sameL cs cs) (
 cond (tG cs (w2 i)) (
 cond (ft (byteAt f k) (tQ cs (w2 i))) (
 cond (sameL cs cs) (
 cond (tG cs (w2 i)) (
 qs [tQ cs (w2 i)] (
 cond z8 (
 qs [tN cs (w2 i), tA cs (w2 i)] (
 cond z2 (
 cond (byteAt f k == 114) (
 cond z12 (
 cond (sameL cs cs) (
 cond z10 (
 cond (r.ble r) (
 cond z6 (
 cond ((r * 1).beq rs.length) (
 cond (List.all cs (af 8) && (List.all ls (af 8) && (List.all (rs ++ [(.int .i64 (tN cs (w2 i)))]) (af 8) && true))) (
 rwS z5 0 f num (w2 i) kk (.slice (some ⟨1004, 0, none⟩) (r + 1) (r + 1)) (rwR1 cs op (n) (ln) (x) (lb) ls m ++ [rgRow ((rs ++ [(.int .i64 (tN cs (w2 i)))]))])) (
 none)) (
 none)) (
 none)) (
 none)) (
 none)) (
 none)) (
 none)) (
 cond z12 (
 cond (sameL cs cs) (
 cond ((symOf cs).okI .i64 (0 + (w2 i).toNat * 4 + 3)) (
 cond z12 (
 cond (sameL cs cs) (
 cond z10 (
 cond z12 (
 cond (sameL cs cs) (
 cond ((symOf cs).okS (0 + (w2 i).toNat * 4 + 1)) (
 cond z0 (
 rwS z5 0 f num (w2 i) kk (.slice (some ⟨1004, 0, none⟩) (r) (r)) (rwR1 cs op (tN cs (w2 i)) (num) (tA cs (w2 i)) (tS cs (w2 i)) ls m ++ [rgRow (rs)])) (
 none)) (
 none)) (
 none)) (
 none)) (
 none)) (
 none)) (
 none)) (
 none)) (
 none)) (
 none))) (
 none))) (
 none))) (
 none)) (
 none)) (
 cond (sameL cs cs) (
 cond (tG cs (w2 i)) (
 qs [tQ cs (w2 i)] (
 cond z8 (
 qs [tN cs (w2 i), tA cs (w2 i)] (
 cond z0 (
 rwE (.ret) (w2 i) kk (.slice (some ⟨1004, 0, none⟩) (r) (r)) (w2 i) 210 z1) (
 none))) (
 none))) (
 none)) (
 none))) (
 none)) (
 none)) (
 none)) (
 none)))) (
 none)) (
 none)) (
 none))) (
 cond (w1 i == (↑kk : Int)) z3 (
 cond z2 (
 cond z7 (
 cond (sameL cs cs) (
 cond (tG cs (w1 i)) (
 cond (ft (byteAt f k) (tQ cs (w1 i))) (
 cond (sameL cs cs) (
 cond (tG cs (w1 i)) (
 qs [tQ cs (w1 i)] (
 cond z9 (
 qs [tN cs (w1 i), tA cs (w1 i)] (
 cond z2 (
 cond (byteAt f k == 114) (
 cond z7 (
 cond (sameL cs cs) (
 cond z11 (
 cond (r.ble r) (
 cond z6 (
 cond ((r * 1).beq rs.length) (
 cond (List.all cs (af 8) && (List.all ls (af 8) && (List.all (rs ++ [(.int .i64 (tN cs (w1 i)))]) (af 8) && true))) (
 rwS z5 0 f num (w1 i) kk (.slice (some ⟨1004, 0, none⟩) (r + 1) (r + 1)) (rwR1 cs op (n) (ln) (x) (lb) ls m ++ [rgRow ((rs ++ [(.int .i64 (tN cs (w1 i)))]))])) (
 none)) (
 none)) (
 none)) (
 none)) (
 none)) (
 none)) (
 none)) (
 cond z7 (
 cond (sameL cs cs) (
 cond ((symOf cs).okI .i64 (0 + (w1 i).toNat * 4 + 3)) (
 cond z7 (
 cond (sameL cs cs) (
 cond z11 (
 cond z7 (
 cond (sameL cs cs) (
 cond ((symOf cs).okS (0 + (w1 i).toNat * 4 + 1)) (
 cond z0 (
 rwS z5 0 f num (w1 i) kk (.slice (some ⟨1004, 0, none⟩) (r) (r)) (rwR1 cs op (tN cs (w1 i)) (num) (tA cs (w1 i)) (tS cs (w1 i)) ls m ++ [rgRow (rs)])) (
 none)) (
 none)) (
 none)) (
 none)) (
 none)) (
 none)) (
 none)) (
 none)) (
 none)) (
 none))) (
 none))) (
 none))) (
 none)) (
 none)) (
 cond (sameL cs cs) (
 cond (tG cs (w1 i)) (
 qs [tQ cs (w1 i)] (
 cond z9 (
 qs [tN cs (w1 i), tA cs (w1 i)] z4) (
 none))) (
 none)) (
 none))) (
 none)) (
 none)) (
 none)) (
 none)))) (
 cond z0 (
 rwE (.exit 2) (i) kk (.slice (some ⟨1004, 0, none⟩) (r) (r)) 0 0 z1) (
 none)) := by kernel_rfl
end Go.Proofs.YtgohbcbdgakjeaaGreatDoor
noncomputable section
namespace Go.Proofs.YtgohbcbdgakjeaaGreatDoor
open Go.Proofs.YtgohbcbdgakjeaaGreatDoor.Ev Go.RowKit
def afOpR (op : ByteArray → Int) : AF := fun args _ => match args with
 | [.string s] => some (true, .int .u8 (op s))
 | _ => none
def afFmR (ff : Int → ByteArray) : AF := fun args _ => match args with
 | [.int .u8 n] => some (decide (0 ≤ n), .string (ff n))
 | _ => none
def HRl (g0 g1 : GS) (o0 o1 : Out) (op : ByteArray → Int) (ff : Int → ByteArray) : Hs := hsOf [(61, afOpR op), (62, afFmR ff)] [] [(34, [(0, ⟨rlLive, rlOut, gH g0 o0⟩), (1, ⟨rwLive, rwOut, gH g1 o1⟩)])]
def rlO (x : Ex) (i num : Int) (k : Nat) (a e : Int) (rows : List (Option LObj)) : Out := (x, [.int .i64 i, pK 1000, slK0 1001 k, .int .i64 num, .int .i64 a, .int .i64 e], rows)
def rwO (x : Ex) (j : Int) (k : Nat) (rg : Value) (a e : Int) (rows : List (Option LObj)) : Out := (x, [.int .i64 j, slK0 1000 k, pK 1001, pK 1002, rg, .int .i64 a, .int .i64 e], rows)
def rgC : List Int → List Value := fun l => l.map (.int .i64)
abbrev rlCall (gl : Gl) (cs : List Value) (H : Hs) (num : Int) (k : Nat) : Option Out := callSK (syL 1001 cs) Tryz.prog gl exB H 100 40 40 (.fn 34) [pK 1000, slK0 1001 k, .int .i64 num] (rowsOf (rlR0 cs)) (exitK Tryz.prog 1002)
def rlN (a e : Int) (rows : List (Option LObj)) : Option Out := some (.normal, [.tuple #[.int .i64 a, .int .i64 e]], rows)
def tL (a e : List Value) (m : Nat) (o : List Value) : List (Option LObj) := [txRow (slK0 1002 m) (slK0 1003 1), tokRow a, lsRow e, onsRow o]
def tL0 (a : List Value) (o : List Value) : List (Option LObj) := [txRow slN (slK0 1002 1), tokRow a, onsRow o]
set_option maxRecDepth 100000 in
theorem r_rl0E (gl : Gl) (g0 g1 : GS) (op : ByteArray → Int) (ff : Int → ByteArray) (i num : Int) (k : Nat) (cs : List Value) (a0 n ln x : Int) (lb : ByteArray) (j a e : Int) : rlCall gl cs (HRl g0 g1 (rlO (.exit 0) i num k 0 0 (rlR0 cs)) (rwO .ret j k slN a e (rwR0 cs a0 n ln x lb)) op ff) num k =
 let z0 := List.all cs (af 8) && true
 cond z0 (
 cond (g0 (rlV 0 num k) (rlR0 cs)) (
 cond z0 (
 cond (i == (↑k : Int)) (
 cond z0 (
 rlN 0 0 (rlR0 cs)) (
 none)) (
 cond (bK (i) k) (
 cond (sameL cs cs) (
 cond ((symOf cs).okS (0 + i.toNat * 4 + 1)) (
 cond (bK (i) k) (
 cond (sameL cs cs) (
 cond ((symOf cs).okI .u8 (0 + i.toNat * 4)) (
 cond ((symOf cs).int .u8 (0 + i.toNat * 4) != 1) (
 cond z0 (
 rlN (i) 210 (rlR0 cs)) (
 none)) (
 cond (op (tT cs i) == 22) (
 cond z0 (
 rlN (i) 210 (rlR0 cs)) (
 none)) (
 cond (decide (0 ≤ op (tT cs i))) (
 cond z0 (
 cond (g1 (rwV 0 (ff (op (tT cs i))) num i k slN) (rwR0 cs (op (tT cs i)) 0 0 0 ⟨#[]⟩)) (
 cond z0 (
 cond z0 (
 rlN (a) (e) (rlR0 cs)) (
 none)) (
 none)) (
 none)) (
 none)) (
 none)))) (
 none)) (
 none)) (
 none)) (
 none)) (
 none)) (
 none))) (
 none)) (
 none)) (
 none) := by kernel_rfl
set_option maxRecDepth 100000 in
theorem r_rl00 (gl : Gl) (g0 g1 : GS) (op : ByteArray → Int) (ff : Int → ByteArray) (i num : Int) (k : Nat) (cs : List Value) (a0 n ln x : Int) (lb : ByteArray) (j : Int) : rlCall gl cs (HRl g0 g1 (rlO (.exit 0) i num k 0 0 (rlR0 cs)) (rwO (.exit 2) j k slN 0 0 (rwR0 cs a0 n ln x lb)) op ff) num k =
 let z0 := List.all cs (af 8) && true
 cond z0 (
 cond (g0 (rlV 0 num k) (rlR0 cs)) (
 cond z0 (
 cond (i == (↑k : Int)) (
 cond z0 (
 rlN 0 0 (rlR0 cs)) (
 none)) (
 cond (bK (i) k) (
 cond (sameL cs cs) (
 cond ((symOf cs).okS (0 + i.toNat * 4 + 1)) (
 cond (bK (i) k) (
 cond (sameL cs cs) (
 cond ((symOf cs).okI .u8 (0 + i.toNat * 4)) (
 cond ((symOf cs).int .u8 (0 + i.toNat * 4) != 1) (
 cond z0 (
 rlN (i) 210 (rlR0 cs)) (
 none)) (
 cond (op (tT cs i) == 22) (
 cond z0 (
 rlN (i) 210 (rlR0 cs)) (
 none)) (
 cond (decide (0 ≤ op (tT cs i))) (
 cond z0 (
 cond (g1 (rwV 0 (ff (op (tT cs i))) num i k slN) (rwR0 cs (op (tT cs i)) 0 0 0 ⟨#[]⟩)) (
 cond z0 (
 cond (decide (IntKind.i64.wrap (j + 1) < (↑k : Int))) (
 cond z0 (
 rlN (IntKind.i64.wrap (j + 1)) 210 (rlR0 cs)) (
 none)) (
 qs [a0, n, ln, x] (
 cond (veq 7 (.string lb) (.string lb)) (
 cond z0 (
 rlN 0 0 (tL0 cs (onC a0 0 0 0 n ln x lb))) (
 none)) (
 none)))) (
 none)) (
 none)) (
 none)) (
 none)))) (
 none)) (
 none)) (
 none)) (
 none)) (
 none)) (
 none))) (
 none)) (
 none)) (
 none) := by kernel_rfl
set_option maxRecDepth 100000 in
theorem r_rl01 (gl : Gl) (g0 g1 : GS) (op : ByteArray → Int) (ff : Int → ByteArray) (i num : Int) (k : Nat) (cs : List Value) (a0 n ln x : Int) (lb : ByteArray) (j : Int) (q0 : Int) : rlCall gl cs (HRl g0 g1 (rlO (.exit 0) i num k 0 0 (rlR0 cs)) (rwO (.exit 2) j k (slK0 1003 1) 0 0 (rwR0 cs a0 n ln x lb ++ [rgRow (rgC [q0])])) op ff) num k =
 let z0 := List.all cs (af 8) && true
 cond z0 (
 cond (g0 (rlV 0 num k) (rlR0 cs)) (
 cond z0 (
 cond (i == (↑k : Int)) (
 cond z0 (
 rlN 0 0 (rlR0 cs)) (
 none)) (
 cond (bK (i) k) (
 cond (sameL cs cs) (
 cond ((symOf cs).okS (0 + i.toNat * 4 + 1)) (
 cond (bK (i) k) (
 cond (sameL cs cs) (
 cond ((symOf cs).okI .u8 (0 + i.toNat * 4)) (
 cond ((symOf cs).int .u8 (0 + i.toNat * 4) != 1) (
 cond z0 (
 rlN (i) 210 (rlR0 cs)) (
 none)) (
 cond (op (tT cs i) == 22) (
 cond z0 (
 rlN (i) 210 (rlR0 cs)) (
 none)) (
 cond (decide (0 ≤ op (tT cs i))) (
 cond z0 (
 cond (g1 (rwV 0 (ff (op (tT cs i))) num i k slN) (rwR0 cs (op (tT cs i)) 0 0 0 ⟨#[]⟩)) (
 cond z0 (
 cond (decide (IntKind.i64.wrap (j + 1) < (↑k : Int))) (
 cond z0 (
 rlN (IntKind.i64.wrap (j + 1)) 210 (rlR0 cs)) (
 none)) (
 qs [a0, q0, n, ln, x] (
 cond (veq 7 (.string lb) (.string lb)) (
 cond z0 (
 rlN 0 0 (tL0 cs (onC a0 (q0) 0 0 n ln x lb))) (
 none)) (
 none)))) (
 none)) (
 none)) (
 none)) (
 none)))) (
 none)) (
 none)) (
 none)) (
 none)) (
 none)) (
 none))) (
 none)) (
 none)) (
 none) := by kernel_rfl
set_option maxRecDepth 100000 in
theorem r_rl02 (gl : Gl) (g0 g1 : GS) (op : ByteArray → Int) (ff : Int → ByteArray) (i num : Int) (k : Nat) (cs : List Value) (a0 n ln x : Int) (lb : ByteArray) (j : Int) (q0 q1 : Int) : rlCall gl cs (HRl g0 g1 (rlO (.exit 0) i num k 0 0 (rlR0 cs)) (rwO (.exit 2) j k (slK0 1003 2) 0 0 (rwR0 cs a0 n ln x lb ++ [rgRow (rgC [q0, q1])])) op ff) num k =
 let z0 := List.all cs (af 8) && true
 cond z0 (
 cond (g0 (rlV 0 num k) (rlR0 cs)) (
 cond z0 (
 cond (i == (↑k : Int)) (
 cond z0 (
 rlN 0 0 (rlR0 cs)) (
 none)) (
 cond (bK (i) k) (
 cond (sameL cs cs) (
 cond ((symOf cs).okS (0 + i.toNat * 4 + 1)) (
 cond (bK (i) k) (
 cond (sameL cs cs) (
 cond ((symOf cs).okI .u8 (0 + i.toNat * 4)) (
 cond ((symOf cs).int .u8 (0 + i.toNat * 4) != 1) (
 cond z0 (
 rlN (i) 210 (rlR0 cs)) (
 none)) (
 cond (op (tT cs i) == 22) (
 cond z0 (
 rlN (i) 210 (rlR0 cs)) (
 none)) (
 cond (decide (0 ≤ op (tT cs i))) (
 cond z0 (
 cond (g1 (rwV 0 (ff (op (tT cs i))) num i k slN) (rwR0 cs (op (tT cs i)) 0 0 0 ⟨#[]⟩)) (
 cond z0 (
 cond (decide (IntKind.i64.wrap (j + 1) < (↑k : Int))) (
 cond z0 (
 rlN (IntKind.i64.wrap (j + 1)) 210 (rlR0 cs)) (
 none)) (
 qs [a0, q0, q1, n, ln, x] (
 cond (veq 7 (.string lb) (.string lb)) (
 cond z0 (
 rlN 0 0 (tL0 cs (onC a0 (q0) (q1) 0 n ln x lb))) (
 none)) (
 none)))) (
 none)) (
 none)) (
 none)) (
 none)))) (
 none)) (
 none)) (
 none)) (
 none)) (
 none)) (
 none))) (
 none)) (
 none)) (
 none) := by kernel_rfl
set_option maxRecDepth 100000 in
theorem r_rl03 (gl : Gl) (g0 g1 : GS) (op : ByteArray → Int) (ff : Int → ByteArray) (i num : Int) (k : Nat) (cs : List Value) (a0 n ln x : Int) (lb : ByteArray) (j : Int) (q0 q1 q2 : Int) : rlCall gl cs (HRl g0 g1 (rlO (.exit 0) i num k 0 0 (rlR0 cs)) (rwO (.exit 2) j k (slK0 1003 3) 0 0 (rwR0 cs a0 n ln x lb ++ [rgRow (rgC [q0, q1, q2])])) op ff) num k =
 let z0 := List.all cs (af 8) && true
 cond z0 (
 cond (g0 (rlV 0 num k) (rlR0 cs)) (
 cond z0 (
 cond (i == (↑k : Int)) (
 cond z0 (
 rlN 0 0 (rlR0 cs)) (
 none)) (
 cond (bK (i) k) (
 cond (sameL cs cs) (
 cond ((symOf cs).okS (0 + i.toNat * 4 + 1)) (
 cond (bK (i) k) (
 cond (sameL cs cs) (
 cond ((symOf cs).okI .u8 (0 + i.toNat * 4)) (
 cond ((symOf cs).int .u8 (0 + i.toNat * 4) != 1) (
 cond z0 (
 rlN (i) 210 (rlR0 cs)) (
 none)) (
 cond (op (tT cs i) == 22) (
 cond z0 (
 rlN (i) 210 (rlR0 cs)) (
 none)) (
 cond (decide (0 ≤ op (tT cs i))) (
 cond z0 (
 cond (g1 (rwV 0 (ff (op (tT cs i))) num i k slN) (rwR0 cs (op (tT cs i)) 0 0 0 ⟨#[]⟩)) (
 cond z0 (
 cond (decide (IntKind.i64.wrap (j + 1) < (↑k : Int))) (
 cond z0 (
 rlN (IntKind.i64.wrap (j + 1)) 210 (rlR0 cs)) (
 none)) (
 qs [a0, q0, q1, q2, n, ln, x] (
 cond (veq 7 (.string lb) (.string lb)) (
 cond z0 (
 rlN 0 0 (tL0 cs (onC a0 (q0) (q1) (q2) n ln x lb))) (
 none)) (
 none)))) (
 none)) (
 none)) (
 none)) (
 none)))) (
 none)) (
 none)) (
 none)) (
 none)) (
 none)) (
 none))) (
 none)) (
 none)) (
 none) := by kernel_rfl
set_option maxRecDepth 100000 in
theorem r_rlT (gl : Gl) (g0 g1 : GS) (op : ByteArray → Int) (ff : Int → ByteArray) (i num : Int) (k : Nat) (cs : List Value) (ls : List Value) (m : Nat) (a e : Int) : rlCall gl cs (HRl g0 g1 (rlO .ret i num k a e (rlR1 cs ls m)) (rwO .ret 0 k slN 0 0 []) op ff) num k =
 cond (List.all cs (af 8) && true) (
 cond (g0 (rlV 0 num k) (rlR0 cs)) (
 cond (List.all cs (af 8) && (List.all ls (af 8) && true)) (
 cond (List.all cs (af 8) && (List.all ls (af 8) && true)) (
 rlN (a) (e) (rlR1 cs ls m)) (
 none)) (
 none)) (
 none)) (
 none) := by kernel_rfl
set_option maxRecDepth 100000 in
theorem r_rl1E (gl : Gl) (g0 g1 : GS) (op : ByteArray → Int) (ff : Int → ByteArray) (i num : Int) (k : Nat) (cs : List Value) (ls : List Value) (m : Nat) (a0 n ln x : Int) (lb : ByteArray) (j a e : Int) : rlCall gl cs (HRl g0 g1 (rlO (.exit 0) i num k 0 0 (rlR1 cs ls m)) (rwO .ret j k slN a e (rwR1 cs a0 n ln x lb ls m)) op ff) num k =
 let z0 := List.all cs (af 8) && (List.all ls (af 8) && true)
 let z1 : Option Out := cond z0 (
 rlN (i) 210 (rlR1 cs ls m)) (
 none)
 cond (List.all cs (af 8) && true) (
 cond (g0 (rlV 0 num k) (rlR0 cs)) (
 cond z0 (
 cond (i == (↑k : Int)) (
 cond z0 (
 rlN 0 0 (rlR1 cs ls m)) (
 none)) (
 cond (bK (i) k) (
 cond (sameL cs cs) (
 cond ((symOf cs).okS (0 + i.toNat * 4 + 1)) (
 cond (bK (i) k) (
 cond (sameL cs cs) (
 cond ((symOf cs).okI .u8 (0 + i.toNat * 4)) (
 cond ((symOf cs).int .u8 (0 + i.toNat * 4) != 1) z1 (
 cond (op (tT cs i) == 22) z1 (
 cond (decide (0 ≤ op (tT cs i))) (
 cond z0 (
 cond (g1 (rwV 0 (ff (op (tT cs i))) num i k slN) (rwR1 cs (op (tT cs i)) 0 0 0 ⟨#[]⟩ ls m)) (
 cond z0 (
 cond z0 (
 rlN (a) (e) (rlR1 cs ls m)) (
 none)) (
 none)) (
 none)) (
 none)) (
 none)))) (
 none)) (
 none)) (
 none)) (
 none)) (
 none)) (
 none))) (
 none)) (
 none)) (
 none) := by kernel_rfl
set_option maxRecDepth 100000 in
theorem r_rl10 (gl : Gl) (g0 g1 : GS) (op : ByteArray → Int) (ff : Int → ByteArray) (i num : Int) (k : Nat) (cs : List Value) (ls : List Value) (m : Nat) (a0 n ln x : Int) (lb : ByteArray) (j : Int) : rlCall gl cs (HRl g0 g1 (rlO (.exit 0) i num k 0 0 (rlR1 cs ls m)) (rwO (.exit 2) j k slN 0 0 (rwR1 cs a0 n ln x lb ls m)) op ff) num k =
 let z0 := List.all cs (af 8) && (List.all ls (af 8) && true)
 let z1 : Option Out := cond z0 (
 rlN (i) 210 (rlR1 cs ls m)) (
 none)
 cond (List.all cs (af 8) && true) (
 cond (g0 (rlV 0 num k) (rlR0 cs)) (
 cond z0 (
 cond (i == (↑k : Int)) (
 cond z0 (
 rlN 0 0 (rlR1 cs ls m)) (
 none)) (
 cond (bK (i) k) (
 cond (sameL cs cs) (
 cond ((symOf cs).okS (0 + i.toNat * 4 + 1)) (
 cond (bK (i) k) (
 cond (sameL cs cs) (
 cond ((symOf cs).okI .u8 (0 + i.toNat * 4)) (
 cond ((symOf cs).int .u8 (0 + i.toNat * 4) != 1) z1 (
 cond (op (tT cs i) == 22) z1 (
 cond (decide (0 ≤ op (tT cs i))) (
 cond z0 (
 cond (g1 (rwV 0 (ff (op (tT cs i))) num i k slN) (rwR1 cs (op (tT cs i)) 0 0 0 ⟨#[]⟩ ls m)) (
 cond z0 (
 cond (decide (IntKind.i64.wrap (j + 1) < (↑k : Int))) (
 cond z0 (
 rlN (IntKind.i64.wrap (j + 1)) 210 (rlR1 cs ls m)) (
 none)) (
 qs [a0, n, ln, x] (
 cond (veq 7 (.string lb) (.string lb)) (
 cond z0 (
 rlN 0 0 (tL cs ls m (onC a0 0 0 0 n ln x lb))) (
 none)) (
 none)))) (
 none)) (
 none)) (
 none)) (
 none)))) (
 none)) (
 none)) (
 none)) (
 none)) (
 none)) (
 none))) (
 none)) (
 none)) (
 none) := by kernel_rfl
set_option maxRecDepth 100000 in
theorem r_rl11 (gl : Gl) (g0 g1 : GS) (op : ByteArray → Int) (ff : Int → ByteArray) (i num : Int) (k : Nat) (cs : List Value) (ls : List Value) (m : Nat) (a0 n ln x : Int) (lb : ByteArray) (j : Int) (q0 : Int) : rlCall gl cs (HRl g0 g1 (rlO (.exit 0) i num k 0 0 (rlR1 cs ls m)) (rwO (.exit 2) j k (slK0 1004 1) 0 0 (rwR1 cs a0 n ln x lb ls m ++ [rgRow (rgC [q0])])) op ff) num k =
 let z0 := List.all cs (af 8) && (List.all ls (af 8) && true)
 let z1 : Option Out := cond z0 (
 rlN (i) 210 (rlR1 cs ls m)) (
 none)
 cond (List.all cs (af 8) && true) (
 cond (g0 (rlV 0 num k) (rlR0 cs)) (
 cond z0 (
 cond (i == (↑k : Int)) (
 cond z0 (
 rlN 0 0 (rlR1 cs ls m)) (
 none)) (
 cond (bK (i) k) (
 cond (sameL cs cs) (
 cond ((symOf cs).okS (0 + i.toNat * 4 + 1)) (
 cond (bK (i) k) (
 cond (sameL cs cs) (
 cond ((symOf cs).okI .u8 (0 + i.toNat * 4)) (
 cond ((symOf cs).int .u8 (0 + i.toNat * 4) != 1) z1 (
 cond (op (tT cs i) == 22) z1 (
 cond (decide (0 ≤ op (tT cs i))) (
 cond z0 (
 cond (g1 (rwV 0 (ff (op (tT cs i))) num i k slN) (rwR1 cs (op (tT cs i)) 0 0 0 ⟨#[]⟩ ls m)) (
 cond z0 (
 cond (decide (IntKind.i64.wrap (j + 1) < (↑k : Int))) (
 cond z0 (
 rlN (IntKind.i64.wrap (j + 1)) 210 (rlR1 cs ls m)) (
 none)) (
 qs [a0, q0, n, ln, x] (
 cond (veq 7 (.string lb) (.string lb)) (
 cond z0 (
 rlN 0 0 (tL cs ls m (onC a0 (q0) 0 0 n ln x lb))) (
 none)) (
 none)))) (
 none)) (
 none)) (
 none)) (
 none)))) (
 none)) (
 none)) (
 none)) (
 none)) (
 none)) (
 none))) (
 none)) (
 none)) (
 none) := by kernel_rfl
set_option maxRecDepth 100000 in
theorem r_rl12 (gl : Gl) (g0 g1 : GS) (op : ByteArray → Int) (ff : Int → ByteArray) (i num : Int) (k : Nat) (cs : List Value) (ls : List Value) (m : Nat) (a0 n ln x : Int) (lb : ByteArray) (j : Int) (q0 q1 : Int) : rlCall gl cs (HRl g0 g1 (rlO (.exit 0) i num k 0 0 (rlR1 cs ls m)) (rwO (.exit 2) j k (slK0 1004 2) 0 0 (rwR1 cs a0 n ln x lb ls m ++ [rgRow (rgC [q0, q1])])) op ff) num k =
 let z0 := List.all cs (af 8) && (List.all ls (af 8) && true)
 let z1 : Option Out := cond z0 (
 rlN (i) 210 (rlR1 cs ls m)) (
 none)
 cond (List.all cs (af 8) && true) (
 cond (g0 (rlV 0 num k) (rlR0 cs)) (
 cond z0 (
 cond (i == (↑k : Int)) (
 cond z0 (
 rlN 0 0 (rlR1 cs ls m)) (
 none)) (
 cond (bK (i) k) (
 cond (sameL cs cs) (
 cond ((symOf cs).okS (0 + i.toNat * 4 + 1)) (
 cond (bK (i) k) (
 cond (sameL cs cs) (
 cond ((symOf cs).okI .u8 (0 + i.toNat * 4)) (
 cond ((symOf cs).int .u8 (0 + i.toNat * 4) != 1) z1 (
 cond (op (tT cs i) == 22) z1 (
 cond (decide (0 ≤ op (tT cs i))) (
 cond z0 (
 cond (g1 (rwV 0 (ff (op (tT cs i))) num i k slN) (rwR1 cs (op (tT cs i)) 0 0 0 ⟨#[]⟩ ls m)) (
 cond z0 (
 cond (decide (IntKind.i64.wrap (j + 1) < (↑k : Int))) (
 cond z0 (
 rlN (IntKind.i64.wrap (j + 1)) 210 (rlR1 cs ls m)) (
 none)) (
 qs [a0, q0, q1, n, ln, x] (
 cond (veq 7 (.string lb) (.string lb)) (
 cond z0 (
 rlN 0 0 (tL cs ls m (onC a0 (q0) (q1) 0 n ln x lb))) (
 none)) (
 none)))) (
 none)) (
 none)) (
 none)) (
 none)))) (
 none)) (
 none)) (
 none)) (
 none)) (
 none)) (
 none))) (
 none)) (
 none)) (
 none) := by kernel_rfl
set_option maxRecDepth 100000 in
theorem r_rl13 (gl : Gl) (g0 g1 : GS) (op : ByteArray → Int) (ff : Int → ByteArray) (i num : Int) (k : Nat) (cs : List Value) (ls : List Value) (m : Nat) (a0 n ln x : Int) (lb : ByteArray) (j : Int) (q0 q1 q2 : Int) : rlCall gl cs (HRl g0 g1 (rlO (.exit 0) i num k 0 0 (rlR1 cs ls m)) (rwO (.exit 2) j k (slK0 1004 3) 0 0 (rwR1 cs a0 n ln x lb ls m ++ [rgRow (rgC [q0, q1, q2])])) op ff) num k =
 let z0 := List.all cs (af 8) && (List.all ls (af 8) && true)
 let z1 : Option Out := cond z0 (
 rlN (i) 210 (rlR1 cs ls m)) (
 none)
 cond (List.all cs (af 8) && true) (
 cond (g0 (rlV 0 num k) (rlR0 cs)) (
 cond z0 (
 cond (i == (↑k : Int)) (
 cond z0 (
 rlN 0 0 (rlR1 cs ls m)) (
 none)) (
 cond (bK (i) k) (
 cond (sameL cs cs) (
 cond ((symOf cs).okS (0 + i.toNat * 4 + 1)) (
 cond (bK (i) k) (
 cond (sameL cs cs) (
 cond ((symOf cs).okI .u8 (0 + i.toNat * 4)) (
 cond ((symOf cs).int .u8 (0 + i.toNat * 4) != 1) z1 (
 cond (op (tT cs i) == 22) z1 (
 cond (decide (0 ≤ op (tT cs i))) (
 cond z0 (
 cond (g1 (rwV 0 (ff (op (tT cs i))) num i k slN) (rwR1 cs (op (tT cs i)) 0 0 0 ⟨#[]⟩ ls m)) (
 cond z0 (
 cond (decide (IntKind.i64.wrap (j + 1) < (↑k : Int))) (
 cond z0 (
 rlN (IntKind.i64.wrap (j + 1)) 210 (rlR1 cs ls m)) (
 none)) (
 qs [a0, q0, q1, q2, n, ln, x] (
 cond (veq 7 (.string lb) (.string lb)) (
 cond z0 (
 rlN 0 0 (tL cs ls m (onC a0 (q0) (q1) (q2) n ln x lb))) (
 none)) (
 none)))) (
 none)) (
 none)) (
 none)) (
 none)))) (
 none)) (
 none)) (
 none)) (
 none)) (
 none)) (
 none))) (
 none)) (
 none)) (
 none) := by kernel_rfl
end Go.Proofs.YtgohbcbdgakjeaaGreatDoor
