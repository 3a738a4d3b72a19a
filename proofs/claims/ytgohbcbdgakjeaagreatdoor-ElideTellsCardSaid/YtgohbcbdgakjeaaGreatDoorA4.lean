/- asm.Make answers what a text of at most 900000 bytes comes to, where the two error values of strconv and the forms stand as the program's text lays them. -/
import Derived.Test.YtgohbcbdgakjeaaGreatDoorA3
noncomputable section
noncomputable section
namespace Go.Proofs.YtgohbcbdgakjeaaGreatDoor
open Go.Proofs.YtgohbcbdgakjeaaGreatDoor.Ev Go.RowKit
def spotRow (x y : Int) : Option LObj := some (.row ⟨[.int .i64 x, .int .i64 y], 36, (0, 0), 0, false, false⟩)
def stRow (cs : List Value) : Option LObj := some (.row ⟨cs, 9, (0, 0), 0, false, false⟩)
def mkLive : List Nat := [3, 27, 5, 25, 26, 2, 4]
def mkOut : List Nat := [3, 5, 2, 4]
def mkV (n : Int) (k : Nat) : List Value := [pK 1000, .int .i64 n, pK 1001, slK0 1002 k, .int .i64 (k : Int), slN, .int .i64 0]
def mkSt0 (n : Int) (ss : List Value) (k : Nat) (es lb : MEs) (eo c : Nat) : LSt := (mkV n k, [spotRow 0 0, mkRow 1003 1004 slN, stRow ss, mpRow es eo, mpRow lb c])
def mkSt1 (n : Int) (ss : List Value) (k : Nat) (es lb : MEs) (eo c : Nat) (td : List Value) (m : Nat) : LSt := (mkV n k, [spotRow 0 0, mkRow 1003 1004 (slK0 1005 m), stRow ss, mpRow es eo, mpRow lb c, toldRow td])
def syM (a : List Value) (b : Nat) (cs : List Value) : Sy := fun i => cond (Nat.beq i 1002) (some (symOf a)) (cond (Nat.beq i b) (some (symOf cs)) none)
def tlN (g : GS) (a e : Int) : Hd := gH g (.normal, [.tuple #[slN, .int .i64 a, .int .i64 e]], [])
def tlK (g : GS) (cs : List Value) (k : Nat) : Hd := gH g (.normal, [.tuple #[slK0 1000 k, .int .i64 0, .int .i64 0]], [tokRow cs])
def liH (g : GS) (ix er : Int) (rows : List (Option LObj)) : Hd := gH g (.normal, [.tuple #[.int .i64 ix, .int .i64 er]], rows)
def HM1 (t : Hd) : Hs := hsOf [] [(29, t)] []
def HM2 (t l : Hd) : Hs := hsOf [] [(29, t), (30, l)] []
set_option maxRecDepth 100000 in
theorem r_mkE0 (gl : Gl) (g : GS) (a e : Int) (n : Int) (ss : List Value) (k : Nat) (es lb : MEs) (eo c : Nat) : roundK (syM ss 0 []) Tryz.prog gl exB (HM1 (tlN g a e)) 100 40 40 14 0 mkLive (mkSt0 n ss k es lb eo c) (rndK Tryz.prog 1005 mkLive mkOut) =
 let z0 := List.all ss (af 8) && (List.all es (fun e => af 8 e.fst && af 8 e.snd.fst) && (List.all lb (fun e => af 8 e.fst && af 8 e.snd.fst) && true))
 cond (decide (n < (↑k : Int))) (
 cond (decide (0 ≤ n) && (decide (n < (↑k : Int))) && (k.ble k)) (
 cond (sameL ss ss) (
 cond ((symOf ss).okS (0 + n.toNat * 1)) (
 cond (g [.string ((symOf ss).str (0 + n.toNat * 1))] []) (
 cond (e != 0) (
 cond z0 (
 some (.inr (.ret, ([(.pointer (some ⟨1000, 0, none⟩)), (.pointer (some ⟨1001, 0, none⟩)), (.slice none 0 0), (.int .i64 (e))], [some (.row ⟨[(.int .i64 (IntKind.i64.wrap (n + 1))), (.int .i64 (a))], 36, (0, 0), 0, false, false⟩), some (.row ⟨[(.map (some 1003)), (.map (some 1004)), (.slice none 0 0)], 52, (0, 0), 0, false, false⟩), some (.row ⟨ss, 9, (0, 0), 0, false, false⟩), some (.map (es) (eo)), some (.map (lb) (c))])))) (
 none)) (
 cond z0 (
 some (.inl ([(.pointer (some ⟨1000, 0, none⟩)), (.int .i64 (IntKind.i64.wrap (n + 1))), (.pointer (some ⟨1001, 0, none⟩)), (.slice (some ⟨1002, 0, none⟩) (k) (k)), (.int .i64 ((↑k : Int))), (.slice none 0 0), (.int .i64 0)], [some (.row ⟨[(.int .i64 0), (.int .i64 0)], 36, (0, 0), 0, false, false⟩), some (.row ⟨[(.map (some 1003)), (.map (some 1004)), (.slice none 0 0)], 52, (0, 0), 0, false, false⟩), some (.row ⟨ss, 9, (0, 0), 0, false, false⟩), some (.map (es) (eo)), some (.map (lb) (c))]))) (
 none))) (
 none)) (
 none)) (
 none)) (
 none)) (
 cond z0 (
 some (.inr (.exit 0, ([(.pointer (some ⟨1000, 0, none⟩)), (.pointer (some ⟨1001, 0, none⟩)), (.slice none 0 0), (.int .i64 0)], [some (.row ⟨[(.int .i64 0), (.int .i64 0)], 36, (0, 0), 0, false, false⟩), some (.row ⟨[(.map (some 1003)), (.map (some 1004)), (.slice none 0 0)], 52, (0, 0), 0, false, false⟩), some (.row ⟨ss, 9, (0, 0), 0, false, false⟩), some (.map (es) (eo)), some (.map (lb) (c))])))) (
 none)) := by kernel_rfl
set_option maxRecDepth 100000 in
theorem r_mkE1 (gl : Gl) (g : GS) (a e : Int) (n : Int) (ss : List Value) (k : Nat) (es lb : MEs) (eo c : Nat) (td : List Value) (m : Nat) : roundK (syM ss 0 []) Tryz.prog gl exB (HM1 (tlN g a e)) 100 40 40 14 0 mkLive (mkSt1 n ss k es lb eo c td m) (rndK Tryz.prog 1005 mkLive mkOut) =
 let z0 := List.all ss (af 8) && (List.all es (fun e => af 8 e.fst && af 8 e.snd.fst) && (List.all lb (fun e => af 8 e.fst && af 8 e.snd.fst) && (List.all td (af 8) && true)))
 cond (decide (n < (↑k : Int))) (
 cond (decide (0 ≤ n) && (decide (n < (↑k : Int))) && (k.ble k)) (
 cond (sameL ss ss) (
 cond ((symOf ss).okS (0 + n.toNat * 1)) (
 cond (g [.string ((symOf ss).str (0 + n.toNat * 1))] []) (
 cond (e != 0) (
 cond z0 (
 some (.inr (.ret, ([(.pointer (some ⟨1000, 0, none⟩)), (.pointer (some ⟨1001, 0, none⟩)), (.slice none 0 0), (.int .i64 (e))], [some (.row ⟨[(.int .i64 (IntKind.i64.wrap (n + 1))), (.int .i64 (a))], 36, (0, 0), 0, false, false⟩), some (.row ⟨[(.map (some 1003)), (.map (some 1004)), (.slice (some ⟨1005, 0, none⟩) (m) (m))], 52, (0, 0), 0, false, false⟩), some (.row ⟨ss, 9, (0, 0), 0, false, false⟩), some (.map (es) (eo)), some (.map (lb) (c)), some (.row ⟨td, 63, (0, 0), 8, false, false⟩)])))) (
 none)) (
 cond z0 (
 some (.inl ([(.pointer (some ⟨1000, 0, none⟩)), (.int .i64 (IntKind.i64.wrap (n + 1))), (.pointer (some ⟨1001, 0, none⟩)), (.slice (some ⟨1002, 0, none⟩) (k) (k)), (.int .i64 ((↑k : Int))), (.slice none 0 0), (.int .i64 0)], [some (.row ⟨[(.int .i64 0), (.int .i64 0)], 36, (0, 0), 0, false, false⟩), some (.row ⟨[(.map (some 1003)), (.map (some 1004)), (.slice (some ⟨1005, 0, none⟩) (m) (m))], 52, (0, 0), 0, false, false⟩), some (.row ⟨ss, 9, (0, 0), 0, false, false⟩), some (.map (es) (eo)), some (.map (lb) (c)), some (.row ⟨td, 63, (0, 0), 8, false, false⟩)]))) (
 none))) (
 none)) (
 none)) (
 none)) (
 none)) (
 cond z0 (
 some (.inr (.exit 0, ([(.pointer (some ⟨1000, 0, none⟩)), (.pointer (some ⟨1001, 0, none⟩)), (.slice none 0 0), (.int .i64 0)], [some (.row ⟨[(.int .i64 0), (.int .i64 0)], 36, (0, 0), 0, false, false⟩), some (.row ⟨[(.map (some 1003)), (.map (some 1004)), (.slice (some ⟨1005, 0, none⟩) (m) (m))], 52, (0, 0), 0, false, false⟩), some (.row ⟨ss, 9, (0, 0), 0, false, false⟩), some (.map (es) (eo)), some (.map (lb) (c)), some (.row ⟨td, 63, (0, 0), 8, false, false⟩)])))) (
 none)) := by kernel_rfl
set_option maxRecDepth 100000 in
theorem r_mkL0 (gl : Gl) (g g2 : GS) (ix er n : Int) (ss cs : List Value) (k j : Nat) (es lb lb' : MEs) (eo c c' : Nat) : roundK (syM ss 1005 cs) Tryz.prog gl exB (HM2 (tlK g cs j) (liH g2 ix er (liRows0 cs es lb' eo c'))) 100 40 40 14 0 mkLive (mkSt0 n ss k es lb eo c) (rndK Tryz.prog 1005 mkLive mkOut) =
 let z0 := List.all es (fun e => af 8 e.fst && af 8 e.snd.fst) && (List.all lb' (fun e => af 8 e.fst && af 8 e.snd.fst) && true)
 let z1 := List.all es (fun e => af 8 e.fst && af 8 e.snd.fst) && (List.all lb (fun e => af 8 e.fst && af 8 e.snd.fst) && true)
 let z2 := 0 + ix.toNat * 4 + 3
 let z3 := IntKind.i64.wrap (n + 1)
 cond (decide (n < (↑k : Int))) (
 cond (decide (0 ≤ n) && (decide (n < (↑k : Int))) && (k.ble k)) (
 cond (sameL ss ss) (
 cond ((symOf ss).okS (0 + n.toNat * 1)) (
 cond (g [.string ((symOf ss).str (0 + n.toNat * 1))] []) (
 cond (List.all cs (af 8) && true) (
 cond (List.all cs (af 8) && z1) (
 cond (g2 [.pointer (some ⟨1000, 0, none⟩), .slice (some ⟨1001, 0, none⟩) j j, .int .i64 z3] [some (.row ⟨[.map (some 1002), .map (some 1003), .slice none 0 0], 52, (0, 0), 0, false, false⟩), some (.row ⟨cs, 59, (0, 0), 4, false, false⟩), some (LObj.map es eo), some (LObj.map lb c)]) (
 cond (List.all cs (af 8) && z0) (
 cond (er != 0) (
 cond (decide (0 ≤ ix) && (decide (ix < (↑j : Int))) && (j.ble j)) (
 cond (sameL cs cs) (
 cond ((symOf cs).okI .i64 z2) (
 cond (sameL cs cs) (
 cond ((symOf cs).okI .i64 z2) (
 qs [(symOf cs).int .i64 z2] (
 cond (List.all ss (af 8) && z0) (
 some (.inr (.ret, ([(.pointer (some ⟨1000, 0, none⟩)), (.pointer (some ⟨1001, 0, none⟩)), (.slice none 0 0), (.int .i64 (er))], [some (.row ⟨[(.int .i64 z3), (.int .i64 ((symOf cs).int .i64 z2))], 36, (0, 0), 0, false, false⟩), some (.row ⟨[(.map (some 1003)), (.map (some 1004)), (.slice none 0 0)], 52, (0, 0), 0, false, false⟩), some (.row ⟨ss, 9, (0, 0), 0, false, false⟩), some (.map (es) (eo)), some (.map (lb') (c'))])))) (
 none))) (
 none)) (
 none)) (
 none)) (
 none)) (
 none)) (
 cond (List.all ss (af 8) && z0) (
 some (.inl ([(.pointer (some ⟨1000, 0, none⟩)), (.int .i64 z3), (.pointer (some ⟨1001, 0, none⟩)), (.slice (some ⟨1002, 0, none⟩) (k) (k)), (.int .i64 ((↑k : Int))), (.slice none 0 0), (.int .i64 0)], [some (.row ⟨[(.int .i64 0), (.int .i64 0)], 36, (0, 0), 0, false, false⟩), some (.row ⟨[(.map (some 1003)), (.map (some 1004)), (.slice none 0 0)], 52, (0, 0), 0, false, false⟩), some (.row ⟨ss, 9, (0, 0), 0, false, false⟩), some (.map (es) (eo)), some (.map (lb') (c'))]))) (
 none))) (
 none)) (
 none)) (
 none)) (
 none)) (
 none)) (
 none)) (
 none)) (
 none)) (
 cond (List.all ss (af 8) && z1) (
 some (.inr (.exit 0, ([(.pointer (some ⟨1000, 0, none⟩)), (.pointer (some ⟨1001, 0, none⟩)), (.slice none 0 0), (.int .i64 0)], [some (.row ⟨[(.int .i64 0), (.int .i64 0)], 36, (0, 0), 0, false, false⟩), some (.row ⟨[(.map (some 1003)), (.map (some 1004)), (.slice none 0 0)], 52, (0, 0), 0, false, false⟩), some (.row ⟨ss, 9, (0, 0), 0, false, false⟩), some (.map (es) (eo)), some (.map (lb) (c))])))) (
 none)) := by kernel_rfl
set_option maxRecDepth 100000 in
theorem r_mkA0 (gl : Gl) (g g2 : GS) (n : Int) (ss cs : List Value) (k j : Nat) (es lb lb' : MEs) (eo c c' : Nat) (tc : List Value) : roundK (syM ss 1005 cs) Tryz.prog gl exB (HM2 (tlK g cs j) (liH g2 0 0 (liRows1 cs es lb' eo c' tc 1))) 100 40 40 14 0 mkLive (mkSt0 n ss k es lb eo c) (rndK Tryz.prog 1005 mkLive mkOut) =
 let z0 := List.all es (fun e => af 8 e.fst && af 8 e.snd.fst) && (List.all lb' (fun e => af 8 e.fst && af 8 e.snd.fst) && (List.all tc (af 8) && true))
 let z1 := List.all es (fun e => af 8 e.fst && af 8 e.snd.fst) && (List.all lb (fun e => af 8 e.fst && af 8 e.snd.fst) && true)
 cond (decide (n < (↑k : Int))) (
 cond (decide (0 ≤ n) && (decide (n < (↑k : Int))) && (k.ble k)) (
 cond (sameL ss ss) (
 cond ((symOf ss).okS (0 + n.toNat * 1)) (
 cond (g [.string ((symOf ss).str (0 + n.toNat * 1))] []) (
 cond (List.all cs (af 8) && true) (
 cond (List.all cs (af 8) && z1) (
 cond (g2 [.pointer (some ⟨1000, 0, none⟩), .slice (some ⟨1001, 0, none⟩) j j, .int .i64 (IntKind.i64.wrap (n + 1))] [some (.row ⟨[.map (some 1002), .map (some 1003), .slice none 0 0], 52, (0, 0), 0, false, false⟩), some (.row ⟨cs, 59, (0, 0), 4, false, false⟩), some (LObj.map es eo), some (LObj.map lb c)]) (
 cond (List.all cs (af 8) && z0) (
 cond (List.all ss (af 8) && z0) (
 some (.inl ([(.pointer (some ⟨1000, 0, none⟩)), (.int .i64 (IntKind.i64.wrap (n + 1))), (.pointer (some ⟨1001, 0, none⟩)), (.slice (some ⟨1002, 0, none⟩) (k) (k)), (.int .i64 ((↑k : Int))), (.slice none 0 0), (.int .i64 0)], [some (.row ⟨[(.int .i64 0), (.int .i64 0)], 36, (0, 0), 0, false, false⟩), some (.row ⟨[(.map (some 1003)), (.map (some 1004)), (.slice (some ⟨1005, 0, none⟩) 1 1)], 52, (0, 0), 0, false, false⟩), some (.row ⟨ss, 9, (0, 0), 0, false, false⟩), some (.map (es) (eo)), some (.map (lb') (c')), some (.row ⟨tc, 63, (0, 0), 8, false, false⟩)]))) (
 none)) (
 none)) (
 none)) (
 none)) (
 none)) (
 none)) (
 none)) (
 none)) (
 none)) (
 cond (List.all ss (af 8) && z1) (
 some (.inr (.exit 0, ([(.pointer (some ⟨1000, 0, none⟩)), (.pointer (some ⟨1001, 0, none⟩)), (.slice none 0 0), (.int .i64 0)], [some (.row ⟨[(.int .i64 0), (.int .i64 0)], 36, (0, 0), 0, false, false⟩), some (.row ⟨[(.map (some 1003)), (.map (some 1004)), (.slice none 0 0)], 52, (0, 0), 0, false, false⟩), some (.row ⟨ss, 9, (0, 0), 0, false, false⟩), some (.map (es) (eo)), some (.map (lb) (c))])))) (
 none)) := by kernel_rfl
set_option maxRecDepth 100000 in
theorem r_mkL1 (gl : Gl) (g g2 : GS) (ix er n : Int) (ss cs : List Value) (k j : Nat) (es lb lb' : MEs) (eo c c' : Nat) (td : List Value) (m : Nat) : roundK (syM ss 1006 cs) Tryz.prog gl exB (HM2 (tlK g cs j) (liH g2 ix er (liRows1 cs es lb' eo c' td m))) 100 40 40 14 0 mkLive (mkSt1 n ss k es lb eo c td m) (rndK Tryz.prog 1005 mkLive mkOut) =
 let z0 := List.all es (fun e => af 8 e.fst && af 8 e.snd.fst) && (List.all lb' (fun e => af 8 e.fst && af 8 e.snd.fst) && (List.all td (af 8) && true))
 let z1 := List.all es (fun e => af 8 e.fst && af 8 e.snd.fst) && (List.all lb (fun e => af 8 e.fst && af 8 e.snd.fst) && (List.all td (af 8) && true))
 let z2 := 0 + ix.toNat * 4 + 3
 let z3 := IntKind.i64.wrap (n + 1)
 cond (decide (n < (↑k : Int))) (
 cond (decide (0 ≤ n) && (decide (n < (↑k : Int))) && (k.ble k)) (
 cond (sameL ss ss) (
 cond ((symOf ss).okS (0 + n.toNat * 1)) (
 cond (g [.string ((symOf ss).str (0 + n.toNat * 1))] []) (
 cond (List.all cs (af 8) && true) (
 cond (List.all cs (af 8) && z1) (
 cond (g2 [.pointer (some ⟨1000, 0, none⟩), .slice (some ⟨1001, 0, none⟩) j j, .int .i64 z3] [some (.row ⟨[.map (some 1002), .map (some 1003), .slice (some ⟨1004, 0, none⟩) m m], 52, (0, 0), 0, false, false⟩), some (.row ⟨cs, 59, (0, 0), 4, false, false⟩), some (LObj.map es eo), some (LObj.map lb c), some (.row ⟨td, 63, (0, 0), 8, false, false⟩)]) (
 cond (List.all cs (af 8) && z0) (
 cond (er != 0) (
 cond (decide (0 ≤ ix) && (decide (ix < (↑j : Int))) && (j.ble j)) (
 cond (sameL cs cs) (
 cond ((symOf cs).okI .i64 z2) (
 cond (sameL cs cs) (
 cond ((symOf cs).okI .i64 z2) (
 qs [(symOf cs).int .i64 z2] (
 cond (List.all ss (af 8) && z0) (
 some (.inr (.ret, ([(.pointer (some ⟨1000, 0, none⟩)), (.pointer (some ⟨1001, 0, none⟩)), (.slice none 0 0), (.int .i64 (er))], [some (.row ⟨[(.int .i64 z3), (.int .i64 ((symOf cs).int .i64 z2))], 36, (0, 0), 0, false, false⟩), some (.row ⟨[(.map (some 1003)), (.map (some 1004)), (.slice (some ⟨1005, 0, none⟩) (m) (m))], 52, (0, 0), 0, false, false⟩), some (.row ⟨ss, 9, (0, 0), 0, false, false⟩), some (.map (es) (eo)), some (.map (lb') (c')), some (.row ⟨td, 63, (0, 0), 8, false, false⟩)])))) (
 none))) (
 none)) (
 none)) (
 none)) (
 none)) (
 none)) (
 cond (List.all ss (af 8) && z0) (
 some (.inl ([(.pointer (some ⟨1000, 0, none⟩)), (.int .i64 z3), (.pointer (some ⟨1001, 0, none⟩)), (.slice (some ⟨1002, 0, none⟩) (k) (k)), (.int .i64 ((↑k : Int))), (.slice none 0 0), (.int .i64 0)], [some (.row ⟨[(.int .i64 0), (.int .i64 0)], 36, (0, 0), 0, false, false⟩), some (.row ⟨[(.map (some 1003)), (.map (some 1004)), (.slice (some ⟨1005, 0, none⟩) (m) (m))], 52, (0, 0), 0, false, false⟩), some (.row ⟨ss, 9, (0, 0), 0, false, false⟩), some (.map (es) (eo)), some (.map (lb') (c')), some (.row ⟨td, 63, (0, 0), 8, false, false⟩)]))) (
 none))) (
 none)) (
 none)) (
 none)) (
 none)) (
 none)) (
 none)) (
 none)) (
 none)) (
 cond (List.all ss (af 8) && z1) (
 some (.inr (.exit 0, ([(.pointer (some ⟨1000, 0, none⟩)), (.pointer (some ⟨1001, 0, none⟩)), (.slice none 0 0), (.int .i64 0)], [some (.row ⟨[(.int .i64 0), (.int .i64 0)], 36, (0, 0), 0, false, false⟩), some (.row ⟨[(.map (some 1003)), (.map (some 1004)), (.slice (some ⟨1005, 0, none⟩) (m) (m))], 52, (0, 0), 0, false, false⟩), some (.row ⟨ss, 9, (0, 0), 0, false, false⟩), some (.map (es) (eo)), some (.map (lb) (c)), some (.row ⟨td, 63, (0, 0), 8, false, false⟩)])))) (
 none)) := by kernel_rfl
set_option maxRecDepth 100000 in
theorem r_mkA1 (gl : Gl) (g g2 : GS) (n : Int) (ss cs : List Value) (k j : Nat) (es lb lb' : MEs) (eo c c' : Nat) (td td' : List Value) (m m' : Nat) : roundK (syM ss 1006 cs) Tryz.prog gl exB (HM2 (tlK g cs j) (liH g2 0 0 [mkRow 1002 1003 (slK0 1005 m'), tokRow cs, mpRow es eo, mpRow lb' c', none, toldRow td'])) 100 40 40 14 0 mkLive (mkSt1 n ss k es lb eo c td m) (rndK Tryz.prog 1005 mkLive mkOut) =
 let z0 := List.all es (fun e => af 8 e.fst && af 8 e.snd.fst) && (List.all lb' (fun e => af 8 e.fst && af 8 e.snd.fst) && (List.all td' (af 8) && true))
 let z1 := List.all es (fun e => af 8 e.fst && af 8 e.snd.fst) && (List.all lb (fun e => af 8 e.fst && af 8 e.snd.fst) && (List.all td (af 8) && true))
 cond (decide (n < (↑k : Int))) (
 cond (decide (0 ≤ n) && (decide (n < (↑k : Int))) && (k.ble k)) (
 cond (sameL ss ss) (
 cond ((symOf ss).okS (0 + n.toNat * 1)) (
 cond (g [.string ((symOf ss).str (0 + n.toNat * 1))] []) (
 cond (List.all cs (af 8) && true) (
 cond (List.all cs (af 8) && z1) (
 cond (g2 [.pointer (some ⟨1000, 0, none⟩), .slice (some ⟨1001, 0, none⟩) j j, .int .i64 (IntKind.i64.wrap (n + 1))] [some (.row ⟨[.map (some 1002), .map (some 1003), .slice (some ⟨1004, 0, none⟩) m m], 52, (0, 0), 0, false, false⟩), some (.row ⟨cs, 59, (0, 0), 4, false, false⟩), some (LObj.map es eo), some (LObj.map lb c), some (.row ⟨td, 63, (0, 0), 8, false, false⟩)]) (
 cond (List.all cs (af 8) && z0) (
 cond (List.all ss (af 8) && z0) (
 some (.inl ([(.pointer (some ⟨1000, 0, none⟩)), (.int .i64 (IntKind.i64.wrap (n + 1))), (.pointer (some ⟨1001, 0, none⟩)), (.slice (some ⟨1002, 0, none⟩) (k) (k)), (.int .i64 ((↑k : Int))), (.slice none 0 0), (.int .i64 0)], [some (.row ⟨[(.int .i64 0), (.int .i64 0)], 36, (0, 0), 0, false, false⟩), some (.row ⟨[(.map (some 1003)), (.map (some 1004)), (.slice (some ⟨1005, 0, none⟩) (m') (m'))], 52, (0, 0), 0, false, false⟩), some (.row ⟨ss, 9, (0, 0), 0, false, false⟩), some (.map (es) (eo)), some (.map (lb') (c')), some (.row ⟨td', 63, (0, 0), 8, false, false⟩)]))) (
 none)) (
 none)) (
 none)) (
 none)) (
 none)) (
 none)) (
 none)) (
 none)) (
 none)) (
 cond (List.all ss (af 8) && z1) (
 some (.inr (.exit 0, ([(.pointer (some ⟨1000, 0, none⟩)), (.pointer (some ⟨1001, 0, none⟩)), (.slice none 0 0), (.int .i64 0)], [some (.row ⟨[(.int .i64 0), (.int .i64 0)], 36, (0, 0), 0, false, false⟩), some (.row ⟨[(.map (some 1003)), (.map (some 1004)), (.slice (some ⟨1005, 0, none⟩) (m) (m))], 52, (0, 0), 0, false, false⟩), some (.row ⟨ss, 9, (0, 0), 0, false, false⟩), some (.map (es) (eo)), some (.map (lb) (c)), some (.row ⟨td, 63, (0, 0), 8, false, false⟩)])))) (
 none)) := by kernel_rfl
end Go.Proofs.YtgohbcbdgakjeaaGreatDoor
noncomputable section
namespace Go.Proofs.YtgohbcbdgakjeaaGreatDoor
open Go.Proofs.YtgohbcbdgakjeaaGreatDoor.Ev Go.RowKit
def m2Live : List Nat := [3, 70, 13, 5, 68, 69, 2, 4]
def m2Out : List Nat := [3, 13, 2, 4]
def wdRow (cs : List Value) : Option LObj := some (.row ⟨cs, 26, (0, 0), 1, false, false⟩)
def m2V (i : Int) (o : Value) (m : Nat) : List Value := [pK 1000, .int .i64 i, o, pK 1001, slK0 1002 m, .int .i64 (m : Int), slN, .int .i64 0]
def m2R (es lb : MEs) (eo c : Nat) (td : List Value) (m : Nat) : List (Option LObj) := [spotRow 0 0, mkRow 1003 1004 (slK0 1002 m), toldRow td, mpRow es eo, mpRow lb c]
def m2St0 (i : Int) (es lb : MEs) (eo c : Nat) (td : List Value) (m : Nat) : LSt := (m2V i slN m, m2R es lb eo c td m)
def m2St1 (i : Int) (es lb : MEs) (eo c : Nat) (td : List Value) (m : Nat) (ws : List Value) (n : Nat) : LSt := (m2V i (slK0 1005 n) m, m2R es lb eo c td m ++ [wdRow ws])
def HPt (pw pe : C5 Int) : Hs := hsOf [(31, afCd tt5 fun op a b c n => .tuple #[.int .u32 (pw op a b c n), .int .i64 (pe op a b c n)])] [] []
set_option maxRecDepth 100000 in
theorem r_m20 (gl : Gl) (pw pe : C5 Int) (i : Int) (es lb : MEs) (eo c : Nat) (td : List Value) (m : Nat) : roundK (syL 1002 td) Tryz.prog gl exB (HPt pw pe) 100 40 40 14 1 m2Live (m2St0 i es lb eo c td m) (rndK Tryz.prog 1005 m2Live m2Out) =
 let z3 := List.all td (af 8) && (List.all es (fun e => af 8 e.fst && af 8 e.snd.fst) && (List.all lb (fun e => af 8 e.fst && af 8 e.snd.fst) && true))
 let z4 := (symOf td).str (0 + i.toNat * 8 + 7)
 let z5 := (symOf td).int .i64 (0 + i.toNat * 8 + 1)
 let z6 := (symOf td).int .i64 (0 + i.toNat * 8 + 2)
 let z7 := (symOf td).int .i64 (0 + i.toNat * 8 + 3)
 let z10 := IntKind.i64.wrap (IntKind.i64.wrap (mapI lb z4 - i) - 1)
 let z11 := (symOf td).int .i64 (0 + i.toNat * 8 + 4)
 let z12 := 0 + i.toNat * 8 + (1 + 1 + 1 + 1 + 1 + 1)
 let z13 := (symOf td).int .i64 (0 + i.toNat * 8 + 5)
 let z14 := (symOf td).int .i64 (0 + i.toNat * 8 + 6)
 let z15 := 0 + i.toNat * 8 + 0
 let z8 := (symOf td).int .u8 z15
 let z9 := decide (0 ≤ (symOf td).int .u8 z15) && true
 let z16 := 0 + i.toNat * 8 + (1 + 1 + 1 + 1 + 1)
 let z1 : Option (LSt ⊕ Out) := cond (veq 8 (.string z4) (.string z4)) (
 qs [(symOf td).int .i64 z16, (symOf td).int .i64 z12] (
 cond z3 (
 some (.inr (.ret, ([(.pointer (some ⟨1000, 0, none⟩)), (.slice none 0 0), (.slice none 0 0), (.int .i64 212)], [some (.row ⟨[(.int .i64 z13), (.int .i64 z14)], 36, (0, 0), 0, false, false⟩), some (.row ⟨[(.map (some 1003)), (.map (some 1004)), (.slice (some ⟨1002, 0, none⟩) (m) (m))], 52, (0, 0), 0, false, false⟩), some (.row ⟨td, 63, (0, 0), 8, false, false⟩), some (.map (es) (eo)), some (.map (lb) (c))])))) (
 none))) (
 none)
 let z2 : Option (LSt ⊕ Out) := qs [(symOf td).int .i64 z16, (symOf td).int .i64 z12] (
 cond z3 (
 some (.inr (.ret, ([(.pointer (some ⟨1000, 0, none⟩)), (.slice none 0 0), (.slice none 0 0), (.int .i64 5)], [some (.row ⟨[(.int .i64 z13), (.int .i64 z14)], 36, (0, 0), 0, false, false⟩), some (.row ⟨[(.map (some 1003)), (.map (some 1004)), (.slice (some ⟨1002, 0, none⟩) (m) (m))], 52, (0, 0), 0, false, false⟩), some (.row ⟨td, 63, (0, 0), 8, false, false⟩), some (.map (es) (eo)), some (.map (lb) (c))])))) (
 none))
 let z0 : Option (LSt ⊕ Out) := cond (veq 8 (.string z4) (.string z4)) (
 cond z9 (
 cond (pe z8 z5 z6 z7 z10 != 0) z2 (
 cond z3 (
 some (.inl ([(.pointer (some ⟨1000, 0, none⟩)), (.int .i64 (IntKind.i64.wrap (i + 1))), (.slice (some ⟨1005, 0, none⟩) 1 1), (.pointer (some ⟨1001, 0, none⟩)), (.slice (some ⟨1002, 0, none⟩) (m) (m)), (.int .i64 ((↑m : Int))), (.slice none 0 0), (.int .i64 0)], [some (.row ⟨[(.int .i64 0), (.int .i64 0)], 36, (0, 0), 0, false, false⟩), some (.row ⟨[(.map (some 1003)), (.map (some 1004)), (.slice (some ⟨1002, 0, none⟩) (m) (m))], 52, (0, 0), 0, false, false⟩), some (.row ⟨td, 63, (0, 0), 8, false, false⟩), some (.map (es) (eo)), some (.map (lb) (c)), some (.row ⟨[(.int .u32 (pw z8 z5 z6 z7 z10))], 26, (0, 0), 1, false, false⟩)]))) (
 none))) (
 none)) (
 none)
 cond (decide (i < (↑m : Int))) (
 cond (decide (0 ≤ i) && (decide (i < (↑m : Int))) && (m.ble m)) (
 cond (sameL td td) (
 cond ((symOf td).okI .u8 z15 && ((symOf td).okI .i64 (0 + i.toNat * 8 + 1) && ((symOf td).okI .i64 (0 + i.toNat * 8 + 2) && ((symOf td).okI .i64 (0 + i.toNat * 8 + 3) && ((symOf td).okI .i64 (0 + i.toNat * 8 + 4) && true)))) && ((symOf td).okI .i64 (0 + i.toNat * 8 + 5) && ((symOf td).okI .i64 (0 + i.toNat * 8 + 6) && true) && ((symOf td).okS (0 + i.toNat * 8 + 7) && true))) (
 cond (z4.toList == (⟨#[]⟩ : ByteArray).toList) (
 cond z9 (
 cond (pe z8 z5 z6 z7 z11 != 0) z2 (
 cond z3 (
 some (.inl ([(.pointer (some ⟨1000, 0, none⟩)), (.int .i64 (IntKind.i64.wrap (i + 1))), (.slice (some ⟨1005, 0, none⟩) 1 1), (.pointer (some ⟨1001, 0, none⟩)), (.slice (some ⟨1002, 0, none⟩) (m) (m)), (.int .i64 ((↑m : Int))), (.slice none 0 0), (.int .i64 0)], [some (.row ⟨[(.int .i64 0), (.int .i64 0)], 36, (0, 0), 0, false, false⟩), some (.row ⟨[(.map (some 1003)), (.map (some 1004)), (.slice (some ⟨1002, 0, none⟩) (m) (m))], 52, (0, 0), 0, false, false⟩), some (.row ⟨td, 63, (0, 0), 8, false, false⟩), some (.map (es) (eo)), some (.map (lb) (c)), some (.row ⟨[(.int .u32 (pw z8 z5 z6 z7 z11))], 26, (0, 0), 1, false, false⟩)]))) (
 none))) (
 none)) (
 cond (mapOk .i64 lb) (
 cond (mapHas lb z4) (
 cond (mapOk .i64 lb) (
 cond (mapHas lb z4) (
 cond (veq 8 (.tuple #[.int .i64 (mapI lb z4), .bool true]) (.tuple #[.int .i64 (mapI lb z4), .bool true])) z0 (
 none)) (
 cond (veq 8 (.tuple #[.int .i64 0, .bool false]) (.tuple #[.int .i64 (mapI lb z4), .bool true])) z0 (
 none))) (
 none)) (
 cond (mapOk .i64 lb) (
 cond (mapHas lb z4) (
 cond (veq 8 (.tuple #[.int .i64 (mapI lb z4), .bool true]) (.tuple #[.int .i64 0, .bool false])) z1 (
 none)) z1) (
 none))) (
 none))) (
 none)) (
 none)) (
 none)) (
 cond z3 (
 some (.inr (.exit 2, ([(.pointer (some ⟨1000, 0, none⟩)), (.slice none 0 0), (.slice none 0 0), (.int .i64 0)], [some (.row ⟨[(.int .i64 0), (.int .i64 0)], 36, (0, 0), 0, false, false⟩), some (.row ⟨[(.map (some 1003)), (.map (some 1004)), (.slice (some ⟨1002, 0, none⟩) (m) (m))], 52, (0, 0), 0, false, false⟩), some (.row ⟨td, 63, (0, 0), 8, false, false⟩), some (.map (es) (eo)), some (.map (lb) (c))])))) (
 none)) := by kernel_rfl
set_option maxRecDepth 100000 in
theorem r_m21 (gl : Gl) (pw pe : C5 Int) (i : Int) (es lb : MEs) (eo c : Nat) (td : List Value) (m : Nat) (ws : List Value) (n : Nat) : roundK (syL 1002 td) Tryz.prog gl exB (HPt pw pe) 100 40 40 14 1 m2Live (m2St1 i es lb eo c td m ws n) (rndK Tryz.prog 1005 m2Live m2Out) =
 let z3 := (symOf td).str (0 + i.toNat * 8 + 7)
 let z4 := List.all td (af 8) && (List.all es (fun e => af 8 e.fst && af 8 e.snd.fst) && (List.all lb (fun e => af 8 e.fst && af 8 e.snd.fst) && (List.all ws (af 8) && true)))
 let z7 := (symOf td).int .i64 (0 + i.toNat * 8 + 1)
 let z8 := (symOf td).int .i64 (0 + i.toNat * 8 + 2)
 let z9 := (symOf td).int .i64 (0 + i.toNat * 8 + 3)
 let z11 := ((n + 1) * 4).ble 140737488355328 && ((n + 1).ble 1099511627776)
 let z13 := IntKind.i64.wrap (IntKind.i64.wrap (mapI lb z3 - i) - 1)
 let z14 := (symOf td).int .i64 (0 + i.toNat * 8 + 4)
 let z15 := 0 + i.toNat * 8 + (1 + 1 + 1 + 1 + 1 + 1)
 let z16 := (symOf td).int .i64 (0 + i.toNat * 8 + 5)
 let z17 := (symOf td).int .i64 (0 + i.toNat * 8 + 6)
 let z18 := 0 + i.toNat * 8 + 0
 let z10 := (symOf td).int .u8 z18
 let z5 := ws ++ [(.int .u32 (pw z10 z7 z8 z9 z13))]
 let z6 := ws ++ [(.int .u32 (pw z10 z7 z8 z9 z14))]
 let z12 := decide (0 ≤ (symOf td).int .u8 z18) && true
 let z19 := 0 + i.toNat * 8 + (1 + 1 + 1 + 1 + 1)
 let z1 : Option (LSt ⊕ Out) := cond (veq 8 (.string z3) (.string z3)) (
 qs [(symOf td).int .i64 z19, (symOf td).int .i64 z15] (
 cond z4 (
 some (.inr (.ret, ([(.pointer (some ⟨1000, 0, none⟩)), (.slice (some ⟨1005, 0, none⟩) (n) (n)), (.slice none 0 0), (.int .i64 212)], [some (.row ⟨[(.int .i64 z16), (.int .i64 z17)], 36, (0, 0), 0, false, false⟩), some (.row ⟨[(.map (some 1003)), (.map (some 1004)), (.slice (some ⟨1002, 0, none⟩) (m) (m))], 52, (0, 0), 0, false, false⟩), some (.row ⟨td, 63, (0, 0), 8, false, false⟩), some (.map (es) (eo)), some (.map (lb) (c)), some (.row ⟨ws, 26, (0, 0), 1, false, false⟩)])))) (
 none))) (
 none)
 let z2 : Option (LSt ⊕ Out) := qs [(symOf td).int .i64 z19, (symOf td).int .i64 z15] (
 cond z4 (
 some (.inr (.ret, ([(.pointer (some ⟨1000, 0, none⟩)), (.slice (some ⟨1005, 0, none⟩) (n) (n)), (.slice none 0 0), (.int .i64 5)], [some (.row ⟨[(.int .i64 z16), (.int .i64 z17)], 36, (0, 0), 0, false, false⟩), some (.row ⟨[(.map (some 1003)), (.map (some 1004)), (.slice (some ⟨1002, 0, none⟩) (m) (m))], 52, (0, 0), 0, false, false⟩), some (.row ⟨td, 63, (0, 0), 8, false, false⟩), some (.map (es) (eo)), some (.map (lb) (c)), some (.row ⟨ws, 26, (0, 0), 1, false, false⟩)])))) (
 none))
 let z0 : Option (LSt ⊕ Out) := cond (veq 8 (.string z3) (.string z3)) (
 cond z12 (
 cond (pe z10 z7 z8 z9 z13 != 0) z2 (
 cond (n.ble n) (
 cond z11 (
 cond ((n * 1).beq ws.length) (
 cond (List.all td (af 8) && (List.all es (fun e => af 8 e.fst && af 8 e.snd.fst) && (List.all lb (fun e => af 8 e.fst && af 8 e.snd.fst) && (List.all z5 (af 8) && true)))) (
 some (.inl ([(.pointer (some ⟨1000, 0, none⟩)), (.int .i64 (IntKind.i64.wrap (i + 1))), (.slice (some ⟨1005, 0, none⟩) (n + 1) (n + 1)), (.pointer (some ⟨1001, 0, none⟩)), (.slice (some ⟨1002, 0, none⟩) (m) (m)), (.int .i64 ((↑m : Int))), (.slice none 0 0), (.int .i64 0)], [some (.row ⟨[(.int .i64 0), (.int .i64 0)], 36, (0, 0), 0, false, false⟩), some (.row ⟨[(.map (some 1003)), (.map (some 1004)), (.slice (some ⟨1002, 0, none⟩) (m) (m))], 52, (0, 0), 0, false, false⟩), some (.row ⟨td, 63, (0, 0), 8, false, false⟩), some (.map (es) (eo)), some (.map (lb) (c)), some (.row ⟨z5, 26, (0, 0), 1, false, false⟩)]))) (
 none)) (
 none)) (
 none)) (
 none))) (
 none)) (
 none)
 cond (decide (i < (↑m : Int))) (
 cond (decide (0 ≤ i) && (decide (i < (↑m : Int))) && (m.ble m)) (
 cond (sameL td td) (
 cond ((symOf td).okI .u8 z18 && ((symOf td).okI .i64 (0 + i.toNat * 8 + 1) && ((symOf td).okI .i64 (0 + i.toNat * 8 + 2) && ((symOf td).okI .i64 (0 + i.toNat * 8 + 3) && ((symOf td).okI .i64 (0 + i.toNat * 8 + 4) && true)))) && ((symOf td).okI .i64 (0 + i.toNat * 8 + 5) && ((symOf td).okI .i64 (0 + i.toNat * 8 + 6) && true) && ((symOf td).okS (0 + i.toNat * 8 + 7) && true))) (
 cond (z3.toList == (⟨#[]⟩ : ByteArray).toList) (
 cond z12 (
 cond (pe z10 z7 z8 z9 z14 != 0) z2 (
 cond (n.ble n) (
 cond z11 (
 cond ((n * 1).beq ws.length) (
 cond (List.all td (af 8) && (List.all es (fun e => af 8 e.fst && af 8 e.snd.fst) && (List.all lb (fun e => af 8 e.fst && af 8 e.snd.fst) && (List.all z6 (af 8) && true)))) (
 some (.inl ([(.pointer (some ⟨1000, 0, none⟩)), (.int .i64 (IntKind.i64.wrap (i + 1))), (.slice (some ⟨1005, 0, none⟩) (n + 1) (n + 1)), (.pointer (some ⟨1001, 0, none⟩)), (.slice (some ⟨1002, 0, none⟩) (m) (m)), (.int .i64 ((↑m : Int))), (.slice none 0 0), (.int .i64 0)], [some (.row ⟨[(.int .i64 0), (.int .i64 0)], 36, (0, 0), 0, false, false⟩), some (.row ⟨[(.map (some 1003)), (.map (some 1004)), (.slice (some ⟨1002, 0, none⟩) (m) (m))], 52, (0, 0), 0, false, false⟩), some (.row ⟨td, 63, (0, 0), 8, false, false⟩), some (.map (es) (eo)), some (.map (lb) (c)), some (.row ⟨z6, 26, (0, 0), 1, false, false⟩)]))) (
 none)) (
 none)) (
 none)) (
 none))) (
 none)) (
 cond (mapOk .i64 lb) (
 cond (mapHas lb z3) (
 cond (mapOk .i64 lb) (
 cond (mapHas lb z3) (
 cond (veq 8 (.tuple #[.int .i64 (mapI lb z3), .bool true]) (.tuple #[.int .i64 (mapI lb z3), .bool true])) z0 (
 none)) (
 cond (veq 8 (.tuple #[.int .i64 0, .bool false]) (.tuple #[.int .i64 (mapI lb z3), .bool true])) z0 (
 none))) (
 none)) (
 cond (mapOk .i64 lb) (
 cond (mapHas lb z3) (
 cond (veq 8 (.tuple #[.int .i64 (mapI lb z3), .bool true]) (.tuple #[.int .i64 0, .bool false])) z1 (
 none)) z1) (
 none))) (
 none))) (
 none)) (
 none)) (
 none)) (
 cond z4 (
 some (.inr (.exit 2, ([(.pointer (some ⟨1000, 0, none⟩)), (.slice (some ⟨1005, 0, none⟩) (n) (n)), (.slice none 0 0), (.int .i64 0)], [some (.row ⟨[(.int .i64 0), (.int .i64 0)], 36, (0, 0), 0, false, false⟩), some (.row ⟨[(.map (some 1003)), (.map (some 1004)), (.slice (some ⟨1002, 0, none⟩) (m) (m))], 52, (0, 0), 0, false, false⟩), some (.row ⟨td, 63, (0, 0), 8, false, false⟩), some (.map (es) (eo)), some (.map (lb) (c)), some (.row ⟨ws, 26, (0, 0), 1, false, false⟩)])))) (
 none)) := by kernel_rfl
end Go.Proofs.YtgohbcbdgakjeaaGreatDoor
noncomputable section
namespace Go.Proofs.YtgohbcbdgakjeaaGreatDoor
open Go.Proofs.YtgohbcbdgakjeaaGreatDoor.Ev Go.RowKit
structure MkS where
 lb : Lb
 td : List Told
 er : Option (Int × Int)
def lnTok (s : ByteArray) : List Tok × Int × Int := cond (decide ((s.size : Int) > 200)) ([], 0, 3) (lineC s)
def lnStep (s : ByteArray) (num : Int) (lb : Lb) (td : List Told) : MkS :=
 if (lnTok s).2.2 ≠ 0 then ⟨lb, td, some (lnTok s).2⟩ else
 if (lnTok s).1 = [] then ⟨lb, td, none⟩ else
 match liEnd (lnTok s).1 num td (lbGo (lnTok s).1 td.length ((lnTok s).1.length + 1) 0 lb) with
 | .inr _ => ⟨(lbGo (lnTok s).1 td.length ((lnTok s).1.length + 1) 0 lb).2.1, td, none⟩
 | .inl (.inl x) => ⟨(lbGo (lnTok s).1 td.length ((lnTok s).1.length + 1) 0 lb).2.1, td, some ((tk (lnTok s).1 x.1.toNat).at_, x.2)⟩
 | .inl (.inr t) => ⟨(lbGo (lnTok s).1 td.length ((lnTok s).1.length + 1) 0 lb).2.1, td ++ [t], none⟩
def mkGo : List ByteArray → Nat → Lb → List Told → Lb × List Told × Option (Int × Int × Int)
 | [], _, lb, td => (lb, td, none)
 | s :: ss, n, lb, td => match lnStep s ((n + 1 : Nat) : Int) lb td with
  | ⟨lb', td', some x⟩ => (lb', td', some (((n + 1 : Nat) : Int), x))
  | ⟨lb', td', none⟩ => mkGo ss (n + 1) lb' td'
theorem wantOne_bd {l : List Tok} {num w : Int} {j r : Nat} {t : Told} {k : Nat → Told → LiR} (hl : 1 ≤ l.length) (hk : ∀ r t x, k r t = .inl x → j < l.length → 0 ≤ x.1 ∧ x.1 < (l.length : Int) ∧ x.2 ≠ 0) : ∀ x, wantOne l num w j r t k = .inl x → 0 ≤ x.1 ∧ x.1 < (l.length : Int) ∧ x.2 ≠ 0 := by
 intro x h
 unfold wantOne at h
 by_cases hj : l.length ≤ j
 ·rw [decide_eq_true hj, cond_true] at h
  cases h
  exact ⟨by simp only; omega, by simp only; omega, by simp⟩
 rw [decide_eq_false hj, cond_false] at h
 have fin : ∀ x, (Sum.inl ((j : Int), 210) : LiR) = .inl x → 0 ≤ x.1 ∧ x.1 < (l.length : Int) ∧ x.2 ≠ 0 := fun x h => by
  cases h
  exact ⟨by simp only; omega, by simp only; omega, by simp⟩
 cases h1 : decide (w = 0) with
 | true =>
  rw [h1, cond_true] at h
  cases h2 : decide ((tk l j).kind = 2) with
  | true => rw [h2, cond_true] at h; exact hk _ _ x h (by omega)
  | false => rw [h2, cond_false] at h; exact fin x h
 | false =>
  rw [h1, cond_false] at h
  cases h2 : decide ((tk l j).kind = 3) with
  | true => rw [h2, cond_true] at h; exact hk _ _ x h (by omega)
  | false =>
   rw [h2, cond_false] at h
   cases h3 : decide (w = 2) && decide ((tk l j).kind = 1) with
   | true => rw [h3, cond_true] at h; exact hk _ _ x h (by omega)
   | false => rw [h3, cond_false] at h; exact fin x h
theorem mnI_bd {j k : Nat} (hk : 1 ≤ k) : 0 ≤ mnI j k ∧ mnI j k < (k : Int) := by
 unfold mnI
 split <;> omega
theorem wantGo_bd {l : List Tok} {num : Int} (hl : 1 ≤ l.length) : ∀ (ws : List Int) (b : Bool) (i r : Nat) (t : Told) (x : Int × Int), wantGo l num ws b i r t = .inl x → 0 ≤ x.1 ∧ x.1 < (l.length : Int) ∧ x.2 ≠ 0
 | [], b, i, r, t, x, h => by
  rw [wantGo] at h
  by_cases hj : l.length ≤ i + 1
  ·rw [decide_eq_true hj] at h; cases h
  ·rw [decide_eq_false hj] at h
   cases h
   exact ⟨by simp only; omega, by simp only; omega, by simp⟩
 | w :: ws, true, i, r, t, x, h => by
  rw [wantGo] at h
  exact wantOne_bd hl (fun r t x h _ => wantGo_bd hl ws false (i + 1) r t x h) x h
 | w :: ws, false, i, r, t, x, h => by
  rw [wantGo] at h
  obtain ⟨m0, m1⟩ := mnI_bd (j := i + 1) hl
  by_cases hj : l.length ≤ i + 1
  ·rw [decide_eq_true hj] at h
   cases h
   exact ⟨m0, m1, by simp⟩
  rw [decide_eq_false hj, cond_false] at h
  cases h2 : decide ((tk l (i + 1)).kind = 4) with
  | true =>
   rw [h2, cond_true] at h
   exact wantOne_bd hl (fun r t x h _ => wantGo_bd hl ws false (i + 1 + 1) r t x h) x h
  | false =>
   rw [h2] at h
   cases h
   exact ⟨m0, m1, by simp⟩
theorem liEnd_bd {l : List Tok} {num : Int} {td : List Told} {r : Nat × Lb × Bool} (hl : 1 ≤ l.length) (hr : r.1 ≤ l.length) (hr2 : r.2.2 = true → r.1 < l.length) {x : Int × Int} (h : liEnd l num td r = .inl (.inl x)) : 0 ≤ x.1 ∧ x.1 < (l.length : Int) ∧ x.2 ≠ 0 := by
 unfold liEnd at h
 cases h1 : r.2.2 with
 | true =>
  rw [h1, cond_true] at h
  have := hr2 h1
  cases h
  exact ⟨by simp only; omega, by simp only; omega, by simp⟩
 | false =>
  rw [h1, cond_false] at h
  by_cases h2 : r.1 = l.length
  ·rw [decide_eq_true h2] at h; cases h
  rw [decide_eq_false h2, cond_false] at h
  have h : liRes l num opsE (wantsOf (mapI opsE (tk l r.1).text)) td.length r.1 = .inl x := Sum.inl.inj h
  unfold liRes at h
  have fin : ∀ (e : Int), e ≠ 0 → ∀ x, (Sum.inl ((r.1 : Int), e) : LiR) = .inl x → 0 ≤ x.1 ∧ x.1 < (l.length : Int) ∧ x.2 ≠ 0 := fun e he x h => by
   cases h
   exact ⟨by simp only; omega, by simp only; omega, he⟩
  cases h3 : mapHas opsE (tk l r.1).text with
  | false => rw [h3, cond_false] at h; exact fin _ (by decide) x h
  | true =>
   rw [h3, cond_true] at h
   cases h4 : decide ((tk l r.1).kind = 1) with
   | false => rw [h4, cond_false] at h; exact fin _ (by decide) x h
   | true =>
    rw [h4, cond_true] at h
    cases h5 : decide (td.length = 1024) with
    | true => rw [h5, cond_true] at h; exact fin _ (by decide) x h
    | false => rw [h5, cond_false] at h; exact wantGo_bd hl _ _ _ _ _ x h
theorem lbGo_tw {l : List Tok} {n : Int} : ∀ (f i : Nat) (lb : Lb), i ≤ l.length → (lbGo l n f i lb).2.2 = true → (lbGo l n f i lb).1 < l.length
 | 0, i, lb, h, h2 => by cases h2
 | f + 1, i, lb, h, h2 => by
  rw [lbGo] at h2 ⊢
  cases h1 : lbIs l i with
  | false => rw [h1] at h2; cases h2
  | true =>
   have h3 := lbIs_lt h1
   rw [h1, cond_true] at h2
   rw [cond_true]
   cases h4 : lbHas lb (tk l i).text with
   | true => show i < l.length; omega
   | false => rw [h4, cond_false] at h2; rw [cond_false]; exact lbGo_tw f (i + 2) _ (by omega) h2
theorem liRes_len {l : List Tok} {num : Int} {es : MEs} {ws : List Int} {n i : Nat} {t : Told} (h : liRes l num es ws n i = .inr t) : n ≠ 1024 := by
 unfold liRes at h
 cases h3 : mapHas es (tk l i).text with
 | false => rw [h3] at h; cases h
 | true =>
  rw [h3, cond_true] at h
  cases h4 : decide ((tk l i).kind = 1) with
  | false => rw [h4] at h; cases h
  | true =>
   rw [h4, cond_true] at h
   cases h5 : decide (n = 1024) with
   | true => rw [h5] at h; cases h
   | false => exact of_decide_eq_false h5
theorem liEnd_len {l : List Tok} {num : Int} {td : List Told} {r : Nat × Lb × Bool} {t : Told} (h : liEnd l num td r = .inl (.inr t)) : td.length ≠ 1024 := by
 unfold liEnd at h
 cases h1 : r.2.2 with
 | true => rw [h1] at h; cases h
 | false =>
  rw [h1, cond_false] at h
  by_cases h2 : r.1 = l.length
  ·rw [decide_eq_true h2] at h; cases h
  rw [decide_eq_false h2, cond_false] at h
  exact liRes_len (Sum.inl.inj h)
theorem lnStep_len (s : ByteArray) (num : Int) (lb : Lb) (td : List Told) (h : td.length ≤ 1024) : (lnStep s num lb td).td.length ≤ 1024 := by
 unfold lnStep
 split
 ·exact h
 split
 ·exact h
 split
 ·exact h
 ·exact h
 ·rename_i t ht
  have := liEnd_len ht
  rw [List.length_append]
  show td.length + 1 ≤ 1024
  omega
end Go.Proofs.YtgohbcbdgakjeaaGreatDoor
noncomputable section
namespace Go.Proofs.YtgohbcbdgakjeaaGreatDoor
open Go.Proofs.YtgohbcbdgakjeaaGreatDoor.Ev Go.RowKit
theorem syM_ok {gl : Gl} (a : List Value) {b : Nat} {cs : List Value} (hb : 1000 ≤ b ∨ cs = []) : SyOK gl (syM a b cs) := fun i S h => by
 unfold syM at h
 rw [Bool.cond_eq_ite] at h
 split at h
 ·rename_i e
  cases h
  rw [nbeq] at e
  subst e
  exact ⟨fun _ => symOf_ok a, fun hl => by omega⟩
 ·rw [Bool.cond_eq_ite] at h
  split at h
  ·rename_i e
   cases h
   rw [nbeq] at e
   subst e
   refine ⟨fun _ => symOf_ok cs, fun hl => ?_⟩
   rcases hb with hb | rfl
   ·omega
   ·exact ⟨fun k o h => (by cases h), fun o h => (by cases h)⟩
  ·cases h
def stC (ss : List ByteArray) : List Value := ss.map .string
theorem stC_all (ss : List ByteArray) : (stC ss).all (af 8) = true := by
 unfold stC
 rw [List.all_map]
 exact List.all_eq_true.2 fun _ _ => rfl
def stA (ss : List ByteArray) (n : Nat) : ByteArray := (ss[n]?).getD ⟨#[]⟩
theorem st_get {ss : List ByteArray} {n : Nat} (h : n < ss.length) : (symOf (stC ss)).okS (0 + n * 1) = true ∧ (symOf (stC ss)).str (0 + n * 1) = stA ss n := by
 have g : (stC ss)[0 + n * 1]? = some (.string (stA ss n)) := by
  unfold stC stA
  rw [Nat.zero_add, Nat.mul_one, List.getElem?_map, List.getElem?_eq_getElem h]
  rfl
 constructor
 ·show cellIsS _ = true; rw [g]; rfl
 ·show cellS _ = _; rw [g]; rfl
def mkSt (n : Nat) (ss : List ByteArray) (lb : Lb) (td : List Told) : LSt := match td with
 | [] => mkSt0 (n : Int) (stC ss) ss.length opsE (lbEs 0 lb) 22 lb.length
 | _ :: _ => mkSt1 (n : Int) (stC ss) ss.length opsE (lbEs 0 lb) 22 lb.length (toldsC td) td.length
def mkRows (x y : Int) (ss : List ByteArray) (lb : Lb) (td : List Told) : List (Option LObj) := match td with
 | [] => [spotRow x y, mkRow 1003 1004 slN, stRow (stC ss), mpRow opsE 22, mpRow (lbEs 0 lb) lb.length]
 | _ :: _ => [spotRow x y, mkRow 1003 1004 (slK0 1005 td.length), stRow (stC ss), mpRow opsE 22, mpRow (lbEs 0 lb) lb.length, toldRow (toldsC td)]
def mkRet (num a e : Int) (ss : List ByteArray) (lb : Lb) (td : List Told) : Out := (.ret, [pK 1000, pK 1001, slN, .int .i64 e], mkRows num a ss lb td)
def mkExit (ss : List ByteArray) (lb : Lb) (td : List Told) : Out := (.exit 0, [pK 1000, pK 1001, slN, .int .i64 0], mkRows 0 0 ss lb td)
def mkNext (n : Nat) (ss : List ByteArray) : MkS → LSt ⊕ Out
 | ⟨lb, td, some x⟩ => .inr (mkRet ((n + 1 : Nat) : Int) x.1 x.2 ss lb td)
 | ⟨lb, td, none⟩ => .inl (mkSt (n + 1) ss lb td)
theorem tokN_at {gl : Gl} {u0 o0 u1 o1 : Nat} (hS : ∀ g k v, glS u0 o0 u1 o1 g k = some v → gl g k = some v) (hgl : Low gl) (s : ByteArray) (h : (lnTok s).2.2 ≠ 0 ∨ (lnTok s).1 = []) : SubOK Tryz.prog gl 29 (tlN (atS [.string s] []) (cond (decide ((lnTok s).2.2 = 0)) 0 (lnTok s).2.1) (lnTok s).2.2) := by
 refine sub_at_of (line_sub hS hgl) (t := lnT 3 s) rfl ?_
 unfold lnT lnTok at *
 by_cases hs : (s.size : Int) > 200
 ·rw [decide_eq_true hs] at h ⊢
  rfl
 rw [decide_eq_false hs] at h ⊢
 simp only [cond_false] at h ⊢
 show cond _ (cond _ _ _) (cond _ _ _) = _
 by_cases he : (lineC s).2.2 = 0
 ·have hn : (lineC s).1 = [] := by
   rcases h with h | h
   ·exact absurd he h
   ·exact h
  rw [hn, decide_eq_true he, he]
  rfl
 ·rw [decide_eq_false he]
  cases (lineC s).1.isEmpty <;> rfl
theorem tokK_at {gl : Gl} {u0 o0 u1 o1 : Nat} (hS : ∀ g k v, glS u0 o0 u1 o1 g k = some v → gl g k = some v) (hgl : Low gl) (s : ByteArray) (h : (lnTok s).2.2 = 0) (h2 : (lnTok s).1 ≠ []) : SubOK Tryz.prog gl 29 (tlK (atS [.string s] []) (toksC (lnTok s).1) (lnTok s).1.length) := by
 refine sub_at_of (line_sub hS hgl) (t := lnT 3 s) rfl ?_
 unfold lnT lnTok at *
 by_cases hs : (s.size : Int) > 200
 ·rw [decide_eq_true hs] at h
  cases h
 rw [decide_eq_false hs] at h h2 ⊢
 simp only [cond_false] at h h2 ⊢
 show cond _ (cond _ _ _) (cond _ _ _) = _
 have hn : (lineC s).1.isEmpty = false := by
  cases hq : (lineC s).1 with
  | nil => exact absurd hq h2
  | cons t l => rfl
 rw [hn, decide_eq_true h]
 rfl
theorem lnTok_len (s : ByteArray) : (lnTok s).1.length ≤ 200 := by
 unfold lnTok
 by_cases hs : (s.size : Int) > 200
 ·rw [decide_eq_true hs]; exact Nat.zero_le _
 ·rw [decide_eq_false hs, cond_false]
  have := (tokGo_len (s := s) (s.size + 1) 0 [] (Int.le_refl _) (by omega) (by simp)).1
  unfold lineC
  omega
theorem HM1_ok {gl : Gl} {t : Hd} (ht : SubOK Tryz.prog gl 29 t) : (HM1 t).OK Tryz.prog gl := hsOf_ok (fun _ h => by cases h) (fun p h => by
  simp only [List.mem_cons, List.not_mem_nil, or_false] at h
  subst h
  exact ht) (fun _ h => by cases h)
theorem HM2_ok {gl : Gl} {t l : Hd} (ht : SubOK Tryz.prog gl 29 t) (hl : SubOK Tryz.prog gl 30 l) : (HM2 t l).OK Tryz.prog gl := hsOf_ok (fun _ h => by cases h) (fun p h => by
  simp only [List.mem_cons, List.not_mem_nil, or_false] at h
  rcases h with rfl | rfl
  ·exact ht
  ·exact hl) (fun _ h => by cases h)
abbrev mkRound (gl : Gl) (sy : Sy) (H : Hs) (st : LSt) : Option (LSt ⊕ Out) := roundK sy Tryz.prog gl exB H 100 40 40 14 0 mkLive st (rndK Tryz.prog 1005 mkLive mkOut)
theorem mk_roundE (gl : Gl) {n : Nat} {ss : List ByteArray} {lb : Lb} {td : List Told} {g : GS} {a e : Int} (hn : n < ss.length) (hs : ss.length ≤ 1000000) (hg : g [.string (stA ss n)] [] = true) :
  mkRound gl (syM (stC ss) 0 []) (HM1 (tlN g a e)) (mkSt n ss lb td) = some (mkNext n ss ⟨lb, td, cond (decide (e = 0)) none (some (a, e))⟩) := by
 obtain ⟨s1, s2⟩ := st_get hn
 have d1 : decide ((n : Int) < (ss.length : Int)) = true := decide_eq_true (by omega)
 have w1 : IntKind.i64.wrap ((n : Int) + 1) = ((n + 1 : Nat) : Int) := wrapS (by omega)
 have e1 : (e != 0) = !decide (e = 0) := rfl
 have b1 : (ss.length).ble ss.length = true := nble (Nat.le_refl _)
 have oa := opsF.all
 cases td with
 | nil =>
  refine (r_mkE0 gl g a e (n : Int) (stC ss) ss.length opsE (lbEs 0 lb) 22 lb.length).trans ?_
  simp only [d1, d0N, b1, Bool.and_self, cond_true, sameL_self, Int.toNat_natCast, s1, s2, hg, e1, Bool.cond_not, stC_all, oa, lbEs_all, w1]
  cases decide (e = 0) <;> rfl
 | cons t td =>
  refine (r_mkE1 gl g a e (n : Int) (stC ss) ss.length opsE (lbEs 0 lb) 22 lb.length (toldsC (t :: td)) (t :: td).length).trans ?_
  simp only [d1, d0N, b1, Bool.and_self, cond_true, sameL_self, Int.toNat_natCast, s1, s2, hg, e1, Bool.cond_not, stC_all, oa, lbEs_all, toldsC_all, w1]
  cases decide (e = 0) <;> rfl
theorem mk_roundX (gl : Gl) {n : Nat} {ss : List ByteArray} {lb : Lb} {td : List Told} (g : GS) (a e : Int) (hn : n = ss.length) : mkRound gl (syM (stC ss) 0 []) (HM1 (tlN g a e)) (mkSt n ss lb td) = some (.inr (mkExit ss lb td)) := by
 subst hn
 have oa := opsF.all
 cases td with
 | nil => exact (r_mkE0 gl g a e _ (stC ss) ss.length opsE (lbEs 0 lb) 22 lb.length).trans (condE (decide_eq_false (by omega)) (condI (andI (stC_all ss) (andI oa (andI (lbEs_all lb 0) rfl))) rfl))
 | cons t td => exact (r_mkE1 gl g a e _ (stC ss) ss.length opsE (lbEs 0 lb) 22 lb.length (toldsC (t :: td)) (t :: td).length).trans (condE (decide_eq_false (by omega)) (condI (andI (stC_all ss) (andI oa (andI (lbEs_all lb 0) (andI (toldsC_all _) rfl)))) rfl))
theorem mk_roundL (gl : Gl) {n : Nat} {ss : List ByteArray} {lb lb' : Lb} {td : List Told} {l : List Tok} {g g2 : GS} {ix er : Int} (hn : n < ss.length) (hs : ss.length ≤ 1000000) (hg : g [.string (stA ss n)] [] = true) (hg2 : g2 (liV ((n + 1 : Nat) : Int) l.length) (lbRows l opsE 22 lb td) = true) (h0 : 0 ≤ ix) (h1 : er ≠ 0 → ix < (l.length : Int)) :
  mkRound gl (syM (stC ss) (lbB td + 1) (toksC l)) (HM2 (tlK g (toksC l) l.length) (liH g2 ix er (lbRows l opsE 22 lb' td))) (mkSt n ss lb td) = some (mkNext n ss ⟨lb', td, cond (decide (er = 0)) none (some ((tk l ix.toNat).at_, er))⟩) := by
 obtain ⟨s1, s2⟩ := st_get hn
 have d1 : decide ((n : Int) < (ss.length : Int)) = true := decide_eq_true (by omega)
 have w1 : IntKind.i64.wrap ((n : Int) + 1) = ((n + 1 : Nat) : Int) := wrapS (by omega)
 have e1 : (er != 0) = !decide (er = 0) := rfl
 have b1 : (ss.length).ble ss.length = true := nble (Nat.le_refl _)
 have b2 : (l.length).ble l.length = true := nble (Nat.le_refl _)
 have oa := opsF.all
 cases td with
 | nil =>
  refine (r_mkL0 gl g g2 ix er (n : Int) (stC ss) (toksC l) ss.length l.length opsE (lbEs 0 lb) (lbEs 0 lb') 22 lb.length lb'.length).trans ?_
  simp only [d1, d0N, b1, Bool.and_self, cond_true, sameL_self, Int.toNat_natCast, s1, s2, hg, e1, Bool.cond_not, stC_all, oa, lbEs_all, toksC_all, w1]
  refine condI hg2 ?_
  by_cases he : er = 0
  ·rw [decide_eq_true he]; rfl
  ·rw [decide_eq_false he]
   have h1 := h1 he
   have d3 : decide (0 ≤ ix) = true := decide_eq_true h0
   have d4 : decide (ix < (l.length : Int)) = true := decide_eq_true h1
   have d5 : decide (l.length ≤ ix.toNat) = false := decide_eq_false (by omega)
   simp only [d3, d4, b2, cond_false, Bool.and_self, cond_true, tk_aOk, tk_a, d5, Bool.not_false]
   exact (qs_eq _ _).trans rfl
 | cons t td =>
  refine (r_mkL1 gl g g2 ix er (n : Int) (stC ss) (toksC l) ss.length l.length opsE (lbEs 0 lb) (lbEs 0 lb') 22 lb.length lb'.length (toldsC (t :: td)) (t :: td).length).trans ?_
  simp only [d1, d0N, b1, Bool.and_self, cond_true, sameL_self, Int.toNat_natCast, s1, s2, hg, e1, Bool.cond_not, stC_all, oa, lbEs_all, toksC_all, toldsC_all, w1]
  refine condI hg2 ?_
  by_cases he : er = 0
  ·rw [decide_eq_true he]; rfl
  ·rw [decide_eq_false he]
   have h1 := h1 he
   have d3 : decide (0 ≤ ix) = true := decide_eq_true h0
   have d4 : decide (ix < (l.length : Int)) = true := decide_eq_true h1
   have d5 : decide (l.length ≤ ix.toNat) = false := decide_eq_false (by omega)
   simp only [d3, d4, b2, cond_false, Bool.and_self, cond_true, tk_aOk, tk_a, d5, Bool.not_false]
   exact (qs_eq _ _).trans rfl
theorem mk_roundA (gl : Gl) {n : Nat} {ss : List ByteArray} {lb lb' : Lb} {td : List Told} {l : List Tok} {g g2 : GS} {t : Told} (hn : n < ss.length) (hs : ss.length ≤ 1000000) (hg : g [.string (stA ss n)] [] = true) (hg2 : g2 (liV ((n + 1 : Nat) : Int) l.length) (lbRows l opsE 22 lb td) = true) :
  mkRound gl (syM (stC ss) (lbB td + 1) (toksC l)) (HM2 (tlK g (toksC l) l.length) (gH g2 (liOut l opsE 22 lb' td (.inr t)))) (mkSt n ss lb td) = some (mkNext n ss ⟨lb', td ++ [t], none⟩) := by
 obtain ⟨s1, s2⟩ := st_get hn
 have d1 : decide ((n : Int) < (ss.length : Int)) = true := decide_eq_true (by omega)
 have w1 : IntKind.i64.wrap ((n : Int) + 1) = ((n + 1 : Nat) : Int) := wrapS (by omega)
 have b1 : (ss.length).ble ss.length = true := nble (Nat.le_refl _)
 have oa := opsF.all
 cases td with
 | nil =>
  refine (r_mkA0 gl g g2 (n : Int) (stC ss) (toksC l) ss.length l.length opsE (lbEs 0 lb) (lbEs 0 lb') 22 lb.length lb'.length (toldsC [t])).trans ?_
  simp only [d1, d0N, b1, Bool.and_self, cond_true, sameL_self, Int.toNat_natCast, s1, s2, hg, stC_all, oa, lbEs_all, toksC_all, toldsC_all, w1]
  exact condI hg2 rfl
 | cons t' td =>
  have eA : toldsC (t' :: td) ++ toldC t = toldsC (t' :: td ++ [t]) := (toldsC_snoc _ _).symm
  refine (r_mkA1 gl g g2 (n : Int) (stC ss) (toksC l) ss.length l.length opsE (lbEs 0 lb) (lbEs 0 lb') 22 lb.length lb'.length (toldsC (t' :: td)) (toldsC (t' :: td) ++ toldC t) (t' :: td).length ((t' :: td).length + 1)).trans ?_
  rw [eA]
  simp only [d1, d0N, b1, Bool.and_self, cond_true, sameL_self, Int.toNat_natCast, s1, s2, hg, stC_all, oa, lbEs_all, toksC_all, toldsC_all, w1]
  refine condI hg2 ?_
  show _ = some (Sum.inl (mkSt1 ((n + 1 : Nat) : Int) (stC ss) ss.length opsE (lbEs 0 lb') 22 lb'.length (toldsC (t' :: td ++ [t])) (t' :: td ++ [t]).length))
  rw [show (t' :: td ++ [t]).length = (t' :: td).length + 1 by simp]
  rfl
end Go.Proofs.YtgohbcbdgakjeaaGreatDoor
noncomputable section
namespace Go.Proofs.YtgohbcbdgakjeaaGreatDoor
open Go.Proofs.YtgohbcbdgakjeaaGreatDoor.Ev Go.RowKit
def mkFin (ss : List ByteArray) (r : Lb × List Told × Option (Int × Int × Int)) : Out := match r.2.2 with
 | some x => mkRet x.1 x.2.1 x.2.2 ss r.1 r.2.1
 | none => mkExit ss r.1 r.2.1
theorem mk_roundAll {gl : Gl} {u0 o0 u1 o1 : Nat} (hS : ∀ g k v, glS u0 o0 u1 o1 g k = some v → gl g k = some v) (hgl : Low gl) {n : Nat} {ss : List ByteArray} {lb : Lb} {td : List Told} (hn : n < ss.length) (hs : ss.length ≤ 1000000) (htd : td.length ≤ 1024) :
  ∃ (sy : Sy) (H : Hs), SyOK gl sy ∧ H.OK Tryz.prog gl ∧ mkRound gl sy H (mkSt n ss lb td) = some (mkNext n ss (lnStep (stA ss n) ((n + 1 : Nat) : Int) lb td)) := by
 have hlen := lnTok_len (stA ss n)
 unfold lnStep
 by_cases he : (lnTok (stA ss n)).2.2 ≠ 0
 ·rw [if_pos he]
  refine ⟨syM (stC ss) 0 [], _, syM_ok _ (.inr rfl), HM1_ok (tokN_at hS hgl _ (.inl he)), ?_⟩
  rw [mk_roundE gl hn hs (atS_self _ _), decide_eq_false he]
  rfl
 rw [if_neg he]
 by_cases hz : (lnTok (stA ss n)).1 = []
 ·rw [if_pos hz]
  refine ⟨syM (stC ss) 0 [], _, syM_ok _ (.inr rfl), HM1_ok (tokN_at hS hgl _ (.inr hz)), ?_⟩
  rw [mk_roundE gl hn hs (atS_self _ _), show decide ((lnTok (stA ss n)).2.2 = 0) = true from decide_eq_true (by simpa using he)]
  rfl
 rw [if_neg hz]
 have ht := tokK_at hS hgl (stA ss n) (by simpa using he) hz
 have hl := line_here hgl (num := ((n + 1 : Nat) : Int)) (l := (lnTok (stA ss n)).1) (lb := lb) (td := td) (by omega) htd
 generalize hL : (lnTok (stA ss n)).1 = l at *
 have hl1 : 1 ≤ l.length := by
  cases l with
  | nil => exact absurd rfl hz
  | cons t l => simp
 have hb : 1000 ≤ lbB td + 1 := by cases td <;> (unfold lbB; simp only; omega)
 unfold liAns at hl
 cases hq : liEnd l ((n + 1 : Nat) : Int) td (lbGo l td.length (l.length + 1) 0 lb) with
 | inr x =>
  rw [hq] at hl
  refine ⟨syM (stC ss) (lbB td + 1) (toksC l), _, syM_ok _ (.inl hb), HM2_ok ht (show SubOK _ _ _ (liH (atS (liV ((n + 1 : Nat) : Int) l.length) (lbRows l opsE 22 lb td)) 0 0 (lbRows l opsE 22 (lbGo l td.length (l.length + 1) 0 lb).2.1 td)) from hl), ?_⟩
  rw [mk_roundL gl hn hs (atS_self _ _) (atS_self _ _) (Int.le_refl _) (fun h => absurd rfl h)]
  rfl
 | inl y =>
  rw [hq] at hl
  cases y with
  | inl x =>
   obtain ⟨x0, x1, x2⟩ := liEnd_bd hl1 (lbGo_le _ _ _ (Nat.zero_le _)) (lbGo_tw _ _ _ (Nat.zero_le _)) hq
   refine ⟨syM (stC ss) (lbB td + 1) (toksC l), _, syM_ok _ (.inl hb), HM2_ok ht (show SubOK _ _ _ (liH (atS (liV ((n + 1 : Nat) : Int) l.length) (lbRows l opsE 22 lb td)) x.1 x.2 (lbRows l opsE 22 (lbGo l td.length (l.length + 1) 0 lb).2.1 td)) from hl), ?_⟩
   rw [mk_roundL gl hn hs (atS_self _ _) (atS_self _ _) x0 (fun _ => x1), decide_eq_false x2]
   rfl
  | inr t =>
   exact ⟨syM (stC ss) (lbB td + 1) (toksC l), _, syM_ok _ (.inl hb), HM2_ok ht hl, mk_roundA gl hn hs (atS_self _ _) (atS_self _ _)⟩
theorem mkSt_len (n : Nat) (ss : List ByteArray) : 1000 + (mkSt n ss [] []).2.length = 1005 := rfl
theorem mk_loop {gl : Gl} {u0 o0 u1 o1 : Nat} (hS : ∀ g k v, glS u0 o0 u1 o1 g k = some v → gl g k = some v) (hgl : Low gl) {ss : List ByteArray} (hs : ss.length ≤ 1000000) :
  LpOK Tryz.prog gl 14 0 ⟨mkLive, mkOut, gH (atS (mkSt 0 ss [] []).1 (mkSt 0 ss [] []).2) (mkFin ss (mkGo ss 0 [] []))⟩ :=
 loop_here goodB hgl tglob (by rw [mkSt_len]; decide) ⟨{p : Nat × Lb × List Told // p.1 ≤ ss.length ∧ p.2.2.length ≤ 1024}, fun p => mkSt p.1.1 ss p.1.2.1 p.1.2.2, fun p => some (mkFin ss (mkGo (ss.drop p.1.1) p.1.1 p.1.2.1 p.1.2.2)), fun p => ss.length - p.1.1, ⟨(0, [], []), Nat.zero_le _, Nat.zero_le _⟩, rfl, rfl, by
  rintro ⟨⟨n, lb, td⟩, hn, htd⟩ o ho
  simp only at hn htd ho
  cases ho
  by_cases h : n = ss.length
  ·refine ⟨syM (stC ss) 0 [], _, 100, 40, 40, _, syM_ok (stC ss) (.inr rfl), HM1_ok (tokN_at hS hgl ⟨#[]⟩ (.inr rfl)), mk_roundX gl _ _ _ h, ?_⟩
   subst h
   show mkExit ss lb td = mkFin ss (mkGo (ss.drop ss.length) ss.length lb td)
   rw [List.drop_length]
   rfl
  ·have hlt : n < ss.length := by omega
   obtain ⟨sy, H, h1, h2, h3⟩ := mk_roundAll (td := td) (lb := lb) hS hgl hlt hs htd
   refine ⟨sy, H, 100, 40, 40, _, h1, h2, h3, ?_⟩
   have hd : ss.drop n = stA ss n :: ss.drop (n + 1) := by
    rw [List.drop_eq_getElem_cons hlt]
    unfold stA
    rw [List.getElem?_eq_getElem hlt]
    rfl
   have hlen := lnStep_len (stA ss n) ((n + 1 : Nat) : Int) lb td htd
   rw [hd, mkGo]
   cases hq : lnStep (stA ss n) ((n + 1 : Nat) : Int) lb td with
   | mk lb' td' er =>
    rw [hq] at hlen
    cases er with
    | some x => rfl
    | none => exact ⟨⟨(n + 1, lb', td'), hlt, hlen⟩, rfl, by simp only; omega, rfl⟩⟩
end Go.Proofs.YtgohbcbdgakjeaaGreatDoor
noncomputable section
namespace Go.Proofs.YtgohbcbdgakjeaaGreatDoor
open Go.Proofs.YtgohbcbdgakjeaaGreatDoor.Ev Go.RowKit
def tdA (td : List Told) (i : Nat) : Told := (td[i]?).getD ⟨0, 0, 0, 0, 0, 0, 0, ⟨#[]⟩⟩
theorem toldsC_get : ∀ (l : List Told) (i j : Nat), j < 8 → (toldsC l)[i * 8 + j]? = (l[i]?).bind fun t => (toldC t)[j]?
 | [], i, j, _ => by simp [toldsC]
 | t :: l, 0, j, h => by
  show (toldC t ++ toldsC l)[0 * 8 + j]? = _
  rw [List.getElem?_append_left (by show 0 * 8 + j < 8; omega), Nat.zero_mul, Nat.zero_add]
  rfl
 | t :: l, i + 1, j, h => by
  show (toldC t ++ toldsC l)[(i + 1) * 8 + j]? = _
  rw [List.getElem?_append_right (by show 8 ≤ (i + 1) * 8 + j; omega), show (i + 1) * 8 + j - (toldC t).length = i * 8 + j by show (i + 1) * 8 + j - 8 = _; omega, toldsC_get l i j h]
  rfl
structure TdA (td : List Told) (i : Nat) : Prop where
 o0 : (symOf (toldsC td)).okI .u8 (0 + i * 8 + 0) = true
 v0 : (symOf (toldsC td)).int .u8 (0 + i * 8 + 0) = (tdA td i).op
 o1 : (symOf (toldsC td)).okI .i64 (0 + i * 8 + 1) = true
 v1 : (symOf (toldsC td)).int .i64 (0 + i * 8 + 1) = (tdA td i).a
 o2 : (symOf (toldsC td)).okI .i64 (0 + i * 8 + 2) = true
 v2 : (symOf (toldsC td)).int .i64 (0 + i * 8 + 2) = (tdA td i).b
 o3 : (symOf (toldsC td)).okI .i64 (0 + i * 8 + 3) = true
 v3 : (symOf (toldsC td)).int .i64 (0 + i * 8 + 3) = (tdA td i).c
 o4 : (symOf (toldsC td)).okI .i64 (0 + i * 8 + 4) = true
 v4 : (symOf (toldsC td)).int .i64 (0 + i * 8 + 4) = (tdA td i).n
 o5 : (symOf (toldsC td)).okI .i64 (0 + i * 8 + 5) = true
 v5 : (symOf (toldsC td)).int .i64 (0 + i * 8 + 5) = (tdA td i).line
 o6 : (symOf (toldsC td)).okI .i64 (0 + i * 8 + 6) = true
 v6 : (symOf (toldsC td)).int .i64 (0 + i * 8 + 6) = (tdA td i).at_
 o7 : (symOf (toldsC td)).okS (0 + i * 8 + 7) = true
 v7 : (symOf (toldsC td)).str (0 + i * 8 + 7) = (tdA td i).label
theorem tdF {td : List Told} {i : Nat} (h : i < td.length) : TdA td i := by
 have ht : td[i]? = some (tdA td i) := by unfold tdA; rw [List.getElem?_eq_getElem h]; rfl
 have g : ∀ j, j < 8 → (toldsC td)[0 + i * 8 + j]? = (toldC (tdA td i))[j]? := fun j hj => by
  rw [Nat.zero_add, toldsC_get td i j hj, ht]; rfl
 have g0 : (toldsC td)[0 + i * 8 + 0]? = some (.int .u8 (tdA td i).op) := g 0 (by decide)
 have g1 : (toldsC td)[0 + i * 8 + 1]? = some (.int .i64 (tdA td i).a) := g 1 (by decide)
 have g2 : (toldsC td)[0 + i * 8 + 2]? = some (.int .i64 (tdA td i).b) := g 2 (by decide)
 have g3 : (toldsC td)[0 + i * 8 + 3]? = some (.int .i64 (tdA td i).c) := g 3 (by decide)
 have g4 : (toldsC td)[0 + i * 8 + 4]? = some (.int .i64 (tdA td i).n) := g 4 (by decide)
 have g5 : (toldsC td)[0 + i * 8 + 5]? = some (.int .i64 (tdA td i).line) := g 5 (by decide)
 have g6 : (toldsC td)[0 + i * 8 + 6]? = some (.int .i64 (tdA td i).at_) := g 6 (by decide)
 have g7 : (toldsC td)[0 + i * 8 + 7]? = some (.string (tdA td i).label) := g 7 (by decide)
 constructor
 ·show cellIsI .u8 _ = true; rw [g0]; rfl
 ·show cellI _ = _; rw [g0]; rfl
 ·show cellIsI .i64 _ = true; rw [g1]; rfl
 ·show cellI _ = _; rw [g1]; rfl
 ·show cellIsI .i64 _ = true; rw [g2]; rfl
 ·show cellI _ = _; rw [g2]; rfl
 ·show cellIsI .i64 _ = true; rw [g3]; rfl
 ·show cellI _ = _; rw [g3]; rfl
 ·show cellIsI .i64 _ = true; rw [g4]; rfl
 ·show cellI _ = _; rw [g4]; rfl
 ·show cellIsI .i64 _ = true; rw [g5]; rfl
 ·show cellI _ = _; rw [g5]; rfl
 ·show cellIsI .i64 _ = true; rw [g6]; rfl
 ·show cellI _ = _; rw [g6]; rfl
 ·show cellIsS _ = true; rw [g7]; rfl
 ·show cellS _ = _; rw [g7]; rfl
def tdN (lb : Lb) (i : Nat) (t : Told) : Int := cond (decide (t.label = ⟨#[]⟩)) t.n (IntKind.i64.wrap (IntKind.i64.wrap (lbAt lb t.label - (i : Int)) - 1))
def tdW (lb : Lb) (i : Nat) (t : Told) : Int ⊕ Int := cond (decide (t.label = ⟨#[]⟩) || lbHas lb t.label) (cond (cmay t.op t.a t.b t.c (tdN lb i t)) (.inl (putN t.op t.a t.b t.c (tdN lb i t))) (.inr 5)) (.inr 212)
def wdGoM (lb : Lb) : List Told → Nat → List Int → List Int × Option (Int × Int × Int)
 | [], _, ws => (ws, none)
 | t :: td, i, ws => match tdW lb i t with
  | .inl w => wdGoM lb td (i + 1) (ws ++ [w])
  | .inr e => (ws, some (t.line, t.at_, e))
def m2St (i : Nat) (lb : Lb) (td : List Told) (ws : List Int) : LSt := match ws with
 | [] => m2St0 (i : Int) opsE (lbEs 0 lb) 22 lb.length (toldsC td) td.length
 | _ :: _ => m2St1 (i : Int) opsE (lbEs 0 lb) 22 lb.length (toldsC td) td.length (wC ws) ws.length
def m2Rows (x y : Int) (lb : Lb) (td : List Told) (ws : List Int) : List (Option LObj) := match ws with
 | [] => [spotRow x y, mkRow 1003 1004 (slK0 1002 td.length), toldRow (toldsC td), mpRow opsE 22, mpRow (lbEs 0 lb) lb.length]
 | _ :: _ => [spotRow x y, mkRow 1003 1004 (slK0 1002 td.length), toldRow (toldsC td), mpRow opsE 22, mpRow (lbEs 0 lb) lb.length, wdRow (wC ws)]
def m2O (ws : List Int) : Value := match ws with
 | [] => slN
 | _ :: _ => slK0 1005 ws.length
def m2Ret (x y e : Int) (lb : Lb) (td : List Told) (ws : List Int) : Out := (.ret, [pK 1000, m2O ws, slN, .int .i64 e], m2Rows x y lb td ws)
def m2Exit (lb : Lb) (td : List Told) (ws : List Int) : Out := (.exit 2, [pK 1000, m2O ws, slN, .int .i64 0], m2Rows 0 0 lb td ws)
def m2Next (i : Nat) (lb : Lb) (td : List Told) (ws : List Int) (t : Told) : Int ⊕ Int → LSt ⊕ Out
 | .inl w => .inl (m2St (i + 1) lb td (ws ++ [w]))
 | .inr e => .inr (m2Ret t.line t.at_ e lb td ws)
theorem wC_all (ws : List Int) : (wC ws).all (af 8) = true := by
 unfold wC
 rw [List.all_map]
 exact List.all_eq_true.2 fun _ _ => rfl
theorem wC_snoc (ws : List Int) (w : Int) : wC (ws ++ [w]) = wC ws ++ [.int .u32 w] := List.map_append
theorem wC_len (ws : List Int) : (wC ws).length = ws.length := List.length_map _
theorem veqTT64 (x : Int) : veq 8 (Value.tuple #[Value.int .i64 x, Value.bool true]) (Value.tuple #[Value.int .i64 x, Value.bool true]) = true := by simp [veq]
abbrev m2Round (gl : Gl) (sy : Sy) (H : Hs) (st : LSt) : Option (LSt ⊕ Out) := roundK sy Tryz.prog gl exB H 100 40 40 14 1 m2Live st (rndK Tryz.prog 1005 m2Live m2Out)
theorem m2_round0 (gl : Gl) {i : Nat} {lb : Lb} {td : List Told} (hi : i < td.length) (htd : td.length ≤ 1024) (hop : 0 ≤ (tdA td i).op) :
  m2Round gl (syL 1002 (toldsC td)) (HPt putN cmayI) (m2St i lb td []) = some (m2Next i lb td [] (tdA td i) (tdW lb i (tdA td i))) := by
 obtain ⟨o0, v0, o1, v1, o2, v2, o3, v3, o4, v4, o5, v5, o6, v6, o7, v7⟩ := tdF hi
 have d1 : decide ((i : Int) < (td.length : Int)) = true := decide_eq_true (by omega)
 have d2 : decide (0 ≤ (tdA td i).op) = true := decide_eq_true hop
 have w1 : IntKind.i64.wrap ((i : Int) + 1) = ((i + 1 : Nat) : Int) := wrapS (by omega)
 have b1 : (td.length).ble td.length = true := nble (Nat.le_refl _)
 have oa := opsF.all
 refine (r_m20 gl putN cmayI (i : Int) opsE (lbEs 0 lb) 22 lb.length (toldsC td) td.length).trans ?_
 simp only [d1, d0N, d2, b1, Bool.and_self, cond_true, sameL_self, Int.toNat_natCast, Nat.reduceAdd, o0, v0, o1, v1, o2, v2, o3, v3, o4, v4, o5, v5, o6, v6, o7, v7, toldsC_all, oa, lbEs_all, lbEs_ok, lbEs_has, lbEs_at, beqS, w1, veq_str, qs_eq]
 unfold tdW tdN
 generalize tdA td i = t
 by_cases hL : t.label = ⟨#[]⟩
 ·rw [decide_eq_true hL]
  simp only [cond_true, Bool.true_or]
  unfold cmayI
  cases hc : cmay t.op t.a t.b t.c t.n with
  | true => rfl
  | false => rfl
 ·rw [decide_eq_false hL]
  simp only [cond_false, Bool.false_or]
  cases hh : lbHas lb t.label with
  | false => simp only [cond_false]; rfl
  | true =>
   simp only [cond_true, veqTT64]
   unfold cmayI
   cases hc : cmay t.op t.a t.b t.c (IntKind.i64.wrap (IntKind.i64.wrap (lbAt lb t.label - (i : Int)) - 1)) with
   | true => rfl
   | false => rfl
theorem m2_round1 (gl : Gl) {i : Nat} {lb : Lb} {td : List Told} {x : Int} {ws : List Int} (hi : i < td.length) (htd : td.length ≤ 1024) (hop : 0 ≤ (tdA td i).op) (hw : (x :: ws).length ≤ 2000) :
  m2Round gl (syL 1002 (toldsC td)) (HPt putN cmayI) (m2St i lb td (x :: ws)) = some (m2Next i lb td (x :: ws) (tdA td i) (tdW lb i (tdA td i))) := by
 obtain ⟨o0, v0, o1, v1, o2, v2, o3, v3, o4, v4, o5, v5, o6, v6, o7, v7⟩ := tdF hi
 have d1 : decide ((i : Int) < (td.length : Int)) = true := decide_eq_true (by omega)
 have d2 : decide (0 ≤ (tdA td i).op) = true := decide_eq_true hop
 have w1 : IntKind.i64.wrap ((i : Int) + 1) = ((i + 1 : Nat) : Int) := wrapS (by omega)
 have b1 : (td.length).ble td.length = true := nble (Nat.le_refl _)
 have n1 : (x :: ws).length.ble (x :: ws).length = true := nble (Nat.le_refl _)
 have n2 : ((((x :: ws).length + 1) * 4).ble 140737488355328) = true := nble (by omega)
 have n3 : (((x :: ws).length + 1).ble 1099511627776) = true := nble (by omega)
 have n4 : ((x :: ws).length * 1).beq (wC (x :: ws)).length = true := by rw [wC_len, Nat.mul_one]; exact Nat.beq_refl _
 have n5 : ∀ w : Int, (wC (x :: ws) ++ [Value.int .u32 w]).all (af 8) = true := fun w => by rw [← wC_snoc]; exact wC_all _
 have oa := opsF.all
 have fin : ∀ w : Int, (Sum.inl (m2V ((i + 1 : Nat) : Int) (slK0 1005 ((x :: ws).length + 1)) td.length, m2R opsE (lbEs 0 lb) 22 lb.length (toldsC td) td.length ++ [wdRow (wC (x :: ws) ++ [Value.int .u32 w])]) : LSt ⊕ Out) = .inl (m2St (i + 1) lb td (x :: ws ++ [w])) := fun w => by
  rw [← wC_snoc]
  show _ = Sum.inl (m2St1 ((i + 1 : Nat) : Int) opsE (lbEs 0 lb) 22 lb.length (toldsC td) td.length (wC (x :: ws ++ [w])) (x :: ws ++ [w]).length)
  rw [show (x :: ws ++ [w]).length = (x :: ws).length + 1 by simp]
  rfl
 refine (r_m21 gl putN cmayI (i : Int) opsE (lbEs 0 lb) 22 lb.length (toldsC td) td.length (wC (x :: ws)) (x :: ws).length).trans ?_
 simp only [d1, d0N, d2, b1, n1, n2, n3, n4, n5, Bool.and_self, cond_true, sameL_self, Int.toNat_natCast, Nat.reduceAdd, o0, v0, o1, v1, o2, v2, o3, v3, o4, v4, o5, v5, o6, v6, o7, v7, toldsC_all, wC_all, oa, lbEs_all, lbEs_ok, lbEs_has, lbEs_at, beqS, w1, veq_str, qs_eq]
 unfold tdW tdN
 generalize tdA td i = t
 by_cases hL : t.label = ⟨#[]⟩
 ·rw [decide_eq_true hL]
  simp only [cond_true, Bool.true_or]
  unfold cmayI
  cases hc : cmay t.op t.a t.b t.c t.n with
  | true => exact congrArg some (fin _)
  | false => rfl
 ·rw [decide_eq_false hL]
  simp only [cond_false, Bool.false_or]
  cases hh : lbHas lb t.label with
  | false => simp only [cond_false]; rfl
  | true =>
   simp only [cond_true, veqTT64]
   unfold cmayI
   cases hc : cmay t.op t.a t.b t.c (IntKind.i64.wrap (IntKind.i64.wrap (lbAt lb t.label - (i : Int)) - 1)) with
   | true => exact congrArg some (fin _)
   | false => rfl
theorem m2_end (gl : Gl) {i : Nat} {lb : Lb} {td : List Told} {ws : List Int} (hi : i = td.length) : m2Round gl (syL 1002 (toldsC td)) (HPt putN cmayI) (m2St i lb td ws) = some (.inr (m2Exit lb td ws)) := by
 subst hi
 have oa := opsF.all
 cases ws with
 | nil => exact (r_m20 gl putN cmayI _ opsE (lbEs 0 lb) 22 lb.length (toldsC td) td.length).trans (condE (decide_eq_false (by omega)) (condI (andI (toldsC_all td) (andI oa (andI (lbEs_all lb 0) rfl))) rfl))
 | cons x ws => exact (r_m21 gl putN cmayI _ opsE (lbEs 0 lb) 22 lb.length (toldsC td) td.length (wC (x :: ws)) (x :: ws).length).trans (condE (decide_eq_false (by omega)) (condI (andI (toldsC_all td) (andI oa (andI (lbEs_all lb 0) (andI (wC_all _) rfl)))) rfl))
end Go.Proofs.YtgohbcbdgakjeaaGreatDoor
noncomputable section
namespace Go.Proofs.YtgohbcbdgakjeaaGreatDoor
open Go.Proofs.YtgohbcbdgakjeaaGreatDoor.Ev Go.RowKit
def HMk (g0 gs g1 g2 : GS) (es : MEs) (ss : List Value) (k : Nat) (o1 o2 : Out) : Hs := hsOf [] [(28, gH g0 (.normal, [.map (some 1000)], [some (.map es 22)])), (27, gH gs (.normal, [slK0 1000 k], [stRow ss]))] [(14, [(0, ⟨mkLive, mkOut, gH g1 o1⟩), (1, ⟨m2Live, m2Out, gH g2 o2⟩)])]
def o1N (x : Ex) (num a e : Int) (es lb : MEs) (c : Nat) (ss : List Value) : Out := (x, [pK 1000, pK 1001, slN, .int .i64 e], [spotRow num a, mkRow 1003 1004 slN, stRow ss, mpRow es 22, mpRow lb c])
def o1K (x : Ex) (num a e : Int) (es lb : MEs) (c : Nat) (ss td : List Value) (m : Nat) : Out := (x, [pK 1000, pK 1001, slN, .int .i64 e], [spotRow num a, mkRow 1003 1004 (slK0 1005 m), stRow ss, mpRow es 22, mpRow lb c, toldRow td])
def o2N (x : Ex) (num a e : Int) (es lb : MEs) (c : Nat) (td : List Value) (m : Nat) : Out := (x, [pK 1000, slN, slN, .int .i64 e], [spotRow num a, mkRow 1003 1004 (slK0 1002 m), toldRow td, mpRow es 22, mpRow lb c])
def o2K (x : Ex) (num a e : Int) (es lb : MEs) (c : Nat) (td : List Value) (m : Nat) (ws : List Value) (n : Nat) : Out := (x, [pK 1000, slK0 1005 n, slN, .int .i64 e], [spotRow num a, mkRow 1003 1004 (slK0 1002 m), toldRow td, mpRow es 22, mpRow lb c, wdRow ws])
noncomputable abbrev mkC (gl : Gl) (g0 gs g1 g2 : GS) (es : MEs) (ss : List Value) (k : Nat) (o1 o2 : Out) (s : ByteArray) : Option Out := callSK noSy Tryz.prog gl exB (HMk g0 gs g1 g2 es ss k o1 o2) 100 40 40 (.fn 14) [.string s] (rowsOf []) (exitK Tryz.prog 1000)
def HMk3 (g0 gs g1 : GS) (es : MEs) (ss : List Value) (k : Nat) (o1 : Out) : Hs := hsOf [] [(28, gH g0 (.normal, [.map (some 1000)], [some (.map es 22)])), (27, gH gs (.normal, [slK0 1000 k], [stRow ss]))] [(14, [(0, ⟨mkLive, mkOut, gH g1 o1⟩)])]
noncomputable abbrev mkC3 (gl : Gl) (g0 gs g1 : GS) (es : MEs) (ss : List Value) (k : Nat) (o1 : Out) (s : ByteArray) : Option Out := callSK noSy Tryz.prog gl exB (HMk3 g0 gs g1 es ss k o1) 100 40 40 (.fn 14) [.string s] (rowsOf []) (exitK Tryz.prog 1000)
set_option maxRecDepth 100000 in
theorem r_mk1 (gl : Gl) (g0 gs g1 : GS) (num a e : Int) (es lb : MEs) (c k : Nat) (ss : List Value) (s : ByteArray) : mkC3 gl g0 gs g1 es ss k (o1N .ret num a e es lb c ss) s =
 let z0 := List.all es (fun e => af 8 e.fst && af 8 e.snd.fst) && true
 cond (g0 [] []) (
 cond z0 (
 cond (gs [.string s, .string (⟨#[10]⟩ : ByteArray)] []) (
 cond (List.all ss (af 8) && true) (
 cond (List.all ss (af 8) && z0) (
 cond (g1 [.pointer (some ⟨1000, 0, none⟩), .int .i64 0, .pointer (some ⟨1001, 0, none⟩), .slice (some ⟨1002, 0, none⟩) k k, goInt (↑k : Int), .slice none 0 0, .int .i64 0] [some (.row ⟨[.int .i64 0, .int .i64 0], 36, (0, 0), 0, false, false⟩), some (.row ⟨[.map (some 1003), .map (some 1004), .slice none 0 0], 52, (0, 0), 0, false, false⟩), some (.row ⟨ss, 9, (0, 0), 0, false, false⟩), some (LObj.map es 22), some (LObj.map [] 0)]) (
 cond (List.all ss (af 8) && (List.all es (fun e => af 8 e.fst && af 8 e.snd.fst) && (List.all lb (fun e => af 8 e.fst && af 8 e.snd.fst) && true))) (
 some (.normal, ([(.tuple #[(.slice none 0 0), (.agg #[(.int .i64 (num)), (.int .i64 (a))]), (.int .i64 (e))])], []))) (
 none)) (
 none)) (
 none)) (
 none)) (
 none)) (
 none)) (
 none) := by kernel_rfl
set_option maxRecDepth 100000 in
theorem r_mk2 (gl : Gl) (g0 gs g1 : GS) (num a e : Int) (es lb : MEs) (c k : Nat) (ss td : List Value) (m : Nat) (s : ByteArray) : mkC3 gl g0 gs g1 es ss k (o1K .ret num a e es lb c ss td m) s =
 let z0 := List.all es (fun e => af 8 e.fst && af 8 e.snd.fst) && true
 cond (g0 [] []) (
 cond z0 (
 cond (gs [.string s, .string (⟨#[10]⟩ : ByteArray)] []) (
 cond (List.all ss (af 8) && true) (
 cond (List.all ss (af 8) && z0) (
 cond (g1 [.pointer (some ⟨1000, 0, none⟩), .int .i64 0, .pointer (some ⟨1001, 0, none⟩), .slice (some ⟨1002, 0, none⟩) k k, goInt (↑k : Int), .slice none 0 0, .int .i64 0] [some (.row ⟨[.int .i64 0, .int .i64 0], 36, (0, 0), 0, false, false⟩), some (.row ⟨[.map (some 1003), .map (some 1004), .slice none 0 0], 52, (0, 0), 0, false, false⟩), some (.row ⟨ss, 9, (0, 0), 0, false, false⟩), some (LObj.map es 22), some (LObj.map [] 0)]) (
 cond (List.all ss (af 8) && (List.all es (fun e => af 8 e.fst && af 8 e.snd.fst) && (List.all lb (fun e => af 8 e.fst && af 8 e.snd.fst) && (List.all td (af 8) && true)))) (
 some (.normal, ([(.tuple #[(.slice none 0 0), (.agg #[(.int .i64 (num)), (.int .i64 (a))]), (.int .i64 (e))])], []))) (
 none)) (
 none)) (
 none)) (
 none)) (
 none)) (
 none)) (
 none) := by kernel_rfl
set_option maxRecDepth 100000 in
theorem r_mk3 (gl : Gl) (g0 gs g1 : GS) (es lb : MEs) (c k : Nat) (ss : List Value) (s : ByteArray) : callSK noSy Tryz.prog gl exB (HMk3 g0 gs g1 es ss k (o1N (.exit 0) 0 0 0 es lb c ss)) 100 40 40 (.fn 14) [.string s] (rowsOf []) (exitK Tryz.prog 1000) =
 let z0 := List.all es (fun e => af 8 e.fst && af 8 e.snd.fst) && true
 cond (g0 [] []) (
 cond z0 (
 cond (gs [.string s, .string (⟨#[10]⟩ : ByteArray)] []) (
 cond (List.all ss (af 8) && true) (
 cond (List.all ss (af 8) && z0) (
 cond (g1 [.pointer (some ⟨1000, 0, none⟩), .int .i64 0, .pointer (some ⟨1001, 0, none⟩), .slice (some ⟨1002, 0, none⟩) k k, goInt (↑k : Int), .slice none 0 0, .int .i64 0] [some (.row ⟨[.int .i64 0, .int .i64 0], 36, (0, 0), 0, false, false⟩), some (.row ⟨[.map (some 1003), .map (some 1004), .slice none 0 0], 52, (0, 0), 0, false, false⟩), some (.row ⟨ss, 9, (0, 0), 0, false, false⟩), some (LObj.map es 22), some (LObj.map [] 0)]) (
 cond (List.all ss (af 8) && (List.all es (fun e => af 8 e.fst && af 8 e.snd.fst) && (List.all lb (fun e => af 8 e.fst && af 8 e.snd.fst) && true))) (
 some (.normal, ([(.tuple #[(.slice none 0 0), (.agg #[(.int .i64 0), (.int .i64 0)]), (.int .i64 0)])], []))) (
 none)) (
 none)) (
 none)) (
 none)) (
 none)) (
 none)) (
 none) := by kernel_rfl
set_option maxRecDepth 100000 in
theorem r_mk4 (gl : Gl) (g0 gs g1 g2 : GS) (num a e : Int) (es lb : MEs) (c k : Nat) (ss td : List Value) (m : Nat) (s : ByteArray) : mkC gl g0 gs g1 g2 es ss k (o1K (.exit 0) 0 0 0 es lb c ss td m) (o2N .ret num a e es lb c td m) s =
 let z0 := List.all td (af 8) && (List.all es (fun e => af 8 e.fst && af 8 e.snd.fst) && (List.all lb (fun e => af 8 e.fst && af 8 e.snd.fst) && true))
 let z1 := List.all es (fun e => af 8 e.fst && af 8 e.snd.fst) && true
 cond (g0 [] []) (
 cond z1 (
 cond (gs [.string s, .string (⟨#[10]⟩ : ByteArray)] []) (
 cond (List.all ss (af 8) && true) (
 cond (List.all ss (af 8) && z1) (
 cond (g1 [.pointer (some ⟨1000, 0, none⟩), .int .i64 0, .pointer (some ⟨1001, 0, none⟩), .slice (some ⟨1002, 0, none⟩) k k, goInt (↑k : Int), .slice none 0 0, .int .i64 0] [some (.row ⟨[.int .i64 0, .int .i64 0], 36, (0, 0), 0, false, false⟩), some (.row ⟨[.map (some 1003), .map (some 1004), .slice none 0 0], 52, (0, 0), 0, false, false⟩), some (.row ⟨ss, 9, (0, 0), 0, false, false⟩), some (LObj.map es 22), some (LObj.map [] 0)]) (
 cond (List.all ss (af 8) && (List.all es (fun e => af 8 e.fst && af 8 e.snd.fst) && (List.all lb (fun e => af 8 e.fst && af 8 e.snd.fst) && (List.all td (af 8) && true)))) (
 cond z0 (
 cond (g2 [.pointer (some ⟨1000, 0, none⟩), .int .i64 0, .slice none 0 0, .pointer (some ⟨1001, 0, none⟩), .slice (some ⟨1002, 0, none⟩) m m, goInt (↑m : Int), .slice none 0 0, .int .i64 0] [some (.row ⟨[.int .i64 0, .int .i64 0], 36, (0, 0), 0, false, false⟩), some (.row ⟨[.map (some 1003), .map (some 1004), .slice (some ⟨1002, 0, none⟩) m m], 52, (0, 0), 0, false, false⟩), some (.row ⟨td, 63, (0, 0), 8, false, false⟩), some (LObj.map es 22), some (LObj.map lb c)]) (
 cond z0 (
 some (.normal, ([(.tuple #[(.slice none 0 0), (.agg #[(.int .i64 (num)), (.int .i64 (a))]), (.int .i64 (e))])], []))) (
 none)) (
 none)) (
 none)) (
 none)) (
 none)) (
 none)) (
 none)) (
 none)) (
 none)) (
 none) := by kernel_rfl
set_option maxRecDepth 100000 in
theorem r_mk5 (gl : Gl) (g0 gs g1 g2 : GS) (num a e : Int) (es lb : MEs) (c k : Nat) (ss td : List Value) (m : Nat) (ws : List Value) (n : Nat) (s : ByteArray) : mkC gl g0 gs g1 g2 es ss k (o1K (.exit 0) 0 0 0 es lb c ss td m) (o2K .ret num a e es lb c td m ws n) s =
 let z0 := List.all es (fun e => af 8 e.fst && af 8 e.snd.fst) && true
 cond (g0 [] []) (
 cond z0 (
 cond (gs [.string s, .string (⟨#[10]⟩ : ByteArray)] []) (
 cond (List.all ss (af 8) && true) (
 cond (List.all ss (af 8) && z0) (
 cond (g1 [.pointer (some ⟨1000, 0, none⟩), .int .i64 0, .pointer (some ⟨1001, 0, none⟩), .slice (some ⟨1002, 0, none⟩) k k, goInt (↑k : Int), .slice none 0 0, .int .i64 0] [some (.row ⟨[.int .i64 0, .int .i64 0], 36, (0, 0), 0, false, false⟩), some (.row ⟨[.map (some 1003), .map (some 1004), .slice none 0 0], 52, (0, 0), 0, false, false⟩), some (.row ⟨ss, 9, (0, 0), 0, false, false⟩), some (LObj.map es 22), some (LObj.map [] 0)]) (
 cond (List.all ss (af 8) && (List.all es (fun e => af 8 e.fst && af 8 e.snd.fst) && (List.all lb (fun e => af 8 e.fst && af 8 e.snd.fst) && (List.all td (af 8) && true)))) (
 cond (List.all td (af 8) && (List.all es (fun e => af 8 e.fst && af 8 e.snd.fst) && (List.all lb (fun e => af 8 e.fst && af 8 e.snd.fst) && true))) (
 cond (g2 [.pointer (some ⟨1000, 0, none⟩), .int .i64 0, .slice none 0 0, .pointer (some ⟨1001, 0, none⟩), .slice (some ⟨1002, 0, none⟩) m m, goInt (↑m : Int), .slice none 0 0, .int .i64 0] [some (.row ⟨[.int .i64 0, .int .i64 0], 36, (0, 0), 0, false, false⟩), some (.row ⟨[.map (some 1003), .map (some 1004), .slice (some ⟨1002, 0, none⟩) m m], 52, (0, 0), 0, false, false⟩), some (.row ⟨td, 63, (0, 0), 8, false, false⟩), some (LObj.map es 22), some (LObj.map lb c)]) (
 cond (List.all td (af 8) && (List.all es (fun e => af 8 e.fst && af 8 e.snd.fst) && (List.all lb (fun e => af 8 e.fst && af 8 e.snd.fst) && (List.all ws (af 8) && true)))) (
 some (.normal, ([(.tuple #[(.slice none 0 0), (.agg #[(.int .i64 (num)), (.int .i64 (a))]), (.int .i64 (e))])], []))) (
 none)) (
 none)) (
 none)) (
 none)) (
 none)) (
 none)) (
 none)) (
 none)) (
 none)) (
 none) := by kernel_rfl
set_option maxRecDepth 100000 in
theorem r_mk6 (gl : Gl) (g0 gs g1 g2 : GS) (es lb : MEs) (c k : Nat) (ss td : List Value) (m : Nat) (ws : List Value) (n : Nat) (s : ByteArray) : mkC gl g0 gs g1 g2 es ss k (o1K (.exit 0) 0 0 0 es lb c ss td m) (o2K (.exit 2) 0 0 0 es lb c td m ws n) s =
 let z0 := List.all es (fun e => af 8 e.fst && af 8 e.snd.fst) && true
 cond (g0 [] []) (
 cond z0 (
 cond (gs [.string s, .string (⟨#[10]⟩ : ByteArray)] []) (
 cond (List.all ss (af 8) && true) (
 cond (List.all ss (af 8) && z0) (
 cond (g1 [.pointer (some ⟨1000, 0, none⟩), .int .i64 0, .pointer (some ⟨1001, 0, none⟩), .slice (some ⟨1002, 0, none⟩) k k, goInt (↑k : Int), .slice none 0 0, .int .i64 0] [some (.row ⟨[.int .i64 0, .int .i64 0], 36, (0, 0), 0, false, false⟩), some (.row ⟨[.map (some 1003), .map (some 1004), .slice none 0 0], 52, (0, 0), 0, false, false⟩), some (.row ⟨ss, 9, (0, 0), 0, false, false⟩), some (LObj.map es 22), some (LObj.map [] 0)]) (
 cond (List.all ss (af 8) && (List.all es (fun e => af 8 e.fst && af 8 e.snd.fst) && (List.all lb (fun e => af 8 e.fst && af 8 e.snd.fst) && (List.all td (af 8) && true)))) (
 cond (List.all td (af 8) && (List.all es (fun e => af 8 e.fst && af 8 e.snd.fst) && (List.all lb (fun e => af 8 e.fst && af 8 e.snd.fst) && true))) (
 cond (g2 [.pointer (some ⟨1000, 0, none⟩), .int .i64 0, .slice none 0 0, .pointer (some ⟨1001, 0, none⟩), .slice (some ⟨1002, 0, none⟩) m m, goInt (↑m : Int), .slice none 0 0, .int .i64 0] [some (.row ⟨[.int .i64 0, .int .i64 0], 36, (0, 0), 0, false, false⟩), some (.row ⟨[.map (some 1003), .map (some 1004), .slice (some ⟨1002, 0, none⟩) m m], 52, (0, 0), 0, false, false⟩), some (.row ⟨td, 63, (0, 0), 8, false, false⟩), some (LObj.map es 22), some (LObj.map lb c)]) (
 cond (List.all td (af 8) && (List.all es (fun e => af 8 e.fst && af 8 e.snd.fst) && (List.all lb (fun e => af 8 e.fst && af 8 e.snd.fst) && (List.all ws (af 8) && true)))) (
 cond (List.all ws (af 8) && true) (
 some (.normal, ([(.tuple #[(.slice (some ⟨1000, 0, none⟩) (n) (n)), (.agg #[(.int .i64 0), (.int .i64 0)]), (.int .i64 0)])], [some (.row ⟨ws, 26, (0, 0), 1, false, false⟩)]))) (
 none)) (
 none)) (
 none)) (
 none)) (
 none)) (
 none)) (
 none)) (
 none)) (
 none)) (
 none)) (
 none) := by kernel_rfl
end Go.Proofs.YtgohbcbdgakjeaaGreatDoor
noncomputable section
namespace Go.Proofs.YtgohbcbdgakjeaaGreatDoor
open Go.Proofs.YtgohbcbdgakjeaaGreatDoor.Ev Go.RowKit
theorem wantOne_op {l : List Tok} {num w : Int} {j r : Nat} {t : Told} {k : Nat → Told → LiR} (hk : ∀ r t' t2, t'.op = t.op → k r t' = .inr t2 → t2.op = t.op) : ∀ t2, wantOne l num w j r t k = .inr t2 → t2.op = t.op := by
 intro t2 h
 unfold wantOne at h
 cases h0 : decide (l.length ≤ j) with
 | true => rw [h0] at h; cases h
 | false =>
 rw [h0, cond_false] at h
 cases h1 : decide (w = 0) with
 | true =>
  rw [h1, cond_true] at h
  cases h2 : decide ((tk l j).kind = 2) with
  | true =>
   rw [h2, cond_true] at h
   refine hk _ _ t2 ?_ h
   unfold Told.put
   split <;> rfl
  | false => rw [h2] at h; cases h
 | false =>
  rw [h1, cond_false] at h
  cases h2 : decide ((tk l j).kind = 3) with
  | true => rw [h2, cond_true] at h; exact hk _ _ t2 (show ({ t with n := (tk l j).n, line := num, at_ := (tk l j).at_ } : Told).op = t.op from rfl) h
  | false =>
   rw [h2, cond_false] at h
   cases h3 : decide (w = 2) && decide ((tk l j).kind = 1) with
   | true => rw [h3, cond_true] at h; exact hk _ _ t2 (show ({ t with label := (tk l j).text, line := num, at_ := (tk l j).at_ } : Told).op = t.op from rfl) h
   | false => rw [h3] at h; cases h
theorem wantGo_op {l : List Tok} {num : Int} : ∀ (ws : List Int) (b : Bool) (i r : Nat) (t t2 : Told), wantGo l num ws b i r t = .inr t2 → t2.op = t.op
 | [], b, i, r, t, t2, h => by
  rw [wantGo] at h
  cases h0 : decide (l.length ≤ i + 1) with
  | true => rw [h0] at h; cases h; rfl
  | false => rw [h0] at h; cases h
 | w :: ws, true, i, r, t, t2, h => by
  rw [wantGo] at h
  exact wantOne_op (fun r t' t2 e h => (wantGo_op ws false (i + 1) r t' t2 h).trans e) t2 h
 | w :: ws, false, i, r, t, t2, h => by
  rw [wantGo] at h
  cases h0 : decide (l.length ≤ i + 1) with
  | true => rw [h0] at h; cases h
  | false =>
   rw [h0, cond_false] at h
   cases h2 : decide ((tk l (i + 1)).kind = 4) with
   | true =>
    rw [h2, cond_true] at h
    exact wantOne_op (fun r t' t2 e h => (wantGo_op ws false (i + 1 + 1) r t' t2 h).trans e) t2 h
   | false => rw [h2] at h; cases h
def OpOk (td : List Told) : Prop := ∀ t ∈ td, 0 ≤ t.op
theorem liEnd_op {l : List Tok} {num : Int} {td : List Told} {r : Nat × Lb × Bool} {t : Told} (h : liEnd l num td r = .inl (.inr t)) : 0 ≤ t.op := by
 unfold liEnd at h
 cases h1 : r.2.2 with
 | true => rw [h1] at h; cases h
 | false =>
  rw [h1, cond_false] at h
  by_cases h2 : r.1 = l.length
  ·rw [decide_eq_true h2] at h; cases h
  rw [decide_eq_false h2, cond_false] at h
  have h : liRes l num opsE (wantsOf (mapI opsE (tk l r.1).text)) td.length r.1 = .inr t := Sum.inl.inj h
  unfold liRes at h
  cases h3 : mapHas opsE (tk l r.1).text with
  | false => rw [h3] at h; cases h
  | true =>
   rw [h3, cond_true] at h
   cases h4 : decide ((tk l r.1).kind = 1) with
   | false => rw [h4] at h; cases h
   | true =>
    rw [h4, cond_true] at h
    cases h5 : decide (td.length = 1024) with
    | true => rw [h5] at h; cases h
    | false =>
     rw [h5, cond_false] at h
     rw [wantGo_op _ _ _ _ _ _ h]
     exact (ops_has _).1
theorem lnStep_op {s : ByteArray} {num : Int} {lb : Lb} {td : List Told} (h : OpOk td) : OpOk (lnStep s num lb td).td := by
 unfold lnStep
 split
 ·exact h
 split
 ·exact h
 split
 ·exact h
 ·exact h
 ·rename_i t ht
  intro x hx
  rcases List.mem_append.1 hx with hx | hx
  ·exact h x hx
  ·rw [List.mem_singleton] at hx
   subst hx
   exact liEnd_op ht
theorem mkGo_ok : ∀ (ss : List ByteArray) (n : Nat) (lb : Lb) (td : List Told), OpOk td → td.length ≤ 1024 → OpOk (mkGo ss n lb td).2.1 ∧ (mkGo ss n lb td).2.1.length ≤ 1024
 | [], n, lb, td, h1, h2 => ⟨h1, h2⟩
 | s :: ss, n, lb, td, h1, h2 => by
  have a := lnStep_op (s := s) (num := ((n + 1 : Nat) : Int)) (lb := lb) h1
  have b := lnStep_len s ((n + 1 : Nat) : Int) lb td h2
  rw [mkGo]
  cases hq : lnStep s ((n + 1 : Nat) : Int) lb td with
  | mk lb' td' er =>
   rw [hq] at a b
   cases er with
   | some x => exact ⟨a, b⟩
   | none => exact mkGo_ok ss (n + 1) lb' td' a b
def m2Fin (lb : Lb) (td : List Told) (r : List Int × Option (Int × Int × Int)) : Out := match r.2 with
 | some x => m2Ret x.1 x.2.1 x.2.2 lb td r.1
 | none => m2Exit lb td r.1
theorem HPt_ok {gl : Gl} (hF : GlF gl) (hgl : Low gl) : (HPt putN cmayI).OK Tryz.prog gl := one_ok fun p h => by
 simp only [List.mem_cons, List.not_mem_nil, or_false] at h
 subst h
 exact fn_cput hF hgl
theorem m2_loop {gl : Gl} (hF : GlF gl) (hgl : Low gl) {lb : Lb} {td : List Told} (ho : OpOk td) (htd : td.length ≤ 1024) :
  LpOK Tryz.prog gl 14 1 ⟨m2Live, m2Out, gH (atS (m2St 0 lb td []).1 (m2St 0 lb td []).2) (m2Fin lb td (wdGoM lb td 0 []))⟩ :=
 loop_here goodB hgl tglob (by show 1005 ≤ most; decide) ⟨{p : Nat × List Int // p.1 ≤ td.length ∧ p.2.length = p.1}, fun p => m2St p.1.1 lb td p.1.2, fun p => some (m2Fin lb td (wdGoM lb (td.drop p.1.1) p.1.1 p.1.2)), fun p => td.length - p.1.1, ⟨(0, []), Nat.zero_le _, rfl⟩, rfl, rfl, by
  rintro ⟨⟨i, ws⟩, hi, hw⟩ o ho'
  simp only at hi hw ho'
  cases ho'
  by_cases h : i = td.length
  ·refine ⟨syL 1002 (toldsC td), HPt putN cmayI, 100, 40, 40, _, syL_ok (by decide) _, HPt_ok hF hgl, m2_end gl h, ?_⟩
   subst h
   show m2Exit lb td ws = m2Fin lb td (wdGoM lb (td.drop td.length) td.length ws)
   rw [List.drop_length]
   rfl
  ·have hlt : i < td.length := by omega
   have hd : td.drop i = tdA td i :: td.drop (i + 1) := by
    rw [List.drop_eq_getElem_cons hlt]
    unfold tdA
    rw [List.getElem?_eq_getElem hlt]
    rfl
   have hmem : tdA td i ∈ td.drop i := by rw [hd]; exact List.mem_cons_self ..
   have hop : 0 ≤ (tdA td i).op := ho _ (List.mem_of_mem_drop hmem)
   have hr : m2Round gl (syL 1002 (toldsC td)) (HPt putN cmayI) (m2St i lb td ws) = some (m2Next i lb td ws (tdA td i) (tdW lb i (tdA td i))) := by
    cases ws with
    | nil => exact m2_round0 gl hlt htd hop
    | cons x ws => exact m2_round1 gl hlt htd hop (by omega)
   refine ⟨syL 1002 (toldsC td), HPt putN cmayI, 100, 40, 40, _, syL_ok (by decide) _, HPt_ok hF hgl, hr, ?_⟩
   rw [hd, wdGoM]
   cases tdW lb i (tdA td i) with
   | inl w => exact ⟨⟨(i + 1, ws ++ [w]), hlt, by simp [hw]⟩, rfl, by simp only; omega, rfl⟩
   | inr e => rfl⟩
theorem split_at {gl : Gl} {m : Int} (hm : gl 0 0 = some (.int .i64 m)) {s sep : ByteArray} (hs : s.size < 4294967281) (hsep : 1 ≤ sep.size) : SubOK Tryz.prog gl 27 (gH (atS [.string s, .string sep] []) (.normal, [slK0 1000 (splB s sep).length], [stRow (stC (splB s sep))])) := by
 intro vs rows t e v rows' h1 h2 φ w args' hr hl
 obtain ⟨rfl, rfl, ho⟩ := gH_run h1 h2
 simp only [Prod.mk.injEq, List.cons.injEq, and_true] at ho
 obtain ⟨rfl, rfl, rfl⟩ := ho
 have hlen := spl_len s sep hsep
 have ea : args' = #[.string s, .string sep] := by
  have : args'.toList = [.string s, .string sep] := LR.of_af hl rfl
  rw [← Array.toArray_toList (xs := args'), this]
 subst ea
 obtain ⟨b, g1, v', g2, g3⟩ := hr.glob 0 0 _ hm
 have g4 := hr.stat 0 (Nat.le_of_ble_eq_true (by kernel_rfl))
 rw [g4] at g1
 cases g1
 cases g3
 have hst : ∀ {l : List ByteArray} {k : Nat} {v : Value}, (l.map Value.string)[k]? = some v → af 8 v = true := fun hk => by
  obtain ⟨x, _, rfl⟩ := List.mem_map.1 (List.mem_of_getElem? hk)
  rfl
 have hB : Below w.heap.size w (w.alloc (.cells ((splB s sep).map Value.string).toArray 9)) := (Below.refl _ _).alloc (Nat.le_refl _) _
 refine (Tryz.strings_Split s sep m w hs g2 hsep).mono ?_
 rintro e w' ⟨rfl, rfl⟩
 have t := Tr.adoptRow (rows := []) (show 1000 + 0 < most by decide) hr hB (R := w.heap.size) (Nat.le_refl _) (by simp) (b := .row ⟨(splB s sep).map Value.string, 9, (0, 0), 0, false, false⟩) (x := .cells ((splB s sep).map Value.string).toArray 9 (0, 0)) Array.getElem?_push_size none
  ⟨_, _, rfl, fun k v hk => ⟨v, by simpa using hk, VR.af_refl 8 (hst hk)⟩, by simp, rfl, rfl⟩
 refine ⟨_, _, rfl, t, ?_⟩
 rw [hlen]
 exact .slice _ _ _ _ _ ⟨rfl, rfl, ⟨w.heap.size, none⟩, by simp [Phi.set], rfl, fun _ => ⟨rfl, rfl⟩, fun S z h => by cases h⟩
theorem ops_at {gl : Gl} (hgl : Low gl) : SubOK Tryz.prog gl 28 (gH (atS [] []) (.normal, [.map (some 1000)], [some (.map opsE 22)])) :=
 sub_at goodB hgl tglob (by show 1000 ≤ most; decide) ⟨noSy, HB0, 100, 40, 40, noSy_ok, HB0_ok, (r_ops gl).trans rfl⟩
structure MkA where
 ws : List Int
 line : Int
 at_ : Int
 er : Int
def nlB : ByteArray := ⟨#[10]⟩
def mkW (lb : Lb) (td : List Told) : MkA := match wdGoM lb td 0 [] with
 | (_, some x) => ⟨[], x.1, x.2.1, x.2.2⟩
 | (ws, none) => ⟨ws, 0, 0, 0⟩
def mkA (s : ByteArray) : MkA := match mkGo (splB s nlB) 0 [] [] with
 | (_, _, some x) => ⟨[], x.1, x.2.1, x.2.2⟩
 | (lb, td, none) => mkW lb td
def mkT (A : MkA) (v : Value) : Value := .tuple #[v, .agg #[.int .i64 A.line, .int .i64 A.at_], .int .i64 A.er]
def mkAns (A : MkA) : Out := match A.ws with
 | [] => (.normal, [mkT A slN], [])
 | _ :: _ => (.normal, [mkT A (slK0 1000 A.ws.length)], [wdRow (wC A.ws)])
theorem wdGoM_ne {lb : Lb} : ∀ (td : List Told) (i : Nat) (ws ws' : List Int), wdGoM lb td i ws = (ws', none) → ws'.length = ws.length + td.length
 | [], i, ws, ws', h => by cases h; rfl
 | t :: td, i, ws, ws', h => by
  rw [wdGoM] at h
  cases hq : tdW lb i t with
  | inl w =>
   rw [hq] at h
   have := wdGoM_ne td (i + 1) (ws ++ [w]) ws' h
   rw [List.length_append] at this
   simp only [List.length_cons, List.length_nil] at this ⊢
   omega
  | inr e => rw [hq] at h; cases h
theorem HMk_ok {gl : Gl} {m : Int} {u0 o0 u1 o1 : Nat} (hS : ∀ g k v, glS u0 o0 u1 o1 g k = some v → gl g k = some v) (hF : GlF gl) (hgl : Low gl) (hm : gl 0 0 = some (.int .i64 m)) {s : ByteArray} (hs : s.size ≤ 900000) {lb : Lb} {td : List Told} (ho : OpOk td) (htd : td.length ≤ 1024) {p1 p2 : Out} (h1 : p1 = mkFin (splB s nlB) (mkGo (splB s nlB) 0 [] [])) (h2 : p2 = m2Fin lb td (wdGoM lb td 0 [])) :
  (HMk (atS [] []) (atS [.string s, .string nlB] []) (atS (mkSt 0 (splB s nlB) [] []).1 (mkSt 0 (splB s nlB) [] []).2) (atS (m2St 0 lb td []).1 (m2St 0 lb td []).2) opsE (stC (splB s nlB)) (splB s nlB).length p1 p2).OK Tryz.prog gl := by
 have hlen : (splB s nlB).length ≤ 1000000 := by
  have h := splB_count s 10
  have h2 := List.count_le_length (a := (10 : UInt8)) (l := s.data.toList)
  rw [data_len] at h2
  show (splB s ⟨#[10]⟩).length ≤ _
  omega
 exact hsOf_ok (fun _ h => by cases h) (fun p h => by
  simp only [List.mem_cons, List.not_mem_nil, or_false] at h
  rcases h with rfl | rfl
  ·exact ops_at hgl
  ·exact split_at hm (by omega) (by decide)) (fun p hp q hq => by
  simp only [List.mem_cons, List.not_mem_nil, or_false] at hp
  subst hp
  simp only [List.mem_cons, List.not_mem_nil, or_false] at hq
  rcases hq with rfl | rfl
  ·rw [h1]; exact mk_loop hS hgl hlen
  ·rw [h2]; exact m2_loop hF hgl ho htd)
theorem HMk3_ok {gl : Gl} {m : Int} {u0 o0 u1 o1 : Nat} (hS : ∀ g k v, glS u0 o0 u1 o1 g k = some v → gl g k = some v) (hgl : Low gl) (hm : gl 0 0 = some (.int .i64 m)) {s : ByteArray} (hs : s.size ≤ 900000) {p1 : Out} (h1 : p1 = mkFin (splB s nlB) (mkGo (splB s nlB) 0 [] [])) :
  (HMk3 (atS [] []) (atS [.string s, .string nlB] []) (atS (mkSt 0 (splB s nlB) [] []).1 (mkSt 0 (splB s nlB) [] []).2) opsE (stC (splB s nlB)) (splB s nlB).length p1).OK Tryz.prog gl := by
 have hlen : (splB s nlB).length ≤ 1000000 := by
  have h := splB_count s 10
  have h2 := List.count_le_length (a := (10 : UInt8)) (l := s.data.toList)
  rw [data_len] at h2
  show (splB s ⟨#[10]⟩).length ≤ _
  omega
 exact hsOf_ok (fun _ h => by cases h) (fun p h => by
  simp only [List.mem_cons, List.not_mem_nil, or_false] at h
  rcases h with rfl | rfl
  ·exact ops_at hgl
  ·exact split_at hm (by omega) (by decide)) (fun p hp q hq => by
  simp only [List.mem_cons, List.not_mem_nil, or_false] at hp
  subst hp
  simp only [List.mem_cons, List.not_mem_nil, or_false] at hq
  subst hq
  rw [h1]; exact mk_loop hS hgl hlen)
end Go.Proofs.YtgohbcbdgakjeaaGreatDoor
noncomputable section
namespace Go.Proofs.YtgohbcbdgakjeaaGreatDoor
open Go.Proofs.YtgohbcbdgakjeaaGreatDoor.Ev Go.RowKit
theorem make_at {gl : Gl} {m : Int} {u0 o0 u1 o1 : Nat} (hS : ∀ g k v, glS u0 o0 u1 o1 g k = some v → gl g k = some v) (hF : GlF gl) (hgl : Low gl) (hm : gl 0 0 = some (.int .i64 m)) {s : ByteArray} (hs : s.size ≤ 900000) : SubOK Tryz.prog gl 14 (gH (atS [.string s] []) (mkAns (mkA s))) := by
 refine sub_at goodB hgl tglob (by show 1000 ≤ most; decide) ?_
 have ok := mkGo_ok (splB s nlB) 0 [] [] (fun t h => by cases h) (Nat.zero_le _)
 have oa := opsF.all
 have aE := andI oa (show true = true from rfl)
 have sA := stC_all (splB s nlB)
 unfold mkA
 cases hq : mkGo (splB s nlB) 0 [] [] with
 | mk lb q =>
 obtain ⟨td, er⟩ := q
 rw [hq] at ok
 obtain ⟨ho, htd⟩ := ok
 have hF1 : ∀ p1 : Out, p1 = mkFin (splB s nlB) (lb, td, er) → p1 = mkFin (splB s nlB) (mkGo (splB s nlB) 0 [] []) := fun p1 h => by rw [h, hq]
 cases er with
 | some x =>
  refine ⟨noSy, HMk3 (atS [] []) (atS [.string s, .string nlB] []) (atS (mkSt 0 (splB s nlB) [] []).1 (mkSt 0 (splB s nlB) [] []).2) opsE (stC (splB s nlB)) (splB s nlB).length (mkRet x.1 x.2.1 x.2.2 (splB s nlB) lb td), 100, 40, 40, noSy_ok, HMk3_ok hS hgl hm hs (hF1 _ rfl), ?_⟩
  cases td with
  | nil => exact (r_mk1 gl _ _ _ x.1 x.2.1 x.2.2 opsE (lbEs 0 lb) lb.length (splB s nlB).length (stC (splB s nlB)) s).trans (condI (atS_self _ _) (condI (andI oa rfl) (condI (atS_self _ _) (condI (andI sA rfl) (condI (andI sA (andI oa rfl)) (condI (atS_self _ _) (condI (andI sA (andI oa (andI (lbEs_all lb 0) rfl))) rfl)))))))
  | cons t td => exact (r_mk2 gl _ _ _ x.1 x.2.1 x.2.2 opsE (lbEs 0 lb) lb.length (splB s nlB).length (stC (splB s nlB)) (toldsC (t :: td)) (t :: td).length s).trans (condI (atS_self _ _) (condI (andI oa rfl) (condI (atS_self _ _) (condI (andI sA rfl) (condI (andI sA (andI oa rfl)) (condI (atS_self _ _) (condI (andI sA (andI oa (andI (lbEs_all lb 0) (andI (toldsC_all _) rfl)))) rfl)))))))
 | none =>
 cases td with
 | nil =>
  refine ⟨noSy, HMk3 (atS [] []) (atS [.string s, .string nlB] []) (atS (mkSt 0 (splB s nlB) [] []).1 (mkSt 0 (splB s nlB) [] []).2) opsE (stC (splB s nlB)) (splB s nlB).length (mkExit (splB s nlB) lb []), 100, 40, 40, noSy_ok, HMk3_ok hS hgl hm hs (hF1 _ rfl), ?_⟩
  exact (r_mk3 gl _ _ _ opsE (lbEs 0 lb) lb.length (splB s nlB).length (stC (splB s nlB)) s).trans (condI (atS_self _ _) (condI (andI oa rfl) (condI (atS_self _ _) (condI (andI sA rfl) (condI (andI sA (andI oa rfl)) (condI (atS_self _ _) (condI (andI sA (andI oa (andI (lbEs_all lb 0) rfl))) rfl)))))))
 | cons t td =>
  show ∃ (sy : Sy) (H : Hs) (L G d : Nat), SyOK gl sy ∧ H.OK Tryz.prog gl ∧ callSK sy Tryz.prog gl exB H L G d (.fn 14) [.string s] (rowsOf []) (exitK Tryz.prog 1000) = some (mkAns (mkW lb (t :: td)))
  unfold mkW
  cases hw : wdGoM lb (t :: td) 0 [] with
  | mk ws er =>
  have aTd := andI (toldsC_all (t :: td)) (andI oa (andI (lbEs_all lb 0) (show true = true from rfl)))
  have a1 := andI sA (andI oa (andI (lbEs_all lb 0) (andI (toldsC_all (t :: td)) (show true = true from rfl))))
  have hF2 : ∀ p2 : Out, p2 = m2Fin lb (t :: td) (ws, er) → p2 = m2Fin lb (t :: td) (wdGoM lb (t :: td) 0 []) := fun p2 h => by rw [h, hw]
  cases er with
  | some x =>
   refine ⟨noSy, HMk (atS [] []) (atS [.string s, .string nlB] []) (atS (mkSt 0 (splB s nlB) [] []).1 (mkSt 0 (splB s nlB) [] []).2) (atS (m2St 0 lb (t :: td) []).1 (m2St 0 lb (t :: td) []).2) opsE (stC (splB s nlB)) (splB s nlB).length (mkExit (splB s nlB) lb (t :: td)) (m2Ret x.1 x.2.1 x.2.2 lb (t :: td) ws), 100, 40, 40, noSy_ok, HMk_ok hS hF hgl hm hs ho htd (hF1 _ rfl) (hF2 _ rfl), ?_⟩
   cases ws with
   | nil => exact (r_mk4 gl _ _ _ _ x.1 x.2.1 x.2.2 opsE (lbEs 0 lb) lb.length (splB s nlB).length (stC (splB s nlB)) (toldsC (t :: td)) (t :: td).length s).trans (condI (atS_self _ _) (condI (andI oa rfl) (condI (atS_self _ _) (condI (andI sA rfl) (condI (andI sA (andI oa rfl)) (condI (atS_self _ _) (condI a1 (condI aTd (condI (atS_self _ _) (condI aTd rfl))))))))))
   | cons w ws => exact (r_mk5 gl _ _ _ _ x.1 x.2.1 x.2.2 opsE (lbEs 0 lb) lb.length (splB s nlB).length (stC (splB s nlB)) (toldsC (t :: td)) (t :: td).length (wC (w :: ws)) (w :: ws).length s).trans (condI (atS_self _ _) (condI (andI oa rfl) (condI (atS_self _ _) (condI (andI sA rfl) (condI (andI sA (andI oa rfl)) (condI (atS_self _ _) (condI a1 (condI aTd (condI (atS_self _ _) (condI (andI (toldsC_all (t :: td)) (andI oa (andI (lbEs_all lb 0) (andI (wC_all _) rfl)))) rfl))))))))))
  | none =>
   have hl := wdGoM_ne (t :: td) 0 [] ws hw
   refine ⟨noSy, HMk (atS [] []) (atS [.string s, .string nlB] []) (atS (mkSt 0 (splB s nlB) [] []).1 (mkSt 0 (splB s nlB) [] []).2) (atS (m2St 0 lb (t :: td) []).1 (m2St 0 lb (t :: td) []).2) opsE (stC (splB s nlB)) (splB s nlB).length (mkExit (splB s nlB) lb (t :: td)) (m2Exit lb (t :: td) ws), 100, 40, 40, noSy_ok, HMk_ok hS hF hgl hm hs ho htd (hF1 _ rfl) (hF2 _ rfl), ?_⟩
   cases ws with
   | nil => simp at hl
   | cons w ws => exact (r_mk6 gl _ _ _ _ opsE (lbEs 0 lb) lb.length (splB s nlB).length (stC (splB s nlB)) (toldsC (t :: td)) (t :: td).length (wC (w :: ws)) (w :: ws).length s).trans (condI (atS_self _ _) (condI (andI oa rfl) (condI (atS_self _ _) (condI (andI sA rfl) (condI (andI sA (andI oa rfl)) (condI (atS_self _ _) (condI a1 (condI aTd (condI (atS_self _ _) (condI (andI (toldsC_all (t :: td)) (andI oa (andI (lbEs_all lb 0) (andI (wC_all _) rfl)))) (condI (andI (wC_all _) rfl) rfl)))))))))))
end Go.Proofs.YtgohbcbdgakjeaaGreatDoor
