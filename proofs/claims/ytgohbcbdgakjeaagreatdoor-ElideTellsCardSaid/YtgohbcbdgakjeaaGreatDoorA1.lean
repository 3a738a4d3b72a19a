/- asm: the labels of a line of tokens; what an instruction wants: residuals of the code that reads it, the first one. -/
import Derived.Test.YtgohbcbdgakjeaaGreatDoorS1
import Derived.Test.YtgohbcbdgakjeaaGreatDoorM2
import Derived.Test.YtgohbcbdgakjeaaGreatDoorEv6
noncomputable section
noncomputable section
namespace Go.Proofs.YtgohbcbdgakjeaaGreatDoor
open Go.Proofs.YtgohbcbdgakjeaaGreatDoor.Ev Go.RowKit
abbrev MEs := List (Value × Value × Nat)
def toldRow (cs : List Value) : Option LObj := some (.row ⟨cs, 63, (0, 0), 8, false, false⟩)
def mkRow (x y : Nat) (l : Value) : Option LObj := some (.row ⟨[.map (some x), .map (some y), l], 52, (0, 0), 0, false, false⟩)
def mpRow (es : MEs) (c : Nat) : Option LObj := some (.map es c)
def slK0 (b n : Nat) : Value := .slice (some ⟨b, 0, none⟩) n n
def slN : Value := .slice none 0 0
def pK (b : Nat) : Value := .pointer (some ⟨b, 0, none⟩)
def syL (b : Nat) (cs : List Value) : Sy := fun i => cond (Nat.beq i b) (some (symOf cs)) none
theorem syL_ok {gl : Gl} {b : Nat} (hb : 1000 ≤ b) (cs : List Value) : SyOK gl (syL b cs) := fun i S h => by
 unfold syL at h
 rw [Bool.cond_eq_ite] at h
 split at h
 ·rename_i e
  cases h
  rw [nbeq] at e
  exact ⟨fun _ => symOf_ok cs, fun hl => by omega⟩
 ·cases h
def lbLive : List Nat := [8, 0, 1, 2, 6, 7]
def lbOut : List Nat := [8, 1, 2, 0, 6, 7]
def lbV (i num : Int) (k : Nat) : List Value := [.int .i64 i, pK 1000, slK0 1001 k, .int .i64 num, .int .i64 0, .int .i64 0]
def lbSt0 (i num : Int) (cs : List Value) (k : Nat) (es lb : MEs) (eo c : Nat) : LSt := (lbV i num k, [mkRow 1002 1003 slN, tokRow cs, mpRow es eo, mpRow lb c])
def lbSt1 (i num : Int) (cs : List Value) (k : Nat) (es lb : MEs) (eo c : Nat) (td : List Value) (n : Nat) : LSt := (lbV i num k, [mkRow 1002 1003 (slK0 1004 n), tokRow cs, mpRow es eo, mpRow lb c, toldRow td])
set_option maxRecDepth 100000 in
theorem r_lb0 (gl : Gl) (i num : Int) (cs : List Value) (k : Nat) (es lb : MEs) (eo c : Nat) : roundK (syL 1001 cs) Tryz.prog gl exB HB0 100 40 40 30 0 lbLive (lbSt0 i num cs k es lb eo c) (rndK Tryz.prog 1004 lbLive lbOut) =
 let z3 := (symOf cs).str (0 + i.toNat * 4 + 1)
 let z4 := (symOf cs).okS (0 + i.toNat * 4 + 1)
 let z5 := List.all cs (af 8) && (List.all es (fun e => af 8 e.fst && af 8 e.snd.fst) && (List.all lb (fun e => af 8 e.fst && af 8 e.snd.fst) && true))
 let z1 : Option (LSt ⊕ Out) := cond z5 (
 some (.inr (.exit 0, ([(.int .i64 (i)), (.slice (some ⟨1001, 0, none⟩) (k) (k)), (.int .i64 (num)), (.pointer (some ⟨1000, 0, none⟩)), (.int .i64 0), (.int .i64 0)], [some (.row ⟨[(.map (some 1002)), (.map (some 1003)), (.slice none 0 0)], 52, (0, 0), 0, false, false⟩), some (.row ⟨cs, 59, (0, 0), 4, false, false⟩), some (.map (es) (eo)), some (.map (lb) (c))])))) (
 none)
 let z6 := decide (0 ≤ i) && (decide (i < (↑k : Int))) && (k.ble k)
 let z7 := veq 8 (.string z3) (.string z3)
 let z2 : Option (LSt ⊕ Out) := cond (sameL cs cs) (
 cond z4 (
 cond z7 (
 cond z5 (
 some (.inr (.ret, ([(.int .i64 (i)), (.slice (some ⟨1001, 0, none⟩) (k) (k)), (.int .i64 (num)), (.pointer (some ⟨1000, 0, none⟩)), (.int .i64 (i)), (.int .i64 211)], [some (.row ⟨[(.map (some 1002)), (.map (some 1003)), (.slice none 0 0)], 52, (0, 0), 0, false, false⟩), some (.row ⟨cs, 59, (0, 0), 4, false, false⟩), some (.map (es) (eo)), some (.map (lb) (c))])))) (
 none)) (
 none)) (
 none)) (
 none)
 let z8 := decide (IntKind.i64.wrap (i + 1) < (↑k : Int))
 let z9 := 0 + (IntKind.i64.wrap (i + 1)).toNat * 4
 let z10 := mapOk .i64 lb
 let z0 : Option (LSt ⊕ Out) := cond (sameL cs cs) (
 cond z4 (
 cond z7 (
 cond z6 (
 cond (sameL cs cs) (
 cond z4 (
 cond z10 (
 cond (mapHas lb z3) (
 cond (sameL cs cs) (
 cond z4 (
 cond z7 (
 cond (List.all cs (af 8) && (List.all es (fun e => af 8 e.fst && af 8 e.snd.fst) && (List.all (mapSet lb z3 (.int .i64 0)) (fun e => af 8 e.fst && af 8 e.snd.fst) && true))) (
 some (.inl ([(.int .i64 (IntKind.i64.wrap (i + 2))), (.pointer (some ⟨1000, 0, none⟩)), (.slice (some ⟨1001, 0, none⟩) (k) (k)), (.int .i64 (num)), (.int .i64 0), (.int .i64 0)], [some (.row ⟨[(.map (some 1002)), (.map (some 1003)), (.slice none 0 0)], 52, (0, 0), 0, false, false⟩), some (.row ⟨cs, 59, (0, 0), 4, false, false⟩), some (.map (es) (eo)), some (.map (mapSet lb z3 (.int .i64 0)) (c))]))) (
 none)) (
 none)) (
 none)) (
 none)) (
 cond (sameL cs cs) (
 cond z4 (
 cond z7 (
 cond (List.all cs (af 8) && (List.all es (fun e => af 8 e.fst && af 8 e.snd.fst) && (List.all (lb ++ [((.string z3, .int .i64 0, c))]) (fun e => af 8 e.fst && af 8 e.snd.fst) && true))) (
 some (.inl ([(.int .i64 (IntKind.i64.wrap (i + 2))), (.pointer (some ⟨1000, 0, none⟩)), (.slice (some ⟨1001, 0, none⟩) (k) (k)), (.int .i64 (num)), (.int .i64 0), (.int .i64 0)], [some (.row ⟨[(.map (some 1002)), (.map (some 1003)), (.slice none 0 0)], 52, (0, 0), 0, false, false⟩), some (.row ⟨cs, 59, (0, 0), 4, false, false⟩), some (.map (es) (eo)), some (.map (lb ++ [(.string z3, .int .i64 0, c)]) (c + 1))]))) (
 none)) (
 none)) (
 none)) (
 none))) (
 none)) (
 none)) (
 none)) (
 none)) (
 none)) (
 none)) (
 none)
 cond z8 (
 cond z6 (
 cond (sameL cs cs) (
 cond ((symOf cs).okI .u8 (0 + i.toNat * 4)) (
 cond ((symOf cs).int .u8 (0 + i.toNat * 4) == 1) (
 cond (decide (0 ≤ IntKind.i64.wrap (i + 1)) && z8 && (k.ble k)) (
 cond (sameL cs cs) (
 cond ((symOf cs).okI .u8 z9) (
 cond ((symOf cs).int .u8 z9 == 5) (
 cond z6 (
 cond (sameL cs cs) (
 cond z4 (
 cond z10 (
 cond (mapHas lb z3) (
 cond z10 (
 cond (mapHas lb z3) (
 cond (veq 8 (.tuple #[.int .i64 (mapI lb z3), .bool true]) (.tuple #[.int .i64 (mapI lb z3), .bool true])) z2 (
 none)) (
 cond (veq 8 (.tuple #[.int .i64 0, .bool false]) (.tuple #[.int .i64 (mapI lb z3), .bool true])) z2 (
 none))) (
 none)) (
 cond z10 (
 cond (mapHas lb z3) (
 cond (veq 8 (.tuple #[.int .i64 (mapI lb z3), .bool true]) (.tuple #[.int .i64 0, .bool false])) z0 (
 none)) z0) (
 none))) (
 none)) (
 none)) (
 none)) (
 none)) z1) (
 none)) (
 none)) (
 none)) z1) (
 none)) (
 none)) (
 none)) z1 := by kernel_rfl
set_option maxRecDepth 100000 in
theorem r_lb1 (gl : Gl) (i num : Int) (cs : List Value) (k : Nat) (es lb : MEs) (eo c : Nat) (td : List Value) (n : Nat) : roundK (syL 1001 cs) Tryz.prog gl exB HB0 100 40 40 30 0 lbLive (lbSt1 i num cs k es lb eo c td n) (rndK Tryz.prog 1005 lbLive lbOut) =
 let z3 := (symOf cs).str (0 + i.toNat * 4 + 1)
 let z4 := (symOf cs).okS (0 + i.toNat * 4 + 1)
 let z6 := decide (0 ≤ i) && (decide (i < (↑k : Int))) && (k.ble k)
 let z7 := veq 8 (.string z3) (.string z3)
 let z8 := List.all td (af 8) && true
 let z5 := List.all cs (af 8) && (List.all es (fun e => af 8 e.fst && af 8 e.snd.fst) && (List.all lb (fun e => af 8 e.fst && af 8 e.snd.fst) && z8))
 let z1 : Option (LSt ⊕ Out) := cond z5 (
 some (.inr (.exit 0, ([(.int .i64 (i)), (.slice (some ⟨1001, 0, none⟩) (k) (k)), (.int .i64 (num)), (.pointer (some ⟨1000, 0, none⟩)), (.int .i64 0), (.int .i64 0)], [some (.row ⟨[(.map (some 1002)), (.map (some 1003)), (.slice (some ⟨1004, 0, none⟩) (n) (n))], 52, (0, 0), 0, false, false⟩), some (.row ⟨cs, 59, (0, 0), 4, false, false⟩), some (.map (es) (eo)), some (.map (lb) (c)), some (.row ⟨td, 63, (0, 0), 8, false, false⟩)])))) (
 none)
 let z2 : Option (LSt ⊕ Out) := cond (sameL cs cs) (
 cond z4 (
 cond z7 (
 cond z5 (
 some (.inr (.ret, ([(.int .i64 (i)), (.slice (some ⟨1001, 0, none⟩) (k) (k)), (.int .i64 (num)), (.pointer (some ⟨1000, 0, none⟩)), (.int .i64 (i)), (.int .i64 211)], [some (.row ⟨[(.map (some 1002)), (.map (some 1003)), (.slice (some ⟨1004, 0, none⟩) (n) (n))], 52, (0, 0), 0, false, false⟩), some (.row ⟨cs, 59, (0, 0), 4, false, false⟩), some (.map (es) (eo)), some (.map (lb) (c)), some (.row ⟨td, 63, (0, 0), 8, false, false⟩)])))) (
 none)) (
 none)) (
 none)) (
 none)
 let z9 := decide (IntKind.i64.wrap (i + 1) < (↑k : Int))
 let z10 := 0 + (IntKind.i64.wrap (i + 1)).toNat * 4
 let z11 := mapOk .i64 lb
 let z12 := mapSet lb z3 (.int .i64 (↑n : Int))
 let z0 : Option (LSt ⊕ Out) := cond (sameL cs cs) (
 cond z4 (
 cond z7 (
 cond z6 (
 cond (sameL cs cs) (
 cond z4 (
 cond z11 (
 cond (mapHas lb z3) (
 qs [(↑n : Int)] (
 cond (veq 8 (slK0 1004 n) (slK0 1004 n)) (
 cond (sameL cs cs) (
 cond z4 (
 cond z7 (
 cond (List.all cs (af 8) && (List.all es (fun e => af 8 e.fst && af 8 e.snd.fst) && (List.all z12 (fun e => af 8 e.fst && af 8 e.snd.fst) && z8))) (
 some (.inl ([(.int .i64 (IntKind.i64.wrap (i + 2))), (.pointer (some ⟨1000, 0, none⟩)), (.slice (some ⟨1001, 0, none⟩) (k) (k)), (.int .i64 (num)), (.int .i64 0), (.int .i64 0)], [some (.row ⟨[(.map (some 1002)), (.map (some 1003)), (.slice (some ⟨1004, 0, none⟩) (n) (n))], 52, (0, 0), 0, false, false⟩), some (.row ⟨cs, 59, (0, 0), 4, false, false⟩), some (.map (es) (eo)), some (.map z12 (c)), some (.row ⟨td, 63, (0, 0), 8, false, false⟩)]))) (
 none)) (
 none)) (
 none)) (
 none)) (
 none))) (
 qs [(↑n : Int)] (
 cond (veq 8 (slK0 1004 n) (slK0 1004 n)) (
 cond (sameL cs cs) (
 cond z4 (
 cond z7 (
 cond (List.all cs (af 8) && (List.all es (fun e => af 8 e.fst && af 8 e.snd.fst) && (List.all (lb ++ [((.string z3, .int .i64 (↑n : Int), c))]) (fun e => af 8 e.fst && af 8 e.snd.fst) && z8))) (
 some (.inl ([(.int .i64 (IntKind.i64.wrap (i + 2))), (.pointer (some ⟨1000, 0, none⟩)), (.slice (some ⟨1001, 0, none⟩) (k) (k)), (.int .i64 (num)), (.int .i64 0), (.int .i64 0)], [some (.row ⟨[(.map (some 1002)), (.map (some 1003)), (.slice (some ⟨1004, 0, none⟩) (n) (n))], 52, (0, 0), 0, false, false⟩), some (.row ⟨cs, 59, (0, 0), 4, false, false⟩), some (.map (es) (eo)), some (.map (lb ++ [(.string z3, .int .i64 (↑n : Int), c)]) (c + 1)), some (.row ⟨td, 63, (0, 0), 8, false, false⟩)]))) (
 none)) (
 none)) (
 none)) (
 none)) (
 none)))) (
 none)) (
 none)) (
 none)) (
 none)) (
 none)) (
 none)) (
 none)
 cond z9 (
 cond z6 (
 cond (sameL cs cs) (
 cond ((symOf cs).okI .u8 (0 + i.toNat * 4)) (
 cond ((symOf cs).int .u8 (0 + i.toNat * 4) == 1) (
 cond (decide (0 ≤ IntKind.i64.wrap (i + 1)) && z9 && (k.ble k)) (
 cond (sameL cs cs) (
 cond ((symOf cs).okI .u8 z10) (
 cond ((symOf cs).int .u8 z10 == 5) (
 cond z6 (
 cond (sameL cs cs) (
 cond z4 (
 cond z11 (
 cond (mapHas lb z3) (
 cond z11 (
 cond (mapHas lb z3) (
 cond (veq 8 (.tuple #[.int .i64 (mapI lb z3), .bool true]) (.tuple #[.int .i64 (mapI lb z3), .bool true])) z2 (
 none)) (
 cond (veq 8 (.tuple #[.int .i64 0, .bool false]) (.tuple #[.int .i64 (mapI lb z3), .bool true])) z2 (
 none))) (
 none)) (
 cond z11 (
 cond (mapHas lb z3) (
 cond (veq 8 (.tuple #[.int .i64 (mapI lb z3), .bool true]) (.tuple #[.int .i64 0, .bool false])) z0 (
 none)) z0) (
 none))) (
 none)) (
 none)) (
 none)) (
 none)) z1) (
 none)) (
 none)) (
 none)) z1) (
 none)) (
 none)) (
 none)) z1 := by kernel_rfl
end Go.Proofs.YtgohbcbdgakjeaaGreatDoor
noncomputable section
namespace Go.Proofs.YtgohbcbdgakjeaaGreatDoor
open Go.Proofs.YtgohbcbdgakjeaaGreatDoor.Ev Go.RowKit
structure Told where
 op : Int
 a : Int
 b : Int
 c : Int
 n : Int
 line : Int
 at_ : Int
 label : ByteArray
def toldC (t : Told) : List Value := [.int .u8 t.op, .int .i64 t.a, .int .i64 t.b, .int .i64 t.c, .int .i64 t.n, .int .i64 t.line, .int .i64 t.at_, .string t.label]
def toldsC (l : List Told) : List Value := l.flatMap toldC
abbrev Lb := List (ByteArray × Int)
def lbEs : Nat → Lb → MEs
 | _, [] => []
 | c, p :: l => (.string p.1, .int .i64 p.2, c) :: lbEs (c + 1) l
def lbHas : Lb → ByteArray → Bool
 | [], _ => false
 | p :: l, s => cond (s == p.1) true (lbHas l s)
def lbAt : Lb → ByteArray → Int
 | [], _ => 0
 | p :: l, s => cond (s == p.1) p.2 (lbAt l s)
theorem lbEs_ok : ∀ (l : Lb) (c : Nat), mapOk .i64 (lbEs c l) = true
 | [], _ => rfl
 | p :: l, c => by
  show (decide (IntKind.i64 = IntKind.i64) && mapOk .i64 (lbEs (c + 1) l)) = true
  rw [lbEs_ok l]; rfl
theorem lbEs_has : ∀ (l : Lb) (c : Nat) (s : ByteArray), mapHas (lbEs c l) s = lbHas l s
 | [], _, _ => rfl
 | p :: l, c, s => by
  show cond (s == p.1) true (mapHas (lbEs (c + 1) l) s) = _
  rw [lbEs_has l]; rfl
theorem lbEs_at : ∀ (l : Lb) (c : Nat) (s : ByteArray), mapI (lbEs c l) s = lbAt l s
 | [], _, _ => rfl
 | p :: l, c, s => by
  show cond (s == p.1) p.2 (mapI (lbEs (c + 1) l) s) = _
  rw [lbEs_at l]; rfl
theorem lbEs_all : ∀ (l : Lb) (c : Nat), (lbEs c l).all (fun e => af 8 e.fst && af 8 e.snd.fst) = true
 | [], _ => rfl
 | p :: l, c => by
  show (true && (lbEs (c + 1) l).all _) = true
  rw [lbEs_all l]; rfl
theorem lbEs_snoc : ∀ (l : Lb) (c : Nat) (p : ByteArray × Int), lbEs c (l ++ [p]) = lbEs c l ++ [(.string p.1, .int .i64 p.2, c + l.length)]
 | [], c, p => rfl
 | q :: l, c, p => by
  show _ :: lbEs (c + 1) (l ++ [p]) = _
  rw [lbEs_snoc l, List.length_cons, show c + 1 + l.length = c + (l.length + 1) by omega]
  rfl
theorem toldsC_all (l : List Told) : (toldsC l).all (af 8) = true := by
 induction l with
 | nil => rfl
 | cons t l ih =>
  show (toldC t ++ toldsC l).all (af 8) = true
  rw [List.all_append, ih]
  rfl
def tk (l : List Tok) (i : Nat) : Tok := (l[i]?).getD ⟨0, ⟨#[]⟩, 0, 0⟩
structure TkA (l : List Tok) (i : Nat) : Prop where
 kOk : (symOf (toksC l)).okI .u8 (0 + i * 4) = true
 k : (symOf (toksC l)).int .u8 (0 + i * 4) = (tk l i).kind
 tOk : (symOf (toksC l)).okS (0 + i * 4 + 1) = true
 t : (symOf (toksC l)).str (0 + i * 4 + 1) = (tk l i).text
 nOk : (symOf (toksC l)).okI .i64 (0 + i * 4 + 2) = true
 n : (symOf (toksC l)).int .i64 (0 + i * 4 + 2) = (tk l i).n
 aOk : (symOf (toksC l)).okI .i64 (0 + i * 4 + 3) = true
 a : (symOf (toksC l)).int .i64 (0 + i * 4 + 3) = (tk l i).at_
theorem tkA {l : List Tok} {i : Nat} (h : i < l.length) : TkA l i := by
 have ht : l[i]? = some (tk l i) := by unfold tk; rw [List.getElem?_eq_getElem h]; rfl
 have g : ∀ j, j < 4 → (toksC l)[0 + i * 4 + j]? = (tokC (tk l i))[j]? := fun j hj => by
  rw [Nat.zero_add, toksC_get l i j hj, ht]; rfl
 have g0 : (toksC l)[0 + i * 4]? = some (.int .u8 (tk l i).kind) := g 0 (by decide)
 have g1 : (toksC l)[0 + i * 4 + 1]? = some (.string (tk l i).text) := g 1 (by decide)
 have g2 : (toksC l)[0 + i * 4 + 2]? = some (.int .i64 (tk l i).n) := g 2 (by decide)
 have g3 : (toksC l)[0 + i * 4 + 3]? = some (.int .i64 (tk l i).at_) := g 3 (by decide)
 constructor
 ·show cellIsI .u8 _ = true; rw [g0]; rfl
 ·show cellI _ = _; rw [g0]; rfl
 ·show cellIsS _ = true; rw [g1]; rfl
 ·show cellS _ = _; rw [g1]; rfl
 ·show cellIsI .i64 _ = true; rw [g2]; rfl
 ·show cellI _ = _; rw [g2]; rfl
 ·show cellIsI .i64 _ = true; rw [g3]; rfl
 ·show cellI _ = _; rw [g3]; rfl
def EsOk (es : MEs) : Prop := es.all (fun e => af 8 e.fst && af 8 e.snd.fst) = true
def lbSt (i : Nat) (num : Int) (l : List Tok) (es : MEs) (eo : Nat) (lb : Lb) (td : List Told) : LSt := match td with
 | [] => lbSt0 (i : Int) num (toksC l) l.length es (lbEs 0 lb) eo lb.length
 | _ :: _ => lbSt1 (i : Int) num (toksC l) l.length es (lbEs 0 lb) eo lb.length (toldsC td) td.length
def lbRows (l : List Tok) (es : MEs) (eo : Nat) (lb : Lb) (td : List Told) : List (Option LObj) := (lbSt 0 0 l es eo lb td).2
def lbRet (i : Nat) (num : Int) (l : List Tok) (es : MEs) (eo : Nat) (lb : Lb) (td : List Told) : Out := (.ret, [.int .i64 (i : Int), slK0 1001 l.length, .int .i64 num, pK 1000, .int .i64 (i : Int), .int .i64 211], lbRows l es eo lb td)
def lbExit (i : Nat) (num : Int) (l : List Tok) (es : MEs) (eo : Nat) (lb : Lb) (td : List Told) : Out := (.exit 0, [.int .i64 (i : Int), slK0 1001 l.length, .int .i64 num, pK 1000, .int .i64 0, .int .i64 0], lbRows l es eo lb td)
def lbIs (l : List Tok) (i : Nat) : Bool := decide (i + 1 < l.length) && (decide ((tk l i).kind = 1) && decide ((tk l (i + 1)).kind = 5))
def lbB (td : List Told) : Nat := match td with
 | [] => 1004
 | _ :: _ => 1005
theorem veq_slK (b n : Nat) : veq 8 (slK0 b n) (slK0 b n) = true := by
 unfold slK0
 simp [veq]
theorem lb_round (gl : Gl) {i : Nat} {num : Int} {l : List Tok} {es : MEs} {eo : Nat} {lb : Lb} {td : List Told} (hi : i ≤ l.length) (hl : l.length ≤ 1000) (he : EsOk es) (htd : td.length ≤ 100000) :
  roundK (syL 1001 (toksC l)) Tryz.prog gl exB HB0 100 40 40 30 0 lbLive (lbSt i num l es eo lb td) (rndK Tryz.prog (lbB td) lbLive lbOut) =
   some (cond (lbIs l i) (cond (lbHas lb (tk l i).text) (.inr (lbRet i num l es eo lb td)) (.inl (lbSt (i + 2) num l es eo (lb ++ [((tk l i).text, (td.length : Int))]) td))) (.inr (lbExit i num l es eo lb td))) := by
 have b1 : (l.length).ble l.length = true := nble (Nat.le_refl _)
 have w1 : IntKind.i64.wrap ((i : Int) + 1) = ((i + 1 : Nat) : Int) := by rw [wrap_64 (by omega) (by omega)]; omega
 have w2 : IntKind.i64.wrap ((i : Int) + 2) = ((i + 2 : Nat) : Int) := by rw [wrap_64 (by omega) (by omega)]; omega
 have a1 := andI (toksC_all l) (andI he (andI (lbEs_all lb 0) rfl))
 have a2 := fun td => andI (toksC_all l) (andI he (andI (lbEs_all lb 0) (andI (toldsC_all td) rfl)))
 have he' : es.all (fun e => af 8 e.fst && af 8 e.snd.fst) = true := he
 unfold lbIs
 by_cases h : i + 1 < l.length
 case neg =>
  rw [decide_eq_false h]
  have h2 : ¬ ((i + 1 : Nat) : Int) < (l.length : Int) := by omega
  cases td with
  | nil => exact (r_lb0 gl i num (toksC l) l.length es (lbEs 0 lb) eo lb.length).trans (condE (by rw [w1]; exact decide_eq_false h2) (condI a1 rfl))
  | cons t td => exact (r_lb1 gl i num (toksC l) l.length es (lbEs 0 lb) eo lb.length (toldsC (t :: td)) (t :: td).length).trans (condE (by rw [w1]; exact decide_eq_false h2) (condI (a2 _) rfl))
 have h1 : i < l.length := by omega
 obtain ⟨k0, k1, k2, k3, _, _, _, _⟩ := tkA h1
 obtain ⟨m0, m1, m2, m3, _, _, _, _⟩ := tkA h
 have d1 : decide (((i + 1 : Nat) : Int) < (l.length : Int)) = true := decide_eq_true (by omega)
 have d2 : decide ((0 : Int) ≤ (i : Int)) = true := decide_eq_true (by omega)
 have d3 : decide ((i : Int) < (l.length : Int)) = true := decide_eq_true (by omega)
 have d4 : decide ((0 : Int) ≤ ((i + 1 : Nat) : Int)) = true := decide_eq_true (by omega)
 have e1 : ((tk l i).kind == 1) = decide ((tk l i).kind = 1) := rfl
 have e5 : ((tk l (i + 1)).kind == 5) = decide ((tk l (i + 1)).kind = 5) := rfl
 rw [decide_eq_true h]
 have hE : (lbEs 0 lb ++ [(Value.string (tk l i).text, Value.int .i64 (td.length : Int), lb.length)]).all (fun e => af 8 e.fst && af 8 e.snd.fst) = true := by
  rw [List.all_append, lbEs_all]; rfl
 have fin : lbEs 0 (lb ++ [((tk l i).text, (td.length : Int))]) = lbEs 0 lb ++ [(Value.string (tk l i).text, Value.int .i64 (td.length : Int), lb.length)] := by rw [lbEs_snoc, Nat.zero_add]
 have flen : (lb ++ [((tk l i).text, (td.length : Int))]).length = lb.length + 1 := by simp
 have v1 : veq 8 (Value.tuple #[Value.int .i64 (lbAt lb (tk l i).text), Value.bool true]) (Value.tuple #[Value.int .i64 (lbAt lb (tk l i).text), Value.bool true]) = true := by simp [veq]
 have v2 : veq 8 (Value.tuple #[Value.int .i64 0, Value.bool false]) (Value.tuple #[Value.int .i64 0, Value.bool false]) = true := by decide
 cases td with
 | nil =>
  refine (r_lb0 gl i num (toksC l) l.length es (lbEs 0 lb) eo lb.length).trans ?_
  simp only [w1, w2, Int.toNat_natCast, sameL_self, k0, k1, k2, k3, m0, m1, d1, d2, d3, d4, b1, e1, e5, Bool.and_self, cond_true, lbEs_ok, lbEs_has, lbEs_at, veq_str, Bool.true_and]
  by_cases q1 : (tk l i).kind = 1
  case neg => rw [decide_eq_false q1]; simp only [cond_true, cond_false, Bool.false_and, Bool.and_true, Bool.true_and, Bool.and_self, toksC_all, he', lbEs_all]; rfl
  rw [decide_eq_true q1]
  by_cases q2 : (tk l (i + 1)).kind = 5
  case neg => rw [decide_eq_false q2]; simp only [cond_true, cond_false, Bool.and_false, Bool.and_true, Bool.true_and, Bool.and_self, toksC_all, he', lbEs_all]; rfl
  rw [decide_eq_true q2]
  cases hh : lbHas lb (tk l i).text with
  | true => simp only [cond_true, Bool.and_true, Bool.true_and, Bool.and_self, toksC_all, he', lbEs_all, v1]; rfl
  | false =>
   simp only [cond_true, cond_false, Bool.and_self]
   refine condI (andI (toksC_all l) (andI he (andI hE rfl))) ?_
   show _ = some (Sum.inl (lbSt0 ((i + 2 : Nat) : Int) num (toksC l) l.length es (lbEs 0 (lb ++ [((tk l i).text, (([] : List Told).length : Int))])) eo (lb ++ [((tk l i).text, (([] : List Told).length : Int))]).length))
   rw [fin, flen]
   rfl
 | cons t td =>
  refine (r_lb1 gl i num (toksC l) l.length es (lbEs 0 lb) eo lb.length (toldsC (t :: td)) (t :: td).length).trans ?_
  simp only [w1, w2, Int.toNat_natCast, sameL_self, k0, k1, k2, k3, m0, m1, d1, d2, d3, d4, b1, e1, e5, Bool.and_self, cond_true, lbEs_ok, lbEs_has, lbEs_at, veq_str, Bool.true_and]
  by_cases q1 : (tk l i).kind = 1
  case neg => rw [decide_eq_false q1]; simp only [cond_true, cond_false, Bool.false_and, Bool.and_true, Bool.true_and, Bool.and_self, toksC_all, he', lbEs_all, toldsC_all]; rfl
  rw [decide_eq_true q1]
  by_cases q2 : (tk l (i + 1)).kind = 5
  case neg => rw [decide_eq_false q2]; simp only [cond_true, cond_false, Bool.and_false, Bool.and_true, Bool.true_and, Bool.and_self, toksC_all, he', lbEs_all, toldsC_all]; rfl
  rw [decide_eq_true q2]
  cases hh : lbHas lb (tk l i).text with
  | true => simp only [cond_true, Bool.and_true, Bool.true_and, Bool.and_self, toksC_all, he', lbEs_all, toldsC_all, v1]; rfl
  | false =>
   simp only [cond_true, cond_false, Bool.and_self]
   refine (qs_eq _ _).trans (condI (veq_slK 1004 _) (condI (andI (toksC_all l) (andI he (andI hE (andI (toldsC_all _) rfl)))) ?_))
   show _ = some (Sum.inl (lbSt1 ((i + 2 : Nat) : Int) num (toksC l) l.length es (lbEs 0 (lb ++ [((tk l i).text, ((t :: td).length : Int))])) eo (lb ++ [((tk l i).text, ((t :: td).length : Int))]).length (toldsC (t :: td)) (t :: td).length))
   rw [fin, flen]
   rfl
end Go.Proofs.YtgohbcbdgakjeaaGreatDoor
noncomputable section
namespace Go.Proofs.YtgohbcbdgakjeaaGreatDoor
open Go.Proofs.YtgohbcbdgakjeaaGreatDoor.Ev Go.RowKit
def lbGo (l : List Tok) (n : Int) : Nat → Nat → Lb → Nat × Lb × Bool
 | 0, i, lb => (i, lb, false)
 | f + 1, i, lb => cond (lbIs l i) (cond (lbHas lb (tk l i).text) (i, lb, true) (lbGo l n f (i + 2) (lb ++ [((tk l i).text, n)]))) (i, lb, false)
def lbO (num : Int) (l : List Tok) (es : MEs) (eo : Nat) (td : List Told) (r : Nat × Lb × Bool) : Out := cond r.2.2 (lbRet r.1 num l es eo r.2.1 td) (lbExit r.1 num l es eo r.2.1 td)
theorem lbGo_fuel {l : List Tok} {n : Int} : ∀ (f g i : Nat) (lb : Lb), l.length - i < f → l.length - i < g → lbGo l n f i lb = lbGo l n g i lb
 | 0, _, _, _, h, _ => by omega
 | _ + 1, 0, _, _, _, h => by omega
 | f + 1, g + 1, i, lb, h1, h2 => by
  rw [lbGo, lbGo]
  cases h : lbIs l i with
  | false => rfl
  | true =>
   have h3 : i + 1 < l.length := by
    unfold lbIs at h
    simp only [Bool.and_eq_true, decide_eq_true_eq] at h
    exact h.1
   rw [lbGo_fuel f g (i + 2) _ (by omega) (by omega)]
theorem lbIs_lt {l : List Tok} {i : Nat} (h : lbIs l i = true) : i + 1 < l.length := by
 unfold lbIs at h
 simp only [Bool.and_eq_true, decide_eq_true_eq] at h
 exact h.1
theorem lbSt_len (i : Nat) (num : Int) (l : List Tok) (es : MEs) (eo : Nat) (lb : Lb) (td : List Told) : 1000 + (lbSt i num l es eo lb td).2.length = lbB td := by
 cases td <;> rfl
theorem lbB_le (td : List Told) : lbB td ≤ most := by
 cases td with
 | nil => show 1004 ≤ most; decide
 | cons t l => show 1005 ≤ most; decide
theorem lb_loop {gl : Gl} (hgl : Low gl) {num : Int} {l : List Tok} {es : MEs} {eo : Nat} {lb : Lb} {td : List Told} (hl : l.length ≤ 1000) (he : EsOk es) (htd : td.length ≤ 100000) :
  LpOK Tryz.prog gl 30 0 ⟨lbLive, lbOut, gH (atS (lbSt 0 num l es eo lb td).1 (lbSt 0 num l es eo lb td).2) (lbO num l es eo td (lbGo l td.length (l.length + 1) 0 lb))⟩ :=
 loop_here goodB hgl tglob (by rw [lbSt_len]; exact lbB_le td) ⟨{p : Nat × Lb // p.1 ≤ l.length}, fun p => lbSt p.1.1 num l es eo p.1.2 td, fun p => some (lbO num l es eo td (lbGo l td.length (l.length + 1 - p.1.1) p.1.1 p.1.2)), fun p => l.length - p.1.1, ⟨(0, lb), Nat.zero_le _⟩, rfl, rfl, by
  rintro ⟨⟨i, lb'⟩, hi⟩ o ho
  simp only at hi ho
  cases ho
  refine ⟨syL 1001 (toksC l), HB0, 100, 40, 40, cond (lbIs l i) (cond (lbHas lb' (tk l i).text) (.inr (lbRet i num l es eo lb' td)) (.inl (lbSt (i + 2) num l es eo (lb' ++ [((tk l i).text, (td.length : Int))]) td))) (.inr (lbExit i num l es eo lb' td)), syL_ok (by decide) _, HB0_ok, ?_, ?_⟩
  ·rw [lbSt_len]; exact lb_round gl hi hl he htd
  ·obtain ⟨f, hf⟩ : ∃ f, l.length + 1 - i = f + 1 := ⟨l.length - i, by omega⟩
   rw [hf, lbGo]
   cases h1 : lbIs l i with
   | false => rfl
   | true =>
    have h2 := lbIs_lt h1
    rw [cond_true, cond_true]
    cases h3 : lbHas lb' (tk l i).text with
    | true => rfl
    | false =>
     refine ⟨⟨(i + 2, lb' ++ [((tk l i).text, (td.length : Int))]), by simp only; omega⟩, rfl, by simp only; omega, ?_⟩
     simp only [cond_false]
     rw [lbGo_fuel (l.length + 1 - (i + 2)) f (i + 2) _ (by omega) (by omega)]⟩
end Go.Proofs.YtgohbcbdgakjeaaGreatDoor
noncomputable section
namespace Go.Proofs.YtgohbcbdgakjeaaGreatDoor
open Go.Proofs.YtgohbcbdgakjeaaGreatDoor.Ev Go.RowKit
def wsV (ws : List Int) : Value := match ws with
 | [] => slN
 | _ :: _ => slK0 1000 ws.length
def wsRows (ws : List Int) : List (Option LObj) := match ws with
 | [] => []
 | _ :: _ => [some (.row ⟨ws.map (.int .i64), 3, (0, 0), 0, false, false⟩)]
def wantH (gw : Int → Bool) (ws : List Int) : Hd := fun vs rows => match vs, rows with
 | [.int .u8 op], [] => some (.br (gw op) (.ret (.normal, [wsV ws], wsRows ws)) .fail)
 | _, _ => none
abbrev GS := List Value → List (Option LObj) → Bool
def HLi (g : GS) (o : Out) (gw : Int → Bool) (ws : List Int) : Hs := hsOf [] [(51, wantH gw ws)] [(30, [(0, ⟨lbLive, lbOut, gH g o⟩)])]
def liV (num : Int) (k : Nat) : List Value := [pK 1000, slK0 1001 k, .int .i64 num]
def liRows0 (cs : List Value) (es lb : MEs) (eo c : Nat) : List (Option LObj) := [mkRow 1002 1003 slN, tokRow cs, mpRow es eo, mpRow lb c]
def liRows1 (cs : List Value) (es lb : MEs) (eo c : Nat) (td : List Value) (n : Nat) : List (Option LObj) := [mkRow 1002 1003 (slK0 1004 n), tokRow cs, mpRow es eo, mpRow lb c, toldRow td]
def liE (i num : Int) (k : Nat) (rows : List (Option LObj)) : Out := (.exit 0, [.int .i64 i, slK0 1001 k, .int .i64 num, pK 1000, .int .i64 0, .int .i64 0], rows)
def liT (i num : Int) (k : Nat) (rows : List (Option LObj)) : Out := (.ret, [.int .i64 i, slK0 1001 k, .int .i64 num, pK 1000, .int .i64 i, .int .i64 211], rows)
noncomputable abbrev li0 (gl : Gl) (g : GS) (gw : Int → Bool) (ws : List Int) (i num : Int) (cs : List Value) (k : Nat) (es lb lb' : MEs) (eo c c' : Nat) : Option Out :=
 callSK (syL 1001 cs) Tryz.prog gl exB (HLi g (liE i num k (liRows0 cs es lb' eo c')) gw ws) 100 40 40 (.fn 30) (liV num k) (rowsOf (liRows0 cs es lb eo c)) (exitK Tryz.prog 1004)
noncomputable abbrev li1 (gl : Gl) (g : GS) (gw : Int → Bool) (ws : List Int) (i num : Int) (cs : List Value) (k : Nat) (es lb lb' : MEs) (eo c c' : Nat) (td : List Value) (n : Nat) : Option Out :=
 callSK (syL 1001 cs) Tryz.prog gl exB (HLi g (liE i num k (liRows1 cs es lb' eo c' td n)) gw ws) 100 40 40 (.fn 30) (liV num k) (rowsOf (liRows1 cs es lb eo c td n)) (exitK Tryz.prog 1005)
def gA (cs : List Value) (es lb : MEs) : Bool := List.all cs (af 8) && (List.all es (fun e => af 8 e.fst && af 8 e.snd.fst) && (List.all lb (fun e => af 8 e.fst && af 8 e.snd.fst) && true))
def gB (cs : List Value) (es lb : MEs) (td : List Value) : Bool := List.all cs (af 8) && (List.all es (fun e => af 8 e.fst && af 8 e.snd.fst) && (List.all lb (fun e => af 8 e.fst && af 8 e.snd.fst) && (List.all td (af 8) && true)))
def w1 (i : Int) : Int := IntKind.i64.wrap (i + 1)
def w2 (i : Int) : Int := IntKind.i64.wrap (w1 i + 1)
def w3 (i : Int) : Int := IntKind.i64.wrap (w2 i + 1)
def w4 (i : Int) : Int := IntKind.i64.wrap (w3 i + 1)
def w5 (i : Int) : Int := IntKind.i64.wrap (w4 i + 1)
def w6 (i : Int) : Int := IntKind.i64.wrap (w5 i + 1)
def lE (x : Int) (rows : List (Option LObj)) : Option Out := some (.normal, [.tuple #[.int .i64 x, .int .i64 210]], rows)
def tG (cs : List Value) (x : Int) : Bool := (symOf cs).okI .u8 (0 + x.toNat * 4 + 0) && ((symOf cs).okS (0 + x.toNat * 4 + 1) && ((symOf cs).okI .i64 (0 + x.toNat * 4 + 2) && ((symOf cs).okI .i64 (0 + x.toNat * 4 + 3) && true)))
def tQ (cs : List Value) (x : Int) : Int := (symOf cs).int .u8 (0 + x.toNat * 4 + 0)
def tP (cs : List Value) (x : Int) : Int := (symOf cs).int .u8 (0 + x.toNat * 4)
def tT (cs : List Value) (i : Int) : ByteArray := (symOf cs).str (0 + i.toNat * 4 + 1)
def bG (x : Int) (k : Nat) : Bool := decide (0 ≤ x) && (decide (x < (k : Int))) && (k.ble k)
def mI (k : Nat) (x : Int) : Int := if IntKind.i64.wrap ((k : Int) - 1) < x then IntKind.i64.wrap ((k : Int) - 1) else x
set_option maxRecDepth 100000 in
theorem r_li0H (gl : Gl) (g : GS) (gw : Int → Bool) (i num : Int) (cs : List Value) (k : Nat) (es lb lb' : MEs) (eo c c' : Nat) : li0 gl g gw [] i num cs k es lb lb' eo c c' =
 let z3 := mapI es (tT cs i)
 let z4 := (symOf cs).okS (0 + i.toNat * 4 + 1)
 let z5 := gA cs es lb'
 let z6 := liRows0 cs es lb' eo c'
 let z2 : Option Out := cond z5 (
 lE (i) z6) (
 none)
 let z7 := veq 8 (.string (tT cs i)) (.string (tT cs i))
 let z8 := 0 + i.toNat * 4
 let z0 : Option Out := cond (sameL cs cs) (
 cond z4 (
 cond z7 (
 cond (bG (i) k) (
 cond (sameL cs cs) (
 cond ((symOf cs).okI .u8 z8) (
 cond ((symOf cs).int .u8 z8 != 1) z2 (
 cond (gw z3) (
 cond (decide (w1 i < (↑k : Int))) (
 cond z5 (
 lE (w1 i) z6) (
 none)) (
 qs [mapI es (tT cs i)] (
 cond z5 (
 some (.normal, ([(.tuple #[(.int .i64 0), (.int .i64 0)])], [some (.row ⟨[(.map (some 1002)), (.map (some 1003)), (.slice (some ⟨1004, 0, none⟩) 1 1)], 52, (0, 0), 0, false, false⟩), some (.row ⟨cs, 59, (0, 0), 4, false, false⟩), some (.map (es) (eo)), some (.map (lb') (c')), some (.row ⟨[(.int .u8 z3), (.int .i64 0), (.int .i64 0), (.int .i64 0), (.int .i64 0), (.int .i64 0), (.int .i64 0), (.string ((⟨#[]⟩ : ByteArray)))], 63, (0, 0), 8, false, false⟩)]))) (
 none)))) (
 none))) (
 none)) (
 none)) (
 none)) (
 none)) (
 none)) (
 none)
 let z1 : Option Out := cond (sameL cs cs) (
 cond z4 (
 cond z7 (
 cond (bG (i) k) (
 cond (sameL cs cs) (
 cond ((symOf cs).okI .u8 z8) (
 cond ((symOf cs).int .u8 z8 != 1) z2 z2) (
 none)) (
 none)) (
 none)) (
 none)) (
 none)) (
 none)
 let z9 := mapHas es (tT cs i)
 cond (gA cs es lb) (
 cond (g [.int .i64 0, .pointer (some ⟨1000, 0, none⟩), .slice (some ⟨1001, 0, none⟩) k k, .int .i64 num, .int .i64 0, .int .i64 0] [some (.row ⟨[.map (some 1002), .map (some 1003), .slice none 0 0], 52, (0, 0), 0, false, false⟩), some (.row ⟨cs, 59, (0, 0), 4, false, false⟩), some (LObj.map es eo), some (LObj.map lb c)]) (
 cond z5 (
 cond (i == (↑k : Int)) (
 cond z5 (
 some (.normal, ([(.tuple #[(.int .i64 0), (.int .i64 0)])], z6))) (
 none)) (
 cond (bG (i) k) (
 cond (sameL cs cs) (
 cond z4 (
 cond (mapOk .u8 es) (
 cond z9 (
 cond (mapOk .u8 es) (
 cond z9 (
 cond (veq 8 (.tuple #[.int .u8 z3, .bool true]) (.tuple #[.int .u8 z3, .bool true])) z0 (
 none)) (
 cond (veq 8 (.tuple #[.int .u8 0, .bool false]) (.tuple #[.int .u8 z3, .bool true])) z0 (
 none))) (
 none)) (
 cond (mapOk .u8 es) (
 cond z9 (
 cond (veq 8 (.tuple #[.int .u8 z3, .bool true]) (.tuple #[.int .u8 0, .bool false])) z1 (
 none)) z1) (
 none))) (
 none)) (
 none)) (
 none)) (
 none))) (
 none)) (
 none)) (
 none) := by kernel_rfl
set_option maxRecDepth 100000 in
theorem r_li0R3 (gl : Gl) (g : GS) (gw : Int → Bool) (i num : Int) (cs : List Value) (k : Nat) (es lb lb' : MEs) (eo c c' : Nat) : li0 gl g gw [0, 0, 0] i num cs k es lb lb' eo c c' =
 let z2 := liRows0 cs es lb' eo c'
 let z3 := gA cs es lb'
 let z4 : Option Out := cond z3 (
 lE (IntKind.i64.wrap ((↑k : Int) - 1)) z2) (
 none)
 let z5 := mapI es (tT cs i)
 let z6 := (symOf cs).okS (0 + i.toNat * 4 + 1)
 let z7 : Option Out := cond z3 (
 lE (i) z2) (
 none)
 let z8 := veq 8 (.string (tT cs i)) (.string (tT cs i))
 let z9 := 0 + i.toNat * 4
 let z0 : Option Out := cond (sameL cs cs) (
 cond z6 (
 cond z8 (
 cond (bG (i) k) (
 cond (sameL cs cs) (
 cond ((symOf cs).okI .u8 z9) (
 cond ((symOf cs).int .u8 z9 != 1) z7 (
 cond (gw z5) (
 cond (decide (w1 i ≥ (↑k : Int))) z4 (
 cond (bG (w1 i) k) (
 cond (sameL cs cs) (
 cond (tG cs (w1 i)) (
 cond (tQ cs (w1 i) == 2) (
 cond (decide (w2 i ≥ (↑k : Int))) (
 cond z3 (
 lE (mI k (w2 i)) z2) (
 none)) (
 cond (bG (w2 i) k) (
 cond (sameL cs cs) (
 cond ((symOf cs).okI .u8 (0 + (w2 i).toNat * 4)) (
 cond (tP cs (w2 i) != 4) (
 cond z3 (
 lE (mI k (w2 i)) z2) (
 none)) (
 cond (decide (w3 i ≥ (↑k : Int))) z4 (
 cond (bG (w3 i) k) (
 cond (sameL cs cs) (
 cond (tG cs (w3 i)) (
 cond (tQ cs (w3 i) == 2) (
 cond (decide (w4 i ≥ (↑k : Int))) (
 cond z3 (
 lE (mI k (w4 i)) z2) (
 none)) (
 cond (bG (w4 i) k) (
 cond (sameL cs cs) (
 cond ((symOf cs).okI .u8 (0 + (w4 i).toNat * 4)) (
 cond (tP cs (w4 i) != 4) (
 cond z3 (
 lE (mI k (w4 i)) z2) (
 none)) (
 cond (decide (w5 i ≥ (↑k : Int))) z4 (
 cond (bG (w5 i) k) (
 cond (sameL cs cs) (
 cond (tG cs (w5 i)) (
 cond (tQ cs (w5 i) == 2) (
 cond (decide (w6 i < (↑k : Int))) (
 cond z3 (
 lE (w6 i) z2) (
 none)) (
 qs [mapI es (tT cs i), (symOf cs).int .i64 (0 + (w1 i).toNat * 4 + (1 + 1)), (symOf cs).int .i64
 (0 + (w3 i).toNat * 4 + (1 + 1)), (symOf cs).int .i64
 (0 +
 (IntKind.i64.wrap
 (w4 i + 1)).toNat *
 4 +
 (1 + 1))] (
 cond z3 (
 some (.normal, ([(.tuple #[(.int .i64 0), (.int .i64 0)])], [some (.row ⟨[(.map (some 1002)), (.map (some 1003)), (.slice (some ⟨1004, 0, none⟩) 1 1)], 52, (0, 0), 0, false, false⟩), some (.row ⟨cs, 59, (0, 0), 4, false, false⟩), some (.map (es) (eo)), some (.map (lb') (c')), some (.row ⟨[(.int .u8 z5), (.int .i64 ((symOf cs).int .i64 (0 + (w1 i).toNat * 4 + 2))), (.int .i64 ((symOf cs).int .i64 (0 + (w3 i).toNat * 4 + 2))), (.int .i64 ((symOf cs).int .i64 (0 + (w5 i).toNat * 4 + 2))), (.int .i64 0), (.int .i64 0), (.int .i64 0), (.string ((⟨#[]⟩ : ByteArray)))], 63, (0, 0), 8, false, false⟩)]))) (
 none)))) (
 cond z3 (
 lE (w5 i) z2) (
 none))) (
 none)) (
 none)) (
 none)))) (
 none)) (
 none)) (
 none))) (
 cond z3 (
 lE (w3 i) z2) (
 none))) (
 none)) (
 none)) (
 none)))) (
 none)) (
 none)) (
 none))) (
 cond z3 (
 lE (w1 i) z2) (
 none))) (
 none)) (
 none)) (
 none))) (
 none))) (
 none)) (
 none)) (
 none)) (
 none)) (
 none)) (
 none)
 let z1 : Option Out := cond (sameL cs cs) (
 cond z6 (
 cond z8 (
 cond (bG (i) k) (
 cond (sameL cs cs) (
 cond ((symOf cs).okI .u8 z9) (
 cond ((symOf cs).int .u8 z9 != 1) z7 z7) (
 none)) (
 none)) (
 none)) (
 none)) (
 none)) (
 none)
 let z10 := mapHas es (tT cs i)
 cond (gA cs es lb) (
 cond (g [.int .i64 0, .pointer (some ⟨1000, 0, none⟩), .slice (some ⟨1001, 0, none⟩) k k, .int .i64 num, .int .i64 0, .int .i64 0] [some (.row ⟨[.map (some 1002), .map (some 1003), .slice none 0 0], 52, (0, 0), 0, false, false⟩), some (.row ⟨cs, 59, (0, 0), 4, false, false⟩), some (LObj.map es eo), some (LObj.map lb c)]) (
 cond z3 (
 cond (i == (↑k : Int)) (
 cond z3 (
 some (.normal, ([(.tuple #[(.int .i64 0), (.int .i64 0)])], z2))) (
 none)) (
 cond (bG (i) k) (
 cond (sameL cs cs) (
 cond z6 (
 cond (mapOk .u8 es) (
 cond z10 (
 cond (mapOk .u8 es) (
 cond z10 (
 cond (veq 8 (.tuple #[.int .u8 z5, .bool true]) (.tuple #[.int .u8 z5, .bool true])) z0 (
 none)) (
 cond (veq 8 (.tuple #[.int .u8 0, .bool false]) (.tuple #[.int .u8 z5, .bool true])) z0 (
 none))) (
 none)) (
 cond (mapOk .u8 es) (
 cond z10 (
 cond (veq 8 (.tuple #[.int .u8 z5, .bool true]) (.tuple #[.int .u8 0, .bool false])) z1 (
 none)) z1) (
 none))) (
 none)) (
 none)) (
 none)) (
 none))) (
 none)) (
 none)) (
 none) := by kernel_rfl
set_option maxRecDepth 100000 in
theorem r_li0RN (gl : Gl) (g : GS) (gw : Int → Bool) (i num : Int) (cs : List Value) (k : Nat) (es lb lb' : MEs) (eo c c' : Nat) : li0 gl g gw [0, 0, 1] i num cs k es lb lb' eo c c' =
 let z2 := liRows0 cs es lb' eo c'
 let z3 := gA cs es lb'
 let z4 : Option Out := cond z3 (
 lE (IntKind.i64.wrap ((↑k : Int) - 1)) z2) (
 none)
 let z5 := mapI es (tT cs i)
 let z6 := (symOf cs).okS (0 + i.toNat * 4 + 1)
 let z7 : Option Out := cond z3 (
 lE (i) z2) (
 none)
 let z8 := veq 8 (.string (tT cs i)) (.string (tT cs i))
 let z9 := 0 + i.toNat * 4
 let z0 : Option Out := cond (sameL cs cs) (
 cond z6 (
 cond z8 (
 cond (bG (i) k) (
 cond (sameL cs cs) (
 cond ((symOf cs).okI .u8 z9) (
 cond ((symOf cs).int .u8 z9 != 1) z7 (
 cond (gw z5) (
 cond (decide (w1 i ≥ (↑k : Int))) z4 (
 cond (bG (w1 i) k) (
 cond (sameL cs cs) (
 cond (tG cs (w1 i)) (
 cond (tQ cs (w1 i) == 2) (
 cond (decide (w2 i ≥ (↑k : Int))) (
 cond z3 (
 lE (mI k (w2 i)) z2) (
 none)) (
 cond (bG (w2 i) k) (
 cond (sameL cs cs) (
 cond ((symOf cs).okI .u8 (0 + (w2 i).toNat * 4)) (
 cond (tP cs (w2 i) != 4) (
 cond z3 (
 lE (mI k (w2 i)) z2) (
 none)) (
 cond (decide (w3 i ≥ (↑k : Int))) z4 (
 cond (bG (w3 i) k) (
 cond (sameL cs cs) (
 cond (tG cs (w3 i)) (
 cond (tQ cs (w3 i) == 2) (
 cond (decide (w4 i ≥ (↑k : Int))) (
 cond z3 (
 lE (mI k (w4 i)) z2) (
 none)) (
 cond (bG (w4 i) k) (
 cond (sameL cs cs) (
 cond ((symOf cs).okI .u8 (0 + (w4 i).toNat * 4)) (
 cond (tP cs (w4 i) != 4) (
 cond z3 (
 lE (mI k (w4 i)) z2) (
 none)) (
 cond (decide (w5 i ≥ (↑k : Int))) z4 (
 cond (bG (w5 i) k) (
 cond (sameL cs cs) (
 cond (tG cs (w5 i)) (
 cond (tQ cs (w5 i) == 3) (
 cond (decide (w6 i < (↑k : Int))) (
 cond z3 (
 lE (w6 i) z2) (
 none)) (
 qs [mapI es (tT cs i), (symOf cs).int .i64 (0 + (w1 i).toNat * 4 + (1 + 1)), (symOf cs).int .i64
 (0 + (w3 i).toNat * 4 + (1 + 1)), (symOf cs).int .i64
 (0 +
 (IntKind.i64.wrap
 (w4 i + 1)).toNat *
 4 +
 (1 + 1)), num, (symOf cs).int .i64
 (0 +
 (IntKind.i64.wrap
 (w4 i + 1)).toNat *
 4 +
 (1 + 1 + 1))] (
 cond z3 (
 some (.normal, ([(.tuple #[(.int .i64 0), (.int .i64 0)])], [some (.row ⟨[(.map (some 1002)), (.map (some 1003)), (.slice (some ⟨1004, 0, none⟩) 1 1)], 52, (0, 0), 0, false, false⟩), some (.row ⟨cs, 59, (0, 0), 4, false, false⟩), some (.map (es) (eo)), some (.map (lb') (c')), some (.row ⟨[(.int .u8 z5), (.int .i64 ((symOf cs).int .i64 (0 + (w1 i).toNat * 4 + 2))), (.int .i64 ((symOf cs).int .i64 (0 + (w3 i).toNat * 4 + 2))), (.int .i64 0), (.int .i64 ((symOf cs).int .i64 (0 + (w5 i).toNat * 4 + 2))), (.int .i64 (num)), (.int .i64 ((symOf cs).int .i64 (0 + (w5 i).toNat * 4 + 3))), (.string ((⟨#[]⟩ : ByteArray)))], 63, (0, 0), 8, false, false⟩)]))) (
 none)))) (
 cond z3 (
 lE (w5 i) z2) (
 none))) (
 none)) (
 none)) (
 none)))) (
 none)) (
 none)) (
 none))) (
 cond z3 (
 lE (w3 i) z2) (
 none))) (
 none)) (
 none)) (
 none)))) (
 none)) (
 none)) (
 none))) (
 cond z3 (
 lE (w1 i) z2) (
 none))) (
 none)) (
 none)) (
 none))) (
 none))) (
 none)) (
 none)) (
 none)) (
 none)) (
 none)) (
 none)
 let z1 : Option Out := cond (sameL cs cs) (
 cond z6 (
 cond z8 (
 cond (bG (i) k) (
 cond (sameL cs cs) (
 cond ((symOf cs).okI .u8 z9) (
 cond ((symOf cs).int .u8 z9 != 1) z7 z7) (
 none)) (
 none)) (
 none)) (
 none)) (
 none)) (
 none)
 let z10 := mapHas es (tT cs i)
 cond (gA cs es lb) (
 cond (g [.int .i64 0, .pointer (some ⟨1000, 0, none⟩), .slice (some ⟨1001, 0, none⟩) k k, .int .i64 num, .int .i64 0, .int .i64 0] [some (.row ⟨[.map (some 1002), .map (some 1003), .slice none 0 0], 52, (0, 0), 0, false, false⟩), some (.row ⟨cs, 59, (0, 0), 4, false, false⟩), some (LObj.map es eo), some (LObj.map lb c)]) (
 cond z3 (
 cond (i == (↑k : Int)) (
 cond z3 (
 some (.normal, ([(.tuple #[(.int .i64 0), (.int .i64 0)])], z2))) (
 none)) (
 cond (bG (i) k) (
 cond (sameL cs cs) (
 cond z6 (
 cond (mapOk .u8 es) (
 cond z10 (
 cond (mapOk .u8 es) (
 cond z10 (
 cond (veq 8 (.tuple #[.int .u8 z5, .bool true]) (.tuple #[.int .u8 z5, .bool true])) z0 (
 none)) (
 cond (veq 8 (.tuple #[.int .u8 0, .bool false]) (.tuple #[.int .u8 z5, .bool true])) z0 (
 none))) (
 none)) (
 cond (mapOk .u8 es) (
 cond z10 (
 cond (veq 8 (.tuple #[.int .u8 z5, .bool true]) (.tuple #[.int .u8 0, .bool false])) z1 (
 none)) z1) (
 none))) (
 none)) (
 none)) (
 none)) (
 none))) (
 none)) (
 none)) (
 none) := by kernel_rfl
set_option maxRecDepth 100000 in
theorem r_li0RP (gl : Gl) (g : GS) (gw : Int → Bool) (i num : Int) (cs : List Value) (k : Nat) (es lb lb' : MEs) (eo c c' : Nat) : li0 gl g gw [0, 0, 2] i num cs k es lb lb' eo c c' =
 let z2 := liRows0 cs es lb' eo c'
 let z3 := gA cs es lb'
 let z4 : Option Out := cond z3 (
 lE (IntKind.i64.wrap ((↑k : Int) - 1)) z2) (
 none)
 let z5 := mapI es (tT cs i)
 let z6 := (symOf cs).str (0 + (w5 i).toNat * 4 + 1)
 let z7 := (symOf cs).okS (0 + i.toNat * 4 + 1)
 let z8 := 0 +
 (IntKind.i64.wrap
 (w4 i + 1)).toNat *
 4 +
 (1 + 1 + 1)
 let z9 : Option Out := cond z3 (
 lE (i) z2) (
 none)
 let z10 := (symOf cs).int .i64 (0 + (w1 i).toNat * 4 + 2)
 let z11 := (symOf cs).int .i64 (0 + (w3 i).toNat * 4 + 2)
 let z12 := (symOf cs).int .i64 (0 + (w5 i).toNat * 4 + 3)
 let z13 := veq 8 (.string (tT cs i)) (.string (tT cs i))
 let z14 := 0 + i.toNat * 4
 let z0 : Option Out := cond (sameL cs cs) (
 cond z7 (
 cond z13 (
 cond (bG (i) k) (
 cond (sameL cs cs) (
 cond ((symOf cs).okI .u8 z14) (
 cond ((symOf cs).int .u8 z14 != 1) z9 (
 cond (gw z5) (
 cond (decide (w1 i ≥ (↑k : Int))) z4 (
 cond (bG (w1 i) k) (
 cond (sameL cs cs) (
 cond (tG cs (w1 i)) (
 cond (tQ cs (w1 i) == 2) (
 cond (decide (w2 i ≥ (↑k : Int))) (
 cond z3 (
 lE (mI k (w2 i)) z2) (
 none)) (
 cond (bG (w2 i) k) (
 cond (sameL cs cs) (
 cond ((symOf cs).okI .u8 (0 + (w2 i).toNat * 4)) (
 cond (tP cs (w2 i) != 4) (
 cond z3 (
 lE (mI k (w2 i)) z2) (
 none)) (
 cond (decide (w3 i ≥ (↑k : Int))) z4 (
 cond (bG (w3 i) k) (
 cond (sameL cs cs) (
 cond (tG cs (w3 i)) (
 cond (tQ cs (w3 i) == 2) (
 cond (decide (w4 i ≥ (↑k : Int))) (
 cond z3 (
 lE (mI k (w4 i)) z2) (
 none)) (
 cond (bG (w4 i) k) (
 cond (sameL cs cs) (
 cond ((symOf cs).okI .u8 (0 + (w4 i).toNat * 4)) (
 cond (tP cs (w4 i) != 4) (
 cond z3 (
 lE (mI k (w4 i)) z2) (
 none)) (
 cond (decide (w5 i ≥ (↑k : Int))) z4 (
 cond (bG (w5 i) k) (
 cond (sameL cs cs) (
 cond (tG cs (w5 i)) (
 cond (tQ cs (w5 i) == 3) (
 cond (decide (w6 i < (↑k : Int))) (
 cond z3 (
 lE (w6 i) z2) (
 none)) (
 qs [mapI es (tT cs i), (symOf cs).int .i64 (0 + (w1 i).toNat * 4 + (1 + 1)), (symOf cs).int .i64
 (0 + (w3 i).toNat * 4 + (1 + 1)), (symOf cs).int .i64
 (0 +
 (IntKind.i64.wrap
 (w4 i + 1)).toNat *
 4 +
 (1 + 1)), num, (symOf cs).int .i64
 z8] (
 cond z3 (
 some (.normal, ([(.tuple #[(.int .i64 0), (.int .i64 0)])], [some (.row ⟨[(.map (some 1002)), (.map (some 1003)), (.slice (some ⟨1004, 0, none⟩) 1 1)], 52, (0, 0), 0, false, false⟩), some (.row ⟨cs, 59, (0, 0), 4, false, false⟩), some (.map (es) (eo)), some (.map (lb') (c')), some (.row ⟨[(.int .u8 z5), (.int .i64 z10), (.int .i64 z11), (.int .i64 0), (.int .i64 ((symOf cs).int .i64 (0 + (w5 i).toNat * 4 + 2))), (.int .i64 (num)), (.int .i64 z12), (.string ((⟨#[]⟩ : ByteArray)))], 63, (0, 0), 8, false, false⟩)]))) (
 none)))) (
 cond (tQ cs (w5 i) == 1) (
 cond (decide (w6 i < (↑k : Int))) (
 cond z3 (
 lE (w6 i) z2) (
 none)) (
 qs [mapI es (tT cs i), (symOf cs).int .i64 (0 + (w1 i).toNat * 4 + (1 + 1)), (symOf cs).int .i64
 (0 + (w3 i).toNat * 4 + (1 + 1)), num, (symOf cs).int .i64
 z8] (
 cond (veq 7 (.string z6) (.string z6)) (
 cond z3 (
 some (.normal, ([(.tuple #[(.int .i64 0), (.int .i64 0)])], [some (.row ⟨[(.map (some 1002)), (.map (some 1003)), (.slice (some ⟨1004, 0, none⟩) 1 1)], 52, (0, 0), 0, false, false⟩), some (.row ⟨cs, 59, (0, 0), 4, false, false⟩), some (.map (es) (eo)), some (.map (lb') (c')), some (.row ⟨[(.int .u8 z5), (.int .i64 z10), (.int .i64 z11), (.int .i64 0), (.int .i64 0), (.int .i64 (num)), (.int .i64 z12), (.string z6)], 63, (0, 0), 8, false, false⟩)]))) (
 none)) (
 none)))) (
 cond z3 (
 lE (w5 i) z2) (
 none)))) (
 none)) (
 none)) (
 none)))) (
 none)) (
 none)) (
 none))) (
 cond z3 (
 lE (w3 i) z2) (
 none))) (
 none)) (
 none)) (
 none)))) (
 none)) (
 none)) (
 none))) (
 cond z3 (
 lE (w1 i) z2) (
 none))) (
 none)) (
 none)) (
 none))) (
 none))) (
 none)) (
 none)) (
 none)) (
 none)) (
 none)) (
 none)
 let z1 : Option Out := cond (sameL cs cs) (
 cond z7 (
 cond z13 (
 cond (bG (i) k) (
 cond (sameL cs cs) (
 cond ((symOf cs).okI .u8 z14) (
 cond ((symOf cs).int .u8 z14 != 1) z9 z9) (
 none)) (
 none)) (
 none)) (
 none)) (
 none)) (
 none)
 let z15 := mapHas es (tT cs i)
 cond (gA cs es lb) (
 cond (g [.int .i64 0, .pointer (some ⟨1000, 0, none⟩), .slice (some ⟨1001, 0, none⟩) k k, .int .i64 num, .int .i64 0, .int .i64 0] [some (.row ⟨[.map (some 1002), .map (some 1003), .slice none 0 0], 52, (0, 0), 0, false, false⟩), some (.row ⟨cs, 59, (0, 0), 4, false, false⟩), some (LObj.map es eo), some (LObj.map lb c)]) (
 cond z3 (
 cond (i == (↑k : Int)) (
 cond z3 (
 some (.normal, ([(.tuple #[(.int .i64 0), (.int .i64 0)])], z2))) (
 none)) (
 cond (bG (i) k) (
 cond (sameL cs cs) (
 cond z7 (
 cond (mapOk .u8 es) (
 cond z15 (
 cond (mapOk .u8 es) (
 cond z15 (
 cond (veq 8 (.tuple #[.int .u8 z5, .bool true]) (.tuple #[.int .u8 z5, .bool true])) z0 (
 none)) (
 cond (veq 8 (.tuple #[.int .u8 0, .bool false]) (.tuple #[.int .u8 z5, .bool true])) z0 (
 none))) (
 none)) (
 cond (mapOk .u8 es) (
 cond z15 (
 cond (veq 8 (.tuple #[.int .u8 z5, .bool true]) (.tuple #[.int .u8 0, .bool false])) z1 (
 none)) z1) (
 none))) (
 none)) (
 none)) (
 none)) (
 none))) (
 none)) (
 none)) (
 none) := by kernel_rfl
set_option maxRecDepth 100000 in
theorem r_li0SN (gl : Gl) (g : GS) (gw : Int → Bool) (i num : Int) (cs : List Value) (k : Nat) (es lb lb' : MEs) (eo c c' : Nat) : li0 gl g gw [0, 1] i num cs k es lb lb' eo c c' =
 let z2 := liRows0 cs es lb' eo c'
 let z3 := gA cs es lb'
 let z4 := mapI es (tT cs i)
 let z5 := (symOf cs).okS (0 + i.toNat * 4 + 1)
 let z6 : Option Out := cond z3 (
 lE (IntKind.i64.wrap ((↑k : Int) - 1)) z2) (
 none)
 let z7 : Option Out := cond z3 (
 lE (i) z2) (
 none)
 let z8 := veq 8 (.string (tT cs i)) (.string (tT cs i))
 let z9 := 0 + i.toNat * 4
 let z0 : Option Out := cond (sameL cs cs) (
 cond z5 (
 cond z8 (
 cond (bG (i) k) (
 cond (sameL cs cs) (
 cond ((symOf cs).okI .u8 z9) (
 cond ((symOf cs).int .u8 z9 != 1) z7 (
 cond (gw z4) (
 cond (decide (w1 i ≥ (↑k : Int))) z6 (
 cond (bG (w1 i) k) (
 cond (sameL cs cs) (
 cond (tG cs (w1 i)) (
 cond (tQ cs (w1 i) == 2) (
 cond (decide (w2 i ≥ (↑k : Int))) (
 cond z3 (
 lE (mI k (w2 i)) z2) (
 none)) (
 cond (bG (w2 i) k) (
 cond (sameL cs cs) (
 cond ((symOf cs).okI .u8 (0 + (w2 i).toNat * 4)) (
 cond (tP cs (w2 i) != 4) (
 cond z3 (
 lE (mI k (w2 i)) z2) (
 none)) (
 cond (decide (w3 i ≥ (↑k : Int))) z6 (
 cond (bG (w3 i) k) (
 cond (sameL cs cs) (
 cond (tG cs (w3 i)) (
 cond (tQ cs (w3 i) == 3) (
 cond (decide (w4 i < (↑k : Int))) (
 cond z3 (
 lE (w4 i) z2) (
 none)) (
 qs [mapI es (tT cs i), (symOf cs).int .i64 (0 + (w1 i).toNat * 4 + (1 + 1)), (symOf cs).int .i64
 (0 + (w3 i).toNat * 4 + (1 + 1)), num, (symOf cs).int .i64
 (0 + (w3 i).toNat * 4 + (1 + 1 + 1))] (
 cond z3 (
 some (.normal, ([(.tuple #[(.int .i64 0), (.int .i64 0)])], [some (.row ⟨[(.map (some 1002)), (.map (some 1003)), (.slice (some ⟨1004, 0, none⟩) 1 1)], 52, (0, 0), 0, false, false⟩), some (.row ⟨cs, 59, (0, 0), 4, false, false⟩), some (.map (es) (eo)), some (.map (lb') (c')), some (.row ⟨[(.int .u8 z4), (.int .i64 ((symOf cs).int .i64 (0 + (w1 i).toNat * 4 + 2))), (.int .i64 0), (.int .i64 0), (.int .i64 ((symOf cs).int .i64 (0 + (w3 i).toNat * 4 + 2))), (.int .i64 (num)), (.int .i64 ((symOf cs).int .i64 (0 + (w3 i).toNat * 4 + 3))), (.string ((⟨#[]⟩ : ByteArray)))], 63, (0, 0), 8, false, false⟩)]))) (
 none)))) (
 cond z3 (
 lE (w3 i) z2) (
 none))) (
 none)) (
 none)) (
 none)))) (
 none)) (
 none)) (
 none))) (
 cond z3 (
 lE (w1 i) z2) (
 none))) (
 none)) (
 none)) (
 none))) (
 none))) (
 none)) (
 none)) (
 none)) (
 none)) (
 none)) (
 none)
 let z1 : Option Out := cond (sameL cs cs) (
 cond z5 (
 cond z8 (
 cond (bG (i) k) (
 cond (sameL cs cs) (
 cond ((symOf cs).okI .u8 z9) (
 cond ((symOf cs).int .u8 z9 != 1) z7 z7) (
 none)) (
 none)) (
 none)) (
 none)) (
 none)) (
 none)
 let z10 := mapHas es (tT cs i)
 cond (gA cs es lb) (
 cond (g [.int .i64 0, .pointer (some ⟨1000, 0, none⟩), .slice (some ⟨1001, 0, none⟩) k k, .int .i64 num, .int .i64 0, .int .i64 0] [some (.row ⟨[.map (some 1002), .map (some 1003), .slice none 0 0], 52, (0, 0), 0, false, false⟩), some (.row ⟨cs, 59, (0, 0), 4, false, false⟩), some (LObj.map es eo), some (LObj.map lb c)]) (
 cond z3 (
 cond (i == (↑k : Int)) (
 cond z3 (
 some (.normal, ([(.tuple #[(.int .i64 0), (.int .i64 0)])], z2))) (
 none)) (
 cond (bG (i) k) (
 cond (sameL cs cs) (
 cond z5 (
 cond (mapOk .u8 es) (
 cond z10 (
 cond (mapOk .u8 es) (
 cond z10 (
 cond (veq 8 (.tuple #[.int .u8 z4, .bool true]) (.tuple #[.int .u8 z4, .bool true])) z0 (
 none)) (
 cond (veq 8 (.tuple #[.int .u8 0, .bool false]) (.tuple #[.int .u8 z4, .bool true])) z0 (
 none))) (
 none)) (
 cond (mapOk .u8 es) (
 cond z10 (
 cond (veq 8 (.tuple #[.int .u8 z4, .bool true]) (.tuple #[.int .u8 0, .bool false])) z1 (
 none)) z1) (
 none))) (
 none)) (
 none)) (
 none)) (
 none))) (
 none)) (
 none)) (
 none) := by kernel_rfl
set_option maxRecDepth 100000 in
theorem r_li0J (gl : Gl) (g : GS) (gw : Int → Bool) (i num : Int) (cs : List Value) (k : Nat) (es lb lb' : MEs) (eo c c' : Nat) : li0 gl g gw [2] i num cs k es lb lb' eo c c' =
 let z2 := liRows0 cs es lb' eo c'
 let z3 := gA cs es lb'
 let z4 := mapI es (tT cs i)
 let z5 := (symOf cs).str (0 + (w1 i).toNat * 4 + 1)
 let z6 := (symOf cs).okS (0 + i.toNat * 4 + 1)
 let z7 : Option Out := cond z3 (
 lE (i) z2) (
 none)
 let z8 := (symOf cs).int .i64 (0 + (w1 i).toNat * 4 + 3)
 let z9 := veq 8 (.string (tT cs i)) (.string (tT cs i))
 let z10 := 0 + i.toNat * 4
 let z0 : Option Out := cond (sameL cs cs) (
 cond z6 (
 cond z9 (
 cond (bG (i) k) (
 cond (sameL cs cs) (
 cond ((symOf cs).okI .u8 z10) (
 cond ((symOf cs).int .u8 z10 != 1) z7 (
 cond (gw z4) (
 cond (decide (w1 i ≥ (↑k : Int))) (
 cond z3 (
 lE (IntKind.i64.wrap ((↑k : Int) - 1)) z2) (
 none)) (
 cond (bG (w1 i) k) (
 cond (sameL cs cs) (
 cond (tG cs (w1 i)) (
 cond (tQ cs (w1 i) == 3) (
 cond (decide (w2 i < (↑k : Int))) (
 cond z3 (
 lE (w2 i) z2) (
 none)) (
 qs [mapI es (tT cs i), (symOf cs).int .i64 (0 + (w1 i).toNat * 4 + (1 + 1)), num, (symOf cs).int .i64 (0 + (w1 i).toNat * 4 + (1 + 1 + 1))] (
 cond z3 (
 some (.normal, ([(.tuple #[(.int .i64 0), (.int .i64 0)])], [some (.row ⟨[(.map (some 1002)), (.map (some 1003)), (.slice (some ⟨1004, 0, none⟩) 1 1)], 52, (0, 0), 0, false, false⟩), some (.row ⟨cs, 59, (0, 0), 4, false, false⟩), some (.map (es) (eo)), some (.map (lb') (c')), some (.row ⟨[(.int .u8 z4), (.int .i64 0), (.int .i64 0), (.int .i64 0), (.int .i64 ((symOf cs).int .i64 (0 + (w1 i).toNat * 4 + 2))), (.int .i64 (num)), (.int .i64 z8), (.string ((⟨#[]⟩ : ByteArray)))], 63, (0, 0), 8, false, false⟩)]))) (
 none)))) (
 cond (tQ cs (w1 i) == 1) (
 cond (decide (w2 i < (↑k : Int))) (
 cond z3 (
 lE (w2 i) z2) (
 none)) (
 qs [mapI es (tT cs i), num, (symOf cs).int .i64 (0 + (w1 i).toNat * 4 + (1 + 1 + 1))] (
 cond (veq 7 (.string z5) (.string z5)) (
 cond z3 (
 some (.normal, ([(.tuple #[(.int .i64 0), (.int .i64 0)])], [some (.row ⟨[(.map (some 1002)), (.map (some 1003)), (.slice (some ⟨1004, 0, none⟩) 1 1)], 52, (0, 0), 0, false, false⟩), some (.row ⟨cs, 59, (0, 0), 4, false, false⟩), some (.map (es) (eo)), some (.map (lb') (c')), some (.row ⟨[(.int .u8 z4), (.int .i64 0), (.int .i64 0), (.int .i64 0), (.int .i64 0), (.int .i64 (num)), (.int .i64 z8), (.string z5)], 63, (0, 0), 8, false, false⟩)]))) (
 none)) (
 none)))) (
 cond z3 (
 lE (w1 i) z2) (
 none)))) (
 none)) (
 none)) (
 none))) (
 none))) (
 none)) (
 none)) (
 none)) (
 none)) (
 none)) (
 none)
 let z1 : Option Out := cond (sameL cs cs) (
 cond z6 (
 cond z9 (
 cond (bG (i) k) (
 cond (sameL cs cs) (
 cond ((symOf cs).okI .u8 z10) (
 cond ((symOf cs).int .u8 z10 != 1) z7 z7) (
 none)) (
 none)) (
 none)) (
 none)) (
 none)) (
 none)
 let z11 := mapHas es (tT cs i)
 cond (gA cs es lb) (
 cond (g [.int .i64 0, .pointer (some ⟨1000, 0, none⟩), .slice (some ⟨1001, 0, none⟩) k k, .int .i64 num, .int .i64 0, .int .i64 0] [some (.row ⟨[.map (some 1002), .map (some 1003), .slice none 0 0], 52, (0, 0), 0, false, false⟩), some (.row ⟨cs, 59, (0, 0), 4, false, false⟩), some (LObj.map es eo), some (LObj.map lb c)]) (
 cond z3 (
 cond (i == (↑k : Int)) (
 cond z3 (
 some (.normal, ([(.tuple #[(.int .i64 0), (.int .i64 0)])], z2))) (
 none)) (
 cond (bG (i) k) (
 cond (sameL cs cs) (
 cond z6 (
 cond (mapOk .u8 es) (
 cond z11 (
 cond (mapOk .u8 es) (
 cond z11 (
 cond (veq 8 (.tuple #[.int .u8 z4, .bool true]) (.tuple #[.int .u8 z4, .bool true])) z0 (
 none)) (
 cond (veq 8 (.tuple #[.int .u8 0, .bool false]) (.tuple #[.int .u8 z4, .bool true])) z0 (
 none))) (
 none)) (
 cond (mapOk .u8 es) (
 cond z11 (
 cond (veq 8 (.tuple #[.int .u8 z4, .bool true]) (.tuple #[.int .u8 0, .bool false])) z1 (
 none)) z1) (
 none))) (
 none)) (
 none)) (
 none)) (
 none))) (
 none)) (
 none)) (
 none) := by kernel_rfl
set_option maxRecDepth 100000 in
theorem r_li0A (gl : Gl) (g : GS) (gw : Int → Bool) (i num : Int) (cs : List Value) (k : Nat) (es lb lb' : MEs) (eo c c' : Nat) : li0 gl g gw [1] i num cs k es lb lb' eo c c' =
 let z2 := liRows0 cs es lb' eo c'
 let z3 := gA cs es lb'
 let z4 := mapI es (tT cs i)
 let z5 := (symOf cs).okS (0 + i.toNat * 4 + 1)
 let z6 : Option Out := cond z3 (
 lE (i) z2) (
 none)
 let z7 := veq 8 (.string (tT cs i)) (.string (tT cs i))
 let z8 := 0 + i.toNat * 4
 let z0 : Option Out := cond (sameL cs cs) (
 cond z5 (
 cond z7 (
 cond (bG (i) k) (
 cond (sameL cs cs) (
 cond ((symOf cs).okI .u8 z8) (
 cond ((symOf cs).int .u8 z8 != 1) z6 (
 cond (gw z4) (
 cond (decide (w1 i ≥ (↑k : Int))) (
 cond z3 (
 lE (IntKind.i64.wrap ((↑k : Int) - 1)) z2) (
 none)) (
 cond (bG (w1 i) k) (
 cond (sameL cs cs) (
 cond (tG cs (w1 i)) (
 cond (tQ cs (w1 i) == 3) (
 cond (decide (w2 i < (↑k : Int))) (
 cond z3 (
 lE (w2 i) z2) (
 none)) (
 qs [mapI es (tT cs i), (symOf cs).int .i64 (0 + (w1 i).toNat * 4 + (1 + 1)), num, (symOf cs).int .i64 (0 + (w1 i).toNat * 4 + (1 + 1 + 1))] (
 cond z3 (
 some (.normal, ([(.tuple #[(.int .i64 0), (.int .i64 0)])], [some (.row ⟨[(.map (some 1002)), (.map (some 1003)), (.slice (some ⟨1004, 0, none⟩) 1 1)], 52, (0, 0), 0, false, false⟩), some (.row ⟨cs, 59, (0, 0), 4, false, false⟩), some (.map (es) (eo)), some (.map (lb') (c')), some (.row ⟨[(.int .u8 z4), (.int .i64 0), (.int .i64 0), (.int .i64 0), (.int .i64 ((symOf cs).int .i64 (0 + (w1 i).toNat * 4 + 2))), (.int .i64 (num)), (.int .i64 ((symOf cs).int .i64 (0 + (w1 i).toNat * 4 + 3))), (.string ((⟨#[]⟩ : ByteArray)))], 63, (0, 0), 8, false, false⟩)]))) (
 none)))) (
 cond z3 (
 lE (w1 i) z2) (
 none))) (
 none)) (
 none)) (
 none))) (
 none))) (
 none)) (
 none)) (
 none)) (
 none)) (
 none)) (
 none)
 let z1 : Option Out := cond (sameL cs cs) (
 cond z5 (
 cond z7 (
 cond (bG (i) k) (
 cond (sameL cs cs) (
 cond ((symOf cs).okI .u8 z8) (
 cond ((symOf cs).int .u8 z8 != 1) z6 z6) (
 none)) (
 none)) (
 none)) (
 none)) (
 none)) (
 none)
 let z9 := mapHas es (tT cs i)
 cond (gA cs es lb) (
 cond (g [.int .i64 0, .pointer (some ⟨1000, 0, none⟩), .slice (some ⟨1001, 0, none⟩) k k, .int .i64 num, .int .i64 0, .int .i64 0] [some (.row ⟨[.map (some 1002), .map (some 1003), .slice none 0 0], 52, (0, 0), 0, false, false⟩), some (.row ⟨cs, 59, (0, 0), 4, false, false⟩), some (LObj.map es eo), some (LObj.map lb c)]) (
 cond z3 (
 cond (i == (↑k : Int)) (
 cond z3 (
 some (.normal, ([(.tuple #[(.int .i64 0), (.int .i64 0)])], z2))) (
 none)) (
 cond (bG (i) k) (
 cond (sameL cs cs) (
 cond z5 (
 cond (mapOk .u8 es) (
 cond z9 (
 cond (mapOk .u8 es) (
 cond z9 (
 cond (veq 8 (.tuple #[.int .u8 z4, .bool true]) (.tuple #[.int .u8 z4, .bool true])) z0 (
 none)) (
 cond (veq 8 (.tuple #[.int .u8 0, .bool false]) (.tuple #[.int .u8 z4, .bool true])) z0 (
 none))) (
 none)) (
 cond (mapOk .u8 es) (
 cond z9 (
 cond (veq 8 (.tuple #[.int .u8 z4, .bool true]) (.tuple #[.int .u8 0, .bool false])) z1 (
 none)) z1) (
 none))) (
 none)) (
 none)) (
 none)) (
 none))) (
 none)) (
 none)) (
 none) := by kernel_rfl
set_option maxRecDepth 100000 in
theorem r_li0T (gl : Gl) (g : GS) (gw : Int → Bool) (i num : Int) (cs : List Value) (k : Nat) (es lb lb' : MEs) (eo c c' : Nat) : li0 gl g gw [0] i num cs k es lb lb' eo c c' =
 let z2 := liRows0 cs es lb' eo c'
 let z3 := gA cs es lb'
 let z4 := mapI es (tT cs i)
 let z5 := (symOf cs).okS (0 + i.toNat * 4 + 1)
 let z6 : Option Out := cond z3 (
 lE (i) z2) (
 none)
 let z7 := veq 8 (.string (tT cs i)) (.string (tT cs i))
 let z8 := 0 + i.toNat * 4
 let z0 : Option Out := cond (sameL cs cs) (
 cond z5 (
 cond z7 (
 cond (bG (i) k) (
 cond (sameL cs cs) (
 cond ((symOf cs).okI .u8 z8) (
 cond ((symOf cs).int .u8 z8 != 1) z6 (
 cond (gw z4) (
 cond (decide (w1 i ≥ (↑k : Int))) (
 cond z3 (
 lE (IntKind.i64.wrap ((↑k : Int) - 1)) z2) (
 none)) (
 cond (bG (w1 i) k) (
 cond (sameL cs cs) (
 cond (tG cs (w1 i)) (
 cond (tQ cs (w1 i) == 2) (
 cond (decide (w2 i < (↑k : Int))) (
 cond z3 (
 lE (w2 i) z2) (
 none)) (
 qs [mapI es (tT cs i), (symOf cs).int .i64 (0 + (w1 i).toNat * 4 + (1 + 1))] (
 cond z3 (
 some (.normal, ([(.tuple #[(.int .i64 0), (.int .i64 0)])], [some (.row ⟨[(.map (some 1002)), (.map (some 1003)), (.slice (some ⟨1004, 0, none⟩) 1 1)], 52, (0, 0), 0, false, false⟩), some (.row ⟨cs, 59, (0, 0), 4, false, false⟩), some (.map (es) (eo)), some (.map (lb') (c')), some (.row ⟨[(.int .u8 z4), (.int .i64 ((symOf cs).int .i64 (0 + (w1 i).toNat * 4 + 2))), (.int .i64 0), (.int .i64 0), (.int .i64 0), (.int .i64 0), (.int .i64 0), (.string ((⟨#[]⟩ : ByteArray)))], 63, (0, 0), 8, false, false⟩)]))) (
 none)))) (
 cond z3 (
 lE (w1 i) z2) (
 none))) (
 none)) (
 none)) (
 none))) (
 none))) (
 none)) (
 none)) (
 none)) (
 none)) (
 none)) (
 none)
 let z1 : Option Out := cond (sameL cs cs) (
 cond z5 (
 cond z7 (
 cond (bG (i) k) (
 cond (sameL cs cs) (
 cond ((symOf cs).okI .u8 z8) (
 cond ((symOf cs).int .u8 z8 != 1) z6 z6) (
 none)) (
 none)) (
 none)) (
 none)) (
 none)) (
 none)
 let z9 := mapHas es (tT cs i)
 cond (gA cs es lb) (
 cond (g [.int .i64 0, .pointer (some ⟨1000, 0, none⟩), .slice (some ⟨1001, 0, none⟩) k k, .int .i64 num, .int .i64 0, .int .i64 0] [some (.row ⟨[.map (some 1002), .map (some 1003), .slice none 0 0], 52, (0, 0), 0, false, false⟩), some (.row ⟨cs, 59, (0, 0), 4, false, false⟩), some (LObj.map es eo), some (LObj.map lb c)]) (
 cond z3 (
 cond (i == (↑k : Int)) (
 cond z3 (
 some (.normal, ([(.tuple #[(.int .i64 0), (.int .i64 0)])], z2))) (
 none)) (
 cond (bG (i) k) (
 cond (sameL cs cs) (
 cond z5 (
 cond (mapOk .u8 es) (
 cond z9 (
 cond (mapOk .u8 es) (
 cond z9 (
 cond (veq 8 (.tuple #[.int .u8 z4, .bool true]) (.tuple #[.int .u8 z4, .bool true])) z0 (
 none)) (
 cond (veq 8 (.tuple #[.int .u8 0, .bool false]) (.tuple #[.int .u8 z4, .bool true])) z0 (
 none))) (
 none)) (
 cond (mapOk .u8 es) (
 cond z9 (
 cond (veq 8 (.tuple #[.int .u8 z4, .bool true]) (.tuple #[.int .u8 0, .bool false])) z1 (
 none)) z1) (
 none))) (
 none)) (
 none)) (
 none)) (
 none))) (
 none)) (
 none)) (
 none) := by kernel_rfl
end Go.Proofs.YtgohbcbdgakjeaaGreatDoor
