/- token.Line: its rounds and its answer, of any text. -/
import Derived.Test.YtgohnfkidkomhaaDoorK3
noncomputable section
noncomputable section
namespace Go.Proofs.YtgohnfkidkomhaaDoor
open Go.Proofs.YtgohnfkidkomhaaDoor.Ev Go.RowKit

/-! token.Line: its loop. -/
def afReg (rg : ByteArray → Int) : AF := fun args _ => match args with
  | [.string s] => some (decide (s.size ≤ 1000000), .int .i64 (rg s))
  | _ => none
def afNum (nm : ByteArray → Int → Int × Int × Int) : AF := fun args _ => match args with
  | [.string s, .int .i64 a] => some (decide (0 ≤ a) && decide (a < (s.size : Int)) && decide (s.size ≤ 1000000), num3 (nm s a))
  | _ => none
def H7 (rg : ByteArray → Int) (nm : ByteArray → Int → Int × Int × Int) : Hs := hsOf ((54, afReg rg) :: (56, afNum nm) :: afs1) [] [(51, [(0, ⟨runLive, runOut, runH⟩)])]
structure Tok where
  kind : Int
  text : ByteArray
  n : Int
  at_ : Int
def tokC (t : Tok) : List Value := [.int .u8 t.kind, .string t.text, .int .i64 t.n, .int .i64 t.at_]
def tlLive : List Nat := [5, 6, 1, 7, 2, 3, 4]
def tlOut : List Nat := [5, 2, 3, 4]
def boxes (s : ByteArray) (a : Int) : List (Option LObj) := [some (.row ⟨[.int .i64 a], 3, (0, 0), 0, false, false⟩), some (.row ⟨[.string s], 9, (0, 0), 0, false, false⟩)]
def tokRow (cs : List Value) : Option LObj := some (.row ⟨cs, 46, (0, 0), 4, false, false⟩)
def tlV (o : Value) : List Value := [o, .pointer (some ⟨1000, 0, none⟩), .pointer (some ⟨1001, 0, none⟩), .func (.func 50) #[] #[.pointer (some ⟨1001, 0, none⟩), .pointer (some ⟨1000, 0, none⟩)], .slice none 0 0, .int .i64 0, .int .i64 0]
def tlSt0 (s : ByteArray) (a : Int) : LSt := (tlV (.slice none 0 0), boxes s a)
def tlSt1 (s : ByteArray) (a : Int) (cs : List Value) (n : Nat) : LSt := (tlV (.slice (some ⟨1002, 0, none⟩) n n), boxes s a ++ [tokRow cs])
set_option maxRecDepth 100000 in
theorem r_tl0 (gl : Gl) (rg : ByteArray → Int) (nm : ByteArray → Int → Int × Int × Int) (s : ByteArray) (a : Int) : roundK noSy Tryd.prog gl (fun _ => none) (H7 rg nm) 100 40 40 25 0 tlLive (tlSt0 s a) (rndK Tryd.prog 1002 tlLive tlOut) =
 cond (decide (a < (↑s.size : Int))) (
  cond (decide (0 ≤ a) && (decide (a < (↑s.size : Int)))) (
   cond (byteAt s a == 35) (
    some (.inr (.exit 0, ([(.slice none 0 0), (.slice none 0 0), (.int IntKind.i64 0), (.int IntKind.i64 0)], [some (.row ⟨[(.int IntKind.i64 (a))], 3, (0, 0), 0, false, false⟩), some (.row ⟨[(.string (s))], 9, (0, 0), 0, false, false⟩)])))) (
    cond (byteAt s a == 32) (
     some (.inl ([(.slice none 0 0), (.pointer (some ⟨1000, 0, none⟩)), (.pointer (some ⟨1001, 0, none⟩)), (.func (Fn.func 50) #[] #[(.pointer (some ⟨1001, 0, none⟩)), (.pointer (some ⟨1000, 0, none⟩))]), (.slice none 0 0), (.int IntKind.i64 0), (.int IntKind.i64 0)], [some (.row ⟨[(.int IntKind.i64 (IntKind.i64.wrap (a + 1)))], 3, (0, 0), 0, false, false⟩), some (.row ⟨[(.string (s))], 9, (0, 0), 0, false, false⟩)]))) (
     cond (byteAt s a == 9) (
      some (.inl ([(.slice none 0 0), (.pointer (some ⟨1000, 0, none⟩)), (.pointer (some ⟨1001, 0, none⟩)), (.func (Fn.func 50) #[] #[(.pointer (some ⟨1001, 0, none⟩)), (.pointer (some ⟨1000, 0, none⟩))]), (.slice none 0 0), (.int IntKind.i64 0), (.int IntKind.i64 0)], [some (.row ⟨[(.int IntKind.i64 (IntKind.i64.wrap (a + 1)))], 3, (0, 0), 0, false, false⟩), some (.row ⟨[(.string (s))], 9, (0, 0), 0, false, false⟩)]))) (
      cond (byteAt s a == 44) (
       some (.inl ([(.slice (some ⟨1002, 0, none⟩) 1 1), (.pointer (some ⟨1000, 0, none⟩)), (.pointer (some ⟨1001, 0, none⟩)), (.func (Fn.func 50) #[] #[(.pointer (some ⟨1001, 0, none⟩)), (.pointer (some ⟨1000, 0, none⟩))]), (.slice none 0 0), (.int IntKind.i64 0), (.int IntKind.i64 0)], [some (.row ⟨[(.int IntKind.i64 (IntKind.i64.wrap (a + 1)))], 3, (0, 0), 0, false, false⟩), some (.row ⟨[(.string (s))], 9, (0, 0), 0, false, false⟩), some (.row ⟨[(.int IntKind.u8 4), (.string ((⟨#[]⟩ : ByteArray))), (.int IntKind.i64 0), (.int IntKind.i64 (a))], 46, (0, 0), 4, false, false⟩)]))) (
       cond (byteAt s a == 58) (
        some (.inl ([(.slice (some ⟨1002, 0, none⟩) 1 1), (.pointer (some ⟨1000, 0, none⟩)), (.pointer (some ⟨1001, 0, none⟩)), (.func (Fn.func 50) #[] #[(.pointer (some ⟨1001, 0, none⟩)), (.pointer (some ⟨1000, 0, none⟩))]), (.slice none 0 0), (.int IntKind.i64 0), (.int IntKind.i64 0)], [some (.row ⟨[(.int IntKind.i64 (IntKind.i64.wrap (a + 1)))], 3, (0, 0), 0, false, false⟩), some (.row ⟨[(.string (s))], 9, (0, 0), 0, false, false⟩), some (.row ⟨[(.int IntKind.u8 5), (.string ((⟨#[]⟩ : ByteArray))), (.int IntKind.i64 0), (.int IntKind.i64 (a))], 46, (0, 0), 4, false, false⟩)]))) (
        cond (letterB (byteAt s a)) (
         cond (decide (0 ≤ a) && (decide (s.size ≤ 1000000))) (
          cond (decide (0 ≤ a) && (decide (a ≤ IntKind.i64.wrap (a + IntKind.i64.wrap (runE partB s a - a)))) && (decide (IntKind.i64.wrap (a + IntKind.i64.wrap (runE partB s a - a)) ≤ (↑s.size : Int)))) (
           cond (decide (0 ≤ a) && (decide (a ≤ IntKind.i64.wrap (a + IntKind.i64.wrap (runE partB s a - a)))) && (decide (IntKind.i64.wrap (a + IntKind.i64.wrap (runE partB s a - a)) ≤ (↑s.size : Int)))) (
            cond (veq 8 (Value.string (subS s a (IntKind.i64.wrap (a + IntKind.i64.wrap (runE partB s a - a)))))   (Value.string (subS s a (IntKind.i64.wrap (a + IntKind.i64.wrap (runE partB s a - a)))))) (
             cond (decide (0 ≤ a) && (decide (a ≤ IntKind.i64.wrap (a + IntKind.i64.wrap (runE partB s a - a)))) && (decide (IntKind.i64.wrap (a + IntKind.i64.wrap (runE partB s a - a)) ≤ (↑s.size : Int)))) (
              cond (veq 8 (Value.string (subS s a (IntKind.i64.wrap (a + IntKind.i64.wrap (runE partB s a - a)))))   (Value.string (subS s a (IntKind.i64.wrap (a + IntKind.i64.wrap (runE partB s a - a)))))) (
               qs [a, a, a, a] (
                cond (veq 8 (Value.string s) (Value.string s)) (
                 cond (veq 8 (Value.string s) (Value.string s)) (
                  cond (decide ((subS s a (IntKind.i64.wrap (a + IntKind.i64.wrap (runE partB s a - a)))).size ≤ 1000000)) (
                   cond (decide (rg (subS s a (IntKind.i64.wrap (a + IntKind.i64.wrap (runE partB s a - a)))) ≥ 0)) (
                    some (.inl ([(.slice (some ⟨1002, 0, none⟩) 1 1), (.pointer (some ⟨1000, 0, none⟩)), (.pointer (some ⟨1001, 0, none⟩)), (.func (Fn.func 50) #[] #[(.pointer (some ⟨1001, 0, none⟩)), (.pointer (some ⟨1000, 0, none⟩))]), (.slice none 0 0), (.int IntKind.i64 0), (.int IntKind.i64 0)], [some (.row ⟨[(.int IntKind.i64 (IntKind.i64.wrap (a + IntKind.i64.wrap (runE partB s a - a))))], 3, (0, 0), 0, false, false⟩), some (.row ⟨[(.string (s))], 9, (0, 0), 0, false, false⟩), some (.row ⟨[(.int IntKind.u8 2), (.string ((⟨#[]⟩ : ByteArray))), (.int IntKind.i64 (rg (subS s a (IntKind.i64.wrap (a + IntKind.i64.wrap (runE partB s a - a)))))), (.int IntKind.i64 (a))], 46, (0, 0), 4, false, false⟩)]))) (
                    some (.inl ([(.slice (some ⟨1002, 0, none⟩) 1 1), (.pointer (some ⟨1000, 0, none⟩)), (.pointer (some ⟨1001, 0, none⟩)), (.func (Fn.func 50) #[] #[(.pointer (some ⟨1001, 0, none⟩)), (.pointer (some ⟨1000, 0, none⟩))]), (.slice none 0 0), (.int IntKind.i64 0), (.int IntKind.i64 0)], [some (.row ⟨[(.int IntKind.i64 (IntKind.i64.wrap (a + IntKind.i64.wrap (runE partB s a - a))))], 3, (0, 0), 0, false, false⟩), some (.row ⟨[(.string (s))], 9, (0, 0), 0, false, false⟩), some (.row ⟨[(.int IntKind.u8 1), (.string (subS s a (IntKind.i64.wrap (a + IntKind.i64.wrap (runE partB s a - a))))), (.int IntKind.i64 0), (.int IntKind.i64 (a))], 46, (0, 0), 4, false, false⟩)])))) (
                   none)) (
                  none)) (
                 none))) (
               none)) (
              none)) (
             none)) (
            none)) (
           none)) (
          none)) (
         cond (byteAt s a == 45) (
          cond (decide (0 ≤ a) && (decide (a < (↑s.size : Int))) && (decide (s.size ≤ 1000000))) (
           cond ((nm s a).snd.snd != 0) (
            qs [a] (
             some (.inr (.ret, ([(.slice none 0 0), (.slice none 0 0), (.int IntKind.i64 (a)), (.int IntKind.i64 ((nm s a).snd.snd))], [some (.row ⟨[(.int IntKind.i64 (a))], 3, (0, 0), 0, false, false⟩), some (.row ⟨[(.string (s))], 9, (0, 0), 0, false, false⟩)]))))) (
            some (.inl ([(.slice (some ⟨1002, 0, none⟩) 1 1), (.pointer (some ⟨1000, 0, none⟩)), (.pointer (some ⟨1001, 0, none⟩)), (.func (Fn.func 50) #[] #[(.pointer (some ⟨1001, 0, none⟩)), (.pointer (some ⟨1000, 0, none⟩))]), (.slice none 0 0), (.int IntKind.i64 0), (.int IntKind.i64 0)], [some (.row ⟨[(.int IntKind.i64 (IntKind.i64.wrap (a + (nm s a).snd.fst)))], 3, (0, 0), 0, false, false⟩), some (.row ⟨[(.string (s))], 9, (0, 0), 0, false, false⟩), some (.row ⟨[(.int IntKind.u8 3), (.string ((⟨#[]⟩ : ByteArray))), (.int IntKind.i64 ((nm s a).fst)), (.int IntKind.i64 (a))], 46, (0, 0), 4, false, false⟩)])))) (
           none)) (
          cond (digitB (byteAt s a)) (
           cond (decide (0 ≤ a) && (decide (a < (↑s.size : Int))) && (decide (s.size ≤ 1000000))) (
            cond ((nm s a).snd.snd != 0) (
             qs [a] (
              some (.inr (.ret, ([(.slice none 0 0), (.slice none 0 0), (.int IntKind.i64 (a)), (.int IntKind.i64 ((nm s a).snd.snd))], [some (.row ⟨[(.int IntKind.i64 (a))], 3, (0, 0), 0, false, false⟩), some (.row ⟨[(.string (s))], 9, (0, 0), 0, false, false⟩)]))))) (
             some (.inl ([(.slice (some ⟨1002, 0, none⟩) 1 1), (.pointer (some ⟨1000, 0, none⟩)), (.pointer (some ⟨1001, 0, none⟩)), (.func (Fn.func 50) #[] #[(.pointer (some ⟨1001, 0, none⟩)), (.pointer (some ⟨1000, 0, none⟩))]), (.slice none 0 0), (.int IntKind.i64 0), (.int IntKind.i64 0)], [some (.row ⟨[(.int IntKind.i64 (IntKind.i64.wrap (a + (nm s a).snd.fst)))], 3, (0, 0), 0, false, false⟩), some (.row ⟨[(.string (s))], 9, (0, 0), 0, false, false⟩), some (.row ⟨[(.int IntKind.u8 3), (.string ((⟨#[]⟩ : ByteArray))), (.int IntKind.i64 ((nm s a).fst)), (.int IntKind.i64 (a))], 46, (0, 0), 4, false, false⟩)])))) (
            none)) (
           qs [a] (
            some (.inr (.ret, ([(.slice none 0 0), (.slice none 0 0), (.int IntKind.i64 (a)), (.int IntKind.i64 200)], [some (.row ⟨[(.int IntKind.i64 (a))], 3, (0, 0), 0, false, false⟩), some (.row ⟨[(.string (s))], 9, (0, 0), 0, false, false⟩)]))))))))))))) (
   none)) (
  some (.inr (.exit 0, ([(.slice none 0 0), (.slice none 0 0), (.int IntKind.i64 0), (.int IntKind.i64 0)], [some (.row ⟨[(.int IntKind.i64 (a))], 3, (0, 0), 0, false, false⟩), some (.row ⟨[(.string (s))], 9, (0, 0), 0, false, false⟩)])))) := by kernel_rfl
set_option maxRecDepth 100000 in
theorem r_tl1 (gl : Gl) (rg : ByteArray → Int) (nm : ByteArray → Int → Int × Int × Int) (s : ByteArray) (a : Int) (cs : List Value) (n : Nat) : roundK noSy Tryd.prog gl (fun _ => none) (H7 rg nm) 100 40 40 25 0 tlLive (tlSt1 s a cs n) (rndK Tryd.prog 1002 tlLive tlOut) =
 cond (decide (a < (↑s.size : Int))) (
  cond (decide (0 ≤ a) && (decide (a < (↑s.size : Int)))) (
   cond (byteAt s a == 35) (
    cond (List.all cs (af 8) && true) (
     some (.inr (.exit 0, ([(.slice (some ⟨1002, 0, none⟩) (n) (n)), (.slice none 0 0), (.int IntKind.i64 0), (.int IntKind.i64 0)], [some (.row ⟨[(.int IntKind.i64 (a))], 3, (0, 0), 0, false, false⟩), some (.row ⟨[(.string (s))], 9, (0, 0), 0, false, false⟩), some (.row ⟨cs, 46, (0, 0), 4, false, false⟩)])))) (
     none)) (
    cond (byteAt s a == 32) (
     cond (List.all cs (af 8) && true) (
      some (.inl ([(.slice (some ⟨1002, 0, none⟩) (n) (n)), (.pointer (some ⟨1000, 0, none⟩)), (.pointer (some ⟨1001, 0, none⟩)), (.func (Fn.func 50) #[] #[(.pointer (some ⟨1001, 0, none⟩)), (.pointer (some ⟨1000, 0, none⟩))]), (.slice none 0 0), (.int IntKind.i64 0), (.int IntKind.i64 0)], [some (.row ⟨[(.int IntKind.i64 (IntKind.i64.wrap (a + 1)))], 3, (0, 0), 0, false, false⟩), some (.row ⟨[(.string (s))], 9, (0, 0), 0, false, false⟩), some (.row ⟨cs, 46, (0, 0), 4, false, false⟩)]))) (
      none)) (
     cond (byteAt s a == 9) (
      cond (List.all cs (af 8) && true) (
       some (.inl ([(.slice (some ⟨1002, 0, none⟩) (n) (n)), (.pointer (some ⟨1000, 0, none⟩)), (.pointer (some ⟨1001, 0, none⟩)), (.func (Fn.func 50) #[] #[(.pointer (some ⟨1001, 0, none⟩)), (.pointer (some ⟨1000, 0, none⟩))]), (.slice none 0 0), (.int IntKind.i64 0), (.int IntKind.i64 0)], [some (.row ⟨[(.int IntKind.i64 (IntKind.i64.wrap (a + 1)))], 3, (0, 0), 0, false, false⟩), some (.row ⟨[(.string (s))], 9, (0, 0), 0, false, false⟩), some (.row ⟨cs, 46, (0, 0), 4, false, false⟩)]))) (
       none)) (
      cond (byteAt s a == 44) (
       cond (n.ble n) (
        cond (((n + 1) * 40).ble 140737488355328 && ((n + 1).ble 1099511627776)) (
         cond ((n * 4).beq cs.length) (
          cond (List.all (cs ++ [(.int IntKind.u8 4), (.string ((⟨#[]⟩ : ByteArray))), (.int IntKind.i64 0), (.int IntKind.i64 (a))]) (af 8) && true) (
           some (.inl ([(.slice (some ⟨1002, 0, none⟩) (n + 1) (n + 1)), (.pointer (some ⟨1000, 0, none⟩)), (.pointer (some ⟨1001, 0, none⟩)), (.func (Fn.func 50) #[] #[(.pointer (some ⟨1001, 0, none⟩)), (.pointer (some ⟨1000, 0, none⟩))]), (.slice none 0 0), (.int IntKind.i64 0), (.int IntKind.i64 0)], [some (.row ⟨[(.int IntKind.i64 (IntKind.i64.wrap (a + 1)))], 3, (0, 0), 0, false, false⟩), some (.row ⟨[(.string (s))], 9, (0, 0), 0, false, false⟩), some (.row ⟨(cs ++ [(.int IntKind.u8 4), (.string ((⟨#[]⟩ : ByteArray))), (.int IntKind.i64 0), (.int IntKind.i64 (a))]), 46, (0, 0), 4, false, false⟩)]))) (
           none)) (
          none)) (
         none)) (
        none)) (
       cond (byteAt s a == 58) (
        cond (n.ble n) (
         cond (((n + 1) * 40).ble 140737488355328 && ((n + 1).ble 1099511627776)) (
          cond ((n * 4).beq cs.length) (
           cond (List.all (cs ++ [(.int IntKind.u8 5), (.string ((⟨#[]⟩ : ByteArray))), (.int IntKind.i64 0), (.int IntKind.i64 (a))]) (af 8) && true) (
            some (.inl ([(.slice (some ⟨1002, 0, none⟩) (n + 1) (n + 1)), (.pointer (some ⟨1000, 0, none⟩)), (.pointer (some ⟨1001, 0, none⟩)), (.func (Fn.func 50) #[] #[(.pointer (some ⟨1001, 0, none⟩)), (.pointer (some ⟨1000, 0, none⟩))]), (.slice none 0 0), (.int IntKind.i64 0), (.int IntKind.i64 0)], [some (.row ⟨[(.int IntKind.i64 (IntKind.i64.wrap (a + 1)))], 3, (0, 0), 0, false, false⟩), some (.row ⟨[(.string (s))], 9, (0, 0), 0, false, false⟩), some (.row ⟨(cs ++ [(.int IntKind.u8 5), (.string ((⟨#[]⟩ : ByteArray))), (.int IntKind.i64 0), (.int IntKind.i64 (a))]), 46, (0, 0), 4, false, false⟩)]))) (
            none)) (
           none)) (
          none)) (
         none)) (
        cond (letterB (byteAt s a)) (
         cond (decide (0 ≤ a) && (decide (s.size ≤ 1000000))) (
          cond (decide (0 ≤ a) && (decide (a ≤ IntKind.i64.wrap (a + IntKind.i64.wrap (runE partB s a - a)))) && (decide (IntKind.i64.wrap (a + IntKind.i64.wrap (runE partB s a - a)) ≤ (↑s.size : Int)))) (
           cond (decide (0 ≤ a) && (decide (a ≤ IntKind.i64.wrap (a + IntKind.i64.wrap (runE partB s a - a)))) && (decide (IntKind.i64.wrap (a + IntKind.i64.wrap (runE partB s a - a)) ≤ (↑s.size : Int)))) (
            cond (veq 8 (Value.string (subS s a (IntKind.i64.wrap (a + IntKind.i64.wrap (runE partB s a - a)))))   (Value.string (subS s a (IntKind.i64.wrap (a + IntKind.i64.wrap (runE partB s a - a)))))) (
             cond (decide (0 ≤ a) && (decide (a ≤ IntKind.i64.wrap (a + IntKind.i64.wrap (runE partB s a - a)))) && (decide (IntKind.i64.wrap (a + IntKind.i64.wrap (runE partB s a - a)) ≤ (↑s.size : Int)))) (
              cond (veq 8 (Value.string (subS s a (IntKind.i64.wrap (a + IntKind.i64.wrap (runE partB s a - a)))))   (Value.string (subS s a (IntKind.i64.wrap (a + IntKind.i64.wrap (runE partB s a - a)))))) (
               qs [a, a, a, a] (
                cond (veq 8 (Value.string s) (Value.string s)) (
                 cond (veq 8 (Value.string s) (Value.string s)) (
                  cond (decide ((subS s a (IntKind.i64.wrap (a + IntKind.i64.wrap (runE partB s a - a)))).size ≤ 1000000)) (
                   cond (decide (rg (subS s a (IntKind.i64.wrap (a + IntKind.i64.wrap (runE partB s a - a)))) ≥ 0)) (
                    cond (n.ble n) (
                     cond (((n + 1) * 40).ble 140737488355328 && ((n + 1).ble 1099511627776)) (
                      cond ((n * 4).beq cs.length) (
                       cond (List.all (cs ++ [(.int IntKind.u8 2), (.string ((⟨#[]⟩ : ByteArray))), (.int IntKind.i64 (rg (subS s a (IntKind.i64.wrap (a + IntKind.i64.wrap (runE partB s a - a)))))), (.int IntKind.i64 (a))]) (af 8) && true) (
                        some (.inl ([(.slice (some ⟨1002, 0, none⟩) (n + 1) (n + 1)), (.pointer (some ⟨1000, 0, none⟩)), (.pointer (some ⟨1001, 0, none⟩)), (.func (Fn.func 50) #[] #[(.pointer (some ⟨1001, 0, none⟩)), (.pointer (some ⟨1000, 0, none⟩))]), (.slice none 0 0), (.int IntKind.i64 0), (.int IntKind.i64 0)], [some (.row ⟨[(.int IntKind.i64 (IntKind.i64.wrap (a + IntKind.i64.wrap (runE partB s a - a))))], 3, (0, 0), 0, false, false⟩), some (.row ⟨[(.string (s))], 9, (0, 0), 0, false, false⟩), some (.row ⟨(cs ++ [(.int IntKind.u8 2), (.string ((⟨#[]⟩ : ByteArray))), (.int IntKind.i64 (rg (subS s a (IntKind.i64.wrap (a + IntKind.i64.wrap (runE partB s a - a)))))), (.int IntKind.i64 (a))]), 46, (0, 0), 4, false, false⟩)]))) (
                        none)) (
                       none)) (
                      none)) (
                     none)) (
                    cond (n.ble n) (
                     cond (((n + 1) * 40).ble 140737488355328 && ((n + 1).ble 1099511627776)) (
                      cond ((n * 4).beq cs.length) (
                       cond (List.all (cs ++ [(.int IntKind.u8 1), (.string (subS s a (IntKind.i64.wrap (a + IntKind.i64.wrap (runE partB s a - a))))), (.int IntKind.i64 0), (.int IntKind.i64 (a))]) (af 8) && true) (
                        some (.inl ([(.slice (some ⟨1002, 0, none⟩) (n + 1) (n + 1)), (.pointer (some ⟨1000, 0, none⟩)), (.pointer (some ⟨1001, 0, none⟩)), (.func (Fn.func 50) #[] #[(.pointer (some ⟨1001, 0, none⟩)), (.pointer (some ⟨1000, 0, none⟩))]), (.slice none 0 0), (.int IntKind.i64 0), (.int IntKind.i64 0)], [some (.row ⟨[(.int IntKind.i64 (IntKind.i64.wrap (a + IntKind.i64.wrap (runE partB s a - a))))], 3, (0, 0), 0, false, false⟩), some (.row ⟨[(.string (s))], 9, (0, 0), 0, false, false⟩), some (.row ⟨(cs ++ [(.int IntKind.u8 1), (.string (subS s a (IntKind.i64.wrap (a + IntKind.i64.wrap (runE partB s a - a))))), (.int IntKind.i64 0), (.int IntKind.i64 (a))]), 46, (0, 0), 4, false, false⟩)]))) (
                        none)) (
                       none)) (
                      none)) (
                     none))) (
                   none)) (
                  none)) (
                 none))) (
               none)) (
              none)) (
             none)) (
            none)) (
           none)) (
          none)) (
         cond (byteAt s a == 45) (
          cond (decide (0 ≤ a) && (decide (a < (↑s.size : Int))) && (decide (s.size ≤ 1000000))) (
           cond ((nm s a).snd.snd != 0) (
            qs [a] (
             cond (List.all cs (af 8) && true) (
              some (.inr (.ret, ([(.slice (some ⟨1002, 0, none⟩) (n) (n)), (.slice none 0 0), (.int IntKind.i64 (a)), (.int IntKind.i64 ((nm s a).snd.snd))], [some (.row ⟨[(.int IntKind.i64 (a))], 3, (0, 0), 0, false, false⟩), some (.row ⟨[(.string (s))], 9, (0, 0), 0, false, false⟩), some (.row ⟨cs, 46, (0, 0), 4, false, false⟩)])))) (
              none))) (
            cond (n.ble n) (
             cond (((n + 1) * 40).ble 140737488355328 && ((n + 1).ble 1099511627776)) (
              cond ((n * 4).beq cs.length) (
               cond (List.all (cs ++ [(.int IntKind.u8 3), (.string ((⟨#[]⟩ : ByteArray))), (.int IntKind.i64 ((nm s a).fst)), (.int IntKind.i64 (a))]) (af 8) && true) (
                some (.inl ([(.slice (some ⟨1002, 0, none⟩) (n + 1) (n + 1)), (.pointer (some ⟨1000, 0, none⟩)), (.pointer (some ⟨1001, 0, none⟩)), (.func (Fn.func 50) #[] #[(.pointer (some ⟨1001, 0, none⟩)), (.pointer (some ⟨1000, 0, none⟩))]), (.slice none 0 0), (.int IntKind.i64 0), (.int IntKind.i64 0)], [some (.row ⟨[(.int IntKind.i64 (IntKind.i64.wrap (a + (nm s a).snd.fst)))], 3, (0, 0), 0, false, false⟩), some (.row ⟨[(.string (s))], 9, (0, 0), 0, false, false⟩), some (.row ⟨(cs ++ [(.int IntKind.u8 3), (.string ((⟨#[]⟩ : ByteArray))), (.int IntKind.i64 ((nm s a).fst)), (.int IntKind.i64 (a))]), 46, (0, 0), 4, false, false⟩)]))) (
                none)) (
               none)) (
              none)) (
             none))) (
           none)) (
          cond (digitB (byteAt s a)) (
           cond (decide (0 ≤ a) && (decide (a < (↑s.size : Int))) && (decide (s.size ≤ 1000000))) (
            cond ((nm s a).snd.snd != 0) (
             qs [a] (
              cond (List.all cs (af 8) && true) (
               some (.inr (.ret, ([(.slice (some ⟨1002, 0, none⟩) (n) (n)), (.slice none 0 0), (.int IntKind.i64 (a)), (.int IntKind.i64 ((nm s a).snd.snd))], [some (.row ⟨[(.int IntKind.i64 (a))], 3, (0, 0), 0, false, false⟩), some (.row ⟨[(.string (s))], 9, (0, 0), 0, false, false⟩), some (.row ⟨cs, 46, (0, 0), 4, false, false⟩)])))) (
               none))) (
             cond (n.ble n) (
              cond (((n + 1) * 40).ble 140737488355328 && ((n + 1).ble 1099511627776)) (
               cond ((n * 4).beq cs.length) (
                cond (List.all (cs ++ [(.int IntKind.u8 3), (.string ((⟨#[]⟩ : ByteArray))), (.int IntKind.i64 ((nm s a).fst)), (.int IntKind.i64 (a))]) (af 8) && true) (
                 some (.inl ([(.slice (some ⟨1002, 0, none⟩) (n + 1) (n + 1)), (.pointer (some ⟨1000, 0, none⟩)), (.pointer (some ⟨1001, 0, none⟩)), (.func (Fn.func 50) #[] #[(.pointer (some ⟨1001, 0, none⟩)), (.pointer (some ⟨1000, 0, none⟩))]), (.slice none 0 0), (.int IntKind.i64 0), (.int IntKind.i64 0)], [some (.row ⟨[(.int IntKind.i64 (IntKind.i64.wrap (a + (nm s a).snd.fst)))], 3, (0, 0), 0, false, false⟩), some (.row ⟨[(.string (s))], 9, (0, 0), 0, false, false⟩), some (.row ⟨(cs ++ [(.int IntKind.u8 3), (.string ((⟨#[]⟩ : ByteArray))), (.int IntKind.i64 ((nm s a).fst)), (.int IntKind.i64 (a))]), 46, (0, 0), 4, false, false⟩)]))) (
                 none)) (
                none)) (
               none)) (
              none))) (
            none)) (
           qs [a] (
            cond (List.all cs (af 8) && true) (
             some (.inr (.ret, ([(.slice (some ⟨1002, 0, none⟩) (n) (n)), (.slice none 0 0), (.int IntKind.i64 (a)), (.int IntKind.i64 200)], [some (.row ⟨[(.int IntKind.i64 (a))], 3, (0, 0), 0, false, false⟩), some (.row ⟨[(.string (s))], 9, (0, 0), 0, false, false⟩), some (.row ⟨cs, 46, (0, 0), 4, false, false⟩)])))) (
             none))))))))))) (
   none)) (
  cond (List.all cs (af 8) && true) (
   some (.inr (.exit 0, ([(.slice (some ⟨1002, 0, none⟩) (n) (n)), (.slice none 0 0), (.int IntKind.i64 0), (.int IntKind.i64 0)], [some (.row ⟨[(.int IntKind.i64 (a))], 3, (0, 0), 0, false, false⟩), some (.row ⟨[(.string (s))], 9, (0, 0), 0, false, false⟩), some (.row ⟨cs, 46, (0, 0), 4, false, false⟩)])))) (
   none)) := by kernel_rfl

/-- What is at a place: an end, blanks, a token and how long it is, an error. -/
inductive TS where
  | stop
  | skip
  | tok (t : Tok) (size : Int)
  | err (e : Int)
def tokS (s : ByteArray) (a : Int) : TS :=
  if a < (s.size : Int) then
    if byteAt s a = 35 then .stop else
    if byteAt s a = 32 ∨ byteAt s a = 9 then .skip else
    if byteAt s a = 44 then .tok ⟨4, ⟨#[]⟩, 0, a⟩ 1 else
    if byteAt s a = 58 then .tok ⟨5, ⟨#[]⟩, 0, a⟩ 1 else
    if letterB (byteAt s a) = true then
      (if 0 ≤ regC (subS s a (runE partB s a)) then .tok ⟨2, ⟨#[]⟩, regC (subS s a (runE partB s a)), a⟩ (runE partB s a - a) else .tok ⟨1, subS s a (runE partB s a), 0, a⟩ (runE partB s a - a)) else
    if byteAt s a = 45 ∨ digitB (byteAt s a) = true then (if (numC s a).2.2 = 0 then .tok ⟨3, ⟨#[]⟩, (numC s a).1, a⟩ (numC s a).2.1 else .err (numC s a).2.2) else .err 200
  else .stop
def toksC (l : List Tok) : List Value := l.flatMap tokC
def tlSt (s : ByteArray) (a : Int) (l : List Tok) : LSt := match l with
  | [] => tlSt0 s a
  | _ :: _ => tlSt1 s a (toksC l) l.length
def tlEnd (x : Ex) (s : ByteArray) (a : Int) (l : List Tok) (b e : Int) : Out := match l with
  | [] => (x, [.slice none 0 0, .slice none 0 0, .int .i64 b, .int .i64 e], boxes s a)
  | _ :: _ => (x, [.slice (some ⟨1002, 0, none⟩) l.length l.length, .slice none 0 0, .int .i64 b, .int .i64 e], boxes s a ++ [tokRow (toksC l)])
def tlRes (s : ByteArray) (a : Int) (l : List Tok) : TS → LSt ⊕ Out
  | .stop => .inr (tlEnd (.exit 0) s a l 0 0)
  | .skip => .inl (tlSt s (a + 1) l)
  | .tok t k => .inl (tlSt s (a + k) (l ++ [t]))
  | .err e => .inr (tlEnd .ret s a l a e)
theorem veq_str (x : ByteArray) : veq 8 (.string x) (.string x) = true := by simp [veq]
theorem toksC_all (l : List Tok) : (toksC l).all (af 8) = true := by
  induction l with
  | nil => rfl
  | cons t l ih =>
    show (tokC t ++ toksC l).all (af 8) = true
    rw [List.all_append, ih]
    rfl
theorem toksC_len (l : List Tok) : (toksC l).length = l.length * 4 := by
  induction l with
  | nil => rfl
  | cons t l ih =>
    show (tokC t ++ toksC l).length = _
    rw [List.length_append, ih, List.length_cons]
    show 4 + l.length * 4 = _
    omega
theorem toksC_snoc (l : List Tok) (t : Tok) : toksC l ++ tokC t = toksC (l ++ [t]) := by
  unfold toksC
  rw [List.flatMap_append]
  simp
theorem tlRes_tok {s : ByteArray} {a k b : Int} {l : List Tok} {t : Tok} (h : a + k = b) : tlRes s a l (.tok t k) = .inl (tlSt s b (l ++ [t])) := by
  subst h; rfl
theorem numV_bd {s : ByteArray} {a b n2 : Int} (h1 : a ≤ n2) (h2 : n2 ≤ (s.size : Int)) (h3 : a ≤ (s.size : Int)) : 0 ≤ (numV s a b n2).2.1 ∧ a + (numV s a b n2).2.1 ≤ (s.size : Int) ∧ ((numV s a b n2).2.2 = 0 → 1 ≤ (numV s a b n2).2.1) := by
  obtain ⟨r1, r2⟩ := runE_le (p := predB b) h2
  unfold numV
  split
  · exact ⟨by decide, by simpa using h3, fun h => by cases h⟩
  · split
    · exact ⟨by simp only; omega, by simp only; omega, fun _ => by simp only; omega⟩
    · exact ⟨by decide, by simpa using h3, fun h => by cases h⟩
theorem numC_bd {s : ByteArray} {a : Int} (h0 : 0 ≤ a) (h1 : a < (s.size : Int)) : 0 ≤ (numC s a).2.1 ∧ a + (numC s a).2.1 ≤ (s.size : Int) ∧ ((numC s a).2.2 = 0 → 1 ≤ (numC s a).2.1) := by
  have hs : a ≤ sgn s a ∧ sgn s a ≤ a + 1 := by unfold sgn; split <;> omega
  unfold numC
  split
  · rename_i h
    exact numV_bd (by omega) (by have := h.1; omega) (by omega)
  · exact numV_bd (by omega) (by omega) (by omega)
theorem tl_round0 (gl : Gl) {s : ByteArray} {a : Int} (h0 : 0 ≤ a) (hs : s.size ≤ 200) : roundK noSy Tryd.prog gl (fun _ => none) (H7 regC numC) 100 40 40 25 0 tlLive (tlSt s a []) (rndK Tryd.prog 1002 tlLive tlOut) = some (tlRes s a [] (tokS s a)) := by
  show roundK noSy Tryd.prog gl (fun _ => none) (H7 regC numC) 100 40 40 25 0 tlLive (tlSt0 s a) (rndK Tryd.prog 1002 tlLive tlOut) = _
  rw [r_tl0]
  unfold tokS
  have hs6 : s.size ≤ 1000000 := by omega
  by_cases h : a < (s.size : Int)
  case neg =>
    rw [decide_eq_false h, cond_false, if_neg h]
    rfl
  obtain ⟨r1, r2⟩ := runE_le (p := partB) (show a ≤ (s.size : Int) by omega)
  have w1 : IntKind.i64.wrap (a + 1) = a + 1 := wrap_id _ (by omega)
  have w2 : IntKind.i64.wrap (runE partB s a - a) = runE partB s a - a := wrap_id _ (by omega)
  have w3 : a + (runE partB s a - a) = runE partB s a := by omega
  have w4 : IntKind.i64.wrap (runE partB s a) = runE partB s a := wrap_id _ (by omega)
  have z := subS_size (s := s) h0 r1 r2
  have z1 : (subS s a (runE partB s a)).size ≤ 1000000 := by omega
  simp only [h, h0, hs6, decide_true, Bool.and_self, cond_true, w1, w2, w3, w4, r1, r2, veq_str, qs_eq, z1, if_true]
  by_cases c1 : byteAt s a = 35
  · rw [show (byteAt s a == 35) = true by simpa using c1, cond_true, if_pos c1]; rfl
  rw [show (byteAt s a == 35) = false by simpa using c1, cond_false, if_neg c1]
  by_cases c2 : byteAt s a = 32
  · rw [show (byteAt s a == 32) = true by simpa using c2, cond_true, if_pos (.inl c2)]; rfl
  rw [show (byteAt s a == 32) = false by simpa using c2, cond_false]
  by_cases c3 : byteAt s a = 9
  · rw [show (byteAt s a == 9) = true by simpa using c3, cond_true, if_pos (.inr c3)]; rfl
  rw [show (byteAt s a == 9) = false by simpa using c3, cond_false, if_neg (by simp [c2, c3])]
  by_cases c4 : byteAt s a = 44
  · rw [show (byteAt s a == 44) = true by simpa using c4, cond_true, if_pos c4]; rfl
  rw [show (byteAt s a == 44) = false by simpa using c4, cond_false, if_neg c4]
  by_cases c5 : byteAt s a = 58
  · rw [show (byteAt s a == 58) = true by simpa using c5, cond_true, if_pos c5]; rfl
  rw [show (byteAt s a == 58) = false by simpa using c5, cond_false, if_neg c5]
  by_cases c6 : letterB (byteAt s a) = true
  · rw [c6, cond_true, if_pos rfl]
    by_cases c7 : 0 ≤ regC (subS s a (runE partB s a))
    · rw [decide_eq_true (show regC (subS s a (runE partB s a)) ≥ 0 from c7), cond_true, if_pos c7]
      rw [tlRes_tok w3]
      rfl
    · rw [decide_eq_false (show ¬ regC (subS s a (runE partB s a)) ≥ 0 from c7), cond_false, if_neg c7]
      rw [tlRes_tok w3]
      rfl
  rw [Bool.eq_false_iff.2 c6, cond_false, if_neg (by decide)]
  obtain ⟨k1, k2, k3⟩ := numC_bd h0 h
  have w5 : IntKind.i64.wrap (a + (numC s a).2.1) = a + (numC s a).2.1 := wrap_id _ (by omega)
  rw [w5]
  have fin : (cond ((numC s a).2.2 != 0) (some (.inr (tlEnd .ret s a [] a (numC s a).2.2))) (some (.inl (tlSt s (a + (numC s a).2.1) [⟨3, ⟨#[]⟩, (numC s a).1, a⟩]))) : Option (LSt ⊕ Out)) = some (tlRes s a [] (if (numC s a).2.2 = 0 then .tok ⟨3, ⟨#[]⟩, (numC s a).1, a⟩ (numC s a).2.1 else .err (numC s a).2.2)) := by
    by_cases c8 : (numC s a).2.2 = 0
    · rw [show ((numC s a).2.2 != 0) = false by simp [c8], cond_false, if_pos c8]; rfl
    · rw [show ((numC s a).2.2 != 0) = true by simpa using c8, cond_true, if_neg c8]; rfl
  by_cases c7 : byteAt s a = 45
  · rw [show (byteAt s a == 45) = true by simpa using c7, cond_true, if_pos (.inl c7)]
    exact fin
  rw [show (byteAt s a == 45) = false by simpa using c7, cond_false]
  by_cases c8 : digitB (byteAt s a) = true
  · rw [c8, cond_true, if_pos (.inr rfl)]
    exact fin
  · rw [Bool.eq_false_iff.2 c8, cond_false, if_neg (by simp [c7])]
    rfl
theorem tl_round1 (gl : Gl) {s : ByteArray} {a : Int} (h0 : 0 ≤ a) (hs : s.size ≤ 200) {l : List Tok} (hl : l.length ≤ 1000) (hne : l ≠ []) : roundK noSy Tryd.prog gl (fun _ => none) (H7 regC numC) 100 40 40 25 0 tlLive (tlSt s a l) (rndK Tryd.prog 1002 tlLive tlOut) = some (tlRes s a l (tokS s a)) := by
  have e1 : tlSt s a l = tlSt1 s a (toksC l) l.length := by
    cases l with
    | nil => exact (hne rfl).elim
    | cons t l => rfl
  have e2 : ∀ (b : Int) (t : Tok), tlSt s b (l ++ [t]) = tlSt1 s b (toksC l ++ tokC t) (l.length + 1) := fun b t => by
    rw [toksC_snoc]
    cases l with
    | nil => exact (hne rfl).elim
    | cons u l =>
      show tlSt1 s b (toksC (u :: l ++ [t])) (u :: l ++ [t]).length = _
      rw [List.length_append]
      rfl
  have e3 : ∀ (x : Ex) (b e : Int), tlEnd x s a l b e = (x, [.slice (some ⟨1002, 0, none⟩) l.length l.length, .slice none 0 0, .int .i64 b, .int .i64 e], boxes s a ++ [tokRow (toksC l)]) := fun x b e => by
    cases l with
    | nil => exact (hne rfl).elim
    | cons t l => rfl
  rw [e1, r_tl1]
  have hall : ∀ t : Tok, (toksC l ++ ([.int .u8 t.kind, .string t.text, .int .i64 t.n, .int .i64 t.at_] : List Value)).all (af 8) = true := fun t => by
    rw [List.all_append, toksC_all]
    rfl
  have b1 : Nat.ble l.length l.length = true := ble_self _
  have b2 : Nat.ble ((l.length + 1) * 40) 140737488355328 = true := Nat.ble_eq_true_of_le (by omega)
  have b3 : Nat.ble (l.length + 1) 1099511627776 = true := Nat.ble_eq_true_of_le (by omega)
  have b4 : Nat.beq (l.length * 4) (toksC l).length = true := by rw [toksC_len]; exact Nat.beq_refl _
  have a1 := hall ⟨4, ⟨#[]⟩, 0, a⟩
  have a2 := hall ⟨5, ⟨#[]⟩, 0, a⟩
  have a3 := hall ⟨2, ⟨#[]⟩, regC (subS s a (runE partB s a)), a⟩
  have a4 := hall ⟨1, subS s a (runE partB s a), 0, a⟩
  have a5 := hall ⟨3, ⟨#[]⟩, (numC s a).1, a⟩
  simp only at a1 a2 a3 a4 a5
  unfold tokS
  have hs6 : s.size ≤ 1000000 := by omega
  by_cases h : a < (s.size : Int)
  case neg =>
    rw [decide_eq_false h, cond_false, if_neg h]
    simp only [toksC_all, Bool.and_true, cond_true]
    unfold tlRes
    rw [e3]
    rfl
  obtain ⟨r1, r2⟩ := runE_le (p := partB) (show a ≤ (s.size : Int) by omega)
  have w1 : IntKind.i64.wrap (a + 1) = a + 1 := wrap_id _ (by omega)
  have w2 : IntKind.i64.wrap (runE partB s a - a) = runE partB s a - a := wrap_id _ (by omega)
  have w3 : a + (runE partB s a - a) = runE partB s a := by omega
  have w4 : IntKind.i64.wrap (runE partB s a) = runE partB s a := wrap_id _ (by omega)
  have z := subS_size (s := s) h0 r1 r2
  have z1 : (subS s a (runE partB s a)).size ≤ 1000000 := by omega
  obtain ⟨k1, k2, k3⟩ := numC_bd h0 h
  have w5 : IntKind.i64.wrap (a + (numC s a).2.1) = a + (numC s a).2.1 := wrap_id _ (by omega)
  simp only [h, h0, hs6, decide_true, Bool.and_self, cond_true, w1, w2, w3, w4, w5, r1, r2, veq_str, qs_eq, z1, if_true, b1, b2, b3, b4, toksC_all, a1, a2, a3, a4, a5, Bool.and_true]
  by_cases c1 : byteAt s a = 35
  · rw [show (byteAt s a == 35) = true by simpa using c1, cond_true, if_pos c1]
    unfold tlRes
    rw [e3]; rfl
  rw [show (byteAt s a == 35) = false by simpa using c1, cond_false, if_neg c1]
  by_cases c2 : byteAt s a = 32
  · rw [show (byteAt s a == 32) = true by simpa using c2, cond_true, if_pos (.inl c2)]
    unfold tlRes
    rw [show tlSt s (a + 1) l = tlSt1 s (a + 1) (toksC l) l.length by cases l with | nil => exact (hne rfl).elim | cons t l => rfl]
    rfl
  rw [show (byteAt s a == 32) = false by simpa using c2, cond_false]
  by_cases c3 : byteAt s a = 9
  · rw [show (byteAt s a == 9) = true by simpa using c3, cond_true, if_pos (.inr c3)]
    unfold tlRes
    rw [show tlSt s (a + 1) l = tlSt1 s (a + 1) (toksC l) l.length by cases l with | nil => exact (hne rfl).elim | cons t l => rfl]
    rfl
  rw [show (byteAt s a == 9) = false by simpa using c3, cond_false, if_neg (by simp [c2, c3])]
  by_cases c4 : byteAt s a = 44
  · rw [show (byteAt s a == 44) = true by simpa using c4, cond_true, if_pos c4, tlRes_tok rfl, e2]; rfl
  rw [show (byteAt s a == 44) = false by simpa using c4, cond_false, if_neg c4]
  by_cases c5 : byteAt s a = 58
  · rw [show (byteAt s a == 58) = true by simpa using c5, cond_true, if_pos c5, tlRes_tok rfl, e2]; rfl
  rw [show (byteAt s a == 58) = false by simpa using c5, cond_false, if_neg c5]
  by_cases c6 : letterB (byteAt s a) = true
  · rw [c6, cond_true, if_pos rfl]
    by_cases c7 : 0 ≤ regC (subS s a (runE partB s a))
    · rw [decide_eq_true (show regC (subS s a (runE partB s a)) ≥ 0 from c7), cond_true, if_pos c7, tlRes_tok w3, e2]
      rfl
    · rw [decide_eq_false (show ¬ regC (subS s a (runE partB s a)) ≥ 0 from c7), cond_false, if_neg c7, tlRes_tok w3, e2]
      rfl
  rw [Bool.eq_false_iff.2 c6, cond_false, if_neg (by decide)]
  have fin : (cond ((numC s a).2.2 != 0) (some (.inr (tlEnd .ret s a l a (numC s a).2.2))) (some (.inl (tlSt s (a + (numC s a).2.1) (l ++ [⟨3, ⟨#[]⟩, (numC s a).1, a⟩])))) : Option (LSt ⊕ Out)) = some (tlRes s a l (if (numC s a).2.2 = 0 then .tok ⟨3, ⟨#[]⟩, (numC s a).1, a⟩ (numC s a).2.1 else .err (numC s a).2.2)) := by
    by_cases c8 : (numC s a).2.2 = 0
    · rw [show ((numC s a).2.2 != 0) = false by simp [c8], cond_false, if_pos c8]; rfl
    · rw [show ((numC s a).2.2 != 0) = true by simpa using c8, cond_true, if_neg c8]; rfl
  rw [e2, e3] at fin
  by_cases c7 : byteAt s a = 45
  · rw [show (byteAt s a == 45) = true by simpa using c7, cond_true, if_pos (.inl c7)]
    exact fin
  rw [show (byteAt s a == 45) = false by simpa using c7, cond_false]
  by_cases c8 : digitB (byteAt s a) = true
  · rw [c8, cond_true, if_pos (.inr rfl)]
    exact fin
  · rw [Bool.eq_false_iff.2 c8, cond_false, if_neg (by simp [c7])]
    show _ = some (Sum.inr (tlEnd .ret s a l a 200))
    rw [e3]
    rfl

end Go.Proofs.YtgohnfkidkomhaaDoor

noncomputable section
namespace Go.Proofs.YtgohnfkidkomhaaDoor
open Go.Proofs.YtgohnfkidkomhaaDoor.Ev Go.RowKit

/-! The whole line. -/
/-- What a line comes to: the tokens, where it ended, the error (0: none). -/
def tokGo (s : ByteArray) : Nat → Int → List Tok → List Tok × Int × Int
  | 0, a, l => (l, a, 0)
  | f + 1, a, l => match tokS s a with
    | .stop => (l, a, 0)
    | .skip => tokGo s f (a + 1) l
    | .tok t k => tokGo s f (a + k) (l ++ [t])
    | .err e => (l, a, e)
def lineC (s : ByteArray) : List Tok × Int × Int := tokGo s (s.size + 1) 0 []
def tlFin (s : ByteArray) (r : List Tok × Int × Int) : Out := if r.2.2 = 0 then tlEnd (.exit 0) s r.2.1 r.1 0 0 else tlEnd .ret s r.2.1 r.1 r.2.1 r.2.2
def TS.Adv (s : ByteArray) (a : Int) : TS → Prop
  | .stop => True
  | .skip => a + 1 ≤ (s.size : Int)
  | .tok _ k => 1 ≤ k ∧ a + k ≤ (s.size : Int)
  | .err e => e ≠ 0 ∧ a < (s.size : Int)
theorem tokS_adv {s : ByteArray} {a : Int} (h0 : 0 ≤ a) : (tokS s a).Adv s a := by
  unfold tokS
  by_cases h : a < (s.size : Int)
  case neg => rw [if_neg h]; trivial
  rw [if_pos h]
  split
  · trivial
  split
  · show a + 1 ≤ _; omega
  split
  · exact ⟨by decide, by omega⟩
  split
  · exact ⟨by decide, by omega⟩
  split
  · rename_i hl
    have h1 : a + 1 ≤ runE partB s a := by
      rw [runE_eq, decide_eq_true h, Bool.true_and, show partB (byteAt s a) = true by unfold partB; rw [hl]; rfl, cond_true]
      exact (runE_le (p := partB) (show a + 1 ≤ (s.size : Int) by omega)).1
    obtain ⟨r1, r2⟩ := runE_le (p := partB) (show a ≤ (s.size : Int) by omega)
    split
    · exact ⟨by omega, by omega⟩
    · exact ⟨by omega, by omega⟩
  split
  · obtain ⟨k1, k2, k3⟩ := numC_bd h0 h
    split
    · rename_i hz
      exact ⟨k3 hz, k2⟩
    · rename_i hz
      exact ⟨hz, h⟩
  · exact ⟨by decide, h⟩

theorem tokGo_cut {s : ByteArray} : ∀ (f g : Nat) (a : Int) (l : List Tok), 0 ≤ a → ((s.size : Int) - a).toNat < f → ((s.size : Int) - a).toNat < g → tokGo s f a l = tokGo s g a l
  | 0, _, _, _, _, h, _ => by omega
  | _ + 1, 0, _, _, _, _, h => by omega
  | f + 1, g + 1, a, l, h0, h1, h2 => by
    have := tokS_adv (s := s) h0
    unfold tokGo
    cases hq : tokS s a with
    | stop => rfl
    | err e => rfl
    | skip =>
      rw [hq] at this
      have this : a + 1 ≤ (s.size : Int) := this
      exact tokGo_cut f g (a + 1) l (by omega) (by omega) (by omega)
    | tok t k =>
      rw [hq] at this
      have this : 1 ≤ k ∧ a + k ≤ (s.size : Int) := this
      exact tokGo_cut f g (a + k) (l ++ [t]) (by omega) (by omega) (by omega)
theorem tokGo_len {s : ByteArray} : ∀ (f : Nat) (a : Int) (l : List Tok), 0 ≤ a → a ≤ (s.size : Int) → l.length ≤ a → ((tokGo s f a l).1.length : Int) ≤ s.size ∧ 0 ≤ (tokGo s f a l).2.1 ∧ (tokGo s f a l).2.1 ≤ (s.size : Int)
  | 0, a, l, h0, h1, h2 => ⟨by show (l.length : Int) ≤ _; omega, h0, h1⟩
  | f + 1, a, l, h0, h1, h2 => by
    have := tokS_adv (s := s) h0
    unfold tokGo
    cases hq : tokS s a with
    | stop => exact ⟨by show (l.length : Int) ≤ _; omega, h0, h1⟩
    | err e => exact ⟨by show (l.length : Int) ≤ _; omega, h0, h1⟩
    | skip =>
      rw [hq] at this
      have this : a + 1 ≤ (s.size : Int) := this
      exact tokGo_len f (a + 1) l (by omega) (by omega) (by omega)
    | tok t k =>
      rw [hq] at this
      have this : 1 ≤ k ∧ a + k ≤ (s.size : Int) := this
      exact tokGo_len f (a + k) (l ++ [t]) (by omega) (by omega) (by simp; omega)

/-! token.Line's answers. -/
theorem fnReg {gl : Gl} (hgl : ∀ g k v, gl g k = some v → g < 1000 ∧ lowV 8 v = true) : FnOK Tryd.prog gl 54 (afReg regC) := fn_of noSy_ok goodT hgl tglob (H := H6 atOk atV) (L := 100) (G := 40) (d := 40)
  (hsOf_ok (fun p hp => by
    rcases List.mem_cons.1 hp with rfl | hp
    · exact fnAtoi hgl
    · exact afs1_ok hgl p hp) (fun _ h => by cases h) (fun p hp q hq => by
    simp only [List.mem_cons, List.not_mem_nil, or_false] at hp
    subst hp
    simp only [List.mem_cons, List.not_mem_nil, or_false] at hq
    subst hq
    exact run_ok hgl)) fun args σ v e => by
    unfold afReg at e
    split at e
    · simp only [Option.some.injEq, Prod.mk.injEq, decide_eq_true_eq] at e
      obtain ⟨h1, rfl⟩ := e
      exact ⟨rfl, reg_eq gl _ h1⟩
    · cases e
theorem fnNum {gl : Gl} {u0 o0 u1 o1 : Nat} (hS : ∀ g k v, glS u0 o0 u1 o1 g k = some v → gl g k = some v) (hgl : ∀ g k v, gl g k = some v → g < 1000 ∧ lowV 8 v = true) : FnOK Tryd.prog gl 56 (afNum numC) := fn_of noSy_ok goodT hgl tglob (H := H5 u0 o0) (L := 100) (G := 40) (d := 40)
  (hsOf_ok (afs1_ok hgl) (fun p hp => by
    simp only [List.mem_cons, List.not_mem_nil, or_false] at hp
    subst hp
    exact (puHd_ok u0 o0 u1 o1).gl_mono hS hgl) (fun p hp q hq => by
    simp only [List.mem_cons, List.not_mem_nil, or_false] at hp
    subst hp
    simp only [List.mem_cons, List.not_mem_nil, or_false] at hq
    subst hq
    exact run_ok hgl)) fun args σ v e => by
    unfold afNum at e
    split at e
    · simp only [Option.some.injEq, Prod.mk.injEq, Bool.and_eq_true, decide_eq_true_eq] at e
      obtain ⟨⟨⟨h1, h2⟩, h3⟩, rfl⟩ := e
      exact ⟨rfl, num_eq gl u0 o0 h1 h2 h3⟩
    · cases e
theorem H7_ok {gl : Gl} {u0 o0 u1 o1 : Nat} (hS : ∀ g k v, glS u0 o0 u1 o1 g k = some v → gl g k = some v) (hgl : ∀ g k v, gl g k = some v → g < 1000 ∧ lowV 8 v = true) : (H7 regC numC).OK Tryd.prog gl := hsOf_ok (fun p hp => by
    rcases List.mem_cons.1 hp with rfl | hp
    · exact fnReg hgl
    · rcases List.mem_cons.1 hp with rfl | hp
      · exact fnNum hS hgl
      · exact afs1_ok hgl p hp) (fun _ h => by cases h) (fun p hp q hq => by
    simp only [List.mem_cons, List.not_mem_nil, or_false] at hp
    subst hp
    simp only [List.mem_cons, List.not_mem_nil, or_false] at hq
    subst hq
    exact run_ok hgl)
end Go.Proofs.YtgohnfkidkomhaaDoor

noncomputable section
namespace Go.Proofs.YtgohnfkidkomhaaDoor
open Go.Proofs.YtgohnfkidkomhaaDoor.Ev Go.RowKit

/-! token.Line: its loop's answer, and its own. -/
/-- An answer by cases, with the tokens' row ahead. -/
def tlOut1 (x : Ex) (s : ByteArray) (r : List Tok × Int × Int) (b e : Int) : Out := (x, [.slice (some ⟨1002, 0, none⟩) r.1.length r.1.length, .slice none 0 0, .int .i64 b, .int .i64 e], boxes s r.2.1 ++ [tokRow (toksC r.1)])
def tlT (g : Bool) (s : ByteArray) : DT Out := .br g (.br (decide (s.size ≤ 200)) (.br (lineC s).1.isEmpty
  (.br (decide ((lineC s).2.2 = 0)) (.ret (tlEnd (.exit 0) s (lineC s).2.1 [] 0 0)) (.ret (tlEnd .ret s (lineC s).2.1 [] (lineC s).2.1 (lineC s).2.2)))
  (.br (decide ((lineC s).2.2 = 0)) (.ret (tlOut1 (.exit 0) s (lineC s) 0 0)) (.ret (tlOut1 .ret s (lineC s) (lineC s).2.1 (lineC s).2.2)))) .fail) .fail
theorem brC {c : Bool} {t e : DT Out} {r : Out} (h : DT.run (.br c t e) = some r) : (c = true ∧ t.run = some r) ∨ (c = false ∧ e.run = some r) := by
  cases c
  · exact .inr ⟨rfl, h⟩
  · exact .inl ⟨rfl, h⟩
theorem nbeq (a b : Nat) : (Nat.beq a b = true) = (a = b) := propext ⟨Nat.eq_of_beq_eq_true, fun h => h ▸ Nat.beq_refl a⟩
def tlH : Hd := fun vs rows => match vs, rows with
  | [.slice none o1 c1, .pointer (some ⟨p0, q0, none⟩), .pointer (some ⟨p1, q1, none⟩), .func (.func F) ⟨[]⟩ ⟨[.pointer (some ⟨p2, q2, none⟩), .pointer (some ⟨p3, q3, none⟩)]⟩, .slice none o2 c2, .int .i64 x, .int .i64 y],
    [some (.row ⟨[.int .i64 a], t1, (g1, g2), e1, false, false⟩), some (.row ⟨[.string s], t2, (g3, g4), e2, false, false⟩)] =>
    some (tlT (Nat.beq o1 0 && Nat.beq c1 0 && Nat.beq p0 1000 && Nat.beq q0 0 && Nat.beq p1 1001 && Nat.beq q1 0 && Nat.beq F 50 && Nat.beq p2 1001 && Nat.beq q2 0 && Nat.beq p3 1000 && Nat.beq q3 0 && Nat.beq o2 0 && Nat.beq c2 0 && decide (x = 0) && decide (y = 0) &&
      decide (a = 0) && Nat.beq t1 3 && Nat.beq g1 0 && Nat.beq g2 0 && Nat.beq e1 0 && Nat.beq t2 9 && Nat.beq g3 0 && Nat.beq g4 0 && Nat.beq e2 0) s)
  | _, _ => none
theorem tl_ok {gl : Gl} {u0 o0 u1 o1 : Nat} (hS : ∀ g k v, glS u0 o0 u1 o1 g k = some v → gl g k = some v) (hgl : ∀ g k v, gl g k = some v → g < 1000 ∧ lowV 8 v = true) : LpOK Tryd.prog gl 25 0 ⟨tlLive, tlOut, tlH⟩ := loop_of noSy_ok goodT hgl tglob (H7_ok hS hgl) (L := 100) (G := 40) (d := 40) fun vs rows t r h1 h2 => by
  simp only [tlH] at h1
  split at h1
  · rename_i o1 c1 p0 q0 p1 q1 F p2 q2 p3 q3 o2 c2 x y a t1 g1 g2 e1 s t2 g3 g4 e2
    cases h1
    obtain ⟨hg, h3⟩ := brT h2
    obtain ⟨hs, h4⟩ := brT h3
    simp only [Bool.and_eq_true, decide_eq_true_eq, nbeq] at hg hs
    obtain ⟨⟨⟨⟨⟨⟨⟨⟨⟨⟨⟨⟨⟨⟨⟨⟨⟨⟨⟨⟨⟨⟨⟨rfl, rfl⟩, rfl⟩, rfl⟩, rfl⟩, rfl⟩, rfl⟩, rfl⟩, rfl⟩, rfl⟩, rfl⟩, rfl⟩, rfl⟩, rfl⟩, rfl⟩, rfl⟩, rfl⟩, rfl⟩, rfl⟩, rfl⟩, rfl⟩, rfl⟩, rfl⟩, rfl⟩ := hg
    have hr : r = tlFin s (lineC s) := by
      unfold tlFin
      rcases brC h4 with ⟨k1, k2⟩ | ⟨k1, k2⟩
      · have k1 : (lineC s).1 = [] := by simpa using k1
        rcases brC k2 with ⟨m1, m2⟩ | ⟨m1, m2⟩
        · rw [if_pos (of_decide_eq_true m1), k1]; cases m2; rfl
        · rw [if_neg (of_decide_eq_false m1), k1]; cases m2; rfl
      · obtain ⟨t, l, k1⟩ : ∃ t l, (lineC s).1 = t :: l := by
          cases hq : (lineC s).1 with
          | nil => rw [hq] at k1; cases k1
          | cons t l => exact ⟨t, l, rfl⟩
        rcases brC k2 with ⟨m1, m2⟩ | ⟨m1, m2⟩
        · rw [if_pos (of_decide_eq_true m1)]; cases m2; unfold tlOut1; rw [k1]; rfl
        · rw [if_neg (of_decide_eq_false m1)]; cases m2; unfold tlOut1; rw [k1]; rfl
    refine ⟨show 1002 ≤ most by decide, {p : Int × List Tok // 0 ≤ p.1 ∧ p.1 ≤ (s.size : Int) ∧ (p.2.length : Int) ≤ p.1}, fun p => tlSt s p.1.1 p.1.2, fun p => some (tlFin s (tokGo s (((s.size : Int) - p.1.1).toNat + 1) p.1.1 p.1.2)), fun p => ((s.size : Int) - p.1.1).toNat, ⟨(0, []), by simp, by simp, by simp⟩, .inl rfl, ?_, ?_⟩
    · rw [hr]
      unfold lineC
      simp only [Int.sub_zero, Int.toNat_natCast]
    · rintro ⟨⟨a, l⟩, ha, hb, hc⟩ o ho
      simp only at ha hb hc ho
      have hround : roundK noSy Tryd.prog gl (fun _ => none) (H7 regC numC) 100 40 40 25 0 tlLive (tlSt s a l) (rndK Tryd.prog 1002 tlLive tlOut) = some (tlRes s a l (tokS s a)) := by
        cases l with
        | nil => exact tl_round0 gl ha hs
        | cons t l => exact tl_round1 gl ha hs (by omega) (by simp)
      refine ⟨_, hround, ?_⟩
      have hadv := tokS_adv (s := s) ha
      unfold tokGo at ho
      cases hq : tokS s a with
      | stop => rw [hq] at ho; cases ho; rfl
      | err e =>
        rw [hq] at ho hadv
        cases ho
        unfold tlFin tlRes
        rw [if_neg hadv.1]
      | skip =>
        rw [hq] at ho hadv
        have hadv : a + 1 ≤ (s.size : Int) := hadv
        refine ⟨⟨(a + 1, l), by simp only; omega, hadv, by simp only; omega⟩, rfl, by simp only; omega, ?_⟩
        rw [← ho]
        simp only
        rw [tokGo_cut _ (((s.size : Int) - a).toNat) (a + 1) l (by omega) (by omega) (by omega)]
      | tok t k =>
        rw [hq] at ho hadv
        have hadv : 1 ≤ k ∧ a + k ≤ (s.size : Int) := hadv
        refine ⟨⟨(a + k, l ++ [t]), by simp only; omega, hadv.2, by simp only [List.length_append, List.length_cons, List.length_nil]; omega⟩, rfl, by simp only; omega, ?_⟩
        rw [← ho]
        simp only
        rw [tokGo_cut _ (((s.size : Int) - a).toNat) (a + k) (l ++ [t]) (by omega) (by omega) (by omega)]
  · cases h1
def H8 : Hs := hsOf [] [] [(25, [(0, ⟨tlLive, tlOut, tlH⟩)])]
theorem H8_ok {gl : Gl} {u0 o0 u1 o1 : Nat} (hS : ∀ g k v, glS u0 o0 u1 o1 g k = some v → gl g k = some v) (hgl : ∀ g k v, gl g k = some v → g < 1000 ∧ lowV 8 v = true) : H8.OK Tryd.prog gl := hsOf_ok (fun _ h => by cases h) (fun _ h => by cases h) (fun p hp q hq => by
    simp only [List.mem_cons, List.not_mem_nil, or_false] at hp
    subst hp
    simp only [List.mem_cons, List.not_mem_nil, or_false] at hq
    subst hq
    exact tl_ok hS hgl)
set_option maxRecDepth 100000 in
theorem r_tokLine (gl : Gl) (s : ByteArray) : callSK noSy Tryd.prog gl (fun _ => none) H8 100 40 40 (.fn 25) [.string s] (rowsOf []) (exitK Tryd.prog 1000) =
 cond (decide ((↑s.size : Int) > 200)) (
  some (.normal, ([(.tuple #[(.slice none 0 0), (.int IntKind.i64 0), (.int IntKind.i64 3)])], []))) (
  cond (decide (s.size ≤ 200)) (
   cond ((lineC s).fst.isEmpty) (
    cond (decide ((lineC s).snd.snd = 0)) (
     some (.normal, ([(.tuple #[(.slice none 0 0), (.int IntKind.i64 0), (.int IntKind.i64 0)])], []))) (
     some (.normal, ([(.tuple #[(.slice none 0 0), (.int IntKind.i64 ((lineC s).snd.fst)), (.int IntKind.i64 ((lineC s).snd.snd))])], [])))) (
    cond (decide ((lineC s).snd.snd = 0)) (
     cond (List.all (toksC (lineC s).fst) (af 8) && true) (
      cond (List.all (toksC (lineC s).fst) (af 8) && true) (
       some (.normal, ([(.tuple #[(.slice (some ⟨1000, 0, none⟩) ((lineC s).fst.length) ((lineC s).fst.length)), (.int IntKind.i64 0), (.int IntKind.i64 0)])], [some (.row ⟨(toksC (lineC s).fst), 46, (0, 0), 4, false, false⟩)]))) (
       none)) (
      none)) (
     cond (List.all (toksC (lineC s).fst) (af 8) && true) (
      some (.normal, ([(.tuple #[(.slice none 0 0), (.int IntKind.i64 ((lineC s).snd.fst)), (.int IntKind.i64 ((lineC s).snd.snd))])], []))) (
      none)))) (
   none)) := by kernel_rfl
/-- What a line answers. -/
def lnRow (l : List Tok) : Option LObj := tokRow (toksC l)
def lnT (big : Int) (s : ByteArray) : DT Out := .br (decide ((s.size : Int) > 200)) (.ret (.normal, [.tuple #[.slice none 0 0, .int .i64 0, .int .i64 big]], []))
  (.br (lineC s).1.isEmpty (.br (decide ((lineC s).2.2 = 0)) (.ret (.normal, [.tuple #[.slice none 0 0, .int .i64 0, .int .i64 0]], [])) (.ret (.normal, [.tuple #[.slice none 0 0, .int .i64 (lineC s).2.1, .int .i64 (lineC s).2.2]], [])))
    (.br (decide ((lineC s).2.2 = 0)) (.ret (.normal, [.tuple #[.slice (some ⟨1000, 0, none⟩) (lineC s).1.length (lineC s).1.length, .int .i64 0, .int .i64 0]], [lnRow (lineC s).1])) (.ret (.normal, [.tuple #[.slice none 0 0, .int .i64 (lineC s).2.1, .int .i64 (lineC s).2.2]], []))))
def lnHd : Hd := fun vs rows => match vs, rows with
  | [.string s], [] => some (lnT 3 s)
  | _, _ => none
theorem line_sub {gl : Gl} {u0 o0 u1 o1 : Nat} (hS : ∀ g k v, glS u0 o0 u1 o1 g k = some v → gl g k = some v) (hgl : ∀ g k v, gl g k = some v → g < 1000 ∧ lowV 8 v = true) : SubOK Tryd.prog gl 25 lnHd := by
  refine sub_of noSy_ok goodT hgl tglob (H8_ok hS hgl) (L := 100) (G := 40) (d := 40) fun vs rows t r h1 h2 => ?_
  unfold lnHd at h1
  split at h1
  · rename_i s
    cases h1
    refine ⟨by decide, ?_⟩
    refine Eq.trans (r_tokLine gl s) ?_
    rw [← h2]
    unfold lnT
    simp only [DT.run, toksC_all, Bool.and_true, cond_true]
    by_cases hs : (s.size : Int) > 200
    · rw [decide_eq_true hs, cond_true, cond_true]
    · rw [decide_eq_false hs, cond_false, cond_false, decide_eq_true (show s.size ≤ 200 by omega), cond_true]
      rfl
  · cases h1
end Go.Proofs.YtgohnfkidkomhaaDoor
