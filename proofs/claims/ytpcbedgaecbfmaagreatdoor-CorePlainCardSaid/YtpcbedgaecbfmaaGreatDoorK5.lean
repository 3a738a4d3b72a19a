/- CorePlain: its rounds, what a core's steps come to. -/
import Derived.Test.YtpcbedgaecbfmaaGreatDoorK4
noncomputable section
namespace Go.Proofs.YtpcbedgaecbfmaaGreatDoor
open Go.Proofs.YtpcbedgaecbfmaaGreatDoor.Ev Go.RowKit

/-! A core's step where nothing is asked of memory, no transaction is open. -/
def HSt (gf gd : Rws → Bool) (gg : Int → C5 Bool) (dr : W16 → C5 W16) (da : W16 → Int → C5 Int) : Hs := hsOf [(12, afDo gg dr da)] [(54, hdM dec0 (fun r _ => gf r) (fun _ _ => .bool false) fun r _ => r), (22, hdM dec0 (fun r _ => gd r) (fun _ _ => .int .i64 0) fun r _ => r)] []
/-- A core with a program: the core is laid open, its near side too. -/
def plS : PlanV := ⟨[.op 1000, .op 1003], fun _ => [.cl 1003 [], .cl 1000 [1001]]⟩
def plS0 : PlanV := ⟨[.op 1000, .op 1002], fun _ => [.cl 1002 [], .cl 1000 [1001]]⟩
abbrev cvS (gl : Gl) (H : Hs) (f : FuncId) (vs : List Value) (rows : Rws) (pl : PlanV) : Option Out := callV (syG [(1002, .nilFunc)]) Tryz.prog gl (fun _ => none) H 100 40 40 f vs rows pl
def coX (c : Cfg) (id : Int) (n : Nat) (r : W16) (at_ count : Int) (halted : Bool) (fault : Int) (cs : List Value) (near lg : Rws) : Rws := [some (coreRow c id (slK 1001 n) r at_ (pK 1002) (pK 1003) count halted fault), some (codeRow cs 5), some (.box near []), some (.box (lg ++ [none]) [1004])]
def coX0 (c : Cfg) (id : Int) (r : W16) (at_ count : Int) (halted : Bool) (fault : Int) (near lg : Rws) : Rws := [some (coreRow c id (.slice none 0 0) r at_ (pK 1001) (pK 1002) count halted fault), some (.box near []), some (.box (lg ++ [none]) [1003])]
set_option maxRecDepth 100000 in
theorem r_stIn (gl : Gl) (gf gd : Rws → Bool) (gg : Int → C5 Bool) (dr : W16 → C5 W16) (da : W16 → Int → C5 Int) (c c2 : Cfg) (id id2 : Int) (n : Nat) (r : W16) (at_ count fault : Int) (cs : List Value) (ask : NoteS) (cr br kr dl lg mr : Rws) (stamp : Int) : cvS gl (HSt gf gd gg dr da) 10 [pK 1000, .int .u64 stamp] [some (.box (coX c id n r at_ count false fault cs (nearX c2 id2 ask false cr br kr dl) lg ++ [none]) [1001]), some (.box mr [])] plS =
 cond (List.all cs (af 8) && true && true && true && true && true) (
 cond (stamp == 0) (
 cond (List.all cs (af 8) && true && true) (
 some (.normal, ([(.tuple #[(.slice none 0 0), (.agg #[(.int .u8 0), (.int .i64 0), (.int .i64 0), (.int .u32 0)]), (.int .i64 2)])], [some (.box ([some (coreRow c id (.slice (some ⟨1001, 0, none⟩) (n) (n)) r at_ (.pointer (some ⟨1002, 0, none⟩)) (.pointer (some ⟨1003, 0, none⟩)) count false fault), some (codeRow cs 5), some (.box ((nearX c2 id2 ask false cr br kr dl) ++ []) []), some (.box (lg ++ [none]) [1004])] ++ [none]) [1001]), some (.box mr [])]))) (
 none)) (
 cond (gf dl) (
 cond (decide (at_ < 0)) (
 qs [at_] (
 cond (gd dl) (
 cond (List.all cs (af 8) && true && true) (
 some (.normal, ([(.tuple #[(.slice none 0 0), (.agg #[(.int .u8 11), (.int .i64 (id)), (.int .i64 0), (.int .u32 1)]), (.int .i64 0)])], [some (.box ([some (coreRow c id (.slice (some ⟨1001, 0, none⟩) (n) (n)) r at_ (.pointer (some ⟨1002, 0, none⟩)) (.pointer (some ⟨1003, 0, none⟩)) count true 1), some (codeRow cs 5), some (.box ((nearX c2 id2 ask false cr br kr dl) ++ []) []), some (.box (lg ++ [none]) [1004])] ++ [none]) [1001]), some (.box mr [])]))) (
 none)) (
 none))) (
 cond (decide (at_ ≥ (↑n : Int))) (
 qs [(↑n : Int)] (
 qn [n, n] (
 qs [at_, at_] (
 cond (gd dl) (
 cond (List.all cs (af 8) && true && true) (
 some (.normal, ([(.tuple #[(.slice none 0 0), (.agg #[(.int .u8 11), (.int .i64 (id)), (.int .i64 0), (.int .u32 1)]), (.int .i64 0)])], [some (.box ([some (coreRow c id (.slice (some ⟨1001, 0, none⟩) (n) (n)) r at_ (.pointer (some ⟨1002, 0, none⟩)) (.pointer (some ⟨1003, 0, none⟩)) count true 1), some (codeRow cs 5), some (.box ((nearX c2 id2 ask false cr br kr dl) ++ []) []), some (.box (lg ++ [none]) [1004])] ++ [none]) [1001]), some (.box mr [])]))) (
 none)) (
 none))))) (
 qs [(↑n : Int)] (
 qn [n, n] (
 qs [at_, at_] (
 cond (decide (0 ≤ at_) && (decide (at_ < (↑n : Int))) && (n.ble n)) (
 cond ((genOf (genSym Value.nilFunc) cs).okI .u8 (0 + at_.toNat * 5 + 0) && ((genOf (genSym Value.nilFunc) cs).okI .i64 (0 + at_.toNat * 5 + 1) && ((genOf (genSym Value.nilFunc) cs).okI .i64 (0 + at_.toNat * 5 + 2) && ((genOf (genSym Value.nilFunc) cs).okI .i64 (0 + at_.toNat * 5 + 3) && ((genOf (genSym Value.nilFunc) cs).okI .i64 (0 + at_.toNat * 5 + 4) && true))))) (
 cond ((genOf (genSym Value.nilFunc) cs).okI .u8 (0 + at_.toNat * 5 + 0) && ((genOf (genSym Value.nilFunc) cs).okI .i64 (0 + at_.toNat * 5 + 1) && ((genOf (genSym Value.nilFunc) cs).okI .i64 (0 + at_.toNat * 5 + 2) && ((genOf (genSym Value.nilFunc) cs).okI .i64 (0 + at_.toNat * 5 + 3) && ((genOf (genSym Value.nilFunc) cs).okI .i64 (0 + at_.toNat * 5 + 4) && true))))) (
 qs [(genOf (genSym Value.nilFunc) cs).int .u8 (0 + at_.toNat * 5 + 0), (genOf (genSym Value.nilFunc) cs).int .i64 (0 + at_.toNat * 5 + 1), (genOf (genSym Value.nilFunc) cs).int .i64 (0 + at_.toNat * 5 + (1 + 1)), (genOf (genSym Value.nilFunc) cs).int .i64 (0 + at_.toNat * 5 + (1 + 1 + 1)), (genOf (genSym Value.nilFunc) cs).int .i64 (0 + at_.toNat * 5 + (1 + 1 + 1 + 1)), at_] (
 qn [n, n] (
 cond (gg at_ ((genOf (genSym Value.nilFunc) cs).int .u8 (0 + at_.toNat * 5 + 0)) ((genOf (genSym Value.nilFunc) cs).int .i64 (0 + at_.toNat * 5 + 1)) ((genOf (genSym Value.nilFunc) cs).int .i64 (0 + at_.toNat * 5 + 2)) ((genOf (genSym Value.nilFunc) cs).int .i64 (0 + at_.toNat * 5 + 3)) ((genOf (genSym Value.nilFunc) cs).int .i64 (0 + at_.toNat * 5 + 4))) (
 qs [(genOf (genSym Value.nilFunc) cs).int .u8 (0 + at_.toNat * 5 + 0), (genOf (genSym Value.nilFunc) cs).int .i64 (0 + at_.toNat * 5 + 1), (genOf (genSym Value.nilFunc) cs).int .i64 (0 + at_.toNat * 5 + (1 + 1)), (genOf (genSym Value.nilFunc) cs).int .i64 (0 + at_.toNat * 5 + (1 + 1 + 1)), (genOf (genSym Value.nilFunc) cs).int .i64 (0 + at_.toNat * 5 + (1 + 1 + 1 + 1)), at_, r.a0, r.a1, r.a2, r.a3, r.a4, r.a5, r.a6, r.a7, r.a8, r.a9, r.a10, r.a11, r.a12, r.a13, r.a14, r.a15] (
 cond (gd dl) (
 cond (List.all cs (af 8) && true && true) (
 some (.normal, ([(.tuple #[(.slice none 0 0), (.agg #[(.int .u8 1), (.int .i64 (id)), (.int .i64 0), (.int .u32 0)]), (.int .i64 0)])], [some (.box ([some (coreRow c id (.slice (some ⟨1001, 0, none⟩) (n) (n)) ((dr r ((genOf (genSym Value.nilFunc) cs).int .u8 (0 + at_.toNat * 5 + 0)) ((genOf (genSym Value.nilFunc) cs).int .i64 (0 + at_.toNat * 5 + 1)) ((genOf (genSym Value.nilFunc) cs).int .i64 (0 + at_.toNat * 5 + 2)) ((genOf (genSym Value.nilFunc) cs).int .i64 (0 + at_.toNat * 5 + 3)) ((genOf (genSym Value.nilFunc) cs).int .i64 (0 + at_.toNat * 5 + 4)))) (da r at_ ((genOf (genSym Value.nilFunc) cs).int .u8 (0 + at_.toNat * 5 + 0)) ((genOf (genSym Value.nilFunc) cs).int .i64 (0 + at_.toNat * 5 + 1)) ((genOf (genSym Value.nilFunc) cs).int .i64 (0 + at_.toNat * 5 + 2)) ((genOf (genSym Value.nilFunc) cs).int .i64 (0 + at_.toNat * 5 + 3)) ((genOf (genSym Value.nilFunc) cs).int .i64 (0 + at_.toNat * 5 + 4))) (.pointer (some ⟨1002, 0, none⟩)) (.pointer (some ⟨1003, 0, none⟩)) count false fault), some (codeRow cs 5), some (.box ((nearX c2 id2 ask false cr br kr dl) ++ []) []), some (.box (lg ++ [none]) [1004])] ++ [none]) [1001]), some (.box mr [])]))) (
 none)) (
 none))) (
 none)))) (
 none)) (
 none)) (
 none))))))) (
 none))) (
 none) := by kernel_rfl
set_option maxRecDepth 100000 in
theorem r_stN (gl : Gl) (gf gd : Rws → Bool) (gg : Int → C5 Bool) (dr : W16 → C5 W16) (da : W16 → Int → C5 Int) (c c2 : Cfg) (id id2 : Int) (r : W16) (at_ count fault : Int) (ask : NoteS) (cr br kr dl lg mr : Rws) (stamp : Int) : cV noSy gl (HSt gf gd gg dr da) 10 [pK 1000, .int .u64 stamp] [some (.box (coX0 c id r at_ count false fault (nearX c2 id2 ask false cr br kr dl) lg ++ [none]) [1001]), some (.box mr [])] plS0 =
 cond (stamp == 0) (
 some (.normal, ([(.tuple #[(.slice none 0 0), (.agg #[(.int .u8 0), (.int .i64 0), (.int .i64 0), (.int .u32 0)]), (.int .i64 2)])], [some (.box ([some (coreRow c id (.slice none 0 0) r at_ (.pointer (some ⟨1001, 0, none⟩)) (.pointer (some ⟨1002, 0, none⟩)) count false fault), some (.box ((nearX c2 id2 ask false cr br kr dl) ++ []) []), some (.box (lg ++ [none]) [1003])] ++ [none]) [1001]), some (.box mr [])]))) (
 cond (gf dl) (
 cond (decide (at_ < 0)) (
 qs [at_] (
 cond (gd dl) (
 some (.normal, ([(.tuple #[(.slice none 0 0), (.agg #[(.int .u8 11), (.int .i64 (id)), (.int .i64 0), (.int .u32 1)]), (.int .i64 0)])], [some (.box ([some (coreRow c id (.slice none 0 0) r at_ (.pointer (some ⟨1001, 0, none⟩)) (.pointer (some ⟨1002, 0, none⟩)) count true 1), some (.box ((nearX c2 id2 ask false cr br kr dl) ++ []) []), some (.box (lg ++ [none]) [1003])] ++ [none]) [1001]), some (.box mr [])]))) (
 none))) (
 cond (decide (at_ ≥ 0)) (
 qs [at_, at_] (
 cond (gd dl) (
 some (.normal, ([(.tuple #[(.slice none 0 0), (.agg #[(.int .u8 11), (.int .i64 (id)), (.int .i64 0), (.int .u32 1)]), (.int .i64 0)])], [some (.box ([some (coreRow c id (.slice none 0 0) r at_ (.pointer (some ⟨1001, 0, none⟩)) (.pointer (some ⟨1002, 0, none⟩)) count true 1), some (.box ((nearX c2 id2 ask false cr br kr dl) ++ []) []), some (.box (lg ++ [none]) [1003])] ++ [none]) [1001]), some (.box mr [])]))) (
 none))) (
 qs [at_, at_] (
 none)))) (
 none)) := by kernel_rfl
def plK : PlanV := ⟨[.op 1000], fun _ => [.cl 1000 [1001]]⟩
set_option maxRecDepth 100000 in
theorem r_kRegs (gl : Gl) (c : Cfg) (id : Int) (n : Nat) (r : W16) (at_ count : Int) (hal : Bool) (fault : Int) (cs : List Value) (near lg mr : Rws) : cV noSy gl H0 13 [pK 1000] [some (.box (coX c id n r at_ count hal fault cs near lg ++ [none]) [1001]), some (.box mr [])] plK =
 cond (List.all cs (af 8) && true && true && true && true && true) (
 cond (List.all cs (af 8) && true && true) (
 some (.normal, ([(.agg ⟨w16C r []⟩)], [some (.box ([some (coreRow c id (.slice (some ⟨1001, 0, none⟩) (n) (n)) r at_ (.pointer (some ⟨1002, 0, none⟩)) (.pointer (some ⟨1003, 0, none⟩)) count hal fault), some (codeRow cs 5), some (.box near []), some (.box (lg ++ [none]) [1004])] ++ [none]) [1001]), some (.box mr [])]))) (
 none)) (
 none) := by kernel_rfl
set_option maxRecDepth 100000 in
theorem r_kRegs0 (gl : Gl) (c : Cfg) (id : Int) (r : W16) (at_ count : Int) (hal : Bool) (fault : Int) (near lg mr : Rws) : cV noSy gl H0 13 [pK 1000] [some (.box (coX0 c id r at_ count hal fault near lg ++ [none]) [1001]), some (.box mr [])] plK =
 some (.normal, ([(.agg ⟨w16C r []⟩)], [some (.box ([some (coreRow c id (.slice none 0 0) r at_ (.pointer (some ⟨1001, 0, none⟩)) (.pointer (some ⟨1002, 0, none⟩)) count hal fault), some (.box near []), some (.box (lg ++ [none]) [1003])] ++ [none]) [1001]), some (.box mr [])])) := by kernel_rfl
set_option maxRecDepth 100000 in
theorem r_kAt (gl : Gl) (c : Cfg) (id : Int) (n : Nat) (r : W16) (at_ count : Int) (hal : Bool) (fault : Int) (cs : List Value) (near lg mr : Rws) : cV noSy gl H0 14 [pK 1000] [some (.box (coX c id n r at_ count hal fault cs near lg ++ [none]) [1001]), some (.box mr [])] plK =
 cond (List.all cs (af 8) && true && true && true && true && true) (
 cond (List.all cs (af 8) && true && true) (
 some (.normal, ([(.int .i64 (at_))], [some (.box ([some (coreRow c id (.slice (some ⟨1001, 0, none⟩) (n) (n)) r at_ (.pointer (some ⟨1002, 0, none⟩)) (.pointer (some ⟨1003, 0, none⟩)) count hal fault), some (codeRow cs 5), some (.box near []), some (.box (lg ++ [none]) [1004])] ++ [none]) [1001]), some (.box mr [])]))) (
 none)) (
 none) := by kernel_rfl
set_option maxRecDepth 100000 in
theorem r_kAt0 (gl : Gl) (c : Cfg) (id : Int) (r : W16) (at_ count : Int) (hal : Bool) (fault : Int) (near lg mr : Rws) : cV noSy gl H0 14 [pK 1000] [some (.box (coX0 c id r at_ count hal fault near lg ++ [none]) [1001]), some (.box mr [])] plK =
 some (.normal, ([(.int IntKind.i64 (at_))], [some (.box ([some (coreRow c id (.slice none 0 0) r at_ (.pointer (some ⟨1001, 0, none⟩)) (.pointer (some ⟨1002, 0, none⟩)) count hal fault), some (.box near []), some (.box (lg ++ [none]) [1003])] ++ [none]) [1001]), some (.box mr [])])) := by kernel_rfl
set_option maxRecDepth 100000 in
theorem r_kHal (gl : Gl) (c : Cfg) (id : Int) (n : Nat) (r : W16) (at_ count : Int) (hal : Bool) (fault : Int) (cs : List Value) (near lg mr : Rws) : cV noSy gl H0 11 [pK 1000] [some (.box (coX c id n r at_ count hal fault cs near lg ++ [none]) [1001]), some (.box mr [])] plK =
 cond (List.all cs (af 8) && true && true && true && true && true) (
 cond (hal) (
 cond (hal) (
 qs [fault] (
 cond (List.all cs (af 8) && true && true) (
 some (.normal, ([(.tuple #[(.int .u32 (fault)), (.bool true)])], [some (.box ([some (coreRow c id (.slice (some ⟨1001, 0, none⟩) (n) (n)) r at_ (.pointer (some ⟨1002, 0, none⟩)) (.pointer (some ⟨1003, 0, none⟩)) count hal fault), some (codeRow cs 5), some (.box near []), some (.box (lg ++ [none]) [1004])] ++ [none]) [1001]), some (.box mr [])]))) (
 none))) (
 none)) (
 cond (hal) (
 none) (
 qs [fault] (
 cond (List.all cs (af 8) && true && true) (
 some (.normal, ([(.tuple #[(.int .u32 (fault)), (.bool false)])], [some (.box ([some (coreRow c id (.slice (some ⟨1001, 0, none⟩) (n) (n)) r at_ (.pointer (some ⟨1002, 0, none⟩)) (.pointer (some ⟨1003, 0, none⟩)) count hal fault), some (codeRow cs 5), some (.box near []), some (.box (lg ++ [none]) [1004])] ++ [none]) [1001]), some (.box mr [])]))) (
 none))))) (
 none) := by kernel_rfl
set_option maxRecDepth 100000 in
theorem r_kHal0 (gl : Gl) (c : Cfg) (id : Int) (r : W16) (at_ count : Int) (hal : Bool) (fault : Int) (near lg mr : Rws) : cV noSy gl H0 11 [pK 1000] [some (.box (coX0 c id r at_ count hal fault near lg ++ [none]) [1001]), some (.box mr [])] plK =
 cond (hal) (
 cond (hal) (
 qs [fault] (
 some (.normal, ([(.tuple #[(.int .u32 (fault)), (.bool true)])], [some (.box ([some (coreRow c id (.slice none 0 0) r at_ (.pointer (some ⟨1001, 0, none⟩)) (.pointer (some ⟨1002, 0, none⟩)) count hal fault), some (.box near []), some (.box (lg ++ [none]) [1003])] ++ [none]) [1001]), some (.box mr [])])))) (
 none)) (
 cond (hal) (
 none) (
 qs [fault] (
 some (.normal, ([(.tuple #[(.int .u32 (fault)), (.bool false)])], [some (.box ([some (coreRow c id (.slice none 0 0) r at_ (.pointer (some ⟨1001, 0, none⟩)) (.pointer (some ⟨1002, 0, none⟩)) count hal fault), some (.box near []), some (.box (lg ++ [none]) [1003])] ++ [none]) [1001]), some (.box mr [])]))))) := by kernel_rfl
end Go.Proofs.YtpcbedgaecbfmaaGreatDoor

namespace Go.Proofs.YtpcbedgaecbfmaaGreatDoor
open Go.Proofs.YtpcbedgaecbfmaaGreatDoor.Ev Go.RowKit

/-! CorePlain: its loops' rounds. -/
def cdOk (cs : List Value) (o : Nat) : Bool := (gS cs).okI .u8 (o + 0) && ((gS cs).okI .i64 (o + 1) && ((gS cs).okI .i64 (o + 2) && ((gS cs).okI .i64 (o + 3) && ((gS cs).okI .i64 (o + 4) && true))))
def cdK (cs : List Value) (o : Nat) : CodeS := ⟨(gS cs).int .u8 (o + 0), (gS cs).int .i64 (o + 1), (gS cs).int .i64 (o + 2), (gS cs).int .i64 (o + 3), (gS cs).int .i64 (o + 4)⟩
def afW : AF := fun args _ => match args with
  | [] => some (true, .bool true)
  | _ => none
def HPl (g : Int → Bool) (e o a b q m : Int → Int) : Hs := hsOf [(7, afTk g e o a b q m), (6, afW)] [] []
def plVals (i : Int) (pr sl : Value) (n : Nat) (steps st : Int) : List Value := [.int .i64 i, pr, sl, .int .u64 st, .int .i64 steps, sl, pK 1000, .int .i64 (n : Int)]
set_option maxRecDepth 100000 in
theorem r_plO0 (gl : Gl) (g : Int → Bool) (e o a b q m : Int → Int) (off n cap : Nat) (zs : List Int) (c : Cfg) (steps st : Int) : rV (syW 902 off zs []) gl (HPl g e o a b q m) 3 0 [43, 9, 41, 3, 2, 1, 4, 42] [9, 3, 2, 1, 4] 1001 (plVals 0 (.slice none 0 0) (wSl 902 off n cap) n steps st, [some (cfgRow c)]) [] noC =
 cond (decide (0 < (↑n : Int))) (
 cond (decide (0 < (↑n : Int)) && (n.ble cap)) (
 cond ((symW off zs).okI .u32 (off + 0)) (
 cond (g (wX off zs 0)) (
 cond (e (wX off zs 0) != 0) (
 some (.inr (.ret, ([(.slice none 0 0), (.int .u64 (st)), (.int .i64 (steps)), (.slice (some ⟨902, (off), none⟩) (n) (cap)), (.pointer (some ⟨1000, 0, none⟩))], [some (cfgRow c)])))) (
 cond (o (wX off zs 0) == 9) (
 some (.inr (.ret, ([(.slice none 0 0), (.int .u64 (st)), (.int .i64 (steps)), (.slice (some ⟨902, (off), none⟩) (n) (cap)), (.pointer (some ⟨1000, 0, none⟩))], [some (cfgRow c)])))) (
 cond (o (wX off zs 0) == 10) (
 some (.inr (.ret, ([(.slice none 0 0), (.int .u64 (st)), (.int .i64 (steps)), (.slice (some ⟨902, (off), none⟩) (n) (cap)), (.pointer (some ⟨1000, 0, none⟩))], [some (cfgRow c)])))) (
 cond (o (wX off zs 0) == 11) (
 some (.inr (.ret, ([(.slice none 0 0), (.int .u64 (st)), (.int .i64 (steps)), (.slice (some ⟨902, (off), none⟩) (n) (cap)), (.pointer (some ⟨1000, 0, none⟩))], [some (cfgRow c)])))) (
 cond (decide (o (wX off zs 0) ≥ 17)) (
 cond (decide (o (wX off zs 0) ≤ 20)) (
 some (.inr (.ret, ([(.slice none 0 0), (.int .u64 (st)), (.int .i64 (steps)), (.slice (some ⟨902, (off), none⟩) (n) (cap)), (.pointer (some ⟨1000, 0, none⟩))], [some (cfgRow c)])))) (
 cond (o (wX off zs 0) == 0) (
 some (.inr (.ret, ([(.slice none 0 0), (.int .u64 (st)), (.int .i64 (steps)), (.slice (some ⟨902, (off), none⟩) (n) (cap)), (.pointer (some ⟨1000, 0, none⟩))], [some (cfgRow c)])))) (
 some (.inl ([(.int .i64 1), (.slice (some ⟨1001, 0, none⟩) 1 1), (.slice (some ⟨902, (off), none⟩) (n) (cap)), (.int .u64 (st)), (.int .i64 (steps)), (.slice (some ⟨902, (off), none⟩) (n) (cap)), (.pointer (some ⟨1000, 0, none⟩)), (.int .i64 ((↑n : Int)))], [some (cfgRow c), some (codeRow [(.int .u8 (o (wX off zs 0))), (.int .i64 (a (wX off zs 0))), (.int .i64 (b (wX off zs 0))), (.int .i64 (q (wX off zs 0))), (.int .i64 (m (wX off zs 0)))] 5)]))))) (
 cond (o (wX off zs 0) == 0) (
 some (.inr (.ret, ([(.slice none 0 0), (.int .u64 (st)), (.int .i64 (steps)), (.slice (some ⟨902, (off), none⟩) (n) (cap)), (.pointer (some ⟨1000, 0, none⟩))], [some (cfgRow c)])))) (
 some (.inl ([(.int .i64 1), (.slice (some ⟨1001, 0, none⟩) 1 1), (.slice (some ⟨902, (off), none⟩) (n) (cap)), (.int .u64 (st)), (.int .i64 (steps)), (.slice (some ⟨902, (off), none⟩) (n) (cap)), (.pointer (some ⟨1000, 0, none⟩)), (.int .i64 ((↑n : Int)))], [some (cfgRow c), some (codeRow [(.int .u8 (o (wX off zs 0))), (.int .i64 (a (wX off zs 0))), (.int .i64 (b (wX off zs 0))), (.int .i64 (q (wX off zs 0))), (.int .i64 (m (wX off zs 0)))] 5)]))))))))) (
 none)) (
 none)) (
 none)) (
 some (.inr (.exit 0, ([(.slice none 0 0), (.int .u64 (st)), (.int .i64 (steps)), (.slice (some ⟨902, (off), none⟩) (n) (cap)), (.pointer (some ⟨1000, 0, none⟩))], [some (cfgRow c)])))) := by kernel_rfl
set_option maxRecDepth 100000 in
theorem r_plO (gl : Gl) (g : Int → Bool) (e o a b q m : Int → Int) (off n cap : Nat) (zs : List Int) (c : Cfg) (steps st i : Int) (k : Nat) (cs : List Value) : rV (syW 902 off zs [(1001, .nilFunc)]) gl (HPl g e o a b q m) 3 0 [43, 9, 41, 3, 2, 1, 4, 42] [9, 3, 2, 1, 4] 1001 (plVals i (slK 1001 k) (wSl 902 off n cap) n steps st, [some (cfgRow c), some (codeRow cs 5)]) [] noC =
 cond (decide (i < (↑n : Int))) (
 cond (decide (0 ≤ i) && (decide (i < (↑n : Int))) && (n.ble cap)) (
 cond ((symW off zs).okI .u32 (off + i.toNat * 1)) (
 cond (g (wX off zs i)) (
 cond (e (wX off zs i) != 0) (
 cond (List.all cs (af 8) && true) (
 some (.inr (.ret, ([(.slice (some ⟨1001, 0, none⟩) (k) (k)), (.int .u64 (st)), (.int .i64 (steps)), (.slice (some ⟨902, (off), none⟩) (n) (cap)), (.pointer (some ⟨1000, 0, none⟩))], [some (cfgRow c), some (codeRow cs 5)])))) (
 none)) (
 cond (o (wX off zs i) == 9) (
 cond (List.all cs (af 8) && true) (
 some (.inr (.ret, ([(.slice (some ⟨1001, 0, none⟩) (k) (k)), (.int .u64 (st)), (.int .i64 (steps)), (.slice (some ⟨902, (off), none⟩) (n) (cap)), (.pointer (some ⟨1000, 0, none⟩))], [some (cfgRow c), some (codeRow cs 5)])))) (
 none)) (
 cond (o (wX off zs i) == 10) (
 cond (List.all cs (af 8) && true) (
 some (.inr (.ret, ([(.slice (some ⟨1001, 0, none⟩) (k) (k)), (.int .u64 (st)), (.int .i64 (steps)), (.slice (some ⟨902, (off), none⟩) (n) (cap)), (.pointer (some ⟨1000, 0, none⟩))], [some (cfgRow c), some (codeRow cs 5)])))) (
 none)) (
 cond (o (wX off zs i) == 11) (
 cond (List.all cs (af 8) && true) (
 some (.inr (.ret, ([(.slice (some ⟨1001, 0, none⟩) (k) (k)), (.int .u64 (st)), (.int .i64 (steps)), (.slice (some ⟨902, (off), none⟩) (n) (cap)), (.pointer (some ⟨1000, 0, none⟩))], [some (cfgRow c), some (codeRow cs 5)])))) (
 none)) (
 cond (decide (o (wX off zs i) ≥ 17)) (
 cond (decide (o (wX off zs i) ≤ 20)) (
 cond (List.all cs (af 8) && true) (
 some (.inr (.ret, ([(.slice (some ⟨1001, 0, none⟩) (k) (k)), (.int .u64 (st)), (.int .i64 (steps)), (.slice (some ⟨902, (off), none⟩) (n) (cap)), (.pointer (some ⟨1000, 0, none⟩))], [some (cfgRow c), some (codeRow cs 5)])))) (
 none)) (
 cond (o (wX off zs i) == 0) (
 cond (List.all cs (af 8) && true) (
 some (.inr (.ret, ([(.slice (some ⟨1001, 0, none⟩) (k) (k)), (.int .u64 (st)), (.int .i64 (steps)), (.slice (some ⟨902, (off), none⟩) (n) (cap)), (.pointer (some ⟨1000, 0, none⟩))], [some (cfgRow c), some (codeRow cs 5)])))) (
 none)) (
 cond (k.ble k) (
 cond (((k + 1) * 40).ble 140737488355328 && ((k + 1).ble 1099511627776)) (
 cond ((0 + k * 5).ble cs.length) (
 cond (List.all ((winL 0 (k * 5) cs) ++ [(.int .u8 (o (wX off zs i))), (.int .i64 (a (wX off zs i))), (.int .i64 (b (wX off zs i))), (.int .i64 (q (wX off zs i))), (.int .i64 (m (wX off zs i)))]) (af 8) && true) (
 some (.inl ([(.int .i64 (IntKind.i64.wrap (i + 1))), (.slice (some ⟨1001, 0, none⟩) (k + 1) (k + 1)), (.slice (some ⟨902, (off), none⟩) (n) (cap)), (.int .u64 (st)), (.int .i64 (steps)), (.slice (some ⟨902, (off), none⟩) (n) (cap)), (.pointer (some ⟨1000, 0, none⟩)), (.int .i64 ((↑n : Int)))], [some (cfgRow c), some (codeRow ((winL 0 (k * 5) cs) ++ [(.int .u8 (o (wX off zs i))), (.int .i64 (a (wX off zs i))), (.int .i64 (b (wX off zs i))), (.int .i64 (q (wX off zs i))), (.int .i64 (m (wX off zs i)))]) 5)]))) (
 none)) (
 none)) (
 none)) (
 none)))) (
 cond (o (wX off zs i) == 0) (
 cond (List.all cs (af 8) && true) (
 some (.inr (.ret, ([(.slice (some ⟨1001, 0, none⟩) (k) (k)), (.int .u64 (st)), (.int .i64 (steps)), (.slice (some ⟨902, (off), none⟩) (n) (cap)), (.pointer (some ⟨1000, 0, none⟩))], [some (cfgRow c), some (codeRow cs 5)])))) (
 none)) (
 cond (k.ble k) (
 cond (((k + 1) * 40).ble 140737488355328 && ((k + 1).ble 1099511627776)) (
 cond ((0 + k * 5).ble cs.length) (
 cond (List.all ((winL 0 (k * 5) cs) ++ [(.int .u8 (o (wX off zs i))), (.int .i64 (a (wX off zs i))), (.int .i64 (b (wX off zs i))), (.int .i64 (q (wX off zs i))), (.int .i64 (m (wX off zs i)))]) (af 8) && true) (
 some (.inl ([(.int .i64 (IntKind.i64.wrap (i + 1))), (.slice (some ⟨1001, 0, none⟩) (k + 1) (k + 1)), (.slice (some ⟨902, (off), none⟩) (n) (cap)), (.int .u64 (st)), (.int .i64 (steps)), (.slice (some ⟨902, (off), none⟩) (n) (cap)), (.pointer (some ⟨1000, 0, none⟩)), (.int .i64 ((↑n : Int)))], [some (cfgRow c), some (codeRow ((winL 0 (k * 5) cs) ++ [(.int .u8 (o (wX off zs i))), (.int .i64 (a (wX off zs i))), (.int .i64 (b (wX off zs i))), (.int .i64 (q (wX off zs i))), (.int .i64 (m (wX off zs i)))]) 5)]))) (
 none)) (
 none)) (
 none)) (
 none)))))))) (
 none)) (
 none)) (
 none)) (
 cond (List.all cs (af 8) && true) (
 some (.inr (.exit 0, ([(.slice (some ⟨1001, 0, none⟩) (k) (k)), (.int .u64 (st)), (.int .i64 (steps)), (.slice (some ⟨902, (off), none⟩) (n) (cap)), (.pointer (some ⟨1000, 0, none⟩))], [some (cfgRow c), some (codeRow cs 5)])))) (
 none)) := by kernel_rfl
set_option maxRecDepth 100000 in
theorem r_plB0 (gl : Gl) (g : Int → Bool) (e o a b q m : Int → Int) (off n cap : Nat) (zs : List Int) (c : Cfg) (steps st : Int) : rV (syW 902 off zs []) gl (HPl g e o a b q m) 3 0 [43, 9, 41, 3, 2, 1, 4, 42] [8] 1001 (plVals 0 (.slice none 0 0) (wSl 902 off n cap) n steps st, [some (cfgRow c)]) [] noC =
 cond (decide (0 < (↑n : Int))) (
 cond (decide (0 < (↑n : Int)) && (n.ble cap)) (
 cond ((symW off zs).okI .u32 (off + 0)) (
 cond (g (wX off zs 0)) (
 cond (e (wX off zs 0) != 0) (
 some (.inr (.ret, ([(.bool true)], [some (cfgRow c)])))) (
 cond (o (wX off zs 0) == 9) (
 some (.inr (.ret, ([(.bool true)], [some (cfgRow c)])))) (
 cond (o (wX off zs 0) == 10) (
 some (.inr (.ret, ([(.bool true)], [some (cfgRow c)])))) (
 cond (o (wX off zs 0) == 11) (
 some (.inr (.ret, ([(.bool true)], [some (cfgRow c)])))) (
 cond (decide (o (wX off zs 0) ≥ 17)) (
 cond (decide (o (wX off zs 0) ≤ 20)) (
 some (.inr (.ret, ([(.bool true)], [some (cfgRow c)])))) (
 cond (o (wX off zs 0) == 0) (
 some (.inr (.ret, ([(.bool true)], [some (cfgRow c)])))) (
 some (.inl ([(.int .i64 1), (.slice (some ⟨1001, 0, none⟩) 1 1), (.slice (some ⟨902, (off), none⟩) (n) (cap)), (.int .u64 (st)), (.int .i64 (steps)), (.slice (some ⟨902, (off), none⟩) (n) (cap)), (.pointer (some ⟨1000, 0, none⟩)), (.int .i64 ((↑n : Int)))], [some (cfgRow c), some (codeRow [(.int .u8 (o (wX off zs 0))), (.int .i64 (a (wX off zs 0))), (.int .i64 (b (wX off zs 0))), (.int .i64 (q (wX off zs 0))), (.int .i64 (m (wX off zs 0)))] 5)]))))) (
 cond (o (wX off zs 0) == 0) (
 some (.inr (.ret, ([(.bool true)], [some (cfgRow c)])))) (
 some (.inl ([(.int .i64 1), (.slice (some ⟨1001, 0, none⟩) 1 1), (.slice (some ⟨902, (off), none⟩) (n) (cap)), (.int .u64 (st)), (.int .i64 (steps)), (.slice (some ⟨902, (off), none⟩) (n) (cap)), (.pointer (some ⟨1000, 0, none⟩)), (.int .i64 ((↑n : Int)))], [some (cfgRow c), some (codeRow [(.int .u8 (o (wX off zs 0))), (.int .i64 (a (wX off zs 0))), (.int .i64 (b (wX off zs 0))), (.int .i64 (q (wX off zs 0))), (.int .i64 (m (wX off zs 0)))] 5)]))))))))) (
 none)) (
 none)) (
 none)) (
 none) := by kernel_rfl
set_option maxRecDepth 100000 in
theorem r_plB (gl : Gl) (g : Int → Bool) (e o a b q m : Int → Int) (off n cap : Nat) (zs : List Int) (c : Cfg) (steps st i : Int) (k : Nat) (cs : List Value) : rV (syW 902 off zs [(1001, .nilFunc)]) gl (HPl g e o a b q m) 3 0 [43, 9, 41, 3, 2, 1, 4, 42] [8] 1001 (plVals i (slK 1001 k) (wSl 902 off n cap) n steps st, [some (cfgRow c), some (codeRow cs 5)]) [] noC =
 cond (decide (i < (↑n : Int))) (
 cond (decide (0 ≤ i) && (decide (i < (↑n : Int))) && (n.ble cap)) (
 cond ((symW off zs).okI .u32 (off + i.toNat * 1)) (
 cond (g (wX off zs i)) (
 cond (e (wX off zs i) != 0) (
 some (.inr (.ret, ([(.bool true)], [some (cfgRow c)])))) (
 cond (o (wX off zs i) == 9) (
 some (.inr (.ret, ([(.bool true)], [some (cfgRow c)])))) (
 cond (o (wX off zs i) == 10) (
 some (.inr (.ret, ([(.bool true)], [some (cfgRow c)])))) (
 cond (o (wX off zs i) == 11) (
 some (.inr (.ret, ([(.bool true)], [some (cfgRow c)])))) (
 cond (decide (o (wX off zs i) ≥ 17)) (
 cond (decide (o (wX off zs i) ≤ 20)) (
 some (.inr (.ret, ([(.bool true)], [some (cfgRow c)])))) (
 cond (o (wX off zs i) == 0) (
 some (.inr (.ret, ([(.bool true)], [some (cfgRow c)])))) (
 cond (k.ble k) (
 cond (((k + 1) * 40).ble 140737488355328 && ((k + 1).ble 1099511627776)) (
 cond ((0 + k * 5).ble cs.length) (
 cond (List.all ((winL 0 (k * 5) cs) ++ [(.int .u8 (o (wX off zs i))), (.int .i64 (a (wX off zs i))), (.int .i64 (b (wX off zs i))), (.int .i64 (q (wX off zs i))), (.int .i64 (m (wX off zs i)))]) (af 8) && true) (
 some (.inl ([(.int .i64 (IntKind.i64.wrap (i + 1))), (.slice (some ⟨1001, 0, none⟩) (k + 1) (k + 1)), (.slice (some ⟨902, (off), none⟩) (n) (cap)), (.int .u64 (st)), (.int .i64 (steps)), (.slice (some ⟨902, (off), none⟩) (n) (cap)), (.pointer (some ⟨1000, 0, none⟩)), (.int .i64 ((↑n : Int)))], [some (cfgRow c), some (codeRow ((winL 0 (k * 5) cs) ++ [(.int .u8 (o (wX off zs i))), (.int .i64 (a (wX off zs i))), (.int .i64 (b (wX off zs i))), (.int .i64 (q (wX off zs i))), (.int .i64 (m (wX off zs i)))]) 5)]))) (
 none)) (
 none)) (
 none)) (
 none)))) (
 cond (o (wX off zs i) == 0) (
 some (.inr (.ret, ([(.bool true)], [some (cfgRow c)])))) (
 cond (k.ble k) (
 cond (((k + 1) * 40).ble 140737488355328 && ((k + 1).ble 1099511627776)) (
 cond ((0 + k * 5).ble cs.length) (
 cond (List.all ((winL 0 (k * 5) cs) ++ [(.int .u8 (o (wX off zs i))), (.int .i64 (a (wX off zs i))), (.int .i64 (b (wX off zs i))), (.int .i64 (q (wX off zs i))), (.int .i64 (m (wX off zs i)))]) (af 8) && true) (
 some (.inl ([(.int .i64 (IntKind.i64.wrap (i + 1))), (.slice (some ⟨1001, 0, none⟩) (k + 1) (k + 1)), (.slice (some ⟨902, (off), none⟩) (n) (cap)), (.int .u64 (st)), (.int .i64 (steps)), (.slice (some ⟨902, (off), none⟩) (n) (cap)), (.pointer (some ⟨1000, 0, none⟩)), (.int .i64 ((↑n : Int)))], [some (cfgRow c), some (codeRow ((winL 0 (k * 5) cs) ++ [(.int .u8 (o (wX off zs i))), (.int .i64 (a (wX off zs i))), (.int .i64 (b (wX off zs i))), (.int .i64 (q (wX off zs i))), (.int .i64 (m (wX off zs i)))]) 5)]))) (
 none)) (
 none)) (
 none)) (
 none)))))))) (
 none)) (
 none)) (
 none)) (
 none) := by kernel_rfl
set_option maxRecDepth 100000 in
theorem r_plN (gl : Gl) (c : Cfg) (steps st : Int) : rV noSy gl H0 3 0 [43, 9, 41, 3, 2, 1, 4, 42] [9, 3, 2, 1, 4] 1001 (plVals 0 (.slice none 0 0) (.slice none 0 0) 0 steps st, [some (cfgRow c)]) [] noC =
 some (.inr (.exit 0, ([(.slice none 0 0), (.int IntKind.u64 (st)), (.int IntKind.i64 (steps)), (.slice none 0 0), (.pointer (some ⟨1000, 0, none⟩))], [some (cfgRow c)]))) := by kernel_rfl
/-- The steps' loop: what a step answers, what the core tells then. -/
def regRow (w : W16) : LObj := .row ⟨w16L w, 40, (0, 0), 0, false, false⟩
abbrev evV (k id n c : Int) : Value := .agg #[.int .u8 k, .int .i64 id, .int .i64 n, .int .u32 c]
def HSp (t tD tR tA tH : List Value → Rws → Bool) (ev : Value) (k1 mr : Rws) (q w1 : W16) (a1 a2 : Int) : Hs := hsOf [(12, afT (fun l => tD l []) (.tuple #[w16V q, .int .i64 a1, .int .i64 0])), (6, afW)]
  [(10, gH t (.normal, [.tuple #[.slice none 0 0, ev, .int .i64 0]], [some (.box k1 [1001]), some (.box mr [])])), (13, gH tR (.normal, [w16V w1], [some (.box k1 [1001]), some (.box mr [])])), (14, gH tA (.normal, [.int .i64 a2], [some (.box k1 [1001]), some (.box mr [])])), (11, gH tH (.normal, [.tuple #[.int .u32 1, .bool true]], [some (.box k1 [1001]), some (.box mr [])]))] []
def spVals (i at_ : Int) (pr : Value) (steps st : Int) : List Value := [pK 1000, .int .i64 i, pK 1001, .int .i64 at_, pr, .int .u64 st, .int .i64 steps]
set_option maxRecDepth 100000 in
theorem r_spI (gl : Gl) (t tD tR tA tH : List Value → Rws → Bool) (k0 k1 mr : Rws) (w q w1 : W16) (a1 a2 i at_ steps st : Int) (k : Nat) (cs : List Value) : rV (syG [(1002, .nilFunc)]) gl (HSp t tD tR tA tH (evV 1 0 0 0) k1 mr q w1 a1 a2) 3 1 [16, 111, 18, 19, 9, 3, 110] [] 1004 (spVals i at_ (slK 1002 k) steps st, [some (.box k0 [1003]), some (regRow w), some (codeRow cs 5), some (.box mr [])]) [] noC =
 cond (decide (i < steps)) (
 cond (t [.pointer (some ⟨1000, 0, none⟩), .int .u64 st] [some (LObj.box k0 [1001]), some (LObj.box mr [])]) (
 cond (decide (at_ < 0)) (
 cond (tH [.pointer (some ⟨1000, 0, none⟩)] [some (LObj.box k1 [1001]), some (LObj.box mr [])]) (
 cond (List.all cs (af 8) && true) (
 some (.inr (.ret, ([], [some (.box k1 [1003]), some (.row ⟨(w16C w []), 40, (0, 0), 0, false, false⟩), some (codeRow cs 5), some (.box mr [])])))) (
 none)) (
 none)) (
 cond (decide (at_ ≥ (↑k : Int))) (
 cond (tH [.pointer (some ⟨1000, 0, none⟩)] [some (LObj.box k1 [1001]), some (LObj.box mr [])]) (
 cond (List.all cs (af 8) && true) (
 some (.inr (.ret, ([], [some (.box k1 [1003]), some (.row ⟨(w16C w []), 40, (0, 0), 0, false, false⟩), some (codeRow cs 5), some (.box mr [])])))) (
 none)) (
 none)) (
 cond (decide (0 ≤ at_) && (decide (at_ < (↑k : Int))) && (k.ble k)) (
 cond (cdOk cs (0 + at_.toNat * 5)) (
 cond (tD ([] ++ [Value.agg #[Value.int .u32 w.a0, Value.int .u32 w.a1, Value.int .u32 w.a2, Value.int .u32 w.a3, Value.int .u32 w.a4, Value.int .u32 w.a5, Value.int .u32 w.a6, Value.int .u32 w.a7, Value.int .u32 w.a8, Value.int .u32 w.a9, Value.int .u32 w.a10, Value.int .u32 w.a11, Value.int .u32 w.a12, Value.int .u32 w.a13, Value.int .u32 w.a14, Value.int .u32 w.a15], Value.int .i64 at_, Value.agg ([Value.int .u8 ((genOf (genSym Value.nilFunc) cs).int .u8 (0 + at_.toNat * 5 + 0))] ++ ([Value.int .i64 ((genOf (genSym Value.nilFunc) cs).int .i64 (0 + at_.toNat * 5 + 1))] ++ ([Value.int .i64 ((genOf (genSym Value.nilFunc) cs).int .i64 (0 + at_.toNat * 5 + 2))] ++ ([Value.int .i64 ((genOf (genSym Value.nilFunc) cs).int .i64 (0 + at_.toNat * 5 + 3))] ++ ([Value.int .i64 ((genOf (genSym Value.nilFunc) cs).int .i64 (0 + at_.toNat * 5 + 4))] ++ []))))).toArray] ++ []) []) (
 cond (cdOk cs (0 + at_.toNat * 5)) (
 qs [(genOf (genSym Value.nilFunc) cs).int .u8 (0 + at_.toNat * 5 + 0), (genOf (genSym Value.nilFunc) cs).int .i64 (0 + at_.toNat * 5 + 1), (genOf (genSym Value.nilFunc) cs).int .i64 (0 + at_.toNat * 5 + (1 + 1)), (genOf (genSym Value.nilFunc) cs).int .i64 (0 + at_.toNat * 5 + (1 + 1 + 1)), (genOf (genSym Value.nilFunc) cs).int .i64 (0 + at_.toNat * 5 + (1 + 1 + 1 + 1)), w.a0, w.a1, w.a2, w.a3, w.a4, w.a5, w.a6, w.a7, w.a8, w.a9, w.a10, w.a11, w.a12, w.a13, w.a14, w.a15] (
 cond (tR [.pointer (some ⟨1000, 0, none⟩)] [some (LObj.box k1 [1001]), some (LObj.box mr [])]) (
 cond (!(w1.a0 == q.a0 && (w1.a1 == q.a1 && (w1.a2 == q.a2 && (w1.a3 == q.a3 && (w1.a4 == q.a4 && (w1.a5 == q.a5 && (w1.a6 == q.a6 && (w1.a7 == q.a7 && (w1.a8 == q.a8 && (w1.a9 == q.a9 && (w1.a10 == q.a10 && (w1.a11 == q.a11 && (w1.a12 == q.a12 && (w1.a13 == q.a13 && (w1.a14 == q.a14 && (w1.a15 == q.a15 && true))))))))))))))))) (
 qs [q.a0, q.a1, q.a2, q.a3, q.a4, q.a5, q.a6, q.a7, q.a8, q.a9, q.a10, q.a11, q.a12, q.a13, q.a14, q.a15, q.a0, q.a1, q.a2, q.a3, q.a4, q.a5, q.a6, q.a7, q.a8, q.a9, q.a10, q.a11, q.a12, q.a13, q.a14, q.a15] (
 cond (List.all cs (af 8) && true) (
 some (.inr (.ret, ([], [some (.box k1 [1003]), some (.row ⟨(w16C q []), 40, (0, 0), 0, false, false⟩), some (codeRow cs 5), some (.box mr [])])))) (
 none))) (
 cond (tA [.pointer (some ⟨1000, 0, none⟩)] [some (LObj.box k1 [1001]), some (LObj.box mr [])]) (
 cond (a2 != a1) (
 qs [q.a0, q.a1, q.a2, q.a3, q.a4, q.a5, q.a6, q.a7, q.a8, q.a9, q.a10, q.a11, q.a12, q.a13, q.a14, q.a15, q.a0, q.a1, q.a2, q.a3, q.a4, q.a5, q.a6, q.a7, q.a8, q.a9, q.a10, q.a11, q.a12, q.a13, q.a14, q.a15] (
 cond (List.all cs (af 8) && true) (
 some (.inr (.ret, ([], [some (.box k1 [1003]), some (.row ⟨(w16C q []), 40, (0, 0), 0, false, false⟩), some (codeRow cs 5), some (.box mr [])])))) (
 none))) (
 qs [q.a0, q.a1, q.a2, q.a3, q.a4, q.a5, q.a6, q.a7, q.a8, q.a9, q.a10, q.a11, q.a12, q.a13, q.a14, q.a15, q.a0, q.a1, q.a2, q.a3, q.a4, q.a5, q.a6, q.a7, q.a8, q.a9, q.a10, q.a11, q.a12, q.a13, q.a14, q.a15] (
 cond (List.all cs (af 8) && true) (
 some (.inl ([(.pointer (some ⟨1000, 0, none⟩)), (.int .i64 (IntKind.i64.wrap (i + 1))), (.pointer (some ⟨1001, 0, none⟩)), (.int .i64 (a1)), (.slice (some ⟨1002, 0, none⟩) (k) (k)), (.int .u64 (st)), (.int .i64 (steps))], [some (.box k1 [1003]), some (.row ⟨(w16C q []), 40, (0, 0), 0, false, false⟩), some (codeRow cs 5), some (.box mr [])]))) (
 none)))) (
 none))) (
 none))) (
 none)) (
 none)) (
 none)) (
 none)))) (
 none)) (
 cond (List.all cs (af 8) && true) (
 some (.inr (.exit 2, ([], [some (.box k0 [1003]), some (.row ⟨(w16C w []), 40, (0, 0), 0, false, false⟩), some (codeRow cs 5), some (.box mr [])])))) (
 none)) := by kernel_rfl
set_option maxRecDepth 100000 in
theorem r_spJ (gl : Gl) (t tD tR tA tH : List Value → Rws → Bool) (k0 k1 mr : Rws) (w q w1 : W16) (a1 a2 i at_ steps st : Int) (k : Nat) (cs : List Value) : rV (syG [(1002, .nilFunc)]) gl (HSp t tD tR tA tH (evV 1 0 0 0) k1 mr q w1 a1 a2) 3 1 [16, 111, 18, 19, 9, 3, 110] [8] 1004 (spVals i at_ (slK 1002 k) steps st, [some (.box k0 [1003]), some (regRow w), some (codeRow cs 5), some (.box mr [])]) [] noC =
 cond (decide (i < steps)) (
 cond (t [.pointer (some ⟨1000, 0, none⟩), .int .u64 st] [some (LObj.box k0 [1001]), some (LObj.box mr [])]) (
 cond (decide (at_ < 0)) (
 cond (tH [.pointer (some ⟨1000, 0, none⟩)] [some (LObj.box k1 [1001]), some (LObj.box mr [])]) (
 cond (List.all cs (af 8) && true) (
 some (.inr (.ret, ([(.bool false)], [some (.box k1 [1003]), some (.row ⟨(w16C w []), 40, (0, 0), 0, false, false⟩), some (codeRow cs 5), some (.box mr [])])))) (
 none)) (
 none)) (
 cond (decide (at_ ≥ (↑k : Int))) (
 cond (tH [.pointer (some ⟨1000, 0, none⟩)] [some (LObj.box k1 [1001]), some (LObj.box mr [])]) (
 cond (List.all cs (af 8) && true) (
 some (.inr (.ret, ([(.bool false)], [some (.box k1 [1003]), some (.row ⟨(w16C w []), 40, (0, 0), 0, false, false⟩), some (codeRow cs 5), some (.box mr [])])))) (
 none)) (
 none)) (
 cond (decide (0 ≤ at_) && (decide (at_ < (↑k : Int))) && (k.ble k)) (
 cond (cdOk cs (0 + at_.toNat * 5)) (
 cond (tD ([] ++ [Value.agg #[Value.int .u32 w.a0, Value.int .u32 w.a1, Value.int .u32 w.a2, Value.int .u32 w.a3, Value.int .u32 w.a4, Value.int .u32 w.a5, Value.int .u32 w.a6, Value.int .u32 w.a7, Value.int .u32 w.a8, Value.int .u32 w.a9, Value.int .u32 w.a10, Value.int .u32 w.a11, Value.int .u32 w.a12, Value.int .u32 w.a13, Value.int .u32 w.a14, Value.int .u32 w.a15], Value.int .i64 at_, Value.agg ([Value.int .u8 ((genOf (genSym Value.nilFunc) cs).int .u8 (0 + at_.toNat * 5 + 0))] ++ ([Value.int .i64 ((genOf (genSym Value.nilFunc) cs).int .i64 (0 + at_.toNat * 5 + 1))] ++ ([Value.int .i64 ((genOf (genSym Value.nilFunc) cs).int .i64 (0 + at_.toNat * 5 + 2))] ++ ([Value.int .i64 ((genOf (genSym Value.nilFunc) cs).int .i64 (0 + at_.toNat * 5 + 3))] ++ ([Value.int .i64 ((genOf (genSym Value.nilFunc) cs).int .i64 (0 + at_.toNat * 5 + 4))] ++ []))))).toArray] ++ []) []) (
 cond (cdOk cs (0 + at_.toNat * 5)) (
 qs [(genOf (genSym Value.nilFunc) cs).int .u8 (0 + at_.toNat * 5 + 0), (genOf (genSym Value.nilFunc) cs).int .i64 (0 + at_.toNat * 5 + 1), (genOf (genSym Value.nilFunc) cs).int .i64 (0 + at_.toNat * 5 + (1 + 1)), (genOf (genSym Value.nilFunc) cs).int .i64 (0 + at_.toNat * 5 + (1 + 1 + 1)), (genOf (genSym Value.nilFunc) cs).int .i64 (0 + at_.toNat * 5 + (1 + 1 + 1 + 1)), w.a0, w.a1, w.a2, w.a3, w.a4, w.a5, w.a6, w.a7, w.a8, w.a9, w.a10, w.a11, w.a12, w.a13, w.a14, w.a15] (
 cond (tR [.pointer (some ⟨1000, 0, none⟩)] [some (LObj.box k1 [1001]), some (LObj.box mr [])]) (
 cond (!(w1.a0 == q.a0 && (w1.a1 == q.a1 && (w1.a2 == q.a2 && (w1.a3 == q.a3 && (w1.a4 == q.a4 && (w1.a5 == q.a5 && (w1.a6 == q.a6 && (w1.a7 == q.a7 && (w1.a8 == q.a8 && (w1.a9 == q.a9 && (w1.a10 == q.a10 && (w1.a11 == q.a11 && (w1.a12 == q.a12 && (w1.a13 == q.a13 && (w1.a14 == q.a14 && (w1.a15 == q.a15 && true))))))))))))))))) (
 qs [q.a0, q.a1, q.a2, q.a3, q.a4, q.a5, q.a6, q.a7, q.a8, q.a9, q.a10, q.a11, q.a12, q.a13, q.a14, q.a15, q.a0, q.a1, q.a2, q.a3, q.a4, q.a5, q.a6, q.a7, q.a8, q.a9, q.a10, q.a11, q.a12, q.a13, q.a14, q.a15] (
 cond (List.all cs (af 8) && true) (
 some (.inr (.ret, ([(.bool false)], [some (.box k1 [1003]), some (.row ⟨(w16C q []), 40, (0, 0), 0, false, false⟩), some (codeRow cs 5), some (.box mr [])])))) (
 none))) (
 cond (tA [.pointer (some ⟨1000, 0, none⟩)] [some (LObj.box k1 [1001]), some (LObj.box mr [])]) (
 cond (a2 != a1) (
 qs [q.a0, q.a1, q.a2, q.a3, q.a4, q.a5, q.a6, q.a7, q.a8, q.a9, q.a10, q.a11, q.a12, q.a13, q.a14, q.a15, q.a0, q.a1, q.a2, q.a3, q.a4, q.a5, q.a6, q.a7, q.a8, q.a9, q.a10, q.a11, q.a12, q.a13, q.a14, q.a15] (
 cond (List.all cs (af 8) && true) (
 some (.inr (.ret, ([(.bool false)], [some (.box k1 [1003]), some (.row ⟨(w16C q []), 40, (0, 0), 0, false, false⟩), some (codeRow cs 5), some (.box mr [])])))) (
 none))) (
 qs [q.a0, q.a1, q.a2, q.a3, q.a4, q.a5, q.a6, q.a7, q.a8, q.a9, q.a10, q.a11, q.a12, q.a13, q.a14, q.a15, q.a0, q.a1, q.a2, q.a3, q.a4, q.a5, q.a6, q.a7, q.a8, q.a9, q.a10, q.a11, q.a12, q.a13, q.a14, q.a15] (
 cond (List.all cs (af 8) && true) (
 some (.inl ([(.pointer (some ⟨1000, 0, none⟩)), (.int .i64 (IntKind.i64.wrap (i + 1))), (.pointer (some ⟨1001, 0, none⟩)), (.int .i64 (a1)), (.slice (some ⟨1002, 0, none⟩) (k) (k)), (.int .u64 (st)), (.int .i64 (steps))], [some (.box k1 [1003]), some (.row ⟨(w16C q []), 40, (0, 0), 0, false, false⟩), some (codeRow cs 5), some (.box mr [])]))) (
 none)))) (
 none))) (
 none))) (
 none)) (
 none)) (
 none)) (
 none)))) (
 none)) (
 none) := by kernel_rfl
set_option maxRecDepth 100000 in
theorem r_spX (gl : Gl) (t tD tR tA tH : List Value → Rws → Bool) (k0 k1 mr : Rws) (w q w1 : W16) (a1 a2 i at_ steps st : Int) (k : Nat) (cs : List Value) : rV (syG [(1002, .nilFunc)]) gl (HSp t tD tR tA tH (evV 11 0 0 1) k1 mr q w1 a1 a2) 3 1 [16, 111, 18, 19, 9, 3, 110] [8] 1004 (spVals i at_ (slK 1002 k) steps st, [some (.box k0 [1003]), some (regRow w), some (codeRow cs 5), some (.box mr [])]) [] noC =
 cond (decide (i < steps)) (
 cond (t [.pointer (some ⟨1000, 0, none⟩), .int .u64 st] [some (LObj.box k0 [1001]), some (LObj.box mr [])]) (
 cond (decide (at_ < 0)) (
 cond (tH [.pointer (some ⟨1000, 0, none⟩)] [some (LObj.box k1 [1001]), some (LObj.box mr [])]) (
 cond (List.all cs (af 8) && true) (
 some (.inr (.ret, ([(.bool true)], [some (.box k1 [1003]), some (.row ⟨(w16C w []), 40, (0, 0), 0, false, false⟩), some (codeRow cs 5), some (.box mr [])])))) (
 none)) (
 none)) (
 cond (decide (at_ ≥ (↑k : Int))) (
 cond (tH [.pointer (some ⟨1000, 0, none⟩)] [some (LObj.box k1 [1001]), some (LObj.box mr [])]) (
 cond (List.all cs (af 8) && true) (
 some (.inr (.ret, ([(.bool true)], [some (.box k1 [1003]), some (.row ⟨(w16C w []), 40, (0, 0), 0, false, false⟩), some (codeRow cs 5), some (.box mr [])])))) (
 none)) (
 none)) (
 cond (decide (0 ≤ at_) && (decide (at_ < (↑k : Int))) && (k.ble k)) (
 cond (cdOk cs (0 + at_.toNat * 5)) (
 cond (tD ([] ++ [Value.agg #[Value.int .u32 w.a0, Value.int .u32 w.a1, Value.int .u32 w.a2, Value.int .u32 w.a3, Value.int .u32 w.a4, Value.int .u32 w.a5, Value.int .u32 w.a6, Value.int .u32 w.a7, Value.int .u32 w.a8, Value.int .u32 w.a9, Value.int .u32 w.a10, Value.int .u32 w.a11, Value.int .u32 w.a12, Value.int .u32 w.a13, Value.int .u32 w.a14, Value.int .u32 w.a15], Value.int .i64 at_, Value.agg ([Value.int .u8 ((genOf (genSym Value.nilFunc) cs).int .u8 (0 + at_.toNat * 5 + 0))] ++ ([Value.int .i64 ((genOf (genSym Value.nilFunc) cs).int .i64 (0 + at_.toNat * 5 + 1))] ++ ([Value.int .i64 ((genOf (genSym Value.nilFunc) cs).int .i64 (0 + at_.toNat * 5 + 2))] ++ ([Value.int .i64 ((genOf (genSym Value.nilFunc) cs).int .i64 (0 + at_.toNat * 5 + 3))] ++ ([Value.int .i64 ((genOf (genSym Value.nilFunc) cs).int .i64 (0 + at_.toNat * 5 + 4))] ++ []))))).toArray] ++ []) []) (
 cond (cdOk cs (0 + at_.toNat * 5)) (
 qs [(genOf (genSym Value.nilFunc) cs).int .u8 (0 + at_.toNat * 5 + 0), (genOf (genSym Value.nilFunc) cs).int .i64 (0 + at_.toNat * 5 + 1), (genOf (genSym Value.nilFunc) cs).int .i64 (0 + at_.toNat * 5 + (1 + 1)), (genOf (genSym Value.nilFunc) cs).int .i64 (0 + at_.toNat * 5 + (1 + 1 + 1)), (genOf (genSym Value.nilFunc) cs).int .i64 (0 + at_.toNat * 5 + (1 + 1 + 1 + 1)), w.a0, w.a1, w.a2, w.a3, w.a4, w.a5, w.a6, w.a7, w.a8, w.a9, w.a10, w.a11, w.a12, w.a13, w.a14, w.a15] (
 cond (List.all cs (af 8) && true) (
 some (.inr (.ret, ([(.bool false)], [some (.box k1 [1003]), some (.row ⟨(w16C q []), 40, (0, 0), 0, false, false⟩), some (codeRow cs 5), some (.box mr [])])))) (
 none))) (
 none)) (
 none)) (
 none)) (
 none)))) (
 none)) (
 none) := by kernel_rfl
set_option maxRecDepth 100000 in
theorem r_spX0 (gl : Gl) (t tD tR tA tH : List Value → Rws → Bool) (k0 k1 mr : Rws) (w q w1 : W16) (a1 a2 i at_ steps st : Int) : rV noSy gl (HSp t tD tR tA tH (evV 11 0 0 1) k1 mr q w1 a1 a2) 3 1 [16, 111, 18, 19, 9, 3, 110] [8] 1003 (spVals i at_ (.slice none 0 0) steps st, [some (.box k0 [1002]), some (regRow w), some (.box mr [])]) [] noC =
 cond (decide (i < steps)) (
 cond (t [.pointer (some ⟨1000, 0, none⟩), .int .u64 st] [some (LObj.box k0 [1001]), some (LObj.box mr [])]) (
 cond (decide (at_ < 0)) (
 cond (tH [.pointer (some ⟨1000, 0, none⟩)] [some (LObj.box k1 [1001]), some (LObj.box mr [])]) (
 some (.inr (.ret, ([(.bool true)], [some (.box k1 [1002]), some (.row ⟨(w16C w []), 40, (0, 0), 0, false, false⟩), some (.box mr [])])))) (
 none)) (
 cond (decide (at_ ≥ 0)) (
 cond (tH [.pointer (some ⟨1000, 0, none⟩)] [some (LObj.box k1 [1001]), some (LObj.box mr [])]) (
 some (.inr (.ret, ([(.bool true)], [some (.box k1 [1002]), some (.row ⟨(w16C w []), 40, (0, 0), 0, false, false⟩), some (.box mr [])])))) (
 none)) (
 none))) (
 none)) (
 none) := by kernel_rfl
set_option maxRecDepth 100000 in
theorem r_spE0 (gl : Gl) (k0 mr : Rws) (w : W16) (at_ st : Int) : rV noSy gl H0 3 1 [16, 111, 18, 19, 9, 3, 110] [] 1003 (spVals 0 at_ (.slice none 0 0) 0 st, [some (.box k0 [1002]), some (regRow w), some (.box mr [])]) [] noC =
 some (.inr (.exit 2, ([], [some (.box k0 [1002]), some (.row ⟨(w16C w []), 40, (0, 0), 0, false, false⟩), some (.box mr [])]))) := by kernel_rfl
end Go.Proofs.YtpcbedgaecbfmaaGreatDoor

namespace Go.Proofs.YtpcbedgaecbfmaaGreatDoor
open Go.Proofs.YtpcbedgaecbfmaaGreatDoor.Ev Go.RowKit

/-! CorePlain: the whole. -/
def gHn (t : List Value → Rws → Bool) (o : Out) : Hd := fun vs rows => match rows with
  | [] => none
  | _ => gH t o vs rows
def HLw (gm : Int → Bool) (em : Int → Int) (nm : Int → Rws) (tN : List Value → Rws → Bool) (oN : Out) (out0 : List Nat) (t0 : List Value → Rws → Bool) (o0 : Out) (out1 : List Nat) (t1 : List Value → Rws → Bool) (o1 : Out) : Hs := hsOf [(6, afW)]
  [(8, hdN (decI .i64) gm em nm), (9, gHn tN oN)] [(3, [(0, ⟨[43, 9, 41, 3, 2, 1, 4, 42], out0, gH t0 o0⟩), (1, ⟨[16, 111, 18, 19, 9, 3, 110], out1, gH t1 o1⟩)])]
def lwArgs (c : Cfg) (sl : Value) (steps st : Int) : List Value := [cfgV c, sl, .int .i64 steps, .int .u64 st]
abbrev evLw (gl : Gl) (H : Hs) (c : Cfg) (sl : Value) (steps st : Int) : Option Value := evF gl H 3 (lwArgs c sl steps st)
def pl5 (pr sl : Value) (steps st : Int) : List Value := [pr, .int .u64 st, .int .i64 steps, sl, pK 1000]
set_option maxRecDepth 100000 in
theorem r_lwDN (gl : Gl) (gm : Int → Bool) (em : Int → Int) (nm : Int → Rws) (tN t0 t1 : List Value → Rws → Bool) (c : Cfg) (steps st : Int) (mr : Rws) : evLw gl (HLw gm em nm tN (.normal, [.tuple #[.pointer none, .int .i64 2]], [some (.box mr [])]) [9, 3, 2, 1, 4] t0 (.exit 0, pl5 (.slice none 0 0) (.slice none 0 0) steps st, [some (cfgRow c)]) [] t1 (.normal, [], [])) c (.slice none 0 0) steps st =
 cond (decide (steps < 0)) (
 some (.bool true)) (
 cond (decide (steps > 500)) (
 some (.bool true)) (
 cond (st == 0) (
 some (.bool true)) (
 cond (t0 [.int .i64 0, .slice none 0 0, .slice none 0 0, .int .u64 st, .int .i64 steps, .slice none 0 0, .pointer (some ⟨1000, 0, none⟩), goInt 0] [some (.row ⟨cfgL c, 23, (0, 0), 0, false, false⟩)]) (
 cond (gm c.blocks) (
 cond (em c.blocks == 0) (
 cond (tN [.agg #[.int .i64 c.cores, .int .i64 c.sets, .int .i64 c.ways, .int .i64 c.blocks, .int .i64 c.logs, .int .i64 c.backs, .int .i64 c.nest, .int .i64 c.tries], .int .i64 0, .slice none 0 0, .pointer (some ⟨1000, 0, none⟩)] [some (LObj.box (nm c.blocks) [])]) (
 some (.bool true)) (
 none)) (
 cond (em c.blocks != 0) (
 some (.bool true)) (
 some (.bool true)))) (
 none)) (
 none)))) := by kernel_rfl
set_option maxRecDepth 100000 in
theorem r_lwEN (gl : Gl) (gm : Int → Bool) (em : Int → Int) (nm : Int → Rws) (tN t0 t1 : List Value → Rws → Bool) (c : Cfg) (steps st : Int) (mr k0 k1 : Rws) (w : W16) : evLw gl (HLw gm em nm tN (.normal, [.tuple #[pK 1001, .int .i64 0]], [some (.box mr []), some (.box k0 [1000])]) [9, 3, 2, 1, 4] t0 (.exit 0, pl5 (.slice none 0 0) (.slice none 0 0) steps st, [some (cfgRow c)]) [] t1 (.exit 2, [], [some (.box k1 [1002]), some (regRow w), some (.box mr [])])) c (.slice none 0 0) steps st =
 cond (decide (steps < 0)) (
 some (.bool true)) (
 cond (decide (steps > 500)) (
 some (.bool true)) (
 cond (st == 0) (
 some (.bool true)) (
 cond (t0 [.int .i64 0, .slice none 0 0, .slice none 0 0, .int .u64 st, .int .i64 steps, .slice none 0 0, .pointer (some ⟨1000, 0, none⟩), goInt 0] [some (.row ⟨cfgL c, 23, (0, 0), 0, false, false⟩)]) (
 cond (gm c.blocks) (
 cond (em c.blocks == 0) (
 cond (tN [.agg #[.int .i64 c.cores, .int .i64 c.sets, .int .i64 c.ways, .int .i64 c.blocks, .int .i64 c.logs, .int .i64 c.backs, .int .i64 c.nest, .int .i64 c.tries], .int .i64 0, .slice none 0 0, .pointer (some ⟨1000, 0, none⟩)] [some (LObj.box (nm c.blocks) [])]) (
 cond (t1 [.pointer (some ⟨1000, 0, none⟩), .int .i64 0, .pointer (some ⟨1001, 0, none⟩), .int .i64 0, .slice none 0 0, .int .u64 st, .int .i64 steps] [some (LObj.box k0 [1002]), some (.row ⟨[.int .u32 0, .int .u32 0, .int .u32 0, .int .u32 0, .int .u32 0, .int .u32 0, .int .u32 0, .int .u32 0, .int .u32 0, .int .u32 0, .int .u32 0, .int .u32 0, .int .u32 0, .int .u32 0, .int .u32 0, .int .u32 0], 40, (0, 0), 0, false, false⟩), some (LObj.box mr [])]) (
 some (.bool true)) (
 none)) (
 none)) (
 cond (em c.blocks != 0) (
 some (.bool true)) (
 some (.bool true)))) (
 none)) (
 none)))) := by kernel_rfl
set_option maxRecDepth 100000 in
theorem r_lwFN (gl : Gl) (gm : Int → Bool) (em : Int → Int) (nm : Int → Rws) (tN t0 t1 : List Value → Rws → Bool) (c : Cfg) (steps st : Int) (mr k0 k1 : Rws) (w : W16) : evLw gl (HLw gm em nm tN (.normal, [.tuple #[pK 1001, .int .i64 0]], [some (.box mr []), some (.box k0 [1000])]) [9, 3, 2, 1, 4] t0 (.exit 0, pl5 (.slice none 0 0) (.slice none 0 0) steps st, [some (cfgRow c)]) [8] t1 (.ret, [.bool true], [some (.box k1 [1002]), some (regRow w), some (.box mr [])])) c (.slice none 0 0) steps st =
 cond (decide (steps < 0)) (
 some (.bool true)) (
 cond (decide (steps > 500)) (
 some (.bool true)) (
 cond (st == 0) (
 some (.bool true)) (
 cond (t0 [.int .i64 0, .slice none 0 0, .slice none 0 0, .int .u64 st, .int .i64 steps, .slice none 0 0, .pointer (some ⟨1000, 0, none⟩), goInt 0] [some (.row ⟨cfgL c, 23, (0, 0), 0, false, false⟩)]) (
 cond (gm c.blocks) (
 cond (em c.blocks == 0) (
 cond (tN [.agg #[.int .i64 c.cores, .int .i64 c.sets, .int .i64 c.ways, .int .i64 c.blocks, .int .i64 c.logs, .int .i64 c.backs, .int .i64 c.nest, .int .i64 c.tries], .int .i64 0, .slice none 0 0, .pointer (some ⟨1000, 0, none⟩)] [some (LObj.box (nm c.blocks) [])]) (
 cond (t1 [.pointer (some ⟨1000, 0, none⟩), .int .i64 0, .pointer (some ⟨1001, 0, none⟩), .int .i64 0, .slice none 0 0, .int .u64 st, .int .i64 steps] [some (LObj.box k0 [1002]), some (.row ⟨[.int .u32 0, .int .u32 0, .int .u32 0, .int .u32 0, .int .u32 0, .int .u32 0, .int .u32 0, .int .u32 0, .int .u32 0, .int .u32 0, .int .u32 0, .int .u32 0, .int .u32 0, .int .u32 0, .int .u32 0, .int .u32 0], 40, (0, 0), 0, false, false⟩), some (LObj.box mr [])]) (
 some (.bool true)) (
 none)) (
 none)) (
 cond (em c.blocks != 0) (
 some (.bool true)) (
 some (.bool true)))) (
 none)) (
 none)))) := by kernel_rfl
set_option maxRecDepth 100000 in
theorem r_lwD0 (gl : Gl) (gm : Int → Bool) (em : Int → Int) (nm : Int → Rws) (tN t0 t1 : List Value → Rws → Bool) (c : Cfg) (steps st : Int) (off n cap : Nat) (mr : Rws) : evLw gl (HLw gm em nm tN (.normal, [.tuple #[.pointer none, .int .i64 2]], [some (.box mr [])]) [9, 3, 2, 1, 4] t0 (.exit 0, pl5 (.slice none 0 0) (wSl 902 off n cap) steps st, [some (cfgRow c)]) [] t1 (.normal, [], [])) c (wSl 902 off n cap) steps st =
 cond (decide ((↑n : Int) > 1100)) (
 some (.bool true)) (
 cond (decide (steps < 0)) (
 some (.bool true)) (
 cond (decide (steps > 500)) (
 some (.bool true)) (
 cond (st == 0) (
 some (.bool true)) (
 cond (t0 [.int .i64 0, .slice none 0 0, .slice (some ⟨902, off, none⟩) n cap, .int .u64 st, .int .i64 steps, .slice (some ⟨902, off, none⟩) n cap, .pointer (some ⟨1000, 0, none⟩), goInt (↑n : Int)] [some (.row ⟨cfgL c, 23, (0, 0), 0, false, false⟩)]) (
 cond (gm c.blocks) (
 cond (em c.blocks == 0) (
 cond (tN [.agg #[.int .i64 c.cores, .int .i64 c.sets, .int .i64 c.ways, .int .i64 c.blocks, .int .i64 c.logs, .int .i64 c.backs, .int .i64 c.nest, .int .i64 c.tries], .int .i64 0, .slice (some ⟨902, off, none⟩) n cap, .pointer (some ⟨1000, 0, none⟩)] [some (LObj.box (nm c.blocks) [])]) (
 some (.bool true)) (
 none)) (
 cond (em c.blocks != 0) (
 some (.bool true)) (
 some (.bool true)))) (
 none)) (
 none))))) := by kernel_rfl
set_option maxRecDepth 100000 in
theorem r_lwE0 (gl : Gl) (gm : Int → Bool) (em : Int → Int) (nm : Int → Rws) (tN t0 t1 : List Value → Rws → Bool) (c : Cfg) (steps st : Int) (off n cap : Nat) (mr k0 k1 : Rws) (w : W16) : evLw gl (HLw gm em nm tN (.normal, [.tuple #[pK 1001, .int .i64 0]], [some (.box mr []), some (.box k0 [1000])]) [9, 3, 2, 1, 4] t0 (.exit 0, pl5 (.slice none 0 0) (wSl 902 off n cap) steps st, [some (cfgRow c)]) [] t1 (.exit 2, [], [some (.box k1 [1002]), some (regRow w), some (.box mr [])])) c (wSl 902 off n cap) steps st =
 cond (decide ((↑n : Int) > 1100)) (
 some (.bool true)) (
 cond (decide (steps < 0)) (
 some (.bool true)) (
 cond (decide (steps > 500)) (
 some (.bool true)) (
 cond (st == 0) (
 some (.bool true)) (
 cond (t0 [.int .i64 0, .slice none 0 0, .slice (some ⟨902, off, none⟩) n cap, .int .u64 st, .int .i64 steps, .slice (some ⟨902, off, none⟩) n cap, .pointer (some ⟨1000, 0, none⟩), goInt (↑n : Int)] [some (.row ⟨cfgL c, 23, (0, 0), 0, false, false⟩)]) (
 cond (gm c.blocks) (
 cond (em c.blocks == 0) (
 cond (tN [.agg #[.int .i64 c.cores, .int .i64 c.sets, .int .i64 c.ways, .int .i64 c.blocks, .int .i64 c.logs, .int .i64 c.backs, .int .i64 c.nest, .int .i64 c.tries], .int .i64 0, .slice (some ⟨902, off, none⟩) n cap, .pointer (some ⟨1000, 0, none⟩)] [some (LObj.box (nm c.blocks) [])]) (
 cond (t1 [.pointer (some ⟨1000, 0, none⟩), .int .i64 0, .pointer (some ⟨1001, 0, none⟩), .int .i64 0, .slice none 0 0, .int .u64 st, .int .i64 steps] [some (LObj.box k0 [1002]), some (.row ⟨[.int .u32 0, .int .u32 0, .int .u32 0, .int .u32 0, .int .u32 0, .int .u32 0, .int .u32 0, .int .u32 0, .int .u32 0, .int .u32 0, .int .u32 0, .int .u32 0, .int .u32 0, .int .u32 0, .int .u32 0, .int .u32 0], 40, (0, 0), 0, false, false⟩), some (LObj.box mr [])]) (
 some (.bool true)) (
 none)) (
 none)) (
 cond (em c.blocks != 0) (
 some (.bool true)) (
 some (.bool true)))) (
 none)) (
 none))))) := by kernel_rfl
set_option maxRecDepth 100000 in
theorem r_lwF0 (gl : Gl) (gm : Int → Bool) (em : Int → Int) (nm : Int → Rws) (tN t0 t1 : List Value → Rws → Bool) (c : Cfg) (steps st : Int) (off n cap : Nat) (mr k0 k1 : Rws) (w : W16) : evLw gl (HLw gm em nm tN (.normal, [.tuple #[pK 1001, .int .i64 0]], [some (.box mr []), some (.box k0 [1000])]) [9, 3, 2, 1, 4] t0 (.exit 0, pl5 (.slice none 0 0) (wSl 902 off n cap) steps st, [some (cfgRow c)]) [8] t1 (.ret, [.bool true], [some (.box k1 [1002]), some (regRow w), some (.box mr [])])) c (wSl 902 off n cap) steps st =
 cond (decide ((↑n : Int) > 1100)) (
 some (.bool true)) (
 cond (decide (steps < 0)) (
 some (.bool true)) (
 cond (decide (steps > 500)) (
 some (.bool true)) (
 cond (st == 0) (
 some (.bool true)) (
 cond (t0 [.int .i64 0, .slice none 0 0, .slice (some ⟨902, off, none⟩) n cap, .int .u64 st, .int .i64 steps, .slice (some ⟨902, off, none⟩) n cap, .pointer (some ⟨1000, 0, none⟩), goInt (↑n : Int)] [some (.row ⟨cfgL c, 23, (0, 0), 0, false, false⟩)]) (
 cond (gm c.blocks) (
 cond (em c.blocks == 0) (
 cond (tN [.agg #[.int .i64 c.cores, .int .i64 c.sets, .int .i64 c.ways, .int .i64 c.blocks, .int .i64 c.logs, .int .i64 c.backs, .int .i64 c.nest, .int .i64 c.tries], .int .i64 0, .slice (some ⟨902, off, none⟩) n cap, .pointer (some ⟨1000, 0, none⟩)] [some (LObj.box (nm c.blocks) [])]) (
 cond (t1 [.pointer (some ⟨1000, 0, none⟩), .int .i64 0, .pointer (some ⟨1001, 0, none⟩), .int .i64 0, .slice none 0 0, .int .u64 st, .int .i64 steps] [some (LObj.box k0 [1002]), some (.row ⟨[.int .u32 0, .int .u32 0, .int .u32 0, .int .u32 0, .int .u32 0, .int .u32 0, .int .u32 0, .int .u32 0, .int .u32 0, .int .u32 0, .int .u32 0, .int .u32 0, .int .u32 0, .int .u32 0, .int .u32 0, .int .u32 0], 40, (0, 0), 0, false, false⟩), some (LObj.box mr [])]) (
 some (.bool true)) (
 none)) (
 none)) (
 cond (em c.blocks != 0) (
 some (.bool true)) (
 some (.bool true)))) (
 none)) (
 none))))) := by kernel_rfl
set_option maxRecDepth 100000 in
theorem r_lwD1 (gl : Gl) (gm : Int → Bool) (em : Int → Int) (nm : Int → Rws) (tN t0 t1 : List Value → Rws → Bool) (c : Cfg) (steps st : Int) (off n cap k : Nat) (cs : List Value) (mr : Rws) : evLw gl (HLw gm em nm tN (.normal, [.tuple #[.pointer none, .int .i64 2]], [some (.box mr [])]) [9, 3, 2, 1, 4] t0 (.exit 0, pl5 (slK 1001 k) (wSl 902 off n cap) steps st, [some (cfgRow c), some (codeRow cs 5)]) [] t1 (.normal, [], [])) c (wSl 902 off n cap) steps st =
 cond (decide ((↑n : Int) > 1100)) (
 some (.bool true)) (
 cond (decide (steps < 0)) (
 some (.bool true)) (
 cond (decide (steps > 500)) (
 some (.bool true)) (
 cond (st == 0) (
 some (.bool true)) (
 cond (t0 [.int .i64 0, .slice none 0 0, .slice (some ⟨902, off, none⟩) n cap, .int .u64 st, .int .i64 steps, .slice (some ⟨902, off, none⟩) n cap, .pointer (some ⟨1000, 0, none⟩), goInt (↑n : Int)] [some (.row ⟨cfgL c, 23, (0, 0), 0, false, false⟩)]) (
 cond (List.all cs (af 8) && true) (
 cond (gm c.blocks) (
 cond (em c.blocks == 0) (
 cond (tN [.agg #[.int .i64 c.cores, .int .i64 c.sets, .int .i64 c.ways, .int .i64 c.blocks, .int .i64 c.logs, .int .i64 c.backs, .int .i64 c.nest, .int .i64 c.tries], .int .i64 0, .slice (some ⟨902, off, none⟩) n cap, .pointer (some ⟨1000, 0, none⟩)] [some (LObj.box (nm c.blocks) [])]) (
 some (.bool true)) (
 none)) (
 cond (em c.blocks != 0) (
 some (.bool true)) (
 some (.bool true)))) (
 none)) (
 none)) (
 none))))) := by kernel_rfl
set_option maxRecDepth 100000 in
theorem r_lwE1 (gl : Gl) (gm : Int → Bool) (em : Int → Int) (nm : Int → Rws) (tN t0 t1 : List Value → Rws → Bool) (c : Cfg) (steps st : Int) (off n cap k : Nat) (cs : List Value) (mr k0 k1 : Rws) (w : W16) : evLw gl (HLw gm em nm tN (.normal, [.tuple #[pK 1001, .int .i64 0]], [some (.box mr []), some (.box k0 [1000])]) [9, 3, 2, 1, 4] t0 (.exit 0, pl5 (slK 1001 k) (wSl 902 off n cap) steps st, [some (cfgRow c), some (codeRow cs 5)]) [] t1 (.exit 2, [], [some (.box k1 [1003]), some (regRow w), some (codeRow cs 5), some (.box mr [])])) c (wSl 902 off n cap) steps st =
 cond (decide ((↑n : Int) > 1100)) (
 some (.bool true)) (
 cond (decide (steps < 0)) (
 some (.bool true)) (
 cond (decide (steps > 500)) (
 some (.bool true)) (
 cond (st == 0) (
 some (.bool true)) (
 cond (t0 [.int .i64 0, .slice none 0 0, .slice (some ⟨902, off, none⟩) n cap, .int .u64 st, .int .i64 steps, .slice (some ⟨902, off, none⟩) n cap, .pointer (some ⟨1000, 0, none⟩), goInt (↑n : Int)] [some (.row ⟨cfgL c, 23, (0, 0), 0, false, false⟩)]) (
 cond (List.all cs (af 8) && true) (
 cond (gm c.blocks) (
 cond (em c.blocks == 0) (
 cond (tN [.agg #[.int .i64 c.cores, .int .i64 c.sets, .int .i64 c.ways, .int .i64 c.blocks, .int .i64 c.logs, .int .i64 c.backs, .int .i64 c.nest, .int .i64 c.tries], .int .i64 0, .slice (some ⟨902, off, none⟩) n cap, .pointer (some ⟨1000, 0, none⟩)] [some (LObj.box (nm c.blocks) [])]) (
 cond (List.all cs (af 8) && true) (
 cond (t1 [.pointer (some ⟨1000, 0, none⟩), .int .i64 0, .pointer (some ⟨1001, 0, none⟩), .int .i64 0, .slice (some ⟨1002, 0, none⟩) k k, .int .u64 st, .int .i64 steps] [some (LObj.box k0 [1003]), some (.row ⟨[.int .u32 0, .int .u32 0, .int .u32 0, .int .u32 0, .int .u32 0, .int .u32 0, .int .u32 0, .int .u32 0, .int .u32 0, .int .u32 0, .int .u32 0, .int .u32 0, .int .u32 0, .int .u32 0, .int .u32 0, .int .u32 0], 40, (0, 0), 0, false, false⟩), some (codeRow cs 5), some (LObj.box mr [])]) (
 cond (List.all cs (af 8) && true) (
 some (.bool true)) (
 none)) (
 none)) (
 none)) (
 none)) (
 cond (em c.blocks != 0) (
 some (.bool true)) (
 some (.bool true)))) (
 none)) (
 none)) (
 none))))) := by kernel_rfl
set_option maxRecDepth 100000 in
theorem r_lwF1 (gl : Gl) (gm : Int → Bool) (em : Int → Int) (nm : Int → Rws) (tN t0 t1 : List Value → Rws → Bool) (c : Cfg) (steps st : Int) (off n cap k : Nat) (cs : List Value) (mr k0 k1 : Rws) (w : W16) : evLw gl (HLw gm em nm tN (.normal, [.tuple #[pK 1001, .int .i64 0]], [some (.box mr []), some (.box k0 [1000])]) [9, 3, 2, 1, 4] t0 (.exit 0, pl5 (slK 1001 k) (wSl 902 off n cap) steps st, [some (cfgRow c), some (codeRow cs 5)]) [8] t1 (.ret, [.bool true], [some (.box k1 [1003]), some (regRow w), some (codeRow cs 5), some (.box mr [])])) c (wSl 902 off n cap) steps st =
 cond (decide ((↑n : Int) > 1100)) (
 some (.bool true)) (
 cond (decide (steps < 0)) (
 some (.bool true)) (
 cond (decide (steps > 500)) (
 some (.bool true)) (
 cond (st == 0) (
 some (.bool true)) (
 cond (t0 [.int .i64 0, .slice none 0 0, .slice (some ⟨902, off, none⟩) n cap, .int .u64 st, .int .i64 steps, .slice (some ⟨902, off, none⟩) n cap, .pointer (some ⟨1000, 0, none⟩), goInt (↑n : Int)] [some (.row ⟨cfgL c, 23, (0, 0), 0, false, false⟩)]) (
 cond (List.all cs (af 8) && true) (
 cond (gm c.blocks) (
 cond (em c.blocks == 0) (
 cond (tN [.agg #[.int .i64 c.cores, .int .i64 c.sets, .int .i64 c.ways, .int .i64 c.blocks, .int .i64 c.logs, .int .i64 c.backs, .int .i64 c.nest, .int .i64 c.tries], .int .i64 0, .slice (some ⟨902, off, none⟩) n cap, .pointer (some ⟨1000, 0, none⟩)] [some (LObj.box (nm c.blocks) [])]) (
 cond (List.all cs (af 8) && true) (
 cond (t1 [.pointer (some ⟨1000, 0, none⟩), .int .i64 0, .pointer (some ⟨1001, 0, none⟩), .int .i64 0, .slice (some ⟨1002, 0, none⟩) k k, .int .u64 st, .int .i64 steps] [some (LObj.box k0 [1003]), some (.row ⟨[.int .u32 0, .int .u32 0, .int .u32 0, .int .u32 0, .int .u32 0, .int .u32 0, .int .u32 0, .int .u32 0, .int .u32 0, .int .u32 0, .int .u32 0, .int .u32 0, .int .u32 0, .int .u32 0, .int .u32 0, .int .u32 0], 40, (0, 0), 0, false, false⟩), some (codeRow cs 5), some (LObj.box mr [])]) (
 cond (List.all cs (af 8) && true) (
 some (.bool true)) (
 none)) (
 none)) (
 none)) (
 none)) (
 cond (em c.blocks != 0) (
 some (.bool true)) (
 some (.bool true)))) (
 none)) (
 none)) (
 none))))) := by kernel_rfl
set_option maxRecDepth 100000 in
theorem r_lwB0 (gl : Gl) (gm : Int → Bool) (em : Int → Int) (nm : Int → Rws) (tN t0 t1 : List Value → Rws → Bool) (c : Cfg) (steps st : Int) (off n cap : Nat) : evLw gl (HLw gm em nm tN (.normal, [], []) [8] t0 (.ret, [.bool true], [some (cfgRow c)]) [] t1 (.normal, [], [])) c (wSl 902 off n cap) steps st =
 cond (decide ((↑n : Int) > 1100)) (
 some (.bool true)) (
 cond (decide (steps < 0)) (
 some (.bool true)) (
 cond (decide (steps > 500)) (
 some (.bool true)) (
 cond (st == 0) (
 some (.bool true)) (
 cond (t0 [.int .i64 0, .slice none 0 0, .slice (some ⟨902, off, none⟩) n cap, .int .u64 st, .int .i64 steps, .slice (some ⟨902, off, none⟩) n cap, .pointer (some ⟨1000, 0, none⟩), goInt (↑n : Int)] [some (.row ⟨cfgL c, 23, (0, 0), 0, false, false⟩)]) (
 some (.bool true)) (
 none))))) := by kernel_rfl
end Go.Proofs.YtpcbedgaecbfmaaGreatDoor

namespace Go.Proofs.YtpcbedgaecbfmaaGreatDoor
open Go.Proofs.YtpcbedgaecbfmaaGreatDoor.Ev Go.RowKit

/-! CorePlain: its first loop. -/
def opOk (o : Int) : Bool := !(o == 9) && (!(o == 10) && (!(o == 11) && (!(decide (o ≥ 17) && decide (o ≤ 20)) && !(o == 0))))
theorem op_path {R : Type} {o : Int} {A X : Option R} (h : opOk o = true) : cond (o == 9) A (cond (o == 10) A (cond (o == 11) A (cond (decide (o ≥ 17)) (cond (decide (o ≤ 20)) A (cond (o == 0) A X)) (cond (o == 0) A X)))) = X := by
  unfold opOk at h
  revert h
  cases o == 9 <;> cases o == 10 <;> cases o == 11 <;> cases decide (o ≥ 17) <;> cases decide (o ≤ 20) <;> cases o == 0 <;> intro h <;> first | rfl | cases h
theorem op_bad {R : Type} {o : Int} {A X : Option R} (h : opOk o = false) : cond (o == 9) A (cond (o == 10) A (cond (o == 11) A (cond (decide (o ≥ 17)) (cond (decide (o ≤ 20)) A (cond (o == 0) A X)) (cond (o == 0) A X)))) = A := by
  unfold opOk at h
  revert h
  cases o == 9 <;> cases o == 10 <;> cases o == 11 <;> cases decide (o ≥ 17) <;> cases decide (o ≤ 20) <;> cases o == 0 <;> intro h <;> first | rfl | cases h
def plainW (x : Int) : Bool := tkE x == 0 && opOk (tkS x).op
theorem first_bad {p : Int → Bool} : ∀ {zs : List Int}, zs.all p = false → ∃ j, ∃ (hj : j < zs.length), (∀ i (h : i < j), p (zs[i]'(by omega)) = true) ∧ p zs[j] = false
  | [], h => by cases h
  | x :: l, h => by
    rw [List.all_cons] at h
    cases hx : p x with
    | false => exact ⟨0, by simp, fun i hi => by omega, hx⟩
    | true =>
      rw [hx, Bool.true_and] at h
      obtain ⟨j, hj, h1, h2⟩ := first_bad h
      refine ⟨j + 1, by simpa using hj, fun i hi => ?_, by simpa using h2⟩
      cases i with
      | zero => exact hx
      | succ i => simpa using h1 i (by omega)
abbrev HPl1 : Hs := HPl wordG tkE (fun x => (tkS x).op) (fun x => (tkS x).a) (fun x => (tkS x).b) (fun x => (tkS x).c) (fun x => (tkS x).n)
theorem HPl_ok {gl : Gl} (hF : GlF gl) (hgl : Low gl) (hW : FnOK Tryz.prog gl 6 afW) : HPl1.OK Tryz.prog gl := one_ok fun p hp => by
  simp only [List.mem_cons, List.not_mem_nil, or_false] at hp
  rcases hp with rfl | rfl
  · exact fn_tk hF hgl
  · exact hW
def plPr : Nat → Value
  | 0 => .slice none 0 0
  | i + 1 => slK 1001 (i + 1)
def plAt (c : Cfg) (zs : List Int) : Nat → Rws
  | 0 => [some (cfgRow c)]
  | i + 1 => [some (cfgRow c), some (codeRow (cdsL ((zs.take (i + 1)).map tkS)) 5)]
def plSt (c : Cfg) (zs : List Int) (sl : Value) (steps st : Int) (i : Nat) : LSt := (plVals (i : Int) (plPr i) sl zs.length steps st, plAt c zs i)
theorem pl_roundO {gl : Gl} {zs : List Int} {off cap : Nat} (hcap : zs.length ≤ cap) (hn : zs.length ≤ 1100) (hz : WordsOk zs) (c : Cfg) (steps st : Int) {i : Nat} (h : i < zs.length) (hp : plainW zs[i] = true) :
    ∃ sy : Sy, (GlW gl 902 off zs → SyOK gl sy) ∧ rV sy gl HPl1 3 0 [43, 9, 41, 3, 2, 1, 4, 42] [9, 3, 2, 1, 4] 1001 (plSt c zs (wSl 902 off zs.length cap) steps st i) [] noC = some (.inl (plSt c zs (wSl 902 off zs.length cap) steps st (i + 1))) := by
  have hx := wX_eq (off := off) h
  have hc : zs.length.ble cap = true := nbl hcap
  have d1 : decide ((i : Int) < (zs.length : Int)) = true := decide_eq_true (by omega)
  simp only [plainW, Bool.and_eq_true, beq_iff_eq] at hp
  obtain ⟨he, ho⟩ := hp
  cases i with
  | zero =>
    have hx : wX off zs 0 = zs[0] := hx
    refine ⟨syW 902 off zs [], syW_ok (by decide), (r_plO0 gl wordG tkE _ _ _ _ _ off zs.length cap zs c steps st).trans ?_⟩
    refine condI (decide_eq_true (by omega)) (condI (andI (decide_eq_true (by omega)) hc) (condI (symW_t h) ?_))
    rw [hx]
    refine condI (wordG_t hz h) (condE (by rw [he]; rfl) ((op_path ho).trans ?_))
    have e : cdsL ((zs.take (0 + 1)).map tkS) = cdL (tkS zs[0]) := by rw [cds_step h]; rfl
    show _ = some (Sum.inl (plVals 1 (slK 1001 1) _ _ _ _, [some (cfgRow c), some (codeRow (cdsL ((zs.take (0 + 1)).map tkS)) 5)]))
    rw [e]; rfl
  | succ i =>
    refine ⟨syW 902 off zs [(1001, .nilFunc)], syW_ok (by decide), (r_plO gl wordG tkE _ _ _ _ _ off zs.length cap zs c steps st ((i + 1 : Nat) : Int) (i + 1) (cdsL ((zs.take (i + 1)).map tkS))).trans ?_⟩
    refine condI d1 (condI (andI (andI (decide_eq_true (by omega)) d1) hc) (condI (symW_t h) ?_))
    rw [hx]
    refine condI (wordG_t hz h) (condE (by rw [he]; rfl) ((op_path ho).trans ?_))
    refine condI (nbl (Nat.le_refl _)) (condI (andI (nbl (by omega)) (nbl (by omega))) (condI (nbl (by rw [cdsL_len, List.length_map, List.length_take]; omega)) ?_))
    try simp only [qs_eq, qn_eq]
    refine condI ?_ ?_
    · rw [Bool.and_true]
      show (_ ++ cdL (tkS zs[i + 1])).all (af 8) = true
      rw [List.all_append, winL_all (by rw [cdsL_len, List.length_map, List.length_take]; omega), cdsL_af]; rfl
    · show _ = some (Sum.inl (plVals ((i + 1 + 1 : Nat) : Int) (slK 1001 (i + 1 + 1)) _ _ _ _, [some (cfgRow c), some (codeRow (cdsL ((zs.take (i + 1 + 1)).map tkS)) 5)]))
      rw [cds_step h, wrap_id _ (by omega)]; rfl
theorem pl_roundB {gl : Gl} {zs : List Int} {off cap : Nat} (hcap : zs.length ≤ cap) (hn : zs.length ≤ 1100) (hz : WordsOk zs) (c : Cfg) (steps st : Int) {i : Nat} (h : i < zs.length) (hp : plainW zs[i] = true) :
    ∃ sy : Sy, (GlW gl 902 off zs → SyOK gl sy) ∧ rV sy gl HPl1 3 0 [43, 9, 41, 3, 2, 1, 4, 42] [8] 1001 (plSt c zs (wSl 902 off zs.length cap) steps st i) [] noC = some (.inl (plSt c zs (wSl 902 off zs.length cap) steps st (i + 1))) := by
  have hx := wX_eq (off := off) h
  have hc : zs.length.ble cap = true := nbl hcap
  have d1 : decide ((i : Int) < (zs.length : Int)) = true := decide_eq_true (by omega)
  simp only [plainW, Bool.and_eq_true, beq_iff_eq] at hp
  obtain ⟨he, ho⟩ := hp
  cases i with
  | zero =>
    have hx : wX off zs 0 = zs[0] := hx
    refine ⟨syW 902 off zs [], syW_ok (by decide), (r_plB0 gl wordG tkE _ _ _ _ _ off zs.length cap zs c steps st).trans ?_⟩
    refine condI (decide_eq_true (by omega)) (condI (andI (decide_eq_true (by omega)) hc) (condI (symW_t h) ?_))
    rw [hx]
    refine condI (wordG_t hz h) (condE (by rw [he]; rfl) ((op_path ho).trans ?_))
    have e : cdsL ((zs.take (0 + 1)).map tkS) = cdL (tkS zs[0]) := by rw [cds_step h]; rfl
    show _ = some (Sum.inl (plVals 1 (slK 1001 1) _ _ _ _, [some (cfgRow c), some (codeRow (cdsL ((zs.take (0 + 1)).map tkS)) 5)]))
    rw [e]; rfl
  | succ i =>
    refine ⟨syW 902 off zs [(1001, .nilFunc)], syW_ok (by decide), (r_plB gl wordG tkE _ _ _ _ _ off zs.length cap zs c steps st ((i + 1 : Nat) : Int) (i + 1) (cdsL ((zs.take (i + 1)).map tkS))).trans ?_⟩
    refine condI d1 (condI (andI (andI (decide_eq_true (by omega)) d1) hc) (condI (symW_t h) ?_))
    rw [hx]
    refine condI (wordG_t hz h) (condE (by rw [he]; rfl) ((op_path ho).trans ?_))
    refine condI (nbl (Nat.le_refl _)) (condI (andI (nbl (by omega)) (nbl (by omega))) (condI (nbl (by rw [cdsL_len, List.length_map, List.length_take]; omega)) ?_))
    try simp only [qs_eq, qn_eq]
    refine condI ?_ ?_
    · rw [Bool.and_true]
      show (_ ++ cdL (tkS zs[i + 1])).all (af 8) = true
      rw [List.all_append, winL_all (by rw [cdsL_len, List.length_map, List.length_take]; omega), cdsL_af]; rfl
    · show _ = some (Sum.inl (plVals ((i + 1 + 1 : Nat) : Int) (slK 1001 (i + 1 + 1)) _ _ _ _, [some (cfgRow c), some (codeRow (cdsL ((zs.take (i + 1 + 1)).map tkS)) 5)]))
      rw [cds_step h, wrap_id _ (by omega)]; rfl
theorem pl_bad {gl : Gl} {zs : List Int} {off cap : Nat} (hcap : zs.length ≤ cap) (hz : WordsOk zs) (c : Cfg) (steps st : Int) {i : Nat} (h : i < zs.length) (hp : plainW zs[i] = false) :
    ∃ sy : Sy, (GlW gl 902 off zs → SyOK gl sy) ∧ rV sy gl HPl1 3 0 [43, 9, 41, 3, 2, 1, 4, 42] [8] 1001 (plSt c zs (wSl 902 off zs.length cap) steps st i) [] noC = some (.inr (.ret, [.bool true], [some (cfgRow c)])) := by
  have hx := wX_eq (off := off) h
  have hc : zs.length.ble cap = true := nbl hcap
  have d1 : decide ((i : Int) < (zs.length : Int)) = true := decide_eq_true (by omega)
  have key : ∀ {R : Type} {A X r : Option R}, A = r → cond (tkE zs[i] != 0) A (cond ((tkS zs[i]).op == 9) A (cond ((tkS zs[i]).op == 10) A (cond ((tkS zs[i]).op == 11) A (cond (decide ((tkS zs[i]).op ≥ 17)) (cond (decide ((tkS zs[i]).op ≤ 20)) A (cond ((tkS zs[i]).op == 0) A X)) (cond ((tkS zs[i]).op == 0) A X))))) = r := by
    intro R A X r hA
    unfold plainW at hp
    cases he : tkE zs[i] == 0 with
    | false => exact condI (by simpa [bne] using he) hA
    | true =>
      rw [he, Bool.true_and] at hp
      exact condE (by simpa [bne] using he) ((op_bad hp).trans hA)
  cases i with
  | zero =>
    have hx : wX off zs 0 = zs[0] := hx
    refine ⟨syW 902 off zs [], syW_ok (by decide), (r_plB0 gl wordG tkE _ _ _ _ _ off zs.length cap zs c steps st).trans ?_⟩
    refine condI (decide_eq_true (by omega)) (condI (andI (decide_eq_true (by omega)) hc) (condI (symW_t h) ?_))
    rw [hx]
    exact condI (wordG_t hz h) (key rfl)
  | succ i =>
    refine ⟨syW 902 off zs [(1001, .nilFunc)], syW_ok (by decide), (r_plB gl wordG tkE _ _ _ _ _ off zs.length cap zs c steps st ((i + 1 : Nat) : Int) (i + 1) (cdsL ((zs.take (i + 1)).map tkS))).trans ?_⟩
    refine condI d1 (condI (andI (andI (decide_eq_true (by omega)) d1) hc) (condI (symW_t h) ?_))
    rw [hx]
    exact condI (wordG_t hz h) (key rfl)
theorem pl_end {gl : Gl} {zs : List Int} {off cap : Nat} (c : Cfg) (steps st : Int) :
    ∃ sy : Sy, (GlW gl 902 off zs → SyOK gl sy) ∧ rV sy gl HPl1 3 0 [43, 9, 41, 3, 2, 1, 4, 42] [9, 3, 2, 1, 4] 1001 (plSt c zs (wSl 902 off zs.length cap) steps st zs.length) [] noC = some (.inr (.exit 0, pl5 (plPr zs.length) (wSl 902 off zs.length cap) steps st, plAt c zs zs.length)) := by
  unfold plSt
  generalize hn : zs.length = n
  cases n with
  | zero => exact ⟨syW 902 off zs [], syW_ok (by decide), (r_plO0 gl wordG tkE _ _ _ _ _ off 0 cap zs c steps st).trans (condE (decide_eq_false (by omega)) rfl)⟩
  | succ i =>
    refine ⟨syW 902 off zs [(1001, .nilFunc)], syW_ok (by decide), (r_plO gl wordG tkE _ _ _ _ _ off (i + 1) cap zs c steps st ((i + 1 : Nat) : Int) (i + 1) (cdsL ((zs.take (i + 1)).map tkS))).trans (condE (decide_eq_false (by omega)) ?_)⟩
    rw [cdsL_af]; rfl
theorem pl_loopO {gl : Gl} (hF : GlF gl) (hgl : Low gl) (hWk : FnOK Tryz.prog gl 6 afW) {zs : List Int} {off cap : Nat} (hW : GlW gl 902 off zs) (hcap : zs.length ≤ cap) (hn : zs.length ≤ 1100) (hz : WordsOk zs) (hok : ∀ x ∈ zs, plainW x = true) (c : Cfg) (steps st : Int) :
    LpOK Tryz.prog gl 3 0 ⟨[43, 9, 41, 3, 2, 1, 4, 42], [9, 3, 2, 1, 4], gH (atS (plVals 0 (.slice none 0 0) (wSl 902 off zs.length cap) zs.length steps st) [some (cfgRow c)]) (.exit 0, pl5 (plPr zs.length) (wSl 902 off zs.length cap) steps st, plAt c zs zs.length)⟩ :=
  loop_ofV goodT hgl tglob fun vs rows' t q h1 h2 => by
    obtain ⟨rfl, rfl, rfl⟩ := gH_run h1 h2
    refine ⟨by show 1001 ≤ most; decide, {i : Nat // i ≤ zs.length}, fun i => plSt c zs (wSl 902 off zs.length cap) steps st i.1, fun _ => some (.exit 0, pl5 (plPr zs.length) (wSl 902 off zs.length cap) steps st, plAt c zs zs.length), fun i => zs.length - i.1, ⟨0, Nat.zero_le _⟩, .inl rfl, rfl, ?_⟩
    rintro ⟨i, hi⟩ o ho
    cases ho
    by_cases e : i = zs.length
    · subst e
      obtain ⟨sy, h1, h2⟩ := pl_end (gl := gl) (zs := zs) (off := off) (cap := cap) c steps st
      exact ⟨sy, HPl1, 100, 40, 40, _, [], noC, h1 hW, HPl_ok hF hgl hWk, h2, rfl⟩
    · obtain ⟨sy, h1, h2⟩ := pl_roundO (gl := gl) (off := off) hcap hn hz c steps st (show i < zs.length by omega) (hok _ (List.getElem_mem _))
      exact ⟨sy, HPl1, 100, 40, 40, _, [], noC, h1 hW, HPl_ok hF hgl hWk, h2, ⟨i + 1, by omega⟩, rfl, by show zs.length - (i + 1) < zs.length - i; omega, rfl⟩
theorem pl_loopB {gl : Gl} (hF : GlF gl) (hgl : Low gl) (hWk : FnOK Tryz.prog gl 6 afW) {zs : List Int} {off cap : Nat} (hW : GlW gl 902 off zs) (hcap : zs.length ≤ cap) (hn : zs.length ≤ 1100) (hz : WordsOk zs) {j : Nat} (hj : j < zs.length) (hok : ∀ i (h : i < j), plainW (zs[i]'(by omega)) = true) (hbad : plainW zs[j] = false) (c : Cfg) (steps st : Int) :
    LpOK Tryz.prog gl 3 0 ⟨[43, 9, 41, 3, 2, 1, 4, 42], [8], gH (atS (plVals 0 (.slice none 0 0) (wSl 902 off zs.length cap) zs.length steps st) [some (cfgRow c)]) (.ret, [.bool true], [some (cfgRow c)])⟩ :=
  loop_ofV goodT hgl tglob fun vs rows' t q h1 h2 => by
    obtain ⟨rfl, rfl, rfl⟩ := gH_run h1 h2
    refine ⟨by show 1001 ≤ most; decide, {i : Nat // i ≤ j}, fun i => plSt c zs (wSl 902 off zs.length cap) steps st i.1, fun _ => some (.ret, [.bool true], [some (cfgRow c)]), fun i => j - i.1, ⟨0, Nat.zero_le _⟩, .inl rfl, rfl, ?_⟩
    rintro ⟨i, hi⟩ o ho
    cases ho
    by_cases e : i = j
    · subst e
      obtain ⟨sy, h1, h2⟩ := pl_bad (gl := gl) (off := off) hcap hz c steps st hj hbad
      exact ⟨sy, HPl1, 100, 40, 40, _, [], noC, h1 hW, HPl_ok hF hgl hWk, h2, rfl⟩
    · obtain ⟨sy, h1, h2⟩ := pl_roundB (gl := gl) (off := off) hcap hn hz c steps st (show i < zs.length by omega) (hok i (by omega))
      exact ⟨sy, HPl1, 100, 40, 40, _, [], noC, h1 hW, HPl_ok hF hgl hWk, h2, ⟨i + 1, by omega⟩, rfl, by show j - (i + 1) < j - i; omega, rfl⟩
theorem pl_loopN {gl : Gl} (hgl : Low gl) (c : Cfg) (steps st : Int) : LpOK Tryz.prog gl 3 0 ⟨[43, 9, 41, 3, 2, 1, 4, 42], [9, 3, 2, 1, 4], gH (atS (plVals 0 (.slice none 0 0) (.slice none 0 0) 0 steps st) [some (cfgRow c)]) (.exit 0, pl5 (.slice none 0 0) (.slice none 0 0) steps st, [some (cfgRow c)])⟩ :=
  loop_ofV goodT hgl tglob fun vs rows' t q h1 h2 => by
    obtain ⟨rfl, rfl, rfl⟩ := gH_run h1 h2
    refine ⟨by show 1001 ≤ most; decide, Unit, fun _ => (plVals 0 (.slice none 0 0) (.slice none 0 0) 0 steps st, [some (cfgRow c)]), fun _ => some (.exit 0, pl5 (.slice none 0 0) (.slice none 0 0) steps st, [some (cfgRow c)]), fun _ => 0, (), .inl rfl, rfl, ?_⟩
    rintro _ o ho
    cases ho
    exact ⟨noSy, H0, 100, 40, 40, _, [], noC, noSy_ok, H0_ok, r_plN gl c steps st, rfl⟩
end Go.Proofs.YtpcbedgaecbfmaaGreatDoor

namespace Go.Proofs.YtpcbedgaecbfmaaGreatDoor
open Go.Proofs.YtpcbedgaecbfmaaGreatDoor.Ev Go.RowKit

/-! A core whose program asks nothing of memory: its steps; what it tells. -/
theorem cds_get : ∀ {l : List CodeS} {i j : Nat} (h : i < l.length), j < 5 → (cdsL l)[i * 5 + j]? = (cdL l[i])[j]?
  | [], _, _, h, _ => by simp at h
  | k :: l, 0, j, h, hj => by
    rw [cdsL, Nat.zero_mul, Nat.zero_add, List.getElem?_append_left (by show j < 5; exact hj)]; rfl
  | k :: l, i + 1, j, h, hj => by
    rw [cdsL, List.getElem?_append_right (by show 5 ≤ _; omega), show (i + 1) * 5 + j - (cdL k).length = i * 5 + j from by show (i + 1) * 5 + j - 5 = _; omega]
    exact cds_get (l := l) (by simpa using h) hj
theorem cd_at {l : List CodeS} {i : Nat} (h : i < l.length) : cdOk (cdsL l) (0 + i * 5) = true ∧ cdK (cdsL l) (0 + i * 5) = l[i] := by
  have g : ∀ j, j < 5 → (cdsL l)[0 + i * 5 + j]? = (cdL l[i])[j]? := fun j hj => by rw [Nat.zero_add]; exact cds_get h hj
  unfold cdOk cdK
  simp only [gS, genOf]
  rw [g 0 (by omega), g 1 (by omega), g 2 (by omega), g 3 (by omega), g 4 (by omega)]
  exact ⟨rfl, rfl⟩
theorem hdM_weak {gl : Gl} {f : FuncId} {α : Type} {D : Dec α} {g g' : Rws → α → Bool} {v v' : Rws → α → Value} {n n' : Rws → α → Rws} (hs : SubOK Tryz.prog gl f (hdM D g v n)) (h : ∀ r x, g' r x = true → g r x = true ∧ v' r x = v r x ∧ n' r x = n r x) : SubOK Tryz.prog gl f (hdM D g' v' n') := by
  intro vs rows t e u rows' h1 h2
  unfold hdM at h1
  split at h1
  case h_2 => cases h1
  rename_i a args r
  obtain ⟨h3, h4⟩ := condT h1
  obtain ⟨x, h5, h6⟩ := Option.map_eq_some_iff.1 h4
  subst h6
  obtain ⟨h7, h8⟩ := condT (show cond (g' r x) (some (.normal, [v' r x], [some (.box (n' r x) [])])) none = some (e, [u], rows') from h2)
  obtain ⟨k1, k2, k3⟩ := h r x h7
  rw [k2, k3] at h8
  refine hs (.pointer (some a) :: args) [some (.box r [])] (.br (g r x) (.ret (.normal, [v r x], [some (.box (n r x) [])])) .fail) e u rows' ?_ ?_
  · unfold hdM
    simp only [h3, cond_true, h5, Option.map_some]
  · show cond (g r x) _ none = _
    rw [k1]; exact h8
def gfD (r : Rws) : Bool := isDeal r && !(dOf r).failing
def gdD (r : Rws) : Bool := isDeal r && (dOf r).depth == 0
theorem dealR_of {r : Rws} (h : isDeal r = true) : dealR (dOf r) = r := by
  obtain ⟨d, rfl⟩ := of_cl h
  rw [dOf_eq]
theorem HSt_ok {gl : Gl} (hF : GlF gl) (hgl : Low gl) : (HSt gfD gdD doG doR fun r at_ op a b _ n => doA r at_ op a b n).OK Tryz.prog gl := hsOf_ok (fun p hp => by
  simp only [List.mem_cons, List.not_mem_nil, or_false] at hp
  subst hp; exact fn_do hF hgl) (fun p hp => by
  simp only [List.mem_cons, List.not_mem_nil, or_false] at hp
  rcases hp with rfl | rfl
  · exact hdM_weak (sub_dFailing hgl) fun r x h => by
      simp only [gfD, Bool.and_eq_true, Bool.not_eq_true'] at h
      exact ⟨h.1, by rw [h.2], (dealR_of h.1).symm⟩
  · exact hdM_weak (sub_dDepth hgl) fun r x h => by
      simp only [gdD, Bool.and_eq_true, beq_iff_eq] at h
      exact ⟨h.1, by rw [h.2], (dealR_of h.1).symm⟩) (fun _ h => nomatch h)
theorem gfD_t {d : DealS} (h : d.failing = false) : gfD (dealR d) = true := by unfold gfD; rw [isDeal_t, dOf_eq, h]; rfl
theorem gdD_t {d : DealS} (h : d.depth = 0) : gdD (dealR d) = true := by unfold gdD; rw [isDeal_t, dOf_eq, h]; rfl
theorem cmay_op {op a b c n : Int} (h : cmay op a b c n = true) : 0 ≤ op ∧ op < 22 := by
  unfold cmay at h
  simp only [Bool.and_eq_true, decide_eq_true_eq] at h
  exact h.1
theorem plain_of {x : Int} (h : plainW x = true) : (tkS x).may = true ∧ plainOp (tkS x).op = true := by
  simp only [plainW, Bool.and_eq_true, beq_iff_eq] at h
  obtain ⟨h1, h2⟩ := h
  have h3 := take_may h1
  refine ⟨h3, ?_⟩
  obtain ⟨h4, h5⟩ := cmay_op h3
  generalize (tkS x).op = o at *
  unfold opOk at h2
  simp only [Bool.and_eq_true, Bool.not_eq_true', beq_eq_false_iff_ne, ne_eq, Bool.and_eq_false_iff, decide_eq_false_iff_not] at h2
  have : o = 1 ∨ o = 2 ∨ o = 3 ∨ o = 4 ∨ o = 5 ∨ o = 6 ∨ o = 7 ∨ o = 8 ∨ o = 12 ∨ o = 13 ∨ o = 14 ∨ o = 15 ∨ o = 16 ∨ o = 21 := by omega
  rcases this with rfl | rfl | rfl | rfl | rfl | rfl | rfl | rfl | rfl | rfl | rfl | rfl | rfl | rfl <;> rfl
/-- The core's rows: registers, place, halted or not. -/
def coP (c : Cfg) (zs : List Int) (r : W16) (at_ : Int) (hal : Bool) (fl : Int) : Rws := coreR ⟨c, 0, zs.map tkS, r, at_, nearN c 0, lgN c 0, 0, hal, fl⟩ ++ [none]
theorem coP_cons (c : Cfg) (z : Int) (l : List Int) (r : W16) (at_ : Int) (hal : Bool) (fl : Int) : coP c (z :: l) r at_ hal fl = coX c 0 (z :: l).length r at_ 0 hal fl (cdsL ((z :: l).map tkS)) (nearN c 0) (lgN c 0) ++ [none] := by
  unfold coP coreR coX
  simp only [List.map_cons, List.length_map, List.length_cons]
theorem coP_nil (c : Cfg) (r : W16) (at_ : Int) (hal : Bool) (fl : Int) : coP c [] r at_ hal fl = coX0 c 0 r at_ 0 hal fl (nearN c 0) (lgN c 0) ++ [none] := rfl
theorem atSV {gl : Gl} (hgl : Low gl) {sy : Sy} (hsy : SyOK gl sy) {H : Hs} (hH : H.OK Tryz.prog gl) {f : FuncId} {vs : List Value} {rows : Rws} {pl : PlanV} {o : Out} (h : callV sy Tryz.prog gl (fun _ => none) H 100 40 40 f vs rows pl = some o) : SubOK Tryz.prog gl f (gH (atS vs rows) o) :=
  sub_atV goodT hgl tglob ⟨sy, H, 100, 40, 40, pl, hsy, hH, h⟩
theorem cdsA (l : List CodeS) : ((cdsL l).all (af 8) && true && true) = true := by rw [cdsL_af]; rfl
theorem cdsB (l : List CodeS) : ((cdsL l).all (af 8) && true && true && true && true && true) = true := by rw [cdsL_af]; rfl
def stI (c : Cfg) (zs : List Int) (r : W16) (at_ st : Int) (mr : Rws) : List Value → Rws → Bool := atS [pK 1000, .int .u64 st] [some (.box (coP c zs r at_ false 0) [1001]), some (.box mr [])]
theorem sub_stepI {gl : Gl} (hF : GlF gl) (hgl : Low gl) (c : Cfg) {zs : List Int} (r : W16) {i : Nat} (hi : i < zs.length) (hn : zs.length ≤ 1024) (hp : plainW zs[i] = true) {st : Int} (hst : (st == 0) = false) (mr : Rws) :
    SubOK Tryz.prog gl 10 (gH (stI c zs r (i : Int) st mr) (.normal, [.tuple #[.slice none 0 0, evV 1 0 0 0, .int .i64 0]], [some (.box (coP c zs (doR r (tkS zs[i]).op (tkS zs[i]).a (tkS zs[i]).b (tkS zs[i]).c (tkS zs[i]).n) (doA r (i : Int) (tkS zs[i]).op (tkS zs[i]).a (tkS zs[i]).b (tkS zs[i]).n) false 0) [1001]), some (.box mr [])])) := by
  obtain ⟨z, l, rfl⟩ : ∃ z l, zs = z :: l := by
    cases zs with
    | nil => simp at hi
    | cons z l => exact ⟨z, l, rfl⟩
  obtain ⟨hm, ho⟩ := plain_of hp
  have hi' : i < ((z :: l).map tkS).length := by rw [List.length_map]; exact hi
  obtain ⟨k1, k2⟩ := cd_at hi'
  rw [List.getElem_map] at k2
  generalize hk : tkS (z :: l)[i] = k at *
  have e0 : (gS (cdsL ((z :: l).map tkS))).int .u8 (0 + i * 5 + 0) = k.op := congrArg CodeS.op k2
  have e1 : (gS (cdsL ((z :: l).map tkS))).int .i64 (0 + i * 5 + 1) = k.a := congrArg CodeS.a k2
  have e2 : (gS (cdsL ((z :: l).map tkS))).int .i64 (0 + i * 5 + 2) = k.b := congrArg CodeS.b k2
  have e3 : (gS (cdsL ((z :: l).map tkS))).int .i64 (0 + i * 5 + 3) = k.c := congrArg CodeS.c k2
  have e4 : (gS (cdsL ((z :: l).map tkS))).int .i64 (0 + i * 5 + 4) = k.n := congrArg CodeS.n k2
  have hg : doG (i : Int) k.op k.a k.b k.c k.n = true := andI hm (andI ho (andI (decide_eq_true (by omega)) (decide_eq_true (by omega))))
  unfold stI
  rw [coP_cons, coP_cons]
  refine atSV hgl (syG_ok _) (HSt_ok hF hgl) (pl := plS) ((r_stIn gl gfD gdD doG doR _ c c 0 0 (z :: l).length r (i : Int) 0 0 (cdsL ((z :: l).map tkS)) note0 (cacheN c) (backsN c) (marksX (dataP c) [] 0) (dealR (dNew c.nest)) (lgN c 0) mr st).trans ?_)
  simp only [qs_eq, qn_eq, Int.toNat_natCast, e0, e1, e2, e3, e4]
  have d1 : decide ((i : Int) < ((z :: l).length : Int)) = true := decide_eq_true (by omega)
  refine condI (cdsB _) (condE hst (condI (gfD_t rfl) (condE (decide_eq_false (by omega)) (condE (decide_eq_false (by omega)) (condI (andI (andI (decide_eq_true (by omega)) d1) (nbl (Nat.le_refl _))) ?_)))))
  exact condI k1 (condI k1 (condI hg (condI (gdD_t rfl) (condI (cdsA _) rfl))))
theorem sub_stepX {gl : Gl} (hF : GlF gl) (hgl : Low gl) (c : Cfg) {zs : List Int} (r : W16) {at_ : Int} (h : at_ < 0 ∨ (zs.length : Int) ≤ at_) {st : Int} (hst : (st == 0) = false) (mr : Rws) :
    SubOK Tryz.prog gl 10 (gH (stI c zs r at_ st mr) (.normal, [.tuple #[.slice none 0 0, evV 11 0 0 1, .int .i64 0]], [some (.box (coP c zs r at_ true 1) [1001]), some (.box mr [])])) := by
  unfold stI
  cases zs with
  | nil =>
    rw [coP_nil, coP_nil]
    refine atSV hgl noSy_ok (HSt_ok hF hgl) (pl := plS0) ((r_stN gl gfD gdD doG doR _ c c 0 0 r at_ 0 0 note0 (cacheN c) (backsN c) (marksX (dataP c) [] 0) (dealR (dNew c.nest)) (lgN c 0) mr st).trans ?_)
    simp only [qs_eq]
    refine condE hst (condI (gfD_t rfl) ?_)
    by_cases h0 : at_ < 0
    · exact condI (decide_eq_true h0) (condI (gdD_t rfl) rfl)
    · exact condE (decide_eq_false h0) (condI (decide_eq_true (by omega)) (condI (gdD_t rfl) rfl))
  | cons z l =>
    rw [coP_cons, coP_cons]
    refine atSV hgl (syG_ok _) (HSt_ok hF hgl) (pl := plS) ((r_stIn gl gfD gdD doG doR _ c c 0 0 (z :: l).length r at_ 0 0 (cdsL ((z :: l).map tkS)) note0 (cacheN c) (backsN c) (marksX (dataP c) [] 0) (dealR (dNew c.nest)) (lgN c 0) mr st).trans ?_)
    simp only [qs_eq, qn_eq]
    refine condI (cdsB _) (condE hst (condI (gfD_t rfl) ?_))
    by_cases h0 : at_ < 0
    · exact condI (decide_eq_true h0) (condI (gdD_t rfl) (condI (cdsA _) rfl))
    · exact condE (decide_eq_false h0) (condI (decide_eq_true (by omega)) (condI (gdD_t rfl) (condI (cdsA _) rfl)))
abbrev kRows (c : Cfg) (zs : List Int) (r : W16) (at_ : Int) (hal : Bool) (fl : Int) (mr : Rws) : Rws := [some (.box (coP c zs r at_ hal fl) [1001]), some (.box mr [])]
theorem sub_kRegs {gl : Gl} (hgl : Low gl) (c : Cfg) (zs : List Int) (r : W16) (at_ : Int) (hal : Bool) (fl : Int) (mr : Rws) : SubOK Tryz.prog gl 13 (gH (atS [pK 1000] (kRows c zs r at_ hal fl mr)) (.normal, [w16V r], kRows c zs r at_ hal fl mr)) := by
  cases zs with
  | nil => exact atSV hgl noSy_ok H0_ok (pl := plK) ((r_kRegs0 gl c 0 r at_ 0 hal fl (nearN c 0) (lgN c 0) mr).trans rfl)
  | cons z l =>
    unfold kRows
    rw [coP_cons]
    exact atSV hgl noSy_ok H0_ok (pl := plK) ((r_kRegs gl c 0 _ r at_ 0 hal fl _ (nearN c 0) (lgN c 0) mr).trans (condI (cdsB _) (condI (cdsA _) rfl)))
theorem sub_kAt {gl : Gl} (hgl : Low gl) (c : Cfg) (zs : List Int) (r : W16) (at_ : Int) (hal : Bool) (fl : Int) (mr : Rws) : SubOK Tryz.prog gl 14 (gH (atS [pK 1000] (kRows c zs r at_ hal fl mr)) (.normal, [.int .i64 at_], kRows c zs r at_ hal fl mr)) := by
  cases zs with
  | nil => exact atSV hgl noSy_ok H0_ok (pl := plK) ((r_kAt0 gl c 0 r at_ 0 hal fl (nearN c 0) (lgN c 0) mr).trans rfl)
  | cons z l =>
    unfold kRows
    rw [coP_cons]
    exact atSV hgl noSy_ok H0_ok (pl := plK) ((r_kAt gl c 0 _ r at_ 0 hal fl _ (nearN c 0) (lgN c 0) mr).trans (condI (cdsB _) (condI (cdsA _) rfl)))
theorem sub_kHal {gl : Gl} (hgl : Low gl) (c : Cfg) (zs : List Int) (r : W16) (at_ : Int) (mr : Rws) : SubOK Tryz.prog gl 11 (gH (atS [pK 1000] (kRows c zs r at_ true 1 mr)) (.normal, [.tuple #[.int .u32 1, .bool true]], kRows c zs r at_ true 1 mr)) := by
  cases zs with
  | nil => exact atSV hgl noSy_ok H0_ok (pl := plK) ((r_kHal0 gl c 0 r at_ 0 true 1 (nearN c 0) (lgN c 0) mr).trans (by first | rfl | (simp only [qs_eq]; rfl)))
  | cons z l =>
    unfold kRows
    rw [coP_cons]
    refine atSV hgl noSy_ok H0_ok (pl := plK) ((r_kHal gl c 0 _ r at_ 0 true 1 _ (nearN c 0) (lgN c 0) mr).trans ?_)
    simp only [qs_eq]
    exact condI (cdsB _) (condI rfl (condI rfl (condI (cdsA _) rfl)))
end Go.Proofs.YtpcbedgaecbfmaaGreatDoor

namespace Go.Proofs.YtpcbedgaecbfmaaGreatDoor
open Go.Proofs.YtpcbedgaecbfmaaGreatDoor.Ev Go.RowKit

/-! CorePlain: its second loop. -/
abbrev RA := W16 × Int
def stepOf (zs : List Int) (p : RA) : RA := match zs[p.2.toNat]? with
  | some x => (doR p.1 (tkS x).op (tkS x).a (tkS x).b (tkS x).c (tkS x).n, doA p.1 p.2 (tkS x).op (tkS x).a (tkS x).b (tkS x).n)
  | none => p
def stN (zs : List Int) : Nat → RA
  | 0 => (w0, 0)
  | i + 1 => stepOf zs (stN zs i)
def inR (zs : List Int) (i : Nat) : Bool := decide (0 ≤ (stN zs i).2) && decide ((stN zs i).2 < (zs.length : Int))
theorem first_not (p : Nat → Bool) : ∀ n, (∀ i, i < n → p i = true) ∨ ∃ j, j < n ∧ (∀ i, i < j → p i = true) ∧ p j = false
  | 0 => .inl fun i h => by omega
  | n + 1 => by
    rcases first_not p n with h | ⟨j, h1, h2, h3⟩
    · cases hp : p n with
      | true =>
        refine .inl fun i hi => ?_
        rcases Nat.lt_or_ge i n with h0 | h0
        · exact h i h0
        · rw [show i = n by omega]; exact hp
      | false => exact .inr ⟨n, by omega, h, hp⟩
    · exact .inr ⟨j, by omega, h2, h3⟩
theorem sub_never {gl : Gl} {f : FuncId} {o : Out} : SubOK Tryz.prog gl f (gH (fun _ _ => false) o) := fun vs rows t e v rows' h1 h2 => by
  unfold gH at h1
  cases h1
  cases h2
theorem HSp_ok {gl : Gl} {t tD tR tA tH : List Value → Rws → Bool} {ev : Value} {k1 mr : Rws} {q w1 : W16} {a1 a2 : Int} (hWk : FnOK Tryz.prog gl 6 afW) (hd : FnOK Tryz.prog gl 12 (afT (fun l => tD l []) (.tuple #[w16V q, .int .i64 a1, .int .i64 0])))
    (h1 : SubOK Tryz.prog gl 10 (gH t (.normal, [.tuple #[.slice none 0 0, ev, .int .i64 0]], [some (.box k1 [1001]), some (.box mr [])]))) (h2 : SubOK Tryz.prog gl 13 (gH tR (.normal, [w16V w1], [some (.box k1 [1001]), some (.box mr [])])))
    (h3 : SubOK Tryz.prog gl 14 (gH tA (.normal, [.int .i64 a2], [some (.box k1 [1001]), some (.box mr [])]))) (h4 : SubOK Tryz.prog gl 11 (gH tH (.normal, [.tuple #[.int .u32 1, .bool true]], [some (.box k1 [1001]), some (.box mr [])]))) : (HSp t tD tR tA tH ev k1 mr q w1 a1 a2).OK Tryz.prog gl :=
  hsOf_ok (fun p hp => by
    simp only [List.mem_cons, List.not_mem_nil, or_false] at hp
    rcases hp with rfl | rfl
    · exact hd
    · exact hWk) (fun p hp => by
    simp only [List.mem_cons, List.not_mem_nil, or_false] at hp
    rcases hp with rfl | rfl | rfl | rfl
    · exact h1
    · exact h2
    · exact h3
    · exact h4) (fun _ h => nomatch h)
theorem fn_never {gl : Gl} {f : FuncId} {v : Value} : FnOK Tryz.prog gl f (afT (fun _ => false) v) := fun args σ c u e hc => by
  unfold afT at e
  subst hc
  simp at e
theorem fn_do1 {gl : Gl} (hF : GlF gl) (hgl : Low gl) {r : W16} {at_ : Int} {k : CodeS} (h : doG at_ k.op k.a k.b k.c k.n = true) : FnOK Tryz.prog gl 12 (afT (fun l => cl (l = [w16V r, .int .i64 at_, .agg ⟨cdL k⟩])) (.tuple #[w16V (doR r k.op k.a k.b k.c k.n), .int .i64 (doA r at_ k.op k.a k.b k.n), .int .i64 0])) := fnWeak (fn_do hF hgl) fun args σ v e => by
  unfold afT at e
  simp only [Option.some.injEq, Prod.mk.injEq] at e
  obtain ⟨h1, rfl⟩ := e
  rw [of_cl h1]
  show some (doG at_ k.op k.a k.b k.c k.n, _) = some (true, _)
  rw [h]
def spRows (c : Cfg) (zs : List Int) (mr : Rws) (p : RA) (hal : Bool) (fl : Int) : Rws := [some (.box (coP c zs p.1 p.2 hal fl) [1003]), some (regRow p.1), some (codeRow (cdsL (zs.map tkS)) 5), some (.box mr [])]
def spSt (c : Cfg) (zs : List Int) (mr : Rws) (steps st : Int) (i : Nat) : LSt := (spVals (i : Int) (stN zs i).2 (slK 1002 zs.length) steps st, spRows c zs mr (stN zs i) false 0)
theorem w16_self (q : W16) : (q.a0 == q.a0 && (q.a1 == q.a1 && (q.a2 == q.a2 && (q.a3 == q.a3 && (q.a4 == q.a4 && (q.a5 == q.a5 && (q.a6 == q.a6 && (q.a7 == q.a7 && (q.a8 == q.a8 && (q.a9 == q.a9 && (q.a10 == q.a10 && (q.a11 == q.a11 && (q.a12 == q.a12 && (q.a13 == q.a13 && (q.a14 == q.a14 && (q.a15 == q.a15 && true)))))))))))))))) = true := by simp only [beq_self_eq_true, Bool.and_self]
theorem inR_of {zs : List Int} {i : Nat} (h : inR zs i = true) : ∃ k : Nat, (stN zs i).2 = (k : Int) ∧ k < zs.length := by
  simp only [inR, Bool.and_eq_true, decide_eq_true_eq] at h
  exact ⟨(stN zs i).2.toNat, by omega, by omega⟩
set_option maxRecDepth 100000 in
theorem sp_roundI {gl : Gl} (hF : GlF gl) (hgl : Low gl) (hWk : FnOK Tryz.prog gl 6 afW) (c : Cfg) {zs : List Int} (mr : Rws) {steps st : Int} (hst : (st == 0) = false) (hs : steps ≤ 500) (hn : zs.length ≤ 1024) (hok : ∀ x ∈ zs, plainW x = true) {i : Nat} (hi : (i : Int) < steps) (hr : inR zs i = true) :
    ∃ H : Hs, H.OK Tryz.prog gl ∧ rV (syG [(1002, .nilFunc)]) gl H 3 1 [16, 111, 18, 19, 9, 3, 110] [] 1004 (spSt c zs mr steps st i) [] noC = some (.inl (spSt c zs mr steps st (i + 1))) := by
  obtain ⟨k, hk, hk2⟩ := inR_of hr
  have hp := hok zs[k] (List.getElem_mem hk2)
  have hnx : stN zs (i + 1) = stepOf zs (stN zs i) := rfl
  generalize hpi : stN zs i = p at *
  obtain ⟨r, a⟩ := p
  simp only at hk
  subst hk
  have hnx2 : stepOf zs (r, (k : Int)) = (doR r (tkS zs[k]).op (tkS zs[k]).a (tkS zs[k]).b (tkS zs[k]).c (tkS zs[k]).n, doA r (k : Int) (tkS zs[k]).op (tkS zs[k]).a (tkS zs[k]).b (tkS zs[k]).n) := by
    unfold stepOf
    simp only [Int.toNat_natCast]
    rw [List.getElem?_eq_getElem hk2]
  obtain ⟨hm, ho⟩ := plain_of hp
  have hg : doG (k : Int) (tkS zs[k]).op (tkS zs[k]).a (tkS zs[k]).b (tkS zs[k]).c (tkS zs[k]).n = true := andI hm (andI ho (andI (decide_eq_true (by omega)) (decide_eq_true (by omega))))
  have hk' : k < (zs.map tkS).length := by rw [List.length_map]; exact hk2
  obtain ⟨k1, k2⟩ := cd_at hk'
  rw [List.getElem_map] at k2
  unfold spSt
  rw [hpi, hnx, hnx2]
  have hS := sub_stepI hF hgl c r hk2 hn hp hst mr
  generalize tkS zs[k] = q at *
  refine ⟨_, HSp_ok hWk (tD := fun l _ => cl (l = [w16V r, .int .i64 (k : Int), .agg ⟨cdL q⟩])) (fn_do1 hF hgl hg) hS (sub_kRegs hgl c zs _ _ false 0 mr) (sub_kAt hgl c zs _ _ false 0 mr) (sub_never (o := (.normal, [.tuple #[.int .u32 1, .bool true]], _))), ?_⟩
  show rV _ gl _ _ _ _ _ _ (spVals (i : Int) (k : Int) (slK 1002 zs.length) steps st, [some (.box (coP c zs r (k : Int) false 0) [1003]), some (regRow r), some (codeRow (cdsL (zs.map tkS)) 5), some (.box mr [])]) [] noC = _
  refine (r_spI gl _ _ _ _ _ (coP c zs r (k : Int) false 0) _ mr r _ _ _ _ (i : Int) (k : Int) steps st zs.length (cdsL (zs.map tkS))).trans ?_
  simp only [qs_eq, Int.toNat_natCast]
  have d1 : decide ((k : Int) < (zs.length : Int)) = true := decide_eq_true (by omega)
  have haf : ((cdsL (zs.map tkS)).all (af 8) && true) = true := by rw [cdsL_af]; rfl
  refine condI (decide_eq_true hi) (condI (atS_self _ _) (condE (decide_eq_false (by omega)) (condE (decide_eq_false (by omega)) (condI (andI (andI (decide_eq_true (by omega)) d1) (nbl (Nat.le_refl _))) (condI k1 (condI (cl_t ?_) (condI k1 (condI (atS_self _ _) (condE ?_ (condI (atS_self _ _) (condE (bneI_self _) (condI haf ?_))))))))))))
  · show [w16V r, .int .i64 (k : Int), Value.agg ⟨cdL (cdK (cdsL (zs.map tkS)) (0 + k * 5))⟩] = _
    rw [k2]
  · rw [w16_self]; rfl
  · rw [wrap_id _ (by omega)]
    rfl
set_option maxRecDepth 100000 in
theorem sp_roundJ {gl : Gl} (hF : GlF gl) (hgl : Low gl) (hWk : FnOK Tryz.prog gl 6 afW) (c : Cfg) {zs : List Int} (mr : Rws) {steps st : Int} (hst : (st == 0) = false) (hs : steps ≤ 500) (hn : zs.length ≤ 1024) (hok : ∀ x ∈ zs, plainW x = true) {i : Nat} (hi : (i : Int) < steps) (hr : inR zs i = true) :
    ∃ H : Hs, H.OK Tryz.prog gl ∧ rV (syG [(1002, .nilFunc)]) gl H 3 1 [16, 111, 18, 19, 9, 3, 110] [8] 1004 (spSt c zs mr steps st i) [] noC = some (.inl (spSt c zs mr steps st (i + 1))) := by
  obtain ⟨k, hk, hk2⟩ := inR_of hr
  have hp := hok zs[k] (List.getElem_mem hk2)
  have hnx : stN zs (i + 1) = stepOf zs (stN zs i) := rfl
  generalize hpi : stN zs i = p at *
  obtain ⟨r, a⟩ := p
  simp only at hk
  subst hk
  have hnx2 : stepOf zs (r, (k : Int)) = (doR r (tkS zs[k]).op (tkS zs[k]).a (tkS zs[k]).b (tkS zs[k]).c (tkS zs[k]).n, doA r (k : Int) (tkS zs[k]).op (tkS zs[k]).a (tkS zs[k]).b (tkS zs[k]).n) := by
    unfold stepOf
    simp only [Int.toNat_natCast]
    rw [List.getElem?_eq_getElem hk2]
  obtain ⟨hm, ho⟩ := plain_of hp
  have hg : doG (k : Int) (tkS zs[k]).op (tkS zs[k]).a (tkS zs[k]).b (tkS zs[k]).c (tkS zs[k]).n = true := andI hm (andI ho (andI (decide_eq_true (by omega)) (decide_eq_true (by omega))))
  have hk' : k < (zs.map tkS).length := by rw [List.length_map]; exact hk2
  obtain ⟨k1, k2⟩ := cd_at hk'
  rw [List.getElem_map] at k2
  unfold spSt
  rw [hpi, hnx, hnx2]
  have hS := sub_stepI hF hgl c r hk2 hn hp hst mr
  generalize tkS zs[k] = q at *
  refine ⟨_, HSp_ok hWk (tD := fun l _ => cl (l = [w16V r, .int .i64 (k : Int), .agg ⟨cdL q⟩])) (fn_do1 hF hgl hg) hS (sub_kRegs hgl c zs _ _ false 0 mr) (sub_kAt hgl c zs _ _ false 0 mr) (sub_never (o := (.normal, [.tuple #[.int .u32 1, .bool true]], _))), ?_⟩
  show rV _ gl _ _ _ _ _ _ (spVals (i : Int) (k : Int) (slK 1002 zs.length) steps st, [some (.box (coP c zs r (k : Int) false 0) [1003]), some (regRow r), some (codeRow (cdsL (zs.map tkS)) 5), some (.box mr [])]) [] noC = _
  refine (r_spJ gl _ _ _ _ _ (coP c zs r (k : Int) false 0) _ mr r _ _ _ _ (i : Int) (k : Int) steps st zs.length (cdsL (zs.map tkS))).trans ?_
  simp only [qs_eq, Int.toNat_natCast]
  have d1 : decide ((k : Int) < (zs.length : Int)) = true := decide_eq_true (by omega)
  have haf : ((cdsL (zs.map tkS)).all (af 8) && true) = true := by rw [cdsL_af]; rfl
  refine condI (decide_eq_true hi) (condI (atS_self _ _) (condE (decide_eq_false (by omega)) (condE (decide_eq_false (by omega)) (condI (andI (andI (decide_eq_true (by omega)) d1) (nbl (Nat.le_refl _))) (condI k1 (condI (cl_t ?_) (condI k1 (condI (atS_self _ _) (condE ?_ (condI (atS_self _ _) (condE (bneI_self _) (condI haf ?_))))))))))))
  · show [w16V r, .int .i64 (k : Int), Value.agg ⟨cdL (cdK (cdsL (zs.map tkS)) (0 + k * 5))⟩] = _
    rw [k2]
  · rw [w16_self]; rfl
  · rw [wrap_id _ (by omega)]
    rfl
theorem sp_end (gl : Gl) (c : Cfg) {zs : List Int} (mr : Rws) {steps st : Int} (i : Nat) (hi : ¬ (i : Int) < steps) :
    rV (syG [(1002, .nilFunc)]) gl (HSp (fun _ _ => false) (fun _ _ => false) (fun _ _ => false) (fun _ _ => false) (fun _ _ => false) (evV 1 0 0 0) [] mr w0 w0 0 0) 3 1 [16, 111, 18, 19, 9, 3, 110] [] 1004 (spSt c zs mr steps st i) [] noC = some (.inr (.exit 2, [], spRows c zs mr (stN zs i) false 0)) :=
  (r_spI gl _ _ _ _ _ _ _ mr _ _ _ _ _ (i : Int) _ steps st zs.length (cdsL (zs.map tkS))).trans (condE (decide_eq_false hi) (condI (by rw [cdsL_af]; rfl) rfl))
theorem sp_out {gl : Gl} (hF : GlF gl) (hgl : Low gl) (hWk : FnOK Tryz.prog gl 6 afW) (c : Cfg) {zs : List Int} (mr : Rws) {steps st : Int} (hst : (st == 0) = false) {i : Nat} (hi : (i : Int) < steps) (hr : inR zs i = false) :
    ∃ H : Hs, H.OK Tryz.prog gl ∧ rV (syG [(1002, .nilFunc)]) gl H 3 1 [16, 111, 18, 19, 9, 3, 110] [8] 1004 (spSt c zs mr steps st i) [] noC = some (.inr (.ret, [.bool true], spRows c zs mr (stN zs i) true 1)) := by
  have ho : (stN zs i).2 < 0 ∨ (zs.length : Int) ≤ (stN zs i).2 := by
    simp only [inR, Bool.and_eq_false_iff, decide_eq_false_iff_not] at hr
    omega
  refine ⟨_, HSp_ok (q := w0) (w1 := w0) (a1 := 0) (a2 := 0) (tD := fun _ _ => false) hWk fn_never (sub_stepX hF hgl c (stN zs i).1 ho hst mr) sub_never sub_never (sub_kHal hgl c zs _ _ mr), ?_⟩
  refine (r_spX gl _ _ _ _ _ (coP c zs (stN zs i).1 (stN zs i).2 false 0) _ mr (stN zs i).1 _ _ _ _ (i : Int) (stN zs i).2 steps st zs.length (cdsL (zs.map tkS))).trans ?_
  have haf : ((cdsL (zs.map tkS)).all (af 8) && true) = true := by rw [cdsL_af]; rfl
  refine condI (decide_eq_true hi) (condI (atS_self _ _) ?_)
  by_cases h0 : (stN zs i).2 < 0
  · exact condI (decide_eq_true h0) (condI (atS_self _ _) (condI haf rfl))
  · exact condE (decide_eq_false h0) (condI (decide_eq_true (by omega)) (condI (atS_self _ _) (condI haf rfl)))
theorem HSp0_ok {gl : Gl} (hWk : FnOK Tryz.prog gl 6 afW) {ev : Value} {k1 mr : Rws} {q w1 : W16} {a1 a2 : Int} : (HSp (fun _ _ => false) (fun _ _ => false) (fun _ _ => false) (fun _ _ => false) (fun _ _ => false) ev k1 mr q w1 a1 a2).OK Tryz.prog gl :=
  HSp_ok hWk fn_never sub_never sub_never sub_never sub_never
def sp0 (c : Cfg) (zs : List Int) (mr : Rws) (steps st : Int) : List Value → Rws → Bool := atS (spSt c zs mr steps st 0).1 (spSt c zs mr steps st 0).2
theorem sp_loopI {gl : Gl} (hF : GlF gl) (hgl : Low gl) (hWk : FnOK Tryz.prog gl 6 afW) (c : Cfg) {zs : List Int} (mr : Rws) {steps st : Int} (hst : (st == 0) = false) (h0 : 0 ≤ steps) (hs : steps ≤ 500) (hn : zs.length ≤ 1024) (hok : ∀ x ∈ zs, plainW x = true) (hr : ∀ i, i < steps.toNat → inR zs i = true) :
    LpOK Tryz.prog gl 3 1 ⟨[16, 111, 18, 19, 9, 3, 110], [], gH (sp0 c zs mr steps st) (.exit 2, [], spRows c zs mr (stN zs steps.toNat) false 0)⟩ :=
  loop_ofV goodT hgl tglob fun vs rows' t q h1 h2 => by
    obtain ⟨rfl, rfl, rfl⟩ := gH_run h1 h2
    refine ⟨by show 1004 ≤ most; decide, {i : Nat // i ≤ steps.toNat}, fun i => spSt c zs mr steps st i.1, fun _ => some (.exit 2, [], spRows c zs mr (stN zs steps.toNat) false 0), fun i => steps.toNat - i.1, ⟨0, Nat.zero_le _⟩, .inl rfl, rfl, ?_⟩
    rintro ⟨i, hi⟩ o ho
    cases ho
    by_cases e : i = steps.toNat
    · subst e
      exact ⟨_, _, 100, 40, 40, _, [], noC, syG_ok _, HSp0_ok hWk, sp_end gl c mr steps.toNat (by omega), rfl⟩
    · obtain ⟨H, h1, h2⟩ := sp_roundI hF hgl hWk c mr hst hs hn hok (show (i : Int) < steps by omega) (hr i (by omega))
      exact ⟨_, H, 100, 40, 40, _, [], noC, syG_ok _, h1, h2, ⟨i + 1, by omega⟩, rfl, by show steps.toNat - (i + 1) < steps.toNat - i; omega, rfl⟩
theorem sp_loopX {gl : Gl} (hF : GlF gl) (hgl : Low gl) (hWk : FnOK Tryz.prog gl 6 afW) (c : Cfg) {zs : List Int} (mr : Rws) {steps st : Int} (hst : (st == 0) = false) (hs : steps ≤ 500) (hn : zs.length ≤ 1024) (hok : ∀ x ∈ zs, plainW x = true) {j : Nat} (hj : j < steps.toNat) (hr : ∀ i, i < j → inR zs i = true) (hx : inR zs j = false) :
    LpOK Tryz.prog gl 3 1 ⟨[16, 111, 18, 19, 9, 3, 110], [8], gH (sp0 c zs mr steps st) (.ret, [.bool true], spRows c zs mr (stN zs j) true 1)⟩ :=
  loop_ofV goodT hgl tglob fun vs rows' t q h1 h2 => by
    obtain ⟨rfl, rfl, rfl⟩ := gH_run h1 h2
    refine ⟨by show 1004 ≤ most; decide, {i : Nat // i ≤ j}, fun i => spSt c zs mr steps st i.1, fun _ => some (.ret, [.bool true], spRows c zs mr (stN zs j) true 1), fun i => j - i.1, ⟨0, Nat.zero_le _⟩, .inl rfl, rfl, ?_⟩
    rintro ⟨i, hi⟩ o ho
    cases ho
    by_cases e : i = j
    · subst e
      obtain ⟨H, h1, h2⟩ := sp_out hF hgl hWk c mr hst (show (i : Int) < steps by omega) hx
      exact ⟨_, H, 100, 40, 40, _, [], noC, syG_ok _, h1, h2, rfl⟩
    · obtain ⟨H, h1, h2⟩ := sp_roundJ hF hgl hWk c mr hst hs hn hok (show (i : Int) < steps by omega) (hr i (by omega))
      exact ⟨_, H, 100, 40, 40, _, [], noC, syG_ok _, h1, h2, ⟨i + 1, by omega⟩, rfl, by show j - (i + 1) < j - i; omega, rfl⟩
/-! No program. -/
def spRows0 (c : Cfg) (mr : Rws) (hal : Bool) (fl : Int) : Rws := [some (.box (coP c [] w0 0 hal fl) [1002]), some (regRow w0), some (.box mr [])]
def sp00 (c : Cfg) (mr : Rws) (steps st : Int) : List Value → Rws → Bool := atS (spVals 0 0 (.slice none 0 0) steps st) (spRows0 c mr false 0)
theorem sp_loopI0 {gl : Gl} (hgl : Low gl) (c : Cfg) (mr : Rws) {st : Int} :
    LpOK Tryz.prog gl 3 1 ⟨[16, 111, 18, 19, 9, 3, 110], [], gH (sp00 c mr 0 st) (.exit 2, [], spRows0 c mr false 0)⟩ :=
  loop_ofV goodT hgl tglob fun vs rows' t q h1 h2 => by
    obtain ⟨rfl, rfl, rfl⟩ := gH_run h1 h2
    refine ⟨by show 1003 ≤ most; decide, Unit, fun _ => (spVals 0 0 (.slice none 0 0) 0 st, spRows0 c mr false 0), fun _ => some (.exit 2, [], spRows0 c mr false 0), fun _ => 0, (), .inl rfl, rfl, ?_⟩
    rintro _ o ho
    cases ho
    exact ⟨noSy, H0, 100, 40, 40, _, [], noC, noSy_ok, H0_ok, (r_spE0 gl (coP c [] w0 0 false 0) mr w0 0 st).trans rfl, rfl⟩
theorem sp_loopX0 {gl : Gl} (hF : GlF gl) (hgl : Low gl) (hWk : FnOK Tryz.prog gl 6 afW) (c : Cfg) (mr : Rws) {steps st : Int} (hst : (st == 0) = false) (h0 : 0 < steps) :
    LpOK Tryz.prog gl 3 1 ⟨[16, 111, 18, 19, 9, 3, 110], [8], gH (sp00 c mr steps st) (.ret, [.bool true], spRows0 c mr true 1)⟩ :=
  loop_ofV goodT hgl tglob fun vs rows' t q h1 h2 => by
    obtain ⟨rfl, rfl, rfl⟩ := gH_run h1 h2
    refine ⟨by show 1003 ≤ most; decide, Unit, fun _ => (spVals 0 0 (.slice none 0 0) steps st, spRows0 c mr false 0), fun _ => some (.ret, [.bool true], spRows0 c mr true 1), fun _ => 0, (), .inl rfl, rfl, ?_⟩
    rintro _ o ho
    cases ho
    refine ⟨noSy, _, 100, 40, 40, .inr (.ret, [.bool true], spRows0 c mr true 1), [], noC, noSy_ok, HSp_ok (q := w0) (w1 := w0) (a1 := 0) (a2 := 0) (tD := fun _ _ => false) hWk fn_never (sub_stepX hF hgl c (zs := []) w0 (at_ := 0) (.inr (by show (0 : Int) ≤ 0; omega)) hst mr) sub_never sub_never (sub_kHal hgl c [] _ _ mr), ?_, rfl⟩
    refine (r_spX0 gl _ _ _ _ _ (coP c [] w0 0 false 0) _ mr w0 _ _ _ _ 0 0 steps st).trans ?_
    exact condI (decide_eq_true h0) (condI (atS_self _ _) (condE (decide_eq_false (by omega)) (condI (decide_eq_true (by omega)) (condI (atS_self _ _) rfl))))
end Go.Proofs.YtpcbedgaecbfmaaGreatDoor
