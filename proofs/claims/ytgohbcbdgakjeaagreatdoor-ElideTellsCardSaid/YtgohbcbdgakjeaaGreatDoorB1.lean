/- Sections: the text that is told of a lock, a number, a name and a body; what may be a body and a name. -/
import Derived.Test.YtgohbcbdgakjeaaGreatDoorA5
import Derived.Test.YtgohbcbdgakjeaaGreatDoorM1
import Derived.Test.YtgohbcbdgakjeaaGreatDoorM2
import Derived.Shelf.Strings.SlTrimAscii
import Derived.Test.YtgohbcbdgakjeaaGreatDoorShelf
noncomputable section
noncomputable section
namespace Go.Proofs.YtgohbcbdgakjeaaGreatDoor
open Go.Proofs.YtgohbcbdgakjeaaGreatDoor.Ev Go.RowKit
def opBad (o : Int) : Bool := decide (o = 0) || (decide (13 ≤ o) && decide (o ≤ 19))
def plB (x : Int) : Bool := okW x && (!opBad (oN x) && decide (fA x < 10))
def pcOK (s : ByteArray) : Bool := decide ((mkA s).er = 0) && (match (mkA s).ws with
 | [] => true
 | [w] => plB w
 | _ => false)
theorem cutL_sum (c : UInt8) : ∀ l : List UInt8, ((cutL c l).map fun p => p.length + 1).sum = l.length + 1
 | [] => rfl
 | b :: l => by
  have ih := cutL_sum c l
  rw [cutL]
  split
  ·rw [List.map_cons, List.sum_cons, ih, List.length_nil, List.length_cons]; omega
  ·cases hq : cutL c l with
   | nil => exact absurd hq (cutL_ne c l)
   | cons p ps =>
    rw [hq, List.map_cons, List.sum_cons] at ih
    rw [List.map_cons, List.sum_cons, List.length_cons, List.length_cons]
    omega
theorem splB_sum (s : ByteArray) : ((splB s nlB).map fun p => p.size + 1).sum = s.size + 1 := by
 show ((splB s ⟨#[10]⟩).map fun p => p.size + 1).sum = _
 rw [splB_cut, List.map_map]
 have := cutL_sum 10 s.data.toList
 rw [show s.data.toList.length = s.size from data_len s] at this
 rw [← this]
 refine congrArg _ (List.map_congr_left fun p _ => ?_)
 show (⟨p.toArray⟩ : ByteArray).size + 1 = _
 rw [show (⟨p.toArray⟩ : ByteArray).size = p.length from List.size_toArray]
def mayB (body : ByteArray) : Bool := (splB body nlB).all pcOK
end Go.Proofs.YtgohbcbdgakjeaaGreatDoor
noncomputable section
namespace Go.Proofs.YtgohbcbdgakjeaaGreatDoor
open Go.Proofs.YtgohbcbdgakjeaaGreatDoor.Ev Go.RowKit
def endB : ByteArray := ⟨#[101, 110, 100]⟩
def secP (lk tr n : ByteArray) : List ByteArray := [((⟨#[115, 101, 116, 32, 114, 49, 48, 44, 32]⟩ : ByteArray) ++ tr), (((n ++ (⟨#[46, 116, 114, 121, 58, 32, 98, 101, 113, 32, 114, 49, 48, 44, 32, 114, 48, 44, 32]⟩ : ByteArray)) ++ n) ++ (⟨#[46, 114, 101, 97, 108]⟩ : ByteArray)), (((⟨#[98, 101, 103, 105, 110, 32]⟩ : ByteArray) ++ n) ++ (⟨#[46, 102, 97, 105, 108]⟩ : ByteArray)), ((⟨#[115, 101, 116, 32, 114, 49, 49, 44, 32]⟩ : ByteArray) ++ lk), (⟨#[108, 111, 97, 100, 32, 114, 49, 50, 44, 32, 114, 49, 49, 44, 32, 48]⟩ : ByteArray), (⟨#[108, 111, 97, 100, 32, 114, 49, 51, 44, 32, 114, 49, 49, 44, 32, 52]⟩ : ByteArray), (((⟨#[98, 110, 101, 32, 114, 49, 50, 44, 32, 114, 49, 51, 44, 32]⟩ : ByteArray) ++ n) ++ (⟨#[46, 98, 117, 115, 121]⟩ : ByteArray))]
def secQ (lk n : ByteArray) : List ByteArray := [(((⟨#[106, 117, 109, 112, 32]⟩ : ByteArray) ++ n) ++ (⟨#[46, 111, 117, 116]⟩ : ByteArray)), (n ++ (⟨#[46, 98, 117, 115, 121, 58, 32, 97, 98, 111, 114, 116, 32, 49]⟩ : ByteArray)), (n ++ (⟨#[46, 102, 97, 105, 108, 58, 32, 97, 100, 100, 105, 32, 114, 49, 48, 44, 32, 114, 49, 48, 44, 32, 45, 49]⟩ : ByteArray)), (((⟨#[106, 117, 109, 112, 32]⟩ : ByteArray) ++ n) ++ (⟨#[46, 116, 114, 121]⟩ : ByteArray)), ((n ++ (⟨#[46, 114, 101, 97, 108, 58, 32]⟩ : ByteArray)) ++ ((⟨#[115, 101, 116, 32, 114, 49, 49, 44, 32]⟩ : ByteArray) ++ lk)), (n ++ (⟨#[46, 116, 97, 107, 101, 58, 32, 108, 111, 97, 100, 32, 114, 49, 50, 44, 32, 114, 49, 49, 44, 32, 48]⟩ : ByteArray)), (⟨#[97, 100, 100, 105, 32, 114, 49, 51, 44, 32, 114, 49, 50, 44, 32, 49]⟩ : ByteArray), (⟨#[97, 100, 100, 32, 114, 49, 52, 44, 32, 114, 49, 50, 44, 32, 114, 48]⟩ : ByteArray), (⟨#[115, 119, 97, 112, 32, 114, 49, 52, 44, 32, 114, 49, 49, 44, 32, 114, 49, 51]⟩ : ByteArray), (((⟨#[98, 110, 101, 32, 114, 49, 52, 44, 32, 114, 49, 50, 44, 32]⟩ : ByteArray) ++ n) ++ (⟨#[46, 116, 97, 107, 101]⟩ : ByteArray)), (n ++ (⟨#[46, 119, 97, 105, 116, 58, 32, 108, 111, 97, 100, 32, 114, 49, 51, 44, 32, 114, 49, 49, 44, 32, 52]⟩ : ByteArray)), (((⟨#[98, 110, 101, 32, 114, 49, 51, 44, 32, 114, 49, 50, 44, 32]⟩ : ByteArray) ++ n) ++ (⟨#[46, 119, 97, 105, 116]⟩ : ByteArray))]
def secR (n : ByteArray) : List ByteArray := [(⟨#[108, 111, 97, 100, 32, 114, 49, 51, 44, 32, 114, 49, 49, 44, 32, 52]⟩ : ByteArray), (⟨#[97, 100, 100, 105, 32, 114, 49, 51, 44, 32, 114, 49, 51, 44, 32, 49]⟩ : ByteArray), (⟨#[115, 116, 111, 114, 101, 32, 114, 49, 51, 44, 32, 114, 49, 49, 44, 32, 52]⟩ : ByteArray), (n ++ (⟨#[46, 111, 117, 116, 58, 32, 102, 101, 110, 99, 101]⟩ : ByteArray))]
def secA (lk tr n body : ByteArray) : List ByteArray := secP lk tr n ++ [body]
def secZ (lk n body : ByteArray) : List ByteArray := secQ lk n ++ body :: secR n
def secB (lk tr n body : ByteArray) : ByteArray := joinB nlB (secA lk tr n body ++ endB :: secZ lk n body)
theorem szBy (l : List UInt8) : (⟨l.toArray⟩ : ByteArray).size = l.length := by
 show l.toArray.size = _
 exact List.size_toArray
theorem sec_size (lk tr n body : ByteArray) : (secB lk tr n body).size = 14 * n.size + 2 * body.size + tr.size + 2 * lk.size + 398 := by
 unfold secB secA secZ secP secQ secR endB nlB
 simp only [List.cons_append, List.nil_append, joinB, size_app, szBy, List.length_cons, List.length_nil]
 omega
end Go.Proofs.YtgohbcbdgakjeaaGreatDoor
noncomputable section
namespace Go.Proofs.YtgohbcbdgakjeaaGreatDoor
open Go.Proofs.YtgohbcbdgakjeaaGreatDoor.Ev Go.RowKit
def mkFB (g0 g1 : ByteArray → Bool) (x y e : ByteArray → Int) (ws : ByteArray → List Value) (n : ByteArray → Nat) : Hd := fun vs rows => match vs, rows with
 | [.string s], [] => some (.br (g0 s) (.ret (.normal, [.tuple #[slN, .agg #[.int .i64 (x s), .int .i64 (y s)], .int .i64 (e s)]], [])) (.br (g1 s) (.ret (.normal, [.tuple #[slK0 1000 (n s), .agg #[.int .i64 0, .int .i64 0], .int .i64 0]], [wdRow (ws s)])) .fail))
 | _, _ => none
def afPl (p : Int → Bool) : AF := fun args _ => match args with
 | [.int .u32 x] => some (decide (0 ≤ x) && decide (x < 4294967296), .bool (p x))
 | _ => none
def afBl (p : ByteArray → Bool) : AF := fun args _ => match args with
 | [.string s] => some (decide (s.size ≤ 140737488355328), .bool (p s))
 | _ => none
def afBm (p : ByteArray → Bool) : AF := fun args _ => match args with
 | [.string s] => some (decide (s.size ≤ 900000), .bool (p s))
 | _ => none
def afMy (p : ByteArray → Int) : AF := fun args _ => match args with
 | [.string s] => some (decide (s.size ≤ 900000), .int .i64 (p s))
 | _ => none
def azB : ByteArray := ⟨#[97, 98, 99, 100, 101, 102, 103, 104, 105, 106, 107, 108, 109, 110, 111, 112, 113, 114, 115, 116, 117, 118, 119, 120, 121, 122]⟩
def afTrim (p : ByteArray → ByteArray) : AF := fun args _ => match args with
 | [.string s, .string cs] => some (decide (s.size ≤ 140737488355328) && cl (cs = azB), .string (p s))
 | _ => none
def HPl (T : TkF) : Hs := hsOf [(32, afTake T.v)] [] []
def HPc (g0 g1 : ByteArray → Bool) (x y e : ByteArray → Int) (ws : ByteArray → List Value) (n : ByteArray → Nat) (p : Int → Bool) : Hs := hsOf [(15, afPl p)] [(14, mkFB g0 g1 x y e ws n)] []
set_option maxRecDepth 100000 in
theorem r_pl (gl : Gl) (T : TkF) (x : Int) : callSK noSy Tryz.prog gl exB (HPl T) 100 40 40 (.fn 15) [.int .u32 x] LS.start flatR =
 let z0 : Option Value := some (.bool false)
 cond (decide (0 ≤ x) && (decide (x < 4294967296))) (
 cond (T.e x != 0) z0 (
 cond (T.o x == 0) z0 (
 cond (T.o x == 17) z0 (
 cond (T.o x == 18) z0 (
 cond (T.o x == 19) z0 (
 cond (T.o x == 13) z0 (
 cond (T.o x == 14) z0 (
 cond (T.o x == 15) z0 (
 cond (T.o x == 16) z0 (
 cond (decide (T.a x < 10)) (
 some (.bool true)) z0)))))))))) (
 none) := by kernel_rfl
set_option maxRecDepth 100000 in
theorem r_pc (gl : Gl) (g0 g1 : ByteArray → Bool) (x y e : ByteArray → Int) (ws : ByteArray → List Value) (n : ByteArray → Nat) (p : Int → Bool) (s : ByteArray) : callSK (syL 1000 (ws s)) Tryz.prog gl exB (HPc g0 g1 x y e ws n p) 100 40 40 (.fn 13) [.string s] LS.start flatR =
 cond (g0 s) (
 cond (e s != 0) (
 some (.bool true)) (
 some (.bool false))) (
 cond (g1 s) (
 cond (List.all (ws s) (af 8) && true) (
 cond (decide ((↑(n s) : Int) > 1)) (
 some (.bool true)) (
 cond ((↑(n s) : Int) == 1) (
 cond (decide (0 < (↑(n s) : Int)) && ((n s).ble (n s))) (
 cond (sameL (ws s) (ws s)) (
 cond ((symOf (ws s)).okI .u32 0) (
 cond (decide (0 ≤ (symOf (ws s)).int .u32 0) && (decide ((symOf (ws s)).int .u32 0 < 4294967296))) (
 cond (p ((symOf (ws s)).int .u32 0)) (
 some (.bool false)) (
 some (.bool true))) (
 none)) (
 none)) (
 none)) (
 none)) (
 some (.bool false)))) (
 none)) (
 none)) := by kernel_rfl
set_option maxRecDepth 100000 in
theorem r_nm (gl : Gl) (tr : ByteArray → ByteArray) (s : ByteArray) : callSK noSy Tryz.prog gl exB (hsOf [(38, afTrim tr)] [] []) 100 40 40 (.fn 18) [.string s] LS.start flatR =
 cond (s.toList == (⟨#[]⟩ : ByteArray).toList) (
 some (.bool false)) (
 cond (decide ((↑s.size : Int) ≤ 8)) (
 cond (decide (s.size ≤ 140737488355328) && (cl ({ data := #[97, 98, 99, 100, 101, 102, 103, 104, 105, 106, 107, 108, 109, 110, 111, 112, 113, 114, 115, 116, 117, 118, 119, 120, 121, 122] } = azB))) (
 cond ((tr s).toList == (⟨#[]⟩ : ByteArray).toList) (
 some (.bool true)) (
 some (.bool false))) (
 none)) (
 some (.bool false))) := by kernel_rfl
def fvM : Value := .func (.func 13) #[] #[]
def ixLive : List Nat := [8, 0, 1, 7, 4]
def ixSt (i : Int) (cs : List Value) (n : Nat) : LSt := ([.int .i64 i, slK0 1000 n, fvM, .int .i64 (n : Int), .int .i64 0], [stRow cs])
def ixO (x : Ex) (r : Int) (cs : List Value) : Out := (x, [.int .i64 r], [stRow cs])
set_option maxRecDepth 100000 in
theorem r_ix (gl : Gl) (b : ByteArray → Bool) (i : Int) (cs : List Value) (n : Nat) : roundK (syL 1000 cs) Tryz.prog gl exB (hsOf [(13, afBm b)] [] []) 100 40 40 26 0 ixLive (ixSt i cs n) (rndK Tryz.prog 1001 ixLive [4]) =
 let z0 := List.all cs (af 8) && true
 cond (decide (i < (↑n : Int))) (
 cond (decide (0 ≤ i) && (decide (i < (↑n : Int))) && (n.ble n)) (
 cond (sameL cs cs) (
 cond ((symOf cs).okS (0 + i.toNat * 1)) (
 cond (decide (((symOf cs).str (0 + i.toNat * 1)).size ≤ 900000)) (
 cond (b ((symOf cs).str (0 + i.toNat * 1))) (
 cond z0 (
 some (.inr (.ret, ([(.int .i64 (i))], [some (.row ⟨cs, 9, (0, 0), 0, false, false⟩)])))) (
 none)) (
 cond z0 (
 some (.inl ([(.int .i64 (IntKind.i64.wrap (i + 1))), (.slice (some ⟨1000, 0, none⟩) (n) (n)), (.func (Fn.func 13) #[] #[]), (.int .i64 ((↑n : Int))), (.int .i64 0)], [some (.row ⟨cs, 9, (0, 0), 0, false, false⟩)]))) (
 none))) (
 none)) (
 none)) (
 none)) (
 none)) (
 cond z0 (
 some (.inr (.exit 0, ([(.int .i64 0)], [some (.row ⟨cs, 9, (0, 0), 0, false, false⟩)])))) (
 none)) := by kernel_rfl
def HMay (g g2 : GS) (x : Ex) (r : Int) (cs : List Value) (n : Nat) : Hs := hsOf [] [(27, gH g (.normal, [slK0 1000 n], [stRow cs]))] [(26, [(0, ⟨ixLive, [4], gH g2 (ixO x r cs)⟩)])]
set_option maxRecDepth 100000 in
theorem r_may1 (gl : Gl) (g g2 : GS) (r : Int) (cs : List Value) (n : Nat) (body : ByteArray) : callSK noSy Tryz.prog gl exB (HMay g g2 (.exit 0) r cs n) 100 40 40 (.fn 6) [.string body] LS.start flatR =
 let z0 := List.all cs (af 8) && true
 cond (g [.string body, .string (⟨#[10]⟩ : ByteArray)] []) (
 cond z0 (
 cond z0 (
 cond (g2 [.int .i64 0, .slice (some ⟨1000, 0, none⟩) n n, .func (Fn.func 13) #[] #[], goInt (↑n : Int), .int .i64 0] [some (.row ⟨cs, 9, (0, 0), 0, false, false⟩)]) (
 cond z0 (
 some (.int .i64 0)) (
 none)) (
 none)) (
 none)) (
 none)) (
 none) := by kernel_rfl
set_option maxRecDepth 100000 in
theorem r_may2 (gl : Gl) (g g2 : GS) (r : Int) (cs : List Value) (n : Nat) (body : ByteArray) : callSK noSy Tryz.prog gl exB (HMay g g2 .ret r cs n) 100 40 40 (.fn 6) [.string body] LS.start flatR =
 let z0 := List.all cs (af 8) && true
 cond (g [.string body, .string (⟨#[10]⟩ : ByteArray)] []) (
 cond z0 (
 cond z0 (
 cond (g2 [.int .i64 0, .slice (some ⟨1000, 0, none⟩) n n, .func (Fn.func 13) #[] #[], goInt (↑n : Int), .int .i64 0] [some (.row ⟨cs, 9, (0, 0), 0, false, false⟩)]) (
 cond z0 (
 cond (decide (r ≥ 0)) (
 some (.int .i64 2)) (
 some (.int .i64 0))) (
 none)) (
 none)) (
 none)) (
 none)) (
 none) := by kernel_rfl
end Go.Proofs.YtgohbcbdgakjeaaGreatDoor
noncomputable section
namespace Go.Proofs.YtgohbcbdgakjeaaGreatDoor
open Go.Proofs.YtgohbcbdgakjeaaGreatDoor.Ev Go.RowKit Go.Shelf
theorem fn_ofT {gl : Gl} (hgl : Low gl) {f : FuncId} {g : AF} (hk : ∀ args σ v, g args σ = some (true, v) → args.all (af 8) = true ∧ ∃ (sy : Sy) (H : Hs) (L G d : Nat), SyOK gl sy ∧ H.OK Tryz.prog gl ∧ callSK sy Tryz.prog gl exB H L G d (.fn f) args LS.start flatR = some v) : FnOK Tryz.prog gl f g := FnOK.flat hgl tglob fun args σ v h => by
 obtain ⟨h1, sy, H, L, G, d, hsy, hH, h2⟩ := hk args σ v h
 obtain ⟨⟨u, σ1⟩, _, h4⟩ := callSK_ok hsy d (.fn f) args LS.start _ _ h2
 obtain ⟨_, hf⟩ := flat_end (w' := u) h4
 exact ⟨h1, hf, fun w hw => flatS hsy goodB hgl tglob hH h1 h2 hw⟩
theorem HPl_ok {gl : Gl} (hF : GlF gl) (hgl : Low gl) : (HPl TW).OK Tryz.prog gl := one_ok fun p h => by
 simp only [List.mem_cons, List.not_mem_nil, or_false] at h
 subst h
 show FnOK _ _ _ (afTake TW.v); rw [TW_af]; exact fn_ctake hF hgl
theorem fn_pl {gl : Gl} (hF : GlF gl) (hgl : Low gl) : FnOK Tryz.prog gl 15 (afPl plB) := fn_ofT hgl fun args σ v h => by
 unfold afPl at h
 split at h
 ·rename_i x
  simp only [Option.some.injEq, Prod.mk.injEq] at h
  obtain ⟨h1, rfl⟩ := h
  refine ⟨rfl, noSy, HPl TW, 100, 40, 40, noSy_ok, HPl_ok hF hgl, (r_pl gl TW x).trans (condI h1 ?_)⟩
  rw [show TW.e x = cond (okW x) 0 6 from rfl, show TW.o x = cond (okW x) (oN x) 0 from rfl, show TW.a x = cond (okW x) (fA x) 0 from rfl]
  unfold plB opBad
  cases okW x with
  | false => rfl
  | true =>
   rw [cond_true, cond_true, cond_true, Bool.true_and]
   generalize oN x = o
   generalize fA x = a
   simp only [beqD, bneD]
   by_cases h0 : o = 0
   ·subst h0; rfl
   by_cases h1 : 13 ≤ o ∧ o ≤ 19
   ·have e : (!(decide (o = 0) || (decide (13 ≤ o) && decide (o ≤ 19))) && decide (a < 10)) = false := by
     rw [decide_eq_true h1.1, decide_eq_true h1.2, Bool.and_self, Bool.or_true]; rfl
    rw [e]
    rcases (show o = 13 ∨ o = 14 ∨ o = 15 ∨ o = 16 ∨ o = 17 ∨ o = 18 ∨ o = 19 by omega) with rfl | rfl | rfl | rfl | rfl | rfl | rfl <;> rfl
   ·have e : (!(decide (o = 0) || (decide (13 ≤ o) && decide (o ≤ 19))) && decide (a < 10)) = decide (a < 10) := by
     rw [decide_eq_false h0, show (decide (13 ≤ o) && decide (o ≤ 19)) = false by
      rw [Bool.and_eq_false_iff, decide_eq_false_iff_not, decide_eq_false_iff_not]; omega]
     rfl
    rw [e, decide_eq_false h0, decide_eq_false (show ¬ o = 17 by omega), decide_eq_false (show ¬ o = 18 by omega), decide_eq_false (show ¬ o = 19 by omega), decide_eq_false (show ¬ o = 13 by omega), decide_eq_false (show ¬ o = 14 by omega), decide_eq_false (show ¬ o = 15 by omega), decide_eq_false (show ¬ o = 16 by omega)]
    cases decide (a < 10) <;> rfl
 ·cases h
theorem mkFB_ok {gl : Gl} {m : Int} {u0 o0 u1 o1 : Nat} (hS : ∀ g k v, glS u0 o0 u1 o1 g k = some v → gl g k = some v) (hF : GlF gl) (hgl : Low gl) (hm : gl 0 0 = some (.int .i64 m)) : SubOK Tryz.prog gl 14 (mkFB gNil gNot mkX mkY mkE mkVs mkLn) := by
 intro vs rows t e v rows' h1 h2
 unfold mkFB at h1
 split at h1
 ·rename_i s
  cases h1
  cases hg : gNil s with
  | true =>
   have c := hg
   unfold gNil at c
   simp only [Bool.and_eq_true, decide_eq_true_eq] at c
   have h3 : cond (gNil s) (DT.run _) (DT.run _) = some _ := h2
   rw [hg] at h3
   exact makeN_at hS hF hgl hm c.1 (of_cl c.2) _ _ _ e v rows' rfl (show cond (atS [.string s] [] [.string s] []) _ _ = _ by rw [atS_self, cond_true]; exact h3)
  | false =>
   have h3 : cond (gNil s) (DT.run _) (DT.run _) = some _ := h2
   rw [hg] at h3
   obtain ⟨c, h3⟩ := brT h3
   unfold gNot at c
   simp only [Bool.and_eq_true, decide_eq_true_eq] at c
   exact makeK_at hS hF hgl hm c.1 (of_cl c.2) _ _ _ e v rows' rfl (show cond (atS [.string s] [] [.string s] []) _ _ = _ by rw [atS_self, cond_true]; exact h3)
 ·cases h1
structure ElG (gl : Gl) (m : Int) (u0 o0 u1 o1 : Nat) : Prop where
 S : ∀ g k v, glS u0 o0 u1 o1 g k = some v → gl g k = some v
 F : GlF gl
 low : Low gl
 m : gl 0 0 = some (.int .i64 m)
 p : GlP gl
theorem fn_pc {gl : Gl} {m : Int} {u0 o0 u1 o1 : Nat} (G : ElG gl m u0 o0 u1 o1) : FnOK Tryz.prog gl 13 (afBm fun s => !pcOK s) := fn_ofT G.low fun args σ v h => by
 unfold afBm at h
 split at h
 ·rename_i s
  simp only [Option.some.injEq, Prod.mk.injEq, decide_eq_true_eq] at h
  obtain ⟨h1, rfl⟩ := h
  refine ⟨rfl, syL 1000 (mkVs s), HPc gNil gNot mkX mkY mkE mkVs mkLn plB, 100, 40, 40, syL_ok (by decide) _, hsOf_ok (fun p hp => ?_) (fun p hp => ?_) (fun p hp => by cases hp), (r_pc gl gNil gNot mkX mkY mkE mkVs mkLn plB s).trans ?_⟩
  ·simp only [List.mem_cons, List.not_mem_nil, or_false] at hp
   subst hp
   exact fn_pl G.F G.low
  ·simp only [List.mem_cons, List.not_mem_nil, or_false] at hp
   subst hp
   exact mkFB_ok G.S G.F G.low G.m
  ·unfold pcOK
   by_cases hn : (mkA s).ws = []
   ·refine condI (show gNil s = true by unfold gNil; rw [decide_eq_true h1, cl_t hn]; rfl) ?_
    rw [hn, bneI]
    show cond (!decide ((mkA s).er = 0)) _ _ = some (Value.bool !(decide ((mkA s).er = 0) && true))
    cases decide ((mkA s).er = 0) <;> rfl
   ·obtain ⟨e0, hk⟩ : (mkA s).er = 0 ∧ ∀ w ∈ (mkA s).ws, okW w = true ∧ 0 ≤ w ∧ w < 4294967296 := by
     rcases mkA_cases s with ⟨e, _⟩ | h
     ·exact absurd e hn
     ·exact ⟨h.1, h.2.2.2.2⟩
    refine condE (show gNil s = false by unfold gNil; rw [show cl ((mkA s).ws = []) = false from @decide_eq_false _ (Classical.propDecidable _) hn, Bool.and_false]) (condI (show gNot s = true by unfold gNot; rw [decide_eq_true h1, cl_t hn]; rfl) (condI (andI (show (mkVs s).all (af 8) = true from wC_all _) rfl) ?_))
    unfold mkVs mkLn
    rw [decide_eq_true e0, Bool.true_and]
    cases hw : (mkA s).ws with
    | nil => exact absurd hw hn
    | cons w l =>
     cases l with
     | nil =>
      obtain ⟨_, w0, w1⟩ := hk w (by rw [hw]; exact List.mem_cons_self ..)
      refine condE rfl (condI rfl (condI rfl (condI (sameL_self _) (condI rfl ?_))))
      show cond (decide (0 ≤ w) && decide (w < 4294967296)) (cond (plB w) _ _) _ = some (Value.bool !(plB w))
      rw [decide_eq_true w0, decide_eq_true w1]
      cases plB w <;> rfl
     | cons w2 l =>
      refine condI (decide_eq_true ?_) rfl
      simp only [List.length_cons]
      omega
 ·cases h
def ixR (b : ByteArray → Bool) (cs : List Value) : List ByteArray → Nat → Out
 | [], _ => ixO (.exit 0) 0 cs
 | s :: ss, i => cond (b s) (ixO .ret (i : Int) cs) (ixR b cs ss (i + 1))
theorem ixR_all {b : ByteArray → Bool} {cs : List Value} : ∀ (ss : List ByteArray) (i : Nat), (∀ s ∈ ss, b s = false) → ixR b cs ss i = ixO (.exit 0) 0 cs
 | [], _, _ => rfl
 | s :: ss, i, h => by
  rw [ixR, h s (List.mem_cons_self ..)]
  exact ixR_all ss (i + 1) fun x hx => h x (List.mem_cons_of_mem _ hx)
theorem ixR_one {b : ByteArray → Bool} {cs : List Value} : ∀ (ss : List ByteArray) (i : Nat), (∃ s ∈ ss, b s = true) → ∃ r : Nat, ixR b cs ss i = ixO .ret (r : Int) cs
 | [], _, h => by obtain ⟨s, hs, _⟩ := h; cases hs
 | s :: ss, i, h => by
  rw [ixR]
  cases hb : b s with
  | true => exact ⟨i, rfl⟩
  | false =>
   rw [cond_false]
   obtain ⟨x, hx, h⟩ := h
   rcases List.mem_cons.1 hx with rfl | hx
   ·rw [hb] at h; cases h
   ·exact ixR_one ss (i + 1) ⟨x, hx, h⟩
theorem ix_loop {gl : Gl} {m : Int} {u0 o0 u1 o1 : Nat} (G : ElG gl m u0 o0 u1 o1) {ss : List ByteArray} (hl : ss.length ≤ 1000000) (hs : ∀ s ∈ ss, s.size ≤ 900000) {o1 : Out} (ho1 : ixR (fun s => !pcOK s) (stC ss) ss 0 = o1) :
  LpOK Tryz.prog gl 26 0 ⟨ixLive, [4], gH (atS (ixSt 0 (stC ss) ss.length).1 (ixSt 0 (stC ss) ss.length).2) o1⟩ :=
 loop_here goodB G.low tglob (by show 1001 ≤ most; decide) ⟨{i : Nat // i ≤ ss.length}, fun i => ixSt ((i.1 : Nat) : Int) (stC ss) ss.length, fun i => some (ixR (fun s => !pcOK s) (stC ss) (ss.drop i.1) i.1), fun i => ss.length - i.1, ⟨0, Nat.zero_le _⟩, rfl, (by show some (ixR _ _ (ss.drop 0) 0) = some o1; rw [List.drop_zero, ho1]), by
  rintro ⟨i, hi⟩ o ho
  simp only at hi ho
  cases ho
  have hH : (hsOf [(13, afBm fun s => !pcOK s)] [] []).OK Tryz.prog gl := one_ok fun p hp => by
   simp only [List.mem_cons, List.not_mem_nil, or_false] at hp
   subst hp
   exact fn_pc G
  by_cases h : i = ss.length
  ·subst h
   refine ⟨syL 1000 (stC ss), _, 100, 40, 40, .inr (ixO (.exit 0) 0 (stC ss)), syL_ok (by decide) _, hH, ?_, ?_⟩
   ·exact (r_ix gl _ (ss.length : Int) (stC ss) ss.length).trans (condE (decide_eq_false (by omega)) (condI (andI (stC_all ss) rfl) rfl))
   ·show ixO (.exit 0) 0 (stC ss) = ixR _ _ (ss.drop ss.length) _
    rw [List.drop_length]
    rfl
  ·have hi2 : i < ss.length := by omega
   obtain ⟨s1, s2⟩ := st_get hi2
   have e3 : stA ss i = ss[i] := by unfold stA; rw [List.getElem?_eq_getElem hi2]; rfl
   have e4 : ss.drop i = ss[i] :: ss.drop (i + 1) := List.drop_eq_getElem_cons hi2
   have w : IntKind.i64.wrap ((i : Int) + 1) = ((i + 1 : Nat) : Int) := wrapS (by omega)
   refine ⟨syL 1000 (stC ss), _, 100, 40, 40, cond (!pcOK ss[i]) (.inr (ixO .ret (i : Int) (stC ss))) (.inl (ixSt ((i + 1 : Nat) : Int) (stC ss) ss.length)), syL_ok (by decide) _, hH, (r_ix gl _ (i : Int) (stC ss) ss.length).trans ?_, ?_⟩
   ·rw [Int.toNat_natCast, s2, e3, w]
    refine condI (decide_eq_true (by omega)) (condI (by rw [d0N, decide_eq_true (show (i : Int) < (ss.length : Int) by omega), nble (Nat.le_refl _)]; rfl) (condI (sameL_self _) (condI s1 (condI (decide_eq_true (hs _ (List.getElem_mem hi2))) ?_))))
    rw [show (ss.length : Int) = ((ss.length : Nat) : Int) from rfl]
    cases pcOK ss[i] with
    | true => exact condE rfl (condI (andI (stC_all ss) rfl) rfl)
    | false => exact condI rfl (condI (andI (stC_all ss) rfl) rfl)
   ·rw [e4, ixR]
    cases pcOK ss[i] with
    | true => exact ⟨⟨i + 1, by omega⟩, rfl, (by show ss.length - (i + 1) < ss.length - i; omega), rfl⟩
    | false => rfl⟩
theorem mem_sum : ∀ (l : List ByteArray) (s : ByteArray), s ∈ l → s.size + 1 ≤ (l.map fun p => p.size + 1).sum
 | [], _, h => by cases h
 | x :: l, s, h => by
  rw [List.map_cons, List.sum_cons]
  rcases List.mem_cons.1 h with rfl | h
  ·exact Nat.le_add_right ..
  ·have := mem_sum l s h
   omega
theorem len_sum : ∀ l : List ByteArray, l.length ≤ (l.map fun p => p.size + 1).sum
 | [] => Nat.le_refl _
 | x :: l => by
  have := len_sum l
  rw [List.map_cons, List.sum_cons, List.length_cons]
  omega
def myI (body : ByteArray) : Int := cond (mayB body) 0 2
theorem fn_may {gl : Gl} {m : Int} {u0 o0 u1 o1 : Nat} (G : ElG gl m u0 o0 u1 o1) : FnOK Tryz.prog gl 6 (afMy myI) := fn_ofT G.low fun args σ v h => by
 unfold afMy at h
 split at h
 ·rename_i s
  simp only [Option.some.injEq, Prod.mk.injEq, decide_eq_true_eq] at h
  obtain ⟨h1, rfl⟩ := h
  refine ⟨rfl, noSy, ?_⟩
  have hsum := splB_sum s
  have hsz : ∀ x ∈ splB s nlB, x.size ≤ 900000 := fun x hx => by have := mem_sum _ x hx; omega
  have hlen : (splB s nlB).length ≤ 1000000 := by have := len_sum (splB s nlB); omega
  have hsp := split_at G.m (s := s) (sep := nlB) (by omega) (by decide)
  have al := andI (stC_all (splB s nlB)) (show true = true from rfl)
  have mk : ∀ (x : Ex) (r : Int), ixR (fun s => !pcOK s) (stC (splB s nlB)) (splB s nlB) 0 = ixO x r (stC (splB s nlB)) → (HMay (atS [.string s, .string nlB] []) (atS (ixSt 0 (stC (splB s nlB)) (splB s nlB).length).1 (ixSt 0 (stC (splB s nlB)) (splB s nlB).length).2) x r (stC (splB s nlB)) (splB s nlB).length).OK Tryz.prog gl := fun x r e => hsOf_ok (fun p hp => by cases hp) (fun p hp => by
    simp only [List.mem_cons, List.not_mem_nil, or_false] at hp
    subst hp
    exact hsp) (fun p hp q hq => by
    simp only [List.mem_cons, List.not_mem_nil, or_false] at hp
    subst hp
    simp only [List.mem_cons, List.not_mem_nil, or_false] at hq
    subst hq
    exact ix_loop G hlen hsz e)
  cases hm : mayB s with
  | true =>
   have e := ixR_all (b := fun s => !pcOK s) (cs := stC (splB s nlB)) (splB s nlB) 0 fun x hx => by
    have := List.all_eq_true.1 hm x hx
    rw [this]; rfl
   refine ⟨_, 100, 40, 40, noSy_ok, mk _ _ e, (r_may1 gl _ _ 0 _ _ s).trans ?_⟩
   unfold myI
   rw [hm]
   exact condI (atS_self _ _) (condI al (condI al (condI (atS_self _ _) (condI al rfl))))
  | false =>
   have hex : ∃ x ∈ splB s nlB, (!pcOK x) = true := by
    unfold mayB at hm
    rw [List.all_eq_false] at hm
    obtain ⟨x, hx, h⟩ := hm
    exact ⟨x, hx, by simpa using h⟩
   obtain ⟨r, e⟩ := ixR_one (b := fun s => !pcOK s) (cs := stC (splB s nlB)) (splB s nlB) 0 hex
   refine ⟨_, 100, 40, 40, noSy_ok, mk _ _ e, (r_may2 gl _ _ (r : Int) _ _ s).trans ?_⟩
   unfold myI
   rw [hm]
   exact condI (atS_self _ _) (condI al (condI al (condI (atS_self _ _) (condI al (condI (decide_eq_true (by omega)) rfl)))))
 ·cases h
def trB (s : ByteArray) : ByteArray := ⟨(Lib.trimS s.data.toList azB.data.toList).toArray⟩
def nmOK (s : ByteArray) : Bool := cond (s.toList == (⟨#[]⟩ : ByteArray).toList) false (cond (decide ((s.size : Int) ≤ 8)) ((trB s).toList == (⟨#[]⟩ : ByteArray).toList) false)
theorem fn_trim {gl : Gl} (hgl : Low gl) : FnOK Tryz.prog gl 38 (afTrim trB) := FnOK.flat hgl tglob fun args σ v h => by
 unfold afTrim at h
 split at h
 ·rename_i s cs
  simp only [Option.some.injEq, Prod.mk.injEq, Bool.and_eq_true, decide_eq_true_eq] at h
  obtain ⟨⟨h0, h1⟩, rfl⟩ := h
  have e := of_cl h1
  subst e
  exact ⟨rfl, rfl, fun w _ => Any.strings_Trim_laid Tryz.lays160 (by kernel_rfl) s azB w (by omega) (by decide) (ascii_of_all (by decide))⟩
 ·cases h
theorem fn_nm {gl : Gl} (hgl : Low gl) : FnOK Tryz.prog gl 18 (afBl nmOK) := fn_ofT hgl fun args σ v h => by
 unfold afBl at h
 split at h
 ·rename_i s
  simp only [Option.some.injEq, Prod.mk.injEq, decide_eq_true_eq] at h
  obtain ⟨h1, rfl⟩ := h
  refine ⟨rfl, noSy, _, 100, 40, 40, noSy_ok, one_ok fun p hp => ?_, (r_nm gl trB s).trans ?_⟩
  ·simp only [List.mem_cons, List.not_mem_nil, or_false] at hp
   subst hp
   exact fn_trim hgl
  ·unfold nmOK
   cases s.toList == (⟨#[]⟩ : ByteArray).toList with
   | true => rfl
   | false =>
    cases decide ((s.size : Int) ≤ 8) with
    | false => rfl
    | true =>
     refine condE rfl (condI rfl (condI (by rw [decide_eq_true h1]; exact cl_t rfl) ?_))
     cases (trB s).toList == (⟨#[]⟩ : ByteArray).toList <;> rfl
 ·cases h
theorem dw_nil {α : Type} {p : α → Bool} : ∀ l : List α, l.dropWhile p = [] → ∀ x ∈ l, p x = true
 | [], _, x, hx => by cases hx
 | y :: l, h, x, hx => by
  rw [List.dropWhile_cons] at h
  split at h
  ·rename_i hy
   rcases List.mem_cons.1 hx with rfl | hx
   ·exact hy
   ·exact dw_nil l h x hx
  ·cases h
theorem trim_nil {l cs : List UInt8} (h : Lib.trimS l cs = []) : ∀ x ∈ l, x ∈ cs := by
 unfold Lib.trimS Lib.trimLeftS Lib.trimRightS at h
 have h := dw_nil _ h
 intro x hx
 have h2 : x ∈ l.reverse.takeWhile (cs.contains ·) ++ l.reverse.dropWhile (cs.contains ·) := by rw [List.takeWhile_append_dropWhile]; simpa using hx
 rcases List.mem_append.1 h2 with h2 | h2
 ·have := List.all_eq_true.1 (List.all_takeWhile (p := (cs.contains ·)) (l := l.reverse)) x h2
  simpa using this
 ·have := h x (List.mem_reverse.2 h2)
  simpa using this
theorem nm_no {s : ByteArray} (h : nmOK s = true) : NoB 10 s ∧ s.size ≤ 8 := by
 unfold nmOK at h
 cases h1 : s.toList == (⟨#[]⟩ : ByteArray).toList with
 | true => rw [h1] at h; cases h
 | false =>
  rw [h1, cond_false] at h
  cases h2 : decide ((s.size : Int) ≤ 8) with
  | false => rw [h2] at h; cases h
  | true =>
   rw [h2, cond_true] at h
   have h2 := of_decide_eq_true h2
   refine ⟨fun e => ?_, by omega⟩
   rw [beqS] at h
   have h3 : trB s = ⟨#[]⟩ := of_decide_eq_true h
   have h4 : Lib.trimS s.data.toList azB.data.toList = [] := by
    have := congrArg (fun b => b.data.toList) h3
    simpa [trB] using this
   have := trim_nil h4 10 e
   revert this
   decide
end Go.Proofs.YtgohbcbdgakjeaaGreatDoor
noncomputable section
namespace Go.Proofs.YtgohbcbdgakjeaaGreatDoor
open Go.Proofs.YtgohbcbdgakjeaaGreatDoor.Ev Go.RowKit
def HSec (nm : ByteArray → Bool) (my : ByteArray → Int) (it : Int → ByteArray) : Hs := hsOf [(18, afBl nm), (6, afMy my), (19, afItoa it), (40, afJoin)] [] []
set_option maxRecDepth 100000 in
theorem r_sec (gl : Gl) (nm : ByteArray → Bool) (my : ByteArray → Int) (it : Int → ByteArray) (lk tr : Int) (n body : ByteArray) : callSK noSy Tryz.prog gl exB (HSec nm my it) 100 40 40 (.fn 8) [.int .u32 lk, .int .i64 tr, .string n, .string body] LS.start flatR =
 let z0 : Option Value := some (.tuple #[(.string ((⟨#[]⟩ : ByteArray))), (.int .i64 5)])
 let z1 := (((⟨#[106, 117, 109, 112, 32]⟩ : ByteArray) ++ n).size + 4).ble 9223372036854775807
 let z2 := IntKind.i64.wrap lk
 let z3 := (14 + n.size).ble 9223372036854775807
 let z4 : Option Value := some (.tuple #[(.string ((⟨#[]⟩ : ByteArray))), (.int .i64 2)])
 let z5 := (n.size + 23).ble 9223372036854775807
 cond (lk.tmod 4 != 0) z0 (
 cond (lk.tmod 64 == 60) z0 (
 cond (decide (lk > 2097151)) z0 (
 cond (decide (tr < 0)) z0 (
 cond (decide (tr > 8)) z0 (
 cond (decide (n.size ≤ 140737488355328)) (
 cond (nm n) (
 cond (decide (body.size ≤ 900000)) (
 cond (my body != 0) z4 (
 cond (decide (-9223372036854775808 ≤ IntKind.i64.wrap lk) && (decide (IntKind.i64.wrap lk ≤ 9223372036854775807))) (
 cond ((9 + (it z2).size).ble 9223372036854775807) (
 cond (decide (-9223372036854775808 ≤ tr) && (decide (tr ≤ 9223372036854775807))) (
 cond ((9 + (it tr).size).ble 9223372036854775807) (
 cond ((n.size + 19).ble 9223372036854775807) (
 cond (((n ++ (⟨#[46, 116, 114, 121, 58, 32, 98, 101, 113, 32, 114, 49, 48, 44, 32, 114, 48, 44, 32]⟩ : ByteArray)).size + n.size).ble 9223372036854775807) (
 cond (((n ++ (⟨#[46, 116, 114, 121, 58, 32, 98, 101, 113, 32, 114, 49, 48, 44, 32, 114, 48, 44, 32]⟩ : ByteArray) ++ n).size + 5).ble 9223372036854775807) (
 cond ((6 + n.size).ble 9223372036854775807) (
 cond ((((⟨#[98, 101, 103, 105, 110, 32]⟩ : ByteArray) ++ n).size + 5).ble 9223372036854775807) (
 cond z3 (
 cond ((((⟨#[98, 110, 101, 32, 114, 49, 50, 44, 32, 114, 49, 51, 44, 32]⟩ : ByteArray) ++ n).size + 5).ble 9223372036854775807) (
 cond ((5 + n.size).ble 9223372036854775807) (
 cond z1 (
 cond ((n.size + 14).ble 9223372036854775807) (
 cond ((n.size + 24).ble 9223372036854775807) (
 cond ((5 + n.size).ble 9223372036854775807) (
 cond z1 (
 cond ((n.size + 7).ble 9223372036854775807) (
 cond (((n ++ (⟨#[46, 114, 101, 97, 108, 58, 32]⟩ : ByteArray)).size + ((⟨#[115, 101, 116, 32, 114, 49, 49, 44, 32]⟩ : ByteArray) ++ it z2).size).ble 9223372036854775807) (
 cond z5 (
 cond z3 (
 cond ((((⟨#[98, 110, 101, 32, 114, 49, 52, 44, 32, 114, 49, 50, 44, 32]⟩ : ByteArray) ++ n).size + 5).ble 9223372036854775807) (
 cond z5 (
 cond z3 (
 cond ((((⟨#[98, 110, 101, 32, 114, 49, 51, 44, 32, 114, 49, 50, 44, 32]⟩ : ByteArray) ++ n).size + 5).ble 9223372036854775807) (
 cond ((n.size + 11).ble 9223372036854775807) (
 cond ((secB (it z2) (it tr) n body).size.ble 140737488355328) (
 cond (((secB (it z2) (it tr) n body).size + 1).ble 9223372036854775807) (
 some (.tuple #[(.string (secB (it z2) (it tr) n body ++ (⟨#[10]⟩ : ByteArray))), (.int .i64 0)])) (
 none)) (
 none)) (
 none)) (
 none)) (
 none)) (
 none)) (
 none)) (
 none)) (
 none)) (
 none)) (
 none)) (
 none)) (
 none)) (
 none)) (
 none)) (
 none)) (
 none)) (
 none)) (
 none)) (
 none)) (
 none)) (
 none)) (
 none)) (
 none)) (
 none)) (
 none)) (
 none)) (
 none))) (
 none)) z4) (
 none)))))) := by kernel_rfl
end Go.Proofs.YtgohbcbdgakjeaaGreatDoor
noncomputable section
namespace Go.Proofs.YtgohbcbdgakjeaaGreatDoor
open Go.Proofs.YtgohbcbdgakjeaaGreatDoor.Ev Go.RowKit
def seI (lk tr : Int) (n body : ByteArray) : Int := cond (lk.tmod 4 != 0) 5 (cond (lk.tmod 64 == 60) 5 (cond (decide (lk > 2097151)) 5 (cond (decide (tr < 0)) 5 (cond (decide (tr > 8)) 5 (cond (nmOK n) (cond (mayB body) 0 2) 2)))))
def seS (lk tr : Int) (n body : ByteArray) : ByteArray := cond (decide (seI lk tr n body = 0)) (secB (itoaB lk) (itoaB tr) n body ++ nlB) ⟨#[]⟩
def seV (lk tr : Int) (n body : ByteArray) : Value := .tuple #[.string (seS lk tr n body), .int .i64 (seI lk tr n body)]
def afSec (p : Int → Int → ByteArray → ByteArray → Value) : AF := fun args _ => match args with
 | [.int .u32 lk, .int .i64 tr, .string n, .string body] => some (decide (0 ≤ lk) && decide (lk < 4294967296) && decide (n.size ≤ 140737488355328) && decide (body.size ≤ 900000), p lk tr n body)
 | _ => none
theorem fn_sec {gl : Gl} {m : Int} {u0 o0 u1 o1 : Nat} (G : ElG gl m u0 o0 u1 o1) : FnOK Tryz.prog gl 8 (afSec seV) := fn_ofT G.low fun args σ v h => by
 unfold afSec at h
 split at h
 ·rename_i lk tr n body
  simp only [Option.some.injEq, Prod.mk.injEq, Bool.and_eq_true, decide_eq_true_eq] at h
  obtain ⟨⟨⟨⟨l0, l1⟩, hn⟩, hb⟩, rfl⟩ := h
  refine ⟨rfl, noSy, HSec nmOK myI itoaB, 100, 40, 40, noSy_ok, one_ok fun p hp => ?_, (r_sec gl nmOK myI itoaB lk tr n body).trans ?_⟩
  ·simp only [List.mem_cons, List.not_mem_nil, or_false] at hp
   rcases hp with rfl | rfl | rfl | rfl
   ·exact fn_nm G.low
   ·exact fn_may G
   ·exact fnItoa G.low G.p
   ·exact fn_join
  ·have wl : IntKind.i64.wrap lk = lk := wrap_64 (by omega) (by omega)
   unfold seV seS seI myI
   rw [wl, decide_eq_true hn, decide_eq_true hb]
   cases lk.tmod 4 != 0 with
   | true => rfl
   | false =>
   cases lk.tmod 64 == 60 with
   | true => rfl
   | false =>
   cases decide (lk > 2097151) with
   | true => rfl
   | false =>
   by_cases t0 : tr < 0
   ·rw [decide_eq_true t0]; rfl
   rw [decide_eq_false t0]
   by_cases t1 : tr > 8
   ·rw [decide_eq_true t1]; rfl
   rw [decide_eq_false t1]
   cases hm : nmOK n with
   | false => rfl
   | true =>
   cases mayB body with
   | false => rfl
   | true =>
   have hn8 := (nm_no hm).2
   have za := itoa_size (n := lk) (by omega) (by omega)
   have zb := itoa_size (n := tr) (by omega) (by omega)
   have zs := sec_size (itoaB lk) (itoaB tr) n body
   refine condE rfl (condE rfl (condE rfl (condE rfl (condE rfl (condI rfl (condI rfl (condI rfl (condE rfl ?_))))))))
   refine condI (by rw [decide_eq_true (show -9223372036854775808 ≤ lk by omega), decide_eq_true (show lk ≤ 9223372036854775807 by omega)]; rfl) (condI (nble (by omega)) (condI (by rw [decide_eq_true (show -9223372036854775808 ≤ tr by omega), decide_eq_true (show tr ≤ 9223372036854775807 by omega)]; rfl) (condI (nble (by omega)) ?_)))
   iterate 22 refine condI (nble (by first | omega | (simp only [size_app, szBy, List.length_cons, List.length_nil]; omega))) ?_
   exact condI (nble (by omega)) (condI (nble (by omega)) rfl)
 ·cases h
end Go.Proofs.YtgohbcbdgakjeaaGreatDoor
noncomputable section
namespace Go.Proofs.YtgohbcbdgakjeaaGreatDoor
open Go.Proofs.YtgohbcbdgakjeaaGreatDoor.Ev Go.RowKit
abbrev S4 (R : Type) := Int → Int → ByteArray → ByteArray → R
def seF (sv : S4 ByteArray) (se : S4 Int) : S4 Value := fun lk tr n b => .tuple #[.string (sv lk tr n b), .int .i64 (se lk tr n b)]
end Go.Proofs.YtgohbcbdgakjeaaGreatDoor
noncomputable section
namespace Go.Proofs.YtgohbcbdgakjeaaGreatDoor
open Go.Proofs.YtgohbcbdgakjeaaGreatDoor.Ev Go.RowKit
def db32L : List Int := [0,1,28,2,29,14,24,3,30,22,20,15,25,17,4,8,31,27,13,23,21,19,16,7,26,12,18,6,11,5,10,9]
def db64L : List Int := [0,1,56,2,57,49,28,3,61,58,42,50,38,29,17,4,62,47,59,36,45,43,51,22,53,39,33,30,24,18,12,5,63,55,48,27,60,41,37,16,46,35,44,21,52,32,23,11,54,26,40,15,34,20,31,10,25,14,19,9,13,8,7,6]
def glE (m : Int) (u0 o0 u1 o1 : Nat) : Gl := glOf [(6, [.iface u0 (.pointer (some ⟨900, o0, none⟩))]), (5, [.iface u1 (.pointer (some ⟨901, o1, none⟩))]), (2, pow10L.map (.int .u64)), (1, formsL.map (.int .i64)), (0, [.int .i64 m]), (7, db32L.map (.int .u8)), (8, db64L.map (.int .u8))]
theorem glE_low (m : Int) (u0 o0 u1 o1 : Nat) : Low (glE m u0 o0 u1 o1) := lowTabs (by rfl)
theorem glE_S {m : Int} {u0 o0 u1 o1 : Nat} : ∀ g k v, glS u0 o0 u1 o1 g k = some v → glE m u0 o0 u1 o1 g k = some v := by
 intro g k v h
 unfold glS at h
 unfold glE
 simp only [glOf] at h ⊢
 cases h1 : Nat.beq g 6 with
 | true => rw [h1] at h; exact h
 | false =>
  rw [h1, cond_false] at h
  rw [cond_false]
  cases h2 : Nat.beq g 5 with
  | true => rw [h2] at h; exact h
  | false => rw [h2] at h; cases h
theorem glE_ok (m : Int) (u0 o0 u1 o1 : Nat) : ElG (glE m u0 o0 u1 o1) m u0 o0 u1 o1 where
 S := glE_S
 F := fun i z h => by
  show (formsL.map (Value.int .i64))[i]? = _
  rw [List.getElem?_map, h]
  rfl
 low := glE_low m u0 o0 u1 o1
 m := rfl
 p := fun i z h => by
  show (pow10L.map (Value.int .u64))[i]? = _
  rw [pow10L_eq, List.getElem?_map, h]
  rfl
def exE : Ext := extOf [(118, .same), (119, .makeNoZero 79), (24, .flat Extern.BytealgCount.count), (102, .flat Extern.BytealgIndexByte.indexByte)]
theorem xMz : XkOK Tryz.prog 119 (.makeNoZero 79) := ⟨Tryz.f119, Tryz.func119, by kernel_rfl, by kernel_rfl, (show Extern.find Tryz.f119 = some (Extern.BytealgMakeNoZero.makeNoZero Tryz.f119.params Tryz.f119.resultTypes) by kernel_rfl), (show Tryz.f119.resultTypes[0]? = some 79 by kernel_rfl)⟩
theorem goodE : Go.Proofs.YtgohbcbdgakjeaaGreatDoor.Ev.Good Tryz.prog exE := good_of (by kernel_rfl) (by kernel_rfl) (by
 intro x hx
 simp only [List.mem_cons, List.not_mem_nil, or_false] at hx
 rcases hx with rfl | rfl | rfl | rfl
 ·exact xNE
 ·exact xMz
 ·exact xCt
 ·exact xIb)
set_option maxRecDepth 100000 in
theorem works25_0 (m : Int) (u0 o0 u1 o1 : Nat) : isT (callF Tryz.prog (glE m u0 o0 u1 o1) exE [] 5000 100 40 (.fn 5) [] LS.start) = true := by kernel_rfl
theorem memo25 (m : Int) (u0 o0 u1 o1 : Nat) : MemoOK Tryz.prog (glE m u0 o0 u1 o1) 5 := memoM_ok goodE (glE_low m u0 o0 u1 o1) tglob (fun f hf => by cases hf) (works25_0 m u0 o0 u1 o1)
end Go.Proofs.YtgohbcbdgakjeaaGreatDoor
