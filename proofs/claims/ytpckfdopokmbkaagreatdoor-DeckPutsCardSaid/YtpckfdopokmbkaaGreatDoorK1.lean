/- Plans; instructions and the words that they are told by: what the code of layers 5 and 18 answers. Where the forms stand as the program's text lays them. -/
import Derived.Test.YtpckfdopokmbkaaGreatDoorEv8
import Derived.Test.YtpckfdopokmbkaaGreatDoorProg
noncomputable section
namespace Go.Proofs.YtpckfdopokmbkaaGreatDoor.Ev
open Go
open Go.Proofs Go.RowKit

def gl0 : Gl := fun _ _ => none
theorem tglob : Tryz.prog.globals.size ≤ 900 := of_decide_eq_true (by kernel_rfl)
theorem goodT : Go.Proofs.YtpckfdopokmbkaaGreatDoor.Ev.Good Tryz.prog (fun _ => none) := ⟨by kernel_rfl, fun f fn hf => by
  have h2 : (Tryz.prog.funcs.toList.all fun fn => !(fn.name == "runtime.NumGoroutine")) = true := by kernel_rfl
  have := List.all_eq_true.1 h2 fn (by rw [← Array.getElem?_toList] at hf; exact List.mem_of_getElem? hf)
  simpa using this, fun f k h => by cases h⟩
def qs {R : Type} : List Int → Option R → Option R
  | [], k => k
  | a :: l, k => cond (decide (a = a)) (qs l k) none
theorem qs_eq {R : Type} : ∀ (l : List Int) (k : Option R), qs l k = k
  | [], _ => rfl
  | _ :: l, k => by simp [qs, qs_eq l k]
def qn {R : Type} : List Nat → Option R → Option R
  | [], k => k
  | a :: l, k => cond (decide (a = a)) (qn l k) none
theorem qn_eq {R : Type} : ∀ (l : List Nat) (k : Option R), qn l k = k
  | [], _ => rfl
  | _ :: l, k => by simp [qn, qn_eq l k]
def qb {R : Type} : List Bool → Option R → Option R
  | [], k => k
  | a :: l, k => cond (decide (a = a)) (qb l k) none
theorem qb_eq {R : Type} : ∀ (l : List Bool) (k : Option R), qb l k = k
  | [], _ => rfl
  | _ :: l, k => by simp [qb, qb_eq l k]
theorem wrap_id (n : Int) (h : -9223372036854775808 ≤ n ∧ n ≤ 9223372036854775807) : IntKind.i64.wrap n = n := by
  simp only [IntKind.wrap, IntKind.bits, IntKind.signed]
  simp
  omega
end Go.Proofs.YtpckfdopokmbkaaGreatDoor.Ev

namespace Go.Proofs.YtpckfdopokmbkaaGreatDoor.Ev
open Go
open Go.Proofs Go.RowKit

/-! Plans. -/
def H0 : Hs := hsOf [] [] []
abbrev cfgL (c : Cfg) : List Value := [.int .i64 c.cores, .int .i64 c.sets, .int .i64 c.ways, .int .i64 c.blocks, .int .i64 c.logs, .int .i64 c.backs, .int .i64 c.nest, .int .i64 c.tries]
def cfgV (c : Cfg) : Value := .agg ⟨cfgL c⟩
abbrev evF (gl : Gl) (H : Hs) (f : FuncId) (args : List Value) : Option Value := callSK noSy Tryz.prog gl (fun _ => none) H 100 40 40 (.fn f) args LS.start flatR
abbrev Low (gl : Gl) : Prop := ∀ g k v, gl g k = some v → g < 1000 ∧ lowV 8 v = true
theorem fn_res {gl : Gl} (hgl : Low gl) {H : Hs} (hH : H.OK Tryz.prog gl) {f : FuncId} {g : AF} (hk : ∀ args σ v, g args σ = some (true, v) → args.all (af 8) = true ∧ evF gl H f args = some v) : FnOK Tryz.prog gl f g :=
  fn_of noSy_ok goodT hgl tglob hH hk
theorem H0_ok {gl : Gl} : H0.OK Tryz.prog gl := hsOf_ok (fun _ h => nomatch h) (fun _ h => nomatch h) (fun _ h => nomatch h)
def afC (gg : Cfg → Bool) (vv : Cfg → Value) : AF := fun args _ => match args with
  | [.agg ⟨[.int .i64 a, .int .i64 b, .int .i64 c, .int .i64 d, .int .i64 e, .int .i64 f, .int .i64 g, .int .i64 h]⟩] => some (gg ⟨a, b, c, d, e, f, g, h⟩, vv ⟨a, b, c, d, e, f, g, h⟩)
  | _ => none
theorem afC_inv {gg : Cfg → Bool} {vv : Cfg → Value} {args : List Value} {σ : LS} {v : Value} (h : afC gg vv args σ = some (true, v)) : ∃ c, args = [cfgV c] ∧ gg c = true ∧ v = vv c := by
  unfold afC at h
  split at h
  · simp only [Option.some.injEq, Prod.mk.injEq] at h
    exact ⟨_, rfl, h.1, h.2.symm⟩
  · cases h
def afCi (k : IntKind) (gg : Cfg → Int → Bool) (vv : Cfg → Int → Value) : AF := fun args _ => match args with
  | [.agg ⟨[.int .i64 a, .int .i64 b, .int .i64 c, .int .i64 d, .int .i64 e, .int .i64 f, .int .i64 g, .int .i64 h]⟩, .int j n] => some (decide (j = k) && gg ⟨a, b, c, d, e, f, g, h⟩ n, vv ⟨a, b, c, d, e, f, g, h⟩ n)
  | _ => none
theorem afCi_inv {k : IntKind} {gg : Cfg → Int → Bool} {vv : Cfg → Int → Value} {args : List Value} {σ : LS} {v : Value} (h : afCi k gg vv args σ = some (true, v)) : ∃ c n, args = [cfgV c, .int k n] ∧ gg c n = true ∧ v = vv c n := by
  unfold afCi at h
  split at h
  · simp only [Option.some.injEq, Prod.mk.injEq, Bool.and_eq_true, decide_eq_true_eq] at h
    obtain ⟨⟨rfl, h1⟩, h2⟩ := h
    exact ⟨_, _, rfl, h1, h2.symm⟩
  · cases h
def ttC : Cfg → Bool := fun _ => true
def ttCi : Cfg → Int → Bool := fun _ _ => true

set_option maxRecDepth 100000 in
theorem r_pdata (gl : Gl) (c : Cfg) : evF gl H0 34 [cfgV c] =
 some (.int IntKind.i64 (IntKind.i64.wrap (c.blocks - IntKind.i64.wrap (c.cores * c.logs)))) := by kernel_rfl
set_option maxRecDepth 100000 in
theorem r_pmay (gl : Gl) (c : Cfg) : evF gl H0 31 [cfgV c] =
 cond (decide (c.cores < 1)) (
 qs [c.cores] (
 some (.bool false))) (
 cond (decide (c.cores > 16)) (
 qs [c.cores, c.cores] (
 some (.bool false))) (
 qs [c.cores, c.cores] (
 cond (decide (c.sets < 1)) (
 qs [c.sets] (
 some (.bool false))) (
 cond (decide (c.sets > 16)) (
 qs [c.sets, c.sets] (
 some (.bool false))) (
 qs [c.sets, c.sets] (
 cond (decide (c.ways < 1)) (
 qs [c.ways] (
 some (.bool false))) (
 cond (decide (c.ways > 4)) (
 qs [c.ways, c.ways] (
 some (.bool false))) (
 qs [c.ways, c.ways] (
 cond (decide (c.blocks < 1)) (
 qs [c.blocks] (
 some (.bool false))) (
 cond (decide (c.blocks > 256)) (
 qs [c.blocks, c.blocks] (
 some (.bool false))) (
 qs [c.blocks, c.blocks] (
 cond (decide (c.logs < 1)) (
 qs [c.logs] (
 some (.bool false))) (
 cond (decide (c.logs > 4)) (
 qs [c.logs, c.logs] (
 some (.bool false))) (
 qs [c.logs, c.logs] (
 cond (decide (c.backs < 1)) (
 qs [c.backs] (
 some (.bool false))) (
 cond (decide (c.backs > 4)) (
 qs [c.backs, c.backs] (
 some (.bool false))) (
 qs [c.backs, c.backs] (
 cond (decide (c.nest < 1)) (
 qs [c.nest] (
 some (.bool false))) (
 cond (decide (c.nest > 8)) (
 qs [c.nest, c.nest] (
 some (.bool false))) (
 qs [c.nest, c.nest] (
 cond (decide (c.tries < 0)) (
 qs [c.tries] (
 some (.bool false))) (
 cond (decide (c.tries > 8)) (
 qs [c.tries, c.tries] (
 some (.bool false))) (
 qs [c.tries, c.tries] (
 cond (IntKind.i64.wrap (↑(BitVec.ofInt 64 c.sets &&& BitVec.ofInt 64 (IntKind.i64.wrap (c.sets - 1))).toNat : Int) == 0) (
 cond (IntKind.i64.wrap (↑(BitVec.ofInt 64 c.ways &&& BitVec.ofInt 64 (IntKind.i64.wrap (c.ways - 1))).toNat : Int) == 0) (
 cond (decide (IntKind.i64.wrap (c.blocks - IntKind.i64.wrap (c.cores * c.logs)) > 0)) (
 some (.bool true)) (
 some (.bool false))) (
 some (.bool false))) (
 some (.bool false)))))))))))))))))))))))))) := by kernel_rfl
def dataI (c : Cfg) : Int := IntKind.i64.wrap (c.blocks - IntKind.i64.wrap (c.cores * c.logs))
def pw2 (x : Int) : Bool := IntKind.i64.wrap (↑(BitVec.ofInt 64 x &&& BitVec.ofInt 64 (IntKind.i64.wrap (x - 1))).toNat : Int) == 0
theorem cond_sb (b x y : Bool) : cond b (some (Value.bool x)) (some (Value.bool y)) = some (Value.bool (cond b x y)) := by cases b <;> rfl
def planOk (c : Cfg) : Bool :=
  cond (decide (c.cores < 1)) false (cond (decide (c.cores > 16)) false (cond (decide (c.sets < 1)) false (cond (decide (c.sets > 16)) false (cond (decide (c.ways < 1)) false (cond (decide (c.ways > 4)) false
  (cond (decide (c.blocks < 1)) false (cond (decide (c.blocks > 256)) false (cond (decide (c.logs < 1)) false (cond (decide (c.logs > 4)) false (cond (decide (c.backs < 1)) false (cond (decide (c.backs > 4)) false
  (cond (decide (c.nest < 1)) false (cond (decide (c.nest > 8)) false (cond (decide (c.tries < 0)) false (cond (decide (c.tries > 8)) false (cond (pw2 c.sets) (cond (pw2 c.ways) (cond (decide (dataI c > 0)) true false) false) false))))))))))))))))
theorem planOk_iff {c : Cfg} : planOk c = true ↔ (1 ≤ c.cores ∧ c.cores ≤ 16 ∧ 1 ≤ c.sets ∧ c.sets ≤ 16 ∧ 1 ≤ c.ways ∧ c.ways ≤ 4 ∧ 1 ≤ c.blocks ∧ c.blocks ≤ 256 ∧ 1 ≤ c.logs ∧ c.logs ≤ 4 ∧ 1 ≤ c.backs ∧ c.backs ≤ 4 ∧ 1 ≤ c.nest ∧ c.nest ≤ 8 ∧ 0 ≤ c.tries ∧ c.tries ≤ 8) ∧ pw2 c.sets = true ∧ pw2 c.ways = true ∧ 0 < dataI c := by
  have h : ∀ {p : Prop} [Decidable p] {x : Bool}, (cond (decide p) false x = true) ↔ ¬ p ∧ x = true := by
    intro p _ x
    by_cases hp : p <;> simp [hp]
  have k : ∀ {b x : Bool}, (cond b x false = true) ↔ b = true ∧ x = true := by
    intro b x; cases b <;> simp
  unfold planOk
  simp only [h, k, decide_eq_true_eq, Int.not_lt, gt_iff_lt, and_assoc]
  constructor
  · rintro ⟨a1, a2, a3, a4, a5, a6, a7, a8, a9, b1, b2, b3, b4, b5, b6, b7, b8, b9, c1, _⟩
    exact ⟨a1, a2, a3, a4, a5, a6, a7, a8, a9, b1, b2, b3, b4, b5, b6, b7, b8, b9, c1⟩
  · rintro ⟨a1, a2, a3, a4, a5, a6, a7, a8, a9, b1, b2, b3, b4, b5, b6, b7, b8, b9, c1⟩
    exact ⟨a1, a2, a3, a4, a5, a6, a7, a8, a9, b1, b2, b3, b4, b5, b6, b7, b8, b9, c1, trivial⟩
theorem fn_pdata {gl : Gl} (hgl : Low gl) : FnOK Tryz.prog gl 34 (afC ttC fun c => .int .i64 (dataI c)) := fn_res hgl H0_ok fun args σ v h => by
  obtain ⟨c, rfl, _, rfl⟩ := afC_inv h
  exact ⟨rfl, r_pdata gl c⟩
theorem fn_pmay {gl : Gl} (hgl : Low gl) : FnOK Tryz.prog gl 31 (afC ttC fun c => .bool (planOk c)) := fn_res hgl H0_ok fun args σ v h => by
  obtain ⟨c, rfl, _, rfl⟩ := afC_inv h
  refine ⟨rfl, (r_pmay gl c).trans ?_⟩
  simp only [qs_eq, cond_sb]
  rfl
end Go.Proofs.YtpckfdopokmbkaaGreatDoor.Ev

namespace Go.Proofs.YtpckfdopokmbkaaGreatDoor.Ev
open Go
open Go.Proofs Go.RowKit

/-! Plans: what else is told of them. -/
def HMay (m : Cfg → Bool) (d : Cfg → Int) : Hs := hsOf [(31, afC ttC fun c => .bool (m c)), (34, afC ttC fun c => .int .i64 (d c))] [] []
theorem HMay_ok {gl : Gl} (hgl : Low gl) : (HMay planOk dataI).OK Tryz.prog gl := hsOf_ok (fun p hp => by
  simp only [List.mem_cons, List.not_mem_nil, or_false] at hp
  rcases hp with rfl | rfl
  · exact fn_pmay hgl
  · exact fn_pdata hgl) (fun _ h => nomatch h) (fun _ h => nomatch h)
set_option maxRecDepth 100000 in
theorem r_pMay (gl : Gl) (m : Cfg → Bool) (d : Cfg → Int) (c : Cfg) : evF gl (HMay m d) 20 [cfgV c] =
 cond (m c) (
 some (.int .i64 0)) (
 some (.int .i64 2)) := by kernel_rfl
set_option maxRecDepth 100000 in
theorem r_pData (gl : Gl) (m : Cfg → Bool) (d : Cfg → Int) (c : Cfg) : evF gl (HMay m d) 22 [cfgV c] =
 cond (m c) (
 some (.int .i64 (d c))) (
 some (.int .i64 0)) := by kernel_rfl
set_option maxRecDepth 100000 in
theorem r_pLog (gl : Gl) (m : Cfg → Bool) (d : Cfg → Int) (c : Cfg) (n : Int) : evF gl (HMay m d) 73 [cfgV c, .int .i64 n] =
 cond (m c) (
 cond (decide (n < 0)) (
 some (.tuple #[(.int .i64 0), (.int .i64 0), (.int .i64 5)])) (
 cond (decide (n ≥ c.cores)) (
 some (.tuple #[(.int .i64 0), (.int .i64 0), (.int .i64 5)])) (
 qs [c.logs, c.logs, c.logs, c.logs, c.cores, c.sets, c.ways, c.blocks, c.logs, c.backs, c.nest, c.tries] (
 some (.tuple #[(.int .i64 (IntKind.i64.wrap (d c + IntKind.i64.wrap (n * c.logs)))), (.int .i64 (c.logs)), (.int .i64 0)]))))) (
 some (.tuple #[(.int .i64 0), (.int .i64 0), (.int .i64 2)])) := by kernel_rfl
def dataP (c : Cfg) : Int := cond (planOk c) (dataI c) 0
def mayE (c : Cfg) : Int := cond (planOk c) 0 2
theorem fn_pMay {gl : Gl} (hgl : Low gl) : FnOK Tryz.prog gl 20 (afC ttC fun c => .int .i64 (mayE c)) := fn_res hgl (HMay_ok hgl) fun args σ v h => by
  obtain ⟨c, rfl, _, rfl⟩ := afC_inv h
  refine ⟨rfl, (r_pMay gl planOk dataI c).trans ?_⟩
  unfold mayE; cases planOk c <;> rfl
theorem fn_pData {gl : Gl} (hgl : Low gl) : FnOK Tryz.prog gl 22 (afC ttC fun c => .int .i64 (dataP c)) := fn_res hgl (HMay_ok hgl) fun args σ v h => by
  obtain ⟨c, rfl, _, rfl⟩ := afC_inv h
  refine ⟨rfl, (r_pData gl planOk dataI c).trans ?_⟩
  unfold dataP; cases planOk c <;> rfl
def logE (c : Cfg) (n : Int) : Int := cond (planOk c) (cond (decide (n < 0)) 5 (cond (decide (n ≥ c.cores)) 5 0)) 2
def logF (c : Cfg) (n : Int) : Int := cond (logE c n == 0) (IntKind.i64.wrap (dataI c + IntKind.i64.wrap (n * c.logs))) 0
def logN (c : Cfg) (n : Int) : Int := cond (logE c n == 0) c.logs 0
theorem fn_pLog {gl : Gl} (hgl : Low gl) : FnOK Tryz.prog gl 73 (afCi .i64 ttCi fun c n => .tuple #[.int .i64 (logF c n), .int .i64 (logN c n), .int .i64 (logE c n)]) := fn_res hgl (HMay_ok hgl) fun args σ v h => by
  obtain ⟨c, n, rfl, _, rfl⟩ := afCi_inv h
  refine ⟨rfl, (r_pLog gl planOk dataI c n).trans ?_⟩
  try simp only [qs_eq]
  unfold logF logN logE
  cases planOk c <;> cases decide (n < 0) <;> cases decide (n ≥ c.cores) <;> rfl
end Go.Proofs.YtpckfdopokmbkaaGreatDoor.Ev

namespace Go.Proofs.YtpckfdopokmbkaaGreatDoor.Ev
open Go
open Go.Proofs Go.RowKit

/-! Small things. -/
theorem nbl {a b : Nat} (h : a ≤ b) : Nat.ble a b = true := Nat.ble_eq_true_of_le h
theorem andI {a b : Bool} (h : a = true) (k : b = true) : (a && b) = true := by rw [h, k]; rfl
theorem nbeq (a b : Nat) : (Nat.beq a b = true) = (a = b) := propext ⟨Nat.eq_of_beq_eq_true, fun h => h ▸ Nat.beq_refl a⟩
end Go.Proofs.YtpckfdopokmbkaaGreatDoor.Ev

namespace Go.Proofs.YtpckfdopokmbkaaGreatDoor.Ev
open Go
open Go.Proofs Go.RowKit

/-! Instructions: their forms. -/
def formsL : List Int := [0, 1, 1, 1, 1, 1, 1, 1, 2, 2, 2, 1, 3, 2, 2, 2, 4, 4, 0, 5, 6, 0]
def symI (zs : List Int) : Sym := ⟨zs.map (Value.int .i64), fun _ o => nthI zs o, fun _ => ByteArray.empty, fun k o => decide (k = .i64) && Nat.ble (o + 1) zs.length, fun _ => false, fun _ => false, fun _ => false, fun _ => .nilFunc, fun _ => false, false⟩
theorem symI_of {zs : List Int} {f : Nat → Option Value} (h : ∀ (i : Nat) z, zs[i]? = some z → f i = some (.int .i64 z)) : (symI zs).Of f where
  int := fun k o h1 => by
    simp only [symI, Bool.and_eq_true, decide_eq_true_eq] at h1 ⊢
    obtain ⟨rfl, h2⟩ := h1
    have h2 := Nat.le_of_ble_eq_true h2
    exact h o _ (nthI_get h2)
  str := fun o h1 => by cases h1
  bool := fun o h1 => by cases h1
  val := fun o h1 => by cases h1
def syF : Sy := fun i => cond (Nat.beq i 0) (some (symI formsL)) none
def GlF (gl : Gl) : Prop := ∀ (i : Nat) z, formsL[i]? = some z → gl 0 i = some (.int .i64 z)
theorem syF_ok {gl : Gl} (h : GlF gl) : SyOK gl syF := fun i S e => by
  unfold syF at e
  rw [Bool.cond_eq_ite] at e
  split at e
  · rename_i q
    cases e
    rw [nbeq] at q
    subst q
    exact ⟨fun hl => by omega, fun _ => symI_of h⟩
  · cases e
def cdV (op a b c n : Int) : Value := .agg #[.int .u8 op, .int .i64 a, .int .i64 b, .int .i64 c, .int .i64 n]
noncomputable abbrev evFm (gl : Gl) (H : Hs) (f : FuncId) (args : List Value) : Option Value := callSK syF Tryz.prog gl (fun _ => none) H 100 40 40 (.fn f) args LS.start flatR
set_option maxRecDepth 100000 in
theorem r_cmay (gl : Gl) (op a b c n : Int) : evFm gl H0 61 [cdV op a b c n] =
 cond (decide (op ≥ 22)) (
 some (.int .i64 2)) (
 cond (decide (0 ≤ op) && (decide (op < 22))) (
 cond ((symI formsL).okI .i64 (0 + op.toNat * 1)) (
 cond ((symI formsL).int .i64 (0 + op.toNat * 1) == 1) (
 qs [c, c, c, b, b, a] (
 cond (decide (a ≥ 0)) (
 cond (decide (a < 16)) (
 cond (decide (b ≥ 0)) (
 cond (decide (b < 16)) (
 cond (decide (c ≥ 0)) (
 cond (decide (c < 16)) (
 qs [c, b, a, op, a, b, c, op, a, b, c, op, a, b, c, op, a, b, c, op, a, b, c] (
 cond (!(op == op && (a == a && (b == b && (c == c && (0 == n && true)))))) (
 some (.int .i64 2)) (
 some (.int .i64 0)))) (
 qs [c, b, a, op, a, b, c, op, a, b, c, op, a, b, c, op, a, b, c, op, a, b, c] (
 some (.int .i64 2)))) (
 qs [c, b, a, op, a, b, c, op, a, b, c, op, a, b, c, op, a, b, c, op, a, b, c] (
 some (.int .i64 2)))) (
 qs [b, a, op, a, b, c, op, a, b, c, op, a, b, c, op, a, b, c, op, a, b, c] (
 some (.int .i64 2)))) (
 qs [b, a, op, a, b, c, op, a, b, c, op, a, b, c, op, a, b, c, op, a, b, c] (
 some (.int .i64 2)))) (
 qs [a, op, a, b, c, op, a, b, c, op, a, b, c, op, a, b, c, op, a, b, c] (
 some (.int .i64 2)))) (
 qs [a, op, a, b, c, op, a, b, c, op, a, b, c, op, a, b, c, op, a, b, c] (
 some (.int .i64 2))))) (
 cond ((symI formsL).int .i64 (0 + op.toNat * 1) == 2) (
 qs [n, n, n, b, b, a] (
 cond (decide (a ≥ 0)) (
 cond (decide (a < 16)) (
 cond (decide (b ≥ 0)) (
 cond (decide (b < 16)) (
 cond (decide (n ≥ -8192)) (
 cond (decide (n < 8192)) (
 qs [n, b, a, op, a, b, n, op, a, b, n, op, a, b, n, op, a, b, n] (
 cond (!(op == op && (a == a && (b == b && (0 == c && (n == n && true)))))) (
 some (.int .i64 2)) (
 some (.int .i64 0)))) (
 qs [n, b, a, op, a, b, n, op, a, b, n, op, a, b, n, op, a, b, n] (
 some (.int .i64 2)))) (
 qs [n, b, a, op, a, b, n, op, a, b, n, op, a, b, n, op, a, b, n] (
 some (.int .i64 2)))) (
 qs [b, a, op, a, b, n, op, a, b, n, op, a, b, n, op, a, b, n] (
 some (.int .i64 2)))) (
 qs [b, a, op, a, b, n, op, a, b, n, op, a, b, n, op, a, b, n] (
 some (.int .i64 2)))) (
 qs [a, op, a, b, n, op, a, b, n, op, a, b, n, op, a, b, n] (
 some (.int .i64 2)))) (
 qs [a, op, a, b, n, op, a, b, n, op, a, b, n, op, a, b, n] (
 some (.int .i64 2))))) (
 cond ((symI formsL).int .i64 (0 + op.toNat * 1) == 3) (
 qs [n, n, a] (
 cond (decide (a ≥ 0)) (
 cond (decide (a < 16)) (
 cond (decide (n ≥ -2097152)) (
 cond (decide (n < 2097152)) (
 qs [n, a, op, a, n, op, a, n, op, a, n, op, a, n, op, a, n] (
 cond (!(op == op && (a == a && (0 == b && (0 == c && (n == n && true)))))) (
 some (.int .i64 2)) (
 some (.int .i64 0)))) (
 qs [n, a, op, a, n, op, a, n, op, a, n, op, a, n, op, a, n] (
 some (.int .i64 2)))) (
 qs [n, a, op, a, n, op, a, n, op, a, n, op, a, n, op, a, n] (
 some (.int .i64 2)))) (
 qs [a, op, a, n, op, a, n, op, a, n, op, a, n, op, a, n] (
 some (.int .i64 2)))) (
 qs [a, op, a, n, op, a, n, op, a, n, op, a, n, op, a, n] (
 some (.int .i64 2))))) (
 cond ((symI formsL).int .i64 (0 + op.toNat * 1) == 4) (
 cond (decide (n ≥ -2097152)) (
 cond (decide (n < 2097152)) (
 qs [n, op, n, op, n, op, n, op, n, op, n] (
 cond (!(op == op && (0 == a && (0 == b && (0 == c && (n == n && true)))))) (
 some (.int .i64 2)) (
 some (.int .i64 0)))) (
 qs [n, op, n, op, n, op, n, op, n, op, n] (
 some (.int .i64 2)))) (
 qs [n, op, n, op, n, op, n, op, n, op, n] (
 some (.int .i64 2)))) (
 cond ((symI formsL).int .i64 (0 + op.toNat * 1) == 5) (
 cond (decide (n ≥ 0)) (
 cond (decide (n ≤ 255)) (
 qs [n, n, n, op, n] (
 cond (!(op == op && (0 == a && (0 == b && (0 == c && (n == n && true)))))) (
 some (.int .i64 2)) (
 some (.int .i64 0)))) (
 qs [n, n, n, op, n] (
 some (.int .i64 2)))) (
 qs [n, op, n] (
 some (.int .i64 2)))) (
 cond ((symI formsL).int .i64 (0 + op.toNat * 1) == 6) (
 cond (decide (a ≥ 0)) (
 cond (decide (a < 16)) (
 qs [a, op, a, op, a, op, a, op, a, op, a] (
 cond (!(op == op && (a == a && (0 == b && (0 == c && (0 == n && true)))))) (
 some (.int .i64 2)) (
 some (.int .i64 0)))) (
 qs [a, op, a, op, a, op, a, op, a, op, a] (
 some (.int .i64 2)))) (
 qs [a, op, a, op, a, op, a, op, a, op, a] (
 some (.int .i64 2)))) (
 qs [op, op, op, op, op] (
 cond (!(op == op && (0 == a && (0 == b && (0 == c && (0 == n && true)))))) (
 some (.int .i64 2)) (
 some (.int .i64 0)))))))))) (
 none)) (
 none)) := by kernel_rfl
set_option maxRecDepth 100000 in
theorem q_form (gl : Gl) (op : Int) : evFm gl H0 50 [.int .u8 op] =
 cond (op == 0) (
 some (.int .i64 0)) (
 cond (op == 18) (
 some (.int .i64 0)) (
 cond (op == 21) (
 some (.int .i64 0)) (
 cond (op == 8) (
 some (.int .i64 2)) (
 cond (op == 9) (
 some (.int .i64 2)) (
 cond (op == 10) (
 some (.int .i64 2)) (
 cond (op == 13) (
 some (.int .i64 2)) (
 cond (op == 14) (
 some (.int .i64 2)) (
 cond (op == 15) (
 some (.int .i64 2)) (
 cond (op == 12) (
 some (.int .i64 3)) (
 cond (op == 16) (
 some (.int .i64 4)) (
 cond (op == 17) (
 some (.int .i64 4)) (
 cond (op == 19) (
 some (.int .i64 5)) (
 cond (op == 20) (
 some (.int .i64 6)) (
 some (.int .i64 1))))))))))))))) := by kernel_rfl
end Go.Proofs.YtpckfdopokmbkaaGreatDoor.Ev

namespace Go.Proofs.YtpckfdopokmbkaaGreatDoor.Ev
open Go
open Go.Proofs Go.RowKit

/-- The form of an instruction. -/
def formN (op : Int) : Int := nthI formsL op.toNat
/-- May an instruction be? -/
def cmay (op a b c n : Int) : Bool :=
  decide (0 ≤ op) && decide (op < 22) && (match formN op with
    | 1 => decide (a ≥ 0) && (decide (a < 16) && (decide (b ≥ 0) && (decide (b < 16) && (decide (c ≥ 0) && (decide (c < 16) && decide (0 = n))))))
    | 2 => decide (a ≥ 0) && (decide (a < 16) && (decide (b ≥ 0) && (decide (b < 16) && (decide (n ≥ -8192) && (decide (n < 8192) && decide (0 = c))))))
    | 3 => decide (a ≥ 0) && (decide (a < 16) && (decide (n ≥ -2097152) && (decide (n < 2097152) && (decide (0 = b) && decide (0 = c)))))
    | 4 => decide (n ≥ -2097152) && (decide (n < 2097152) && (decide (0 = a) && (decide (0 = b) && decide (0 = c))))
    | 5 => decide (n ≥ 0) && (decide (n ≤ 255) && (decide (0 = a) && (decide (0 = b) && decide (0 = c))))
    | 6 => decide (a ≥ 0) && (decide (a < 16) && (decide (0 = b) && (decide (0 = c) && decide (0 = n))))
    | _ => decide (0 = a) && (decide (0 = b) && (decide (0 = c) && decide (0 = n))))
theorem form_cases {op : Int} (h0 : 0 ≤ op) (h1 : op < 22) : formN op = 0 ∨ formN op = 1 ∨ formN op = 2 ∨ formN op = 3 ∨ formN op = 4 ∨ formN op = 5 ∨ formN op = 6 := by
  obtain ⟨k, rfl⟩ : ∃ k : Nat, op = (k : Int) := ⟨op.toNat, by omega⟩
  have : ∀ k : Fin 22, nthI formsL k.1 = 0 ∨ nthI formsL k.1 = 1 ∨ nthI formsL k.1 = 2 ∨ nthI formsL k.1 = 3 ∨ nthI formsL k.1 = 4 ∨ nthI formsL k.1 = 5 ∨ nthI formsL k.1 = 6 := by decide
  exact this ⟨k, by omega⟩
theorem beqI (a b : Int) : (a == b) = decide (a = b) := rfl
theorem cmay_eq (gl : Gl) (op a b c n : Int) (h0 : 0 ≤ op) : evFm gl H0 61 [cdV op a b c n] = some (.int .i64 (cond (cmay op a b c n) 0 2)) := by
  rw [r_cmay]
  by_cases h : op ≥ 22
  · rw [decide_eq_true h]
    unfold cmay
    rw [decide_eq_false (show ¬ op < 22 by omega), Bool.and_false, Bool.false_and]
    rfl
  have h1 : op < 22 := by omega
  have k0 : (symI formsL).okI .i64 (0 + op.toNat * 1) = true := by
    simp only [symI, decide_true, Bool.true_and]
    exact nbl (by show _ ≤ 22; omega)
  have k1 : (symI formsL).int .i64 (0 + op.toNat * 1) = formN op := by
    show nthI formsL (0 + op.toNat * 1) = nthI formsL op.toNat
    rw [Nat.zero_add, Nat.mul_one]
  have hf := form_cases h0 h1
  unfold cmay
  simp only [decide_eq_false h, decide_eq_true h0, decide_eq_true h1, Bool.and_self, cond_true, cond_false, k0, k1, qs_eq, beqI, decide_true, Bool.true_and, Bool.and_true]
  generalize formN op = f at *
  rcases hf with e | e | e | e | e | e | e <;> subst e
  · cases decide (0 = a) <;> cases decide (0 = b) <;> cases decide (0 = c) <;> cases decide (0 = n) <;> rfl
  · cases decide (a ≥ 0) <;> cases decide (a < 16) <;> cases decide (b ≥ 0) <;> cases decide (b < 16) <;> cases decide (c ≥ 0) <;> cases decide (c < 16) <;> cases decide (0 = n) <;> rfl
  · cases decide (a ≥ 0) <;> cases decide (a < 16) <;> cases decide (b ≥ 0) <;> cases decide (b < 16) <;> cases decide (n ≥ -8192) <;> cases decide (n < 8192) <;> cases decide (0 = c) <;> rfl
  · cases decide (a ≥ 0) <;> cases decide (a < 16) <;> cases decide (n ≥ -2097152) <;> cases decide (n < 2097152) <;> cases decide (0 = b) <;> cases decide (0 = c) <;> rfl
  · cases decide (n ≥ -2097152) <;> cases decide (n < 2097152) <;> cases decide (0 = a) <;> cases decide (0 = b) <;> cases decide (0 = c) <;> rfl
  · cases decide (n ≥ 0) <;> cases decide (n ≤ 255) <;> cases decide (0 = a) <;> cases decide (0 = b) <;> cases decide (0 = c) <;> rfl
  · cases decide (a ≥ 0) <;> cases decide (a < 16) <;> cases decide (0 = b) <;> cases decide (0 = c) <;> cases decide (0 = n) <;> rfl
end Go.Proofs.YtpckfdopokmbkaaGreatDoor.Ev

namespace Go.Proofs.YtpckfdopokmbkaaGreatDoor.Ev
open Go
open Go.Proofs Go.RowKit

/-! Instructions and words. -/
abbrev C5 (α : Type) := Int → Int → Int → Int → Int → α
def afCd (gg : C5 Bool) (vv : C5 Value) : AF := fun args _ => match args with
  | [.agg ⟨[.int .u8 op, .int .i64 a, .int .i64 b, .int .i64 c, .int .i64 n]⟩] => some (decide (0 ≤ op) && gg op a b c n, vv op a b c n)
  | _ => none
def tt5 : C5 Bool := fun _ _ _ _ _ => true
def i5 (k : IntKind) (m : C5 Int) : C5 Value := fun op a b c n => .int k (m op a b c n)
def afForm (ff : Int → Int) : AF := fun args _ => match args with
  | [.int .u8 op] => some (decide (0 ≤ op), .int .i64 (ff op))
  | _ => none
def HM3 (mm : C5 Int) : Hs := hsOf [(61, afCd tt5 (i5 .i64 mm))] [] []
def HM3r (ff : Int → Int) : Hs := hsOf [(50, afForm ff)] [] []
def HM3p (pw pe : C5 Int) : Hs := hsOf [(42, afCd tt5 fun op a b c n => .tuple #[.int .u32 (pw op a b c n), .int .i64 (pe op a b c n)])] [] []
def HM3t (ff : Int → Int) (mb gg : C5 Bool) (ww : C5 Int) : Hs := hsOf [(50, afForm ff), (51, afCd tt5 fun op a b c n => .bool (mb op a b c n)), (52, afCd gg (i5 .u32 ww))] [] []
set_option maxRecDepth 100000 in
theorem r_cput (gl : Gl) (mm : C5 Int) (op a b c n : Int) : evFm gl (HM3 mm) 42 [cdV op a b c n] =
 cond (decide (0 ≤ op) && true) (
 cond (mm op a b c n != 0) (
 some (.tuple #[(.int .u32 0), (.int .i64 (mm op a b c n))])) (
 cond (decide (0 ≤ op) && (decide (op < 22))) (
 cond ((symI formsL).okI .i64 (0 + op.toNat * 1)) (
 cond ((symI formsL).int .i64 (0 + op.toNat * 1) == 2) (
 some (.tuple #[(.int .u32 (IntKind.u32.wrap (↑(BitVec.ofInt 32 (IntKind.u32.wrap (↑(BitVec.ofInt 32 (IntKind.u32.wrap (↑(BitVec.ofInt 32 (IntKind.u32.wrap (↑(BitVec.ofInt 32 (IntKind.u32.wrap (IntKind.u32.wrap op * 67108864)) ||| BitVec.ofInt 32 (IntKind.u32.wrap (IntKind.u32.wrap a * 4194304))).toNat : Int)) ||| BitVec.ofInt 32 (IntKind.u32.wrap (IntKind.u32.wrap b * 262144))).toNat : Int)) ||| BitVec.ofInt 32 (IntKind.u32.wrap (IntKind.u32.wrap c * 16384))).toNat : Int)) ||| BitVec.ofInt 32 (IntKind.u32.wrap (↑(BitVec.ofInt 32 (IntKind.u32.wrap n) &&& BitVec.ofInt 32 16383).toNat : Int))).toNat : Int))), (.int .i64 0)])) (
 some (.tuple #[(.int .u32 (IntKind.u32.wrap (↑(BitVec.ofInt 32 (IntKind.u32.wrap (↑(BitVec.ofInt 32 (IntKind.u32.wrap (↑(BitVec.ofInt 32 (IntKind.u32.wrap (↑(BitVec.ofInt 32 (IntKind.u32.wrap (IntKind.u32.wrap op * 67108864)) ||| BitVec.ofInt 32 (IntKind.u32.wrap (IntKind.u32.wrap a * 4194304))).toNat : Int)) ||| BitVec.ofInt 32 (IntKind.u32.wrap (IntKind.u32.wrap b * 262144))).toNat : Int)) ||| BitVec.ofInt 32 (IntKind.u32.wrap (IntKind.u32.wrap c * 16384))).toNat : Int)) ||| BitVec.ofInt 32 (IntKind.u32.wrap (↑(BitVec.ofInt 32 (IntKind.u32.wrap n) &&& BitVec.ofInt 32 4194303).toNat : Int))).toNat : Int))), (.int .i64 0)]))) (
 none)) (
 none))) (
 none) := by kernel_rfl
set_option maxRecDepth 100000 in
theorem r_rmay (gl : Gl) (ff : Int → Int) (op a b c n : Int) : evFm gl (HM3r ff) 51 [cdV op a b c n] =
 cond (decide (op > 21)) (
 some (.bool false)) (
 cond (decide (a ≥ 0)) (
 cond (decide (a ≤ 15)) (
 cond (decide (b ≥ 0)) (
 cond (decide (b ≤ 15)) (
 cond (decide (c ≥ 0)) (
 cond (decide (c ≤ 15)) (
 cond (decide (0 ≤ op)) (
 cond (ff op != 1) (
 cond (c != 0) (
 some (.bool false)) (
 cond (ff op != 1) (
 cond (ff op != 2) (
 cond (b != 0) (
 some (.bool false)) (
 cond (ff op == 0) (
 cond (a != 0) (
 some (.bool false)) (
 cond (ff op == 2) (
 cond (decide (n ≥ -8192)) (
 cond (decide (n ≤ 8191)) (
 some (.bool true)) (
 some (.bool false))) (
 some (.bool false))) (
 cond (ff op == 3) (
 cond (decide (n ≥ -2097152)) (
 cond (decide (n ≤ 2097151)) (
 some (.bool true)) (
 some (.bool false))) (
 some (.bool false))) (
 cond (ff op == 4) (
 cond (decide (n ≥ -2097152)) (
 cond (decide (n ≤ 2097151)) (
 some (.bool true)) (
 some (.bool false))) (
 some (.bool false))) (
 cond (ff op == 5) (
 cond (decide (n ≥ 0)) (
 cond (decide (n ≤ 255)) (
 some (.bool true)) (
 some (.bool false))) (
 some (.bool false))) (
 cond (n == 0) (
 some (.bool true)) (
 some (.bool false)))))))) (
 cond (ff op == 4) (
 cond (a != 0) (
 some (.bool false)) (
 cond (ff op == 2) (
 cond (decide (n ≥ -8192)) (
 cond (decide (n ≤ 8191)) (
 some (.bool true)) (
 some (.bool false))) (
 some (.bool false))) (
 cond (ff op == 3) (
 cond (decide (n ≥ -2097152)) (
 cond (decide (n ≤ 2097151)) (
 some (.bool true)) (
 some (.bool false))) (
 some (.bool false))) (
 cond (ff op == 4) (
 cond (decide (n ≥ -2097152)) (
 cond (decide (n ≤ 2097151)) (
 some (.bool true)) (
 some (.bool false))) (
 some (.bool false))) (
 cond (ff op == 5) (
 cond (decide (n ≥ 0)) (
 cond (decide (n ≤ 255)) (
 some (.bool true)) (
 some (.bool false))) (
 some (.bool false))) (
 cond (n == 0) (
 some (.bool true)) (
 some (.bool false)))))))) (
 cond (ff op == 5) (
 cond (a != 0) (
 some (.bool false)) (
 cond (ff op == 2) (
 cond (decide (n ≥ -8192)) (
 cond (decide (n ≤ 8191)) (
 some (.bool true)) (
 some (.bool false))) (
 some (.bool false))) (
 cond (ff op == 3) (
 cond (decide (n ≥ -2097152)) (
 cond (decide (n ≤ 2097151)) (
 some (.bool true)) (
 some (.bool false))) (
 some (.bool false))) (
 cond (ff op == 4) (
 cond (decide (n ≥ -2097152)) (
 cond (decide (n ≤ 2097151)) (
 some (.bool true)) (
 some (.bool false))) (
 some (.bool false))) (
 cond (ff op == 5) (
 cond (decide (n ≥ 0)) (
 cond (decide (n ≤ 255)) (
 some (.bool true)) (
 some (.bool false))) (
 some (.bool false))) (
 cond (n == 0) (
 some (.bool true)) (
 some (.bool false)))))))) (
 cond (ff op == 2) (
 cond (decide (n ≥ -8192)) (
 cond (decide (n ≤ 8191)) (
 some (.bool true)) (
 some (.bool false))) (
 some (.bool false))) (
 cond (ff op == 3) (
 cond (decide (n ≥ -2097152)) (
 cond (decide (n ≤ 2097151)) (
 some (.bool true)) (
 some (.bool false))) (
 some (.bool false))) (
 cond (ff op == 4) (
 cond (decide (n ≥ -2097152)) (
 cond (decide (n ≤ 2097151)) (
 some (.bool true)) (
 some (.bool false))) (
 some (.bool false))) (
 cond (ff op == 5) (
 cond (decide (n ≥ 0)) (
 cond (decide (n ≤ 255)) (
 some (.bool true)) (
 some (.bool false))) (
 some (.bool false))) (
 cond (n == 0) (
 some (.bool true)) (
 some (.bool false))))))))))) (
 cond (ff op == 0) (
 cond (a != 0) (
 some (.bool false)) (
 cond (ff op == 2) (
 cond (decide (n ≥ -8192)) (
 cond (decide (n ≤ 8191)) (
 some (.bool true)) (
 some (.bool false))) (
 some (.bool false))) (
 cond (ff op == 3) (
 cond (decide (n ≥ -2097152)) (
 cond (decide (n ≤ 2097151)) (
 some (.bool true)) (
 some (.bool false))) (
 some (.bool false))) (
 cond (ff op == 4) (
 cond (decide (n ≥ -2097152)) (
 cond (decide (n ≤ 2097151)) (
 some (.bool true)) (
 some (.bool false))) (
 some (.bool false))) (
 cond (ff op == 5) (
 cond (decide (n ≥ 0)) (
 cond (decide (n ≤ 255)) (
 some (.bool true)) (
 some (.bool false))) (
 some (.bool false))) (
 cond (n == 0) (
 some (.bool true)) (
 some (.bool false)))))))) (
 cond (ff op == 4) (
 cond (a != 0) (
 some (.bool false)) (
 cond (ff op == 2) (
 cond (decide (n ≥ -8192)) (
 cond (decide (n ≤ 8191)) (
 some (.bool true)) (
 some (.bool false))) (
 some (.bool false))) (
 cond (ff op == 3) (
 cond (decide (n ≥ -2097152)) (
 cond (decide (n ≤ 2097151)) (
 some (.bool true)) (
 some (.bool false))) (
 some (.bool false))) (
 cond (ff op == 4) (
 cond (decide (n ≥ -2097152)) (
 cond (decide (n ≤ 2097151)) (
 some (.bool true)) (
 some (.bool false))) (
 some (.bool false))) (
 cond (ff op == 5) (
 cond (decide (n ≥ 0)) (
 cond (decide (n ≤ 255)) (
 some (.bool true)) (
 some (.bool false))) (
 some (.bool false))) (
 cond (n == 0) (
 some (.bool true)) (
 some (.bool false)))))))) (
 cond (ff op == 5) (
 cond (a != 0) (
 some (.bool false)) (
 cond (ff op == 2) (
 cond (decide (n ≥ -8192)) (
 cond (decide (n ≤ 8191)) (
 some (.bool true)) (
 some (.bool false))) (
 some (.bool false))) (
 cond (ff op == 3) (
 cond (decide (n ≥ -2097152)) (
 cond (decide (n ≤ 2097151)) (
 some (.bool true)) (
 some (.bool false))) (
 some (.bool false))) (
 cond (ff op == 4) (
 cond (decide (n ≥ -2097152)) (
 cond (decide (n ≤ 2097151)) (
 some (.bool true)) (
 some (.bool false))) (
 some (.bool false))) (
 cond (ff op == 5) (
 cond (decide (n ≥ 0)) (
 cond (decide (n ≤ 255)) (
 some (.bool true)) (
 some (.bool false))) (
 some (.bool false))) (
 cond (n == 0) (
 some (.bool true)) (
 some (.bool false)))))))) (
 cond (ff op == 2) (
 cond (decide (n ≥ -8192)) (
 cond (decide (n ≤ 8191)) (
 some (.bool true)) (
 some (.bool false))) (
 some (.bool false))) (
 cond (ff op == 3) (
 cond (decide (n ≥ -2097152)) (
 cond (decide (n ≤ 2097151)) (
 some (.bool true)) (
 some (.bool false))) (
 some (.bool false))) (
 cond (ff op == 4) (
 cond (decide (n ≥ -2097152)) (
 cond (decide (n ≤ 2097151)) (
 some (.bool true)) (
 some (.bool false))) (
 some (.bool false))) (
 cond (ff op == 5) (
 cond (decide (n ≥ 0)) (
 cond (decide (n ≤ 255)) (
 some (.bool true)) (
 some (.bool false))) (
 some (.bool false))) (
 cond (n == 0) (
 some (.bool true)) (
 some (.bool false))))))))))) (
 cond (ff op == 0) (
 cond (a != 0) (
 some (.bool false)) (
 cond (ff op == 2) (
 cond (decide (n ≥ -8192)) (
 cond (decide (n ≤ 8191)) (
 some (.bool true)) (
 some (.bool false))) (
 some (.bool false))) (
 cond (ff op == 3) (
 cond (decide (n ≥ -2097152)) (
 cond (decide (n ≤ 2097151)) (
 some (.bool true)) (
 some (.bool false))) (
 some (.bool false))) (
 cond (ff op == 4) (
 cond (decide (n ≥ -2097152)) (
 cond (decide (n ≤ 2097151)) (
 some (.bool true)) (
 some (.bool false))) (
 some (.bool false))) (
 cond (ff op == 5) (
 cond (decide (n ≥ 0)) (
 cond (decide (n ≤ 255)) (
 some (.bool true)) (
 some (.bool false))) (
 some (.bool false))) (
 cond (n == 0) (
 some (.bool true)) (
 some (.bool false)))))))) (
 cond (ff op == 4) (
 cond (a != 0) (
 some (.bool false)) (
 cond (ff op == 2) (
 cond (decide (n ≥ -8192)) (
 cond (decide (n ≤ 8191)) (
 some (.bool true)) (
 some (.bool false))) (
 some (.bool false))) (
 cond (ff op == 3) (
 cond (decide (n ≥ -2097152)) (
 cond (decide (n ≤ 2097151)) (
 some (.bool true)) (
 some (.bool false))) (
 some (.bool false))) (
 cond (ff op == 4) (
 cond (decide (n ≥ -2097152)) (
 cond (decide (n ≤ 2097151)) (
 some (.bool true)) (
 some (.bool false))) (
 some (.bool false))) (
 cond (ff op == 5) (
 cond (decide (n ≥ 0)) (
 cond (decide (n ≤ 255)) (
 some (.bool true)) (
 some (.bool false))) (
 some (.bool false))) (
 cond (n == 0) (
 some (.bool true)) (
 some (.bool false)))))))) (
 cond (ff op == 5) (
 cond (a != 0) (
 some (.bool false)) (
 cond (ff op == 2) (
 cond (decide (n ≥ -8192)) (
 cond (decide (n ≤ 8191)) (
 some (.bool true)) (
 some (.bool false))) (
 some (.bool false))) (
 cond (ff op == 3) (
 cond (decide (n ≥ -2097152)) (
 cond (decide (n ≤ 2097151)) (
 some (.bool true)) (
 some (.bool false))) (
 some (.bool false))) (
 cond (ff op == 4) (
 cond (decide (n ≥ -2097152)) (
 cond (decide (n ≤ 2097151)) (
 some (.bool true)) (
 some (.bool false))) (
 some (.bool false))) (
 cond (ff op == 5) (
 cond (decide (n ≥ 0)) (
 cond (decide (n ≤ 255)) (
 some (.bool true)) (
 some (.bool false))) (
 some (.bool false))) (
 cond (n == 0) (
 some (.bool true)) (
 some (.bool false)))))))) (
 cond (ff op == 2) (
 cond (decide (n ≥ -8192)) (
 cond (decide (n ≤ 8191)) (
 some (.bool true)) (
 some (.bool false))) (
 some (.bool false))) (
 cond (ff op == 3) (
 cond (decide (n ≥ -2097152)) (
 cond (decide (n ≤ 2097151)) (
 some (.bool true)) (
 some (.bool false))) (
 some (.bool false))) (
 cond (ff op == 4) (
 cond (decide (n ≥ -2097152)) (
 cond (decide (n ≤ 2097151)) (
 some (.bool true)) (
 some (.bool false))) (
 some (.bool false))) (
 cond (ff op == 5) (
 cond (decide (n ≥ 0)) (
 cond (decide (n ≤ 255)) (
 some (.bool true)) (
 some (.bool false))) (
 some (.bool false))) (
 cond (n == 0) (
 some (.bool true)) (
 some (.bool false)))))))))))) (
 cond (ff op != 1) (
 cond (ff op != 2) (
 cond (b != 0) (
 some (.bool false)) (
 cond (ff op == 0) (
 cond (a != 0) (
 some (.bool false)) (
 cond (ff op == 2) (
 cond (decide (n ≥ -8192)) (
 cond (decide (n ≤ 8191)) (
 some (.bool true)) (
 some (.bool false))) (
 some (.bool false))) (
 cond (ff op == 3) (
 cond (decide (n ≥ -2097152)) (
 cond (decide (n ≤ 2097151)) (
 some (.bool true)) (
 some (.bool false))) (
 some (.bool false))) (
 cond (ff op == 4) (
 cond (decide (n ≥ -2097152)) (
 cond (decide (n ≤ 2097151)) (
 some (.bool true)) (
 some (.bool false))) (
 some (.bool false))) (
 cond (ff op == 5) (
 cond (decide (n ≥ 0)) (
 cond (decide (n ≤ 255)) (
 some (.bool true)) (
 some (.bool false))) (
 some (.bool false))) (
 cond (n == 0) (
 some (.bool true)) (
 some (.bool false)))))))) (
 cond (ff op == 4) (
 cond (a != 0) (
 some (.bool false)) (
 cond (ff op == 2) (
 cond (decide (n ≥ -8192)) (
 cond (decide (n ≤ 8191)) (
 some (.bool true)) (
 some (.bool false))) (
 some (.bool false))) (
 cond (ff op == 3) (
 cond (decide (n ≥ -2097152)) (
 cond (decide (n ≤ 2097151)) (
 some (.bool true)) (
 some (.bool false))) (
 some (.bool false))) (
 cond (ff op == 4) (
 cond (decide (n ≥ -2097152)) (
 cond (decide (n ≤ 2097151)) (
 some (.bool true)) (
 some (.bool false))) (
 some (.bool false))) (
 cond (ff op == 5) (
 cond (decide (n ≥ 0)) (
 cond (decide (n ≤ 255)) (
 some (.bool true)) (
 some (.bool false))) (
 some (.bool false))) (
 cond (n == 0) (
 some (.bool true)) (
 some (.bool false)))))))) (
 cond (ff op == 5) (
 cond (a != 0) (
 some (.bool false)) (
 cond (ff op == 2) (
 cond (decide (n ≥ -8192)) (
 cond (decide (n ≤ 8191)) (
 some (.bool true)) (
 some (.bool false))) (
 some (.bool false))) (
 cond (ff op == 3) (
 cond (decide (n ≥ -2097152)) (
 cond (decide (n ≤ 2097151)) (
 some (.bool true)) (
 some (.bool false))) (
 some (.bool false))) (
 cond (ff op == 4) (
 cond (decide (n ≥ -2097152)) (
 cond (decide (n ≤ 2097151)) (
 some (.bool true)) (
 some (.bool false))) (
 some (.bool false))) (
 cond (ff op == 5) (
 cond (decide (n ≥ 0)) (
 cond (decide (n ≤ 255)) (
 some (.bool true)) (
 some (.bool false))) (
 some (.bool false))) (
 cond (n == 0) (
 some (.bool true)) (
 some (.bool false)))))))) (
 cond (ff op == 2) (
 cond (decide (n ≥ -8192)) (
 cond (decide (n ≤ 8191)) (
 some (.bool true)) (
 some (.bool false))) (
 some (.bool false))) (
 cond (ff op == 3) (
 cond (decide (n ≥ -2097152)) (
 cond (decide (n ≤ 2097151)) (
 some (.bool true)) (
 some (.bool false))) (
 some (.bool false))) (
 cond (ff op == 4) (
 cond (decide (n ≥ -2097152)) (
 cond (decide (n ≤ 2097151)) (
 some (.bool true)) (
 some (.bool false))) (
 some (.bool false))) (
 cond (ff op == 5) (
 cond (decide (n ≥ 0)) (
 cond (decide (n ≤ 255)) (
 some (.bool true)) (
 some (.bool false))) (
 some (.bool false))) (
 cond (n == 0) (
 some (.bool true)) (
 some (.bool false))))))))))) (
 cond (ff op == 0) (
 cond (a != 0) (
 some (.bool false)) (
 cond (ff op == 2) (
 cond (decide (n ≥ -8192)) (
 cond (decide (n ≤ 8191)) (
 some (.bool true)) (
 some (.bool false))) (
 some (.bool false))) (
 cond (ff op == 3) (
 cond (decide (n ≥ -2097152)) (
 cond (decide (n ≤ 2097151)) (
 some (.bool true)) (
 some (.bool false))) (
 some (.bool false))) (
 cond (ff op == 4) (
 cond (decide (n ≥ -2097152)) (
 cond (decide (n ≤ 2097151)) (
 some (.bool true)) (
 some (.bool false))) (
 some (.bool false))) (
 cond (ff op == 5) (
 cond (decide (n ≥ 0)) (
 cond (decide (n ≤ 255)) (
 some (.bool true)) (
 some (.bool false))) (
 some (.bool false))) (
 cond (n == 0) (
 some (.bool true)) (
 some (.bool false)))))))) (
 cond (ff op == 4) (
 cond (a != 0) (
 some (.bool false)) (
 cond (ff op == 2) (
 cond (decide (n ≥ -8192)) (
 cond (decide (n ≤ 8191)) (
 some (.bool true)) (
 some (.bool false))) (
 some (.bool false))) (
 cond (ff op == 3) (
 cond (decide (n ≥ -2097152)) (
 cond (decide (n ≤ 2097151)) (
 some (.bool true)) (
 some (.bool false))) (
 some (.bool false))) (
 cond (ff op == 4) (
 cond (decide (n ≥ -2097152)) (
 cond (decide (n ≤ 2097151)) (
 some (.bool true)) (
 some (.bool false))) (
 some (.bool false))) (
 cond (ff op == 5) (
 cond (decide (n ≥ 0)) (
 cond (decide (n ≤ 255)) (
 some (.bool true)) (
 some (.bool false))) (
 some (.bool false))) (
 cond (n == 0) (
 some (.bool true)) (
 some (.bool false)))))))) (
 cond (ff op == 5) (
 cond (a != 0) (
 some (.bool false)) (
 cond (ff op == 2) (
 cond (decide (n ≥ -8192)) (
 cond (decide (n ≤ 8191)) (
 some (.bool true)) (
 some (.bool false))) (
 some (.bool false))) (
 cond (ff op == 3) (
 cond (decide (n ≥ -2097152)) (
 cond (decide (n ≤ 2097151)) (
 some (.bool true)) (
 some (.bool false))) (
 some (.bool false))) (
 cond (ff op == 4) (
 cond (decide (n ≥ -2097152)) (
 cond (decide (n ≤ 2097151)) (
 some (.bool true)) (
 some (.bool false))) (
 some (.bool false))) (
 cond (ff op == 5) (
 cond (decide (n ≥ 0)) (
 cond (decide (n ≤ 255)) (
 some (.bool true)) (
 some (.bool false))) (
 some (.bool false))) (
 cond (n == 0) (
 some (.bool true)) (
 some (.bool false)))))))) (
 cond (ff op == 2) (
 cond (decide (n ≥ -8192)) (
 cond (decide (n ≤ 8191)) (
 some (.bool true)) (
 some (.bool false))) (
 some (.bool false))) (
 cond (ff op == 3) (
 cond (decide (n ≥ -2097152)) (
 cond (decide (n ≤ 2097151)) (
 some (.bool true)) (
 some (.bool false))) (
 some (.bool false))) (
 cond (ff op == 4) (
 cond (decide (n ≥ -2097152)) (
 cond (decide (n ≤ 2097151)) (
 some (.bool true)) (
 some (.bool false))) (
 some (.bool false))) (
 cond (ff op == 5) (
 cond (decide (n ≥ 0)) (
 cond (decide (n ≤ 255)) (
 some (.bool true)) (
 some (.bool false))) (
 some (.bool false))) (
 cond (n == 0) (
 some (.bool true)) (
 some (.bool false))))))))))) (
 cond (ff op == 0) (
 cond (a != 0) (
 some (.bool false)) (
 cond (ff op == 2) (
 cond (decide (n ≥ -8192)) (
 cond (decide (n ≤ 8191)) (
 some (.bool true)) (
 some (.bool false))) (
 some (.bool false))) (
 cond (ff op == 3) (
 cond (decide (n ≥ -2097152)) (
 cond (decide (n ≤ 2097151)) (
 some (.bool true)) (
 some (.bool false))) (
 some (.bool false))) (
 cond (ff op == 4) (
 cond (decide (n ≥ -2097152)) (
 cond (decide (n ≤ 2097151)) (
 some (.bool true)) (
 some (.bool false))) (
 some (.bool false))) (
 cond (ff op == 5) (
 cond (decide (n ≥ 0)) (
 cond (decide (n ≤ 255)) (
 some (.bool true)) (
 some (.bool false))) (
 some (.bool false))) (
 cond (n == 0) (
 some (.bool true)) (
 some (.bool false)))))))) (
 cond (ff op == 4) (
 cond (a != 0) (
 some (.bool false)) (
 cond (ff op == 2) (
 cond (decide (n ≥ -8192)) (
 cond (decide (n ≤ 8191)) (
 some (.bool true)) (
 some (.bool false))) (
 some (.bool false))) (
 cond (ff op == 3) (
 cond (decide (n ≥ -2097152)) (
 cond (decide (n ≤ 2097151)) (
 some (.bool true)) (
 some (.bool false))) (
 some (.bool false))) (
 cond (ff op == 4) (
 cond (decide (n ≥ -2097152)) (
 cond (decide (n ≤ 2097151)) (
 some (.bool true)) (
 some (.bool false))) (
 some (.bool false))) (
 cond (ff op == 5) (
 cond (decide (n ≥ 0)) (
 cond (decide (n ≤ 255)) (
 some (.bool true)) (
 some (.bool false))) (
 some (.bool false))) (
 cond (n == 0) (
 some (.bool true)) (
 some (.bool false)))))))) (
 cond (ff op == 5) (
 cond (a != 0) (
 some (.bool false)) (
 cond (ff op == 2) (
 cond (decide (n ≥ -8192)) (
 cond (decide (n ≤ 8191)) (
 some (.bool true)) (
 some (.bool false))) (
 some (.bool false))) (
 cond (ff op == 3) (
 cond (decide (n ≥ -2097152)) (
 cond (decide (n ≤ 2097151)) (
 some (.bool true)) (
 some (.bool false))) (
 some (.bool false))) (
 cond (ff op == 4) (
 cond (decide (n ≥ -2097152)) (
 cond (decide (n ≤ 2097151)) (
 some (.bool true)) (
 some (.bool false))) (
 some (.bool false))) (
 cond (ff op == 5) (
 cond (decide (n ≥ 0)) (
 cond (decide (n ≤ 255)) (
 some (.bool true)) (
 some (.bool false))) (
 some (.bool false))) (
 cond (n == 0) (
 some (.bool true)) (
 some (.bool false)))))))) (
 cond (ff op == 2) (
 cond (decide (n ≥ -8192)) (
 cond (decide (n ≤ 8191)) (
 some (.bool true)) (
 some (.bool false))) (
 some (.bool false))) (
 cond (ff op == 3) (
 cond (decide (n ≥ -2097152)) (
 cond (decide (n ≤ 2097151)) (
 some (.bool true)) (
 some (.bool false))) (
 some (.bool false))) (
 cond (ff op == 4) (
 cond (decide (n ≥ -2097152)) (
 cond (decide (n ≤ 2097151)) (
 some (.bool true)) (
 some (.bool false))) (
 some (.bool false))) (
 cond (ff op == 5) (
 cond (decide (n ≥ 0)) (
 cond (decide (n ≤ 255)) (
 some (.bool true)) (
 some (.bool false))) (
 some (.bool false))) (
 cond (n == 0) (
 some (.bool true)) (
 some (.bool false)))))))))))) (
 none)) (
 some (.bool false))) (
 some (.bool false))) (
 some (.bool false))) (
 some (.bool false))) (
 some (.bool false))) (
 some (.bool false))) := by kernel_rfl
set_option maxRecDepth 100000 in
theorem r_rword (gl : Gl) (ff : Int → Int) (op a b c n : Int) : evFm gl (HM3r ff) 52 [cdV op a b c n] =
 cond (decide (0 ≤ op)) (
 cond (ff op == 2) (
 cond (decide (n < 0)) (
 cond (decide (0 ≤ op)) (
 cond (ff op != 2) (
 cond (decide (IntKind.i64.wrap (n + 16384) < 0)) (
 some (.int .u32 (IntKind.u32.wrap (IntKind.i64.wrap (IntKind.i64.wrap (IntKind.i64.wrap (IntKind.i64.wrap (IntKind.i64.wrap (IntKind.i64.wrap (IntKind.i64.wrap (IntKind.i64.wrap (IntKind.i64.wrap op * 16) + a) * 16) + b) * 16) + c) * 16384) + IntKind.i64.wrap (IntKind.i64.wrap (n + 16384) + 4194304)))))) (
 some (.int .u32 (IntKind.u32.wrap (IntKind.i64.wrap (IntKind.i64.wrap (IntKind.i64.wrap (IntKind.i64.wrap (IntKind.i64.wrap (IntKind.i64.wrap (IntKind.i64.wrap (IntKind.i64.wrap (IntKind.i64.wrap op * 16) + a) * 16) + b) * 16) + c) * 16384) + IntKind.i64.wrap (n + 16384))))))) (
 some (.int .u32 (IntKind.u32.wrap (IntKind.i64.wrap (IntKind.i64.wrap (IntKind.i64.wrap (IntKind.i64.wrap (IntKind.i64.wrap (IntKind.i64.wrap (IntKind.i64.wrap (IntKind.i64.wrap (IntKind.i64.wrap op * 16) + a) * 16) + b) * 16) + c) * 16384) + IntKind.i64.wrap (n + 16384))))))) (
 none)) (
 cond (decide (0 ≤ op)) (
 cond (ff op != 2) (
 cond (decide (n < 0)) (
 some (.int .u32 (IntKind.u32.wrap (IntKind.i64.wrap (IntKind.i64.wrap (IntKind.i64.wrap (IntKind.i64.wrap (IntKind.i64.wrap (IntKind.i64.wrap (IntKind.i64.wrap (IntKind.i64.wrap (IntKind.i64.wrap op * 16) + a) * 16) + b) * 16) + c) * 16384) + IntKind.i64.wrap (n + 4194304)))))) (
 some (.int .u32 (IntKind.u32.wrap (IntKind.i64.wrap (IntKind.i64.wrap (IntKind.i64.wrap (IntKind.i64.wrap (IntKind.i64.wrap (IntKind.i64.wrap (IntKind.i64.wrap (IntKind.i64.wrap (IntKind.i64.wrap op * 16) + a) * 16) + b) * 16) + c) * 16384) + n)))))) (
 some (.int .u32 (IntKind.u32.wrap (IntKind.i64.wrap (IntKind.i64.wrap (IntKind.i64.wrap (IntKind.i64.wrap (IntKind.i64.wrap (IntKind.i64.wrap (IntKind.i64.wrap (IntKind.i64.wrap (IntKind.i64.wrap op * 16) + a) * 16) + b) * 16) + c) * 16384) + n)))))) (
 none))) (
 cond (decide (0 ≤ op)) (
 cond (ff op != 2) (
 cond (decide (n < 0)) (
 some (.int .u32 (IntKind.u32.wrap (IntKind.i64.wrap (IntKind.i64.wrap (IntKind.i64.wrap (IntKind.i64.wrap (IntKind.i64.wrap (IntKind.i64.wrap (IntKind.i64.wrap (IntKind.i64.wrap (IntKind.i64.wrap op * 16) + a) * 16) + b) * 16) + c) * 16384) + IntKind.i64.wrap (n + 4194304)))))) (
 some (.int .u32 (IntKind.u32.wrap (IntKind.i64.wrap (IntKind.i64.wrap (IntKind.i64.wrap (IntKind.i64.wrap (IntKind.i64.wrap (IntKind.i64.wrap (IntKind.i64.wrap (IntKind.i64.wrap (IntKind.i64.wrap op * 16) + a) * 16) + b) * 16) + c) * 16384) + n)))))) (
 some (.int .u32 (IntKind.u32.wrap (IntKind.i64.wrap (IntKind.i64.wrap (IntKind.i64.wrap (IntKind.i64.wrap (IntKind.i64.wrap (IntKind.i64.wrap (IntKind.i64.wrap (IntKind.i64.wrap (IntKind.i64.wrap op * 16) + a) * 16) + b) * 16) + c) * 16384) + n)))))) (
 none))) (
 none) := by kernel_rfl
set_option maxRecDepth 100000 in
theorem r_ctake (gl : Gl) (pw pe : C5 Int) (x : Int) : evFm gl (HM3p pw pe) 25 [.int .u32 x] =
 cond (decide (IntKind.u8.wrap (x.fdiv 67108864) ≥ 22)) (
 some (.tuple #[(.agg #[(.int .u8 0), (.int .i64 0), (.int .i64 0), (.int .i64 0), (.int .i64 0)]), (.int .i64 6)])) (
 cond (decide (0 ≤ IntKind.u8.wrap (x.fdiv 67108864)) && (decide (IntKind.u8.wrap (x.fdiv 67108864) < 22))) (
 cond ((symI formsL).okI .i64 (0 + (IntKind.u8.wrap (x.fdiv 67108864)).toNat * 1)) (
 cond ((symI formsL).int .i64 (0 + (IntKind.u8.wrap (x.fdiv 67108864)).toNat * 1) == 1) (
 cond (decide (0 ≤ IntKind.u8.wrap (x.fdiv 67108864)) && true) (
 cond (pe (IntKind.u8.wrap (x.fdiv 67108864)) (IntKind.i64.wrap (IntKind.u32.wrap (↑(BitVec.ofInt 32 (x.fdiv 4194304) &&& BitVec.ofInt 32 15).toNat : Int))) (IntKind.i64.wrap (IntKind.u32.wrap (↑(BitVec.ofInt 32 (x.fdiv 262144) &&& BitVec.ofInt 32 15).toNat : Int))) (IntKind.i64.wrap (IntKind.u32.wrap (↑(BitVec.ofInt 32 (x.fdiv 16384) &&& BitVec.ofInt 32 15).toNat : Int))) 0 != 0) (
 some (.tuple #[(.agg #[(.int .u8 0), (.int .i64 0), (.int .i64 0), (.int .i64 0), (.int .i64 0)]), (.int .i64 6)])) (
 cond (pw (IntKind.u8.wrap (x.fdiv 67108864)) (IntKind.i64.wrap (IntKind.u32.wrap (↑(BitVec.ofInt 32 (x.fdiv 4194304) &&& BitVec.ofInt 32 15).toNat : Int))) (IntKind.i64.wrap (IntKind.u32.wrap (↑(BitVec.ofInt 32 (x.fdiv 262144) &&& BitVec.ofInt 32 15).toNat : Int))) (IntKind.i64.wrap (IntKind.u32.wrap (↑(BitVec.ofInt 32 (x.fdiv 16384) &&& BitVec.ofInt 32 15).toNat : Int))) 0 != x) (
 some (.tuple #[(.agg #[(.int .u8 0), (.int .i64 0), (.int .i64 0), (.int .i64 0), (.int .i64 0)]), (.int .i64 6)])) (
 some (.tuple #[(.agg #[(.int .u8 (IntKind.u8.wrap (x.fdiv 67108864))), (.int .i64 (IntKind.i64.wrap (IntKind.u32.wrap (↑(BitVec.ofInt 32 (x.fdiv 4194304) &&& BitVec.ofInt 32 15).toNat : Int)))), (.int .i64 (IntKind.i64.wrap (IntKind.u32.wrap (↑(BitVec.ofInt 32 (x.fdiv 262144) &&& BitVec.ofInt 32 15).toNat : Int)))), (.int .i64 (IntKind.i64.wrap (IntKind.u32.wrap (↑(BitVec.ofInt 32 (x.fdiv 16384) &&& BitVec.ofInt 32 15).toNat : Int)))), (.int .i64 0)]), (.int .i64 0)])))) (
 none)) (
 cond ((symI formsL).int .i64 (0 + (IntKind.u8.wrap (x.fdiv 67108864)).toNat * 1) == 2) (
 cond (decide (IntKind.i64.wrap (IntKind.u32.wrap (↑(BitVec.ofInt 32 (IntKind.u32.wrap (IntKind.i64.wrap x)) &&& BitVec.ofInt 32 16383).toNat : Int)) ≥ 8192)) (
 cond (decide (0 ≤ IntKind.u8.wrap (x.fdiv 67108864)) && true) (
 cond (pe (IntKind.u8.wrap (x.fdiv 67108864)) (IntKind.i64.wrap (IntKind.u32.wrap (↑(BitVec.ofInt 32 (x.fdiv 4194304) &&& BitVec.ofInt 32 15).toNat : Int))) (IntKind.i64.wrap (IntKind.u32.wrap (↑(BitVec.ofInt 32 (x.fdiv 262144) &&& BitVec.ofInt 32 15).toNat : Int))) 0 (IntKind.i64.wrap (IntKind.i64.wrap (IntKind.u32.wrap (↑(BitVec.ofInt 32 (IntKind.u32.wrap (IntKind.i64.wrap x)) &&& BitVec.ofInt 32 16383).toNat : Int)) - 16384)) != 0) (
 some (.tuple #[(.agg #[(.int .u8 0), (.int .i64 0), (.int .i64 0), (.int .i64 0), (.int .i64 0)]), (.int .i64 6)])) (
 cond (pw (IntKind.u8.wrap (x.fdiv 67108864)) (IntKind.i64.wrap (IntKind.u32.wrap (↑(BitVec.ofInt 32 (x.fdiv 4194304) &&& BitVec.ofInt 32 15).toNat : Int))) (IntKind.i64.wrap (IntKind.u32.wrap (↑(BitVec.ofInt 32 (x.fdiv 262144) &&& BitVec.ofInt 32 15).toNat : Int))) 0 (IntKind.i64.wrap (IntKind.i64.wrap (IntKind.u32.wrap (↑(BitVec.ofInt 32 (IntKind.u32.wrap (IntKind.i64.wrap x)) &&& BitVec.ofInt 32 16383).toNat : Int)) - 16384)) != x) (
 some (.tuple #[(.agg #[(.int .u8 0), (.int .i64 0), (.int .i64 0), (.int .i64 0), (.int .i64 0)]), (.int .i64 6)])) (
 some (.tuple #[(.agg #[(.int .u8 (IntKind.u8.wrap (x.fdiv 67108864))), (.int .i64 (IntKind.i64.wrap (IntKind.u32.wrap (↑(BitVec.ofInt 32 (x.fdiv 4194304) &&& BitVec.ofInt 32 15).toNat : Int)))), (.int .i64 (IntKind.i64.wrap (IntKind.u32.wrap (↑(BitVec.ofInt 32 (x.fdiv 262144) &&& BitVec.ofInt 32 15).toNat : Int)))), (.int .i64 0), (.int .i64 (IntKind.i64.wrap (IntKind.i64.wrap (IntKind.u32.wrap (↑(BitVec.ofInt 32 (IntKind.u32.wrap (IntKind.i64.wrap x)) &&& BitVec.ofInt 32 16383).toNat : Int)) - 16384)))]), (.int .i64 0)])))) (
 none)) (
 cond (decide (0 ≤ IntKind.u8.wrap (x.fdiv 67108864)) && true) (
 cond (pe (IntKind.u8.wrap (x.fdiv 67108864)) (IntKind.i64.wrap (IntKind.u32.wrap (↑(BitVec.ofInt 32 (x.fdiv 4194304) &&& BitVec.ofInt 32 15).toNat : Int))) (IntKind.i64.wrap (IntKind.u32.wrap (↑(BitVec.ofInt 32 (x.fdiv 262144) &&& BitVec.ofInt 32 15).toNat : Int))) 0 (IntKind.i64.wrap (IntKind.u32.wrap (↑(BitVec.ofInt 32 (IntKind.u32.wrap (IntKind.i64.wrap x)) &&& BitVec.ofInt 32 16383).toNat : Int))) != 0) (
 some (.tuple #[(.agg #[(.int .u8 0), (.int .i64 0), (.int .i64 0), (.int .i64 0), (.int .i64 0)]), (.int .i64 6)])) (
 cond (pw (IntKind.u8.wrap (x.fdiv 67108864)) (IntKind.i64.wrap (IntKind.u32.wrap (↑(BitVec.ofInt 32 (x.fdiv 4194304) &&& BitVec.ofInt 32 15).toNat : Int))) (IntKind.i64.wrap (IntKind.u32.wrap (↑(BitVec.ofInt 32 (x.fdiv 262144) &&& BitVec.ofInt 32 15).toNat : Int))) 0 (IntKind.i64.wrap (IntKind.u32.wrap (↑(BitVec.ofInt 32 (IntKind.u32.wrap (IntKind.i64.wrap x)) &&& BitVec.ofInt 32 16383).toNat : Int))) != x) (
 some (.tuple #[(.agg #[(.int .u8 0), (.int .i64 0), (.int .i64 0), (.int .i64 0), (.int .i64 0)]), (.int .i64 6)])) (
 some (.tuple #[(.agg #[(.int .u8 (IntKind.u8.wrap (x.fdiv 67108864))), (.int .i64 (IntKind.i64.wrap (IntKind.u32.wrap (↑(BitVec.ofInt 32 (x.fdiv 4194304) &&& BitVec.ofInt 32 15).toNat : Int)))), (.int .i64 (IntKind.i64.wrap (IntKind.u32.wrap (↑(BitVec.ofInt 32 (x.fdiv 262144) &&& BitVec.ofInt 32 15).toNat : Int)))), (.int .i64 0), (.int .i64 (IntKind.i64.wrap (IntKind.u32.wrap (↑(BitVec.ofInt 32 (IntKind.u32.wrap (IntKind.i64.wrap x)) &&& BitVec.ofInt 32 16383).toNat : Int))))]), (.int .i64 0)])))) (
 none))) (
 cond ((symI formsL).int .i64 (0 + (IntKind.u8.wrap (x.fdiv 67108864)).toNat * 1) == 3) (
 cond (decide (IntKind.i64.wrap (IntKind.u32.wrap (↑(BitVec.ofInt 32 (IntKind.u32.wrap (IntKind.i64.wrap x)) &&& BitVec.ofInt 32 4194303).toNat : Int)) ≥ 2097152)) (
 cond (decide (0 ≤ IntKind.u8.wrap (x.fdiv 67108864)) && true) (
 cond (pe (IntKind.u8.wrap (x.fdiv 67108864)) (IntKind.i64.wrap (IntKind.u32.wrap (↑(BitVec.ofInt 32 (x.fdiv 4194304) &&& BitVec.ofInt 32 15).toNat : Int))) 0 0 (IntKind.i64.wrap (IntKind.i64.wrap (IntKind.u32.wrap (↑(BitVec.ofInt 32 (IntKind.u32.wrap (IntKind.i64.wrap x)) &&& BitVec.ofInt 32 4194303).toNat : Int)) - 4194304)) != 0) (
 some (.tuple #[(.agg #[(.int .u8 0), (.int .i64 0), (.int .i64 0), (.int .i64 0), (.int .i64 0)]), (.int .i64 6)])) (
 cond (pw (IntKind.u8.wrap (x.fdiv 67108864)) (IntKind.i64.wrap (IntKind.u32.wrap (↑(BitVec.ofInt 32 (x.fdiv 4194304) &&& BitVec.ofInt 32 15).toNat : Int))) 0 0 (IntKind.i64.wrap (IntKind.i64.wrap (IntKind.u32.wrap (↑(BitVec.ofInt 32 (IntKind.u32.wrap (IntKind.i64.wrap x)) &&& BitVec.ofInt 32 4194303).toNat : Int)) - 4194304)) != x) (
 some (.tuple #[(.agg #[(.int .u8 0), (.int .i64 0), (.int .i64 0), (.int .i64 0), (.int .i64 0)]), (.int .i64 6)])) (
 some (.tuple #[(.agg #[(.int .u8 (IntKind.u8.wrap (x.fdiv 67108864))), (.int .i64 (IntKind.i64.wrap (IntKind.u32.wrap (↑(BitVec.ofInt 32 (x.fdiv 4194304) &&& BitVec.ofInt 32 15).toNat : Int)))), (.int .i64 0), (.int .i64 0), (.int .i64 (IntKind.i64.wrap (IntKind.i64.wrap (IntKind.u32.wrap (↑(BitVec.ofInt 32 (IntKind.u32.wrap (IntKind.i64.wrap x)) &&& BitVec.ofInt 32 4194303).toNat : Int)) - 4194304)))]), (.int .i64 0)])))) (
 none)) (
 cond (decide (0 ≤ IntKind.u8.wrap (x.fdiv 67108864)) && true) (
 cond (pe (IntKind.u8.wrap (x.fdiv 67108864)) (IntKind.i64.wrap (IntKind.u32.wrap (↑(BitVec.ofInt 32 (x.fdiv 4194304) &&& BitVec.ofInt 32 15).toNat : Int))) 0 0 (IntKind.i64.wrap (IntKind.u32.wrap (↑(BitVec.ofInt 32 (IntKind.u32.wrap (IntKind.i64.wrap x)) &&& BitVec.ofInt 32 4194303).toNat : Int))) != 0) (
 some (.tuple #[(.agg #[(.int .u8 0), (.int .i64 0), (.int .i64 0), (.int .i64 0), (.int .i64 0)]), (.int .i64 6)])) (
 cond (pw (IntKind.u8.wrap (x.fdiv 67108864)) (IntKind.i64.wrap (IntKind.u32.wrap (↑(BitVec.ofInt 32 (x.fdiv 4194304) &&& BitVec.ofInt 32 15).toNat : Int))) 0 0 (IntKind.i64.wrap (IntKind.u32.wrap (↑(BitVec.ofInt 32 (IntKind.u32.wrap (IntKind.i64.wrap x)) &&& BitVec.ofInt 32 4194303).toNat : Int))) != x) (
 some (.tuple #[(.agg #[(.int .u8 0), (.int .i64 0), (.int .i64 0), (.int .i64 0), (.int .i64 0)]), (.int .i64 6)])) (
 some (.tuple #[(.agg #[(.int .u8 (IntKind.u8.wrap (x.fdiv 67108864))), (.int .i64 (IntKind.i64.wrap (IntKind.u32.wrap (↑(BitVec.ofInt 32 (x.fdiv 4194304) &&& BitVec.ofInt 32 15).toNat : Int)))), (.int .i64 0), (.int .i64 0), (.int .i64 (IntKind.i64.wrap (IntKind.u32.wrap (↑(BitVec.ofInt 32 (IntKind.u32.wrap (IntKind.i64.wrap x)) &&& BitVec.ofInt 32 4194303).toNat : Int))))]), (.int .i64 0)])))) (
 none))) (
 cond ((symI formsL).int .i64 (0 + (IntKind.u8.wrap (x.fdiv 67108864)).toNat * 1) == 4) (
 cond (decide (IntKind.i64.wrap (IntKind.u32.wrap (↑(BitVec.ofInt 32 (IntKind.u32.wrap (IntKind.i64.wrap x)) &&& BitVec.ofInt 32 4194303).toNat : Int)) ≥ 2097152)) (
 cond (decide (0 ≤ IntKind.u8.wrap (x.fdiv 67108864)) && true) (
 cond (pe (IntKind.u8.wrap (x.fdiv 67108864)) 0 0 0 (IntKind.i64.wrap (IntKind.i64.wrap (IntKind.u32.wrap (↑(BitVec.ofInt 32 (IntKind.u32.wrap (IntKind.i64.wrap x)) &&& BitVec.ofInt 32 4194303).toNat : Int)) - 4194304)) != 0) (
 some (.tuple #[(.agg #[(.int .u8 0), (.int .i64 0), (.int .i64 0), (.int .i64 0), (.int .i64 0)]), (.int .i64 6)])) (
 cond (pw (IntKind.u8.wrap (x.fdiv 67108864)) 0 0 0 (IntKind.i64.wrap (IntKind.i64.wrap (IntKind.u32.wrap (↑(BitVec.ofInt 32 (IntKind.u32.wrap (IntKind.i64.wrap x)) &&& BitVec.ofInt 32 4194303).toNat : Int)) - 4194304)) != x) (
 some (.tuple #[(.agg #[(.int .u8 0), (.int .i64 0), (.int .i64 0), (.int .i64 0), (.int .i64 0)]), (.int .i64 6)])) (
 some (.tuple #[(.agg #[(.int .u8 (IntKind.u8.wrap (x.fdiv 67108864))), (.int .i64 0), (.int .i64 0), (.int .i64 0), (.int .i64 (IntKind.i64.wrap (IntKind.i64.wrap (IntKind.u32.wrap (↑(BitVec.ofInt 32 (IntKind.u32.wrap (IntKind.i64.wrap x)) &&& BitVec.ofInt 32 4194303).toNat : Int)) - 4194304)))]), (.int .i64 0)])))) (
 none)) (
 cond (decide (0 ≤ IntKind.u8.wrap (x.fdiv 67108864)) && true) (
 cond (pe (IntKind.u8.wrap (x.fdiv 67108864)) 0 0 0 (IntKind.i64.wrap (IntKind.u32.wrap (↑(BitVec.ofInt 32 (IntKind.u32.wrap (IntKind.i64.wrap x)) &&& BitVec.ofInt 32 4194303).toNat : Int))) != 0) (
 some (.tuple #[(.agg #[(.int .u8 0), (.int .i64 0), (.int .i64 0), (.int .i64 0), (.int .i64 0)]), (.int .i64 6)])) (
 cond (pw (IntKind.u8.wrap (x.fdiv 67108864)) 0 0 0 (IntKind.i64.wrap (IntKind.u32.wrap (↑(BitVec.ofInt 32 (IntKind.u32.wrap (IntKind.i64.wrap x)) &&& BitVec.ofInt 32 4194303).toNat : Int))) != x) (
 some (.tuple #[(.agg #[(.int .u8 0), (.int .i64 0), (.int .i64 0), (.int .i64 0), (.int .i64 0)]), (.int .i64 6)])) (
 some (.tuple #[(.agg #[(.int .u8 (IntKind.u8.wrap (x.fdiv 67108864))), (.int .i64 0), (.int .i64 0), (.int .i64 0), (.int .i64 (IntKind.i64.wrap (IntKind.u32.wrap (↑(BitVec.ofInt 32 (IntKind.u32.wrap (IntKind.i64.wrap x)) &&& BitVec.ofInt 32 4194303).toNat : Int))))]), (.int .i64 0)])))) (
 none))) (
 cond ((symI formsL).int .i64 (0 + (IntKind.u8.wrap (x.fdiv 67108864)).toNat * 1) == 5) (
 cond (decide (0 ≤ IntKind.u8.wrap (x.fdiv 67108864)) && true) (
 cond (pe (IntKind.u8.wrap (x.fdiv 67108864)) 0 0 0 (IntKind.i64.wrap (IntKind.u32.wrap (↑(BitVec.ofInt 32 (IntKind.u32.wrap (IntKind.i64.wrap x)) &&& BitVec.ofInt 32 4194303).toNat : Int))) != 0) (
 some (.tuple #[(.agg #[(.int .u8 0), (.int .i64 0), (.int .i64 0), (.int .i64 0), (.int .i64 0)]), (.int .i64 6)])) (
 cond (pw (IntKind.u8.wrap (x.fdiv 67108864)) 0 0 0 (IntKind.i64.wrap (IntKind.u32.wrap (↑(BitVec.ofInt 32 (IntKind.u32.wrap (IntKind.i64.wrap x)) &&& BitVec.ofInt 32 4194303).toNat : Int))) != x) (
 some (.tuple #[(.agg #[(.int .u8 0), (.int .i64 0), (.int .i64 0), (.int .i64 0), (.int .i64 0)]), (.int .i64 6)])) (
 some (.tuple #[(.agg #[(.int .u8 (IntKind.u8.wrap (x.fdiv 67108864))), (.int .i64 0), (.int .i64 0), (.int .i64 0), (.int .i64 (IntKind.i64.wrap (IntKind.u32.wrap (↑(BitVec.ofInt 32 (IntKind.u32.wrap (IntKind.i64.wrap x)) &&& BitVec.ofInt 32 4194303).toNat : Int))))]), (.int .i64 0)])))) (
 none)) (
 cond ((symI formsL).int .i64 (0 + (IntKind.u8.wrap (x.fdiv 67108864)).toNat * 1) == 6) (
 cond (decide (0 ≤ IntKind.u8.wrap (x.fdiv 67108864)) && true) (
 cond (pe (IntKind.u8.wrap (x.fdiv 67108864)) (IntKind.i64.wrap (IntKind.u32.wrap (↑(BitVec.ofInt 32 (x.fdiv 4194304) &&& BitVec.ofInt 32 15).toNat : Int))) 0 0 0 != 0) (
 some (.tuple #[(.agg #[(.int .u8 0), (.int .i64 0), (.int .i64 0), (.int .i64 0), (.int .i64 0)]), (.int .i64 6)])) (
 cond (pw (IntKind.u8.wrap (x.fdiv 67108864)) (IntKind.i64.wrap (IntKind.u32.wrap (↑(BitVec.ofInt 32 (x.fdiv 4194304) &&& BitVec.ofInt 32 15).toNat : Int))) 0 0 0 != x) (
 some (.tuple #[(.agg #[(.int .u8 0), (.int .i64 0), (.int .i64 0), (.int .i64 0), (.int .i64 0)]), (.int .i64 6)])) (
 some (.tuple #[(.agg #[(.int .u8 (IntKind.u8.wrap (x.fdiv 67108864))), (.int .i64 (IntKind.i64.wrap (IntKind.u32.wrap (↑(BitVec.ofInt 32 (x.fdiv 4194304) &&& BitVec.ofInt 32 15).toNat : Int)))), (.int .i64 0), (.int .i64 0), (.int .i64 0)]), (.int .i64 0)])))) (
 none)) (
 cond (decide (0 ≤ IntKind.u8.wrap (x.fdiv 67108864)) && true) (
 cond (pe (IntKind.u8.wrap (x.fdiv 67108864)) 0 0 0 0 != 0) (
 some (.tuple #[(.agg #[(.int .u8 0), (.int .i64 0), (.int .i64 0), (.int .i64 0), (.int .i64 0)]), (.int .i64 6)])) (
 cond (pw (IntKind.u8.wrap (x.fdiv 67108864)) 0 0 0 0 != x) (
 some (.tuple #[(.agg #[(.int .u8 0), (.int .i64 0), (.int .i64 0), (.int .i64 0), (.int .i64 0)]), (.int .i64 6)])) (
 some (.tuple #[(.agg #[(.int .u8 (IntKind.u8.wrap (x.fdiv 67108864))), (.int .i64 0), (.int .i64 0), (.int .i64 0), (.int .i64 0)]), (.int .i64 0)])))) (
 none)))))))) (
 none)) (
 none)) := by kernel_rfl
set_option maxRecDepth 100000 in
theorem r_rtake (gl : Gl) (ff : Int → Int) (mb gg : C5 Bool) (ww : C5 Int) (x : Int) : evFm gl (HM3t ff mb gg ww) 29 [.int .u32 x] =
 cond (decide (0 ≤ IntKind.u8.wrap (IntKind.u32.wrap (x.tdiv 67108864)))) (
 cond (ff (IntKind.u8.wrap (IntKind.u32.wrap (x.tdiv 67108864))) == 2) (
 cond (ff (IntKind.u8.wrap (IntKind.u32.wrap (x.tdiv 67108864))) == 1) (
 cond (decide (0 ≤ IntKind.u8.wrap (IntKind.u32.wrap (x.tdiv 67108864))) && true) (
 cond (mb (IntKind.u8.wrap (IntKind.u32.wrap (x.tdiv 67108864))) (IntKind.i64.wrap ((IntKind.u32.wrap (x.tdiv 4194304)).tmod 16)) (IntKind.i64.wrap ((IntKind.u32.wrap (x.tdiv 262144)).tmod 16)) (IntKind.i64.wrap ((IntKind.u32.wrap (x.tdiv 16384)).tmod 16)) 0) (
 cond (decide (0 ≤ IntKind.u8.wrap (IntKind.u32.wrap (x.tdiv 67108864))) && (gg (IntKind.u8.wrap (IntKind.u32.wrap (x.tdiv 67108864))) (IntKind.i64.wrap ((IntKind.u32.wrap (x.tdiv 4194304)).tmod 16)) (IntKind.i64.wrap ((IntKind.u32.wrap (x.tdiv 262144)).tmod 16)) (IntKind.i64.wrap ((IntKind.u32.wrap (x.tdiv 16384)).tmod 16)) 0)) (
 cond (ww (IntKind.u8.wrap (IntKind.u32.wrap (x.tdiv 67108864))) (IntKind.i64.wrap ((IntKind.u32.wrap (x.tdiv 4194304)).tmod 16)) (IntKind.i64.wrap ((IntKind.u32.wrap (x.tdiv 262144)).tmod 16)) (IntKind.i64.wrap ((IntKind.u32.wrap (x.tdiv 16384)).tmod 16)) 0 != x) (
 some (.tuple #[(.agg #[(.int .u8 0), (.int .i64 0), (.int .i64 0), (.int .i64 0), (.int .i64 0)]), (.int .i64 6)])) (
 some (.tuple #[(.agg #[(.int .u8 (IntKind.u8.wrap (IntKind.u32.wrap (x.tdiv 67108864)))), (.int .i64 (IntKind.i64.wrap ((IntKind.u32.wrap (x.tdiv 4194304)).tmod 16))), (.int .i64 (IntKind.i64.wrap ((IntKind.u32.wrap (x.tdiv 262144)).tmod 16))), (.int .i64 (IntKind.i64.wrap ((IntKind.u32.wrap (x.tdiv 16384)).tmod 16))), (.int .i64 0)]), (.int .i64 0)]))) (
 none)) (
 some (.tuple #[(.agg #[(.int .u8 0), (.int .i64 0), (.int .i64 0), (.int .i64 0), (.int .i64 0)]), (.int .i64 6)]))) (
 none)) (
 cond (ff (IntKind.u8.wrap (IntKind.u32.wrap (x.tdiv 67108864))) == 2) (
 cond (decide (IntKind.i64.wrap (x.tmod 16384) ≥ 8192)) (
 cond (decide (0 ≤ IntKind.u8.wrap (IntKind.u32.wrap (x.tdiv 67108864))) && true) (
 cond (mb (IntKind.u8.wrap (IntKind.u32.wrap (x.tdiv 67108864))) (IntKind.i64.wrap ((IntKind.u32.wrap (x.tdiv 4194304)).tmod 16)) (IntKind.i64.wrap ((IntKind.u32.wrap (x.tdiv 262144)).tmod 16)) 0 (IntKind.i64.wrap (IntKind.i64.wrap (x.tmod 16384) - 16384))) (
 cond (decide (0 ≤ IntKind.u8.wrap (IntKind.u32.wrap (x.tdiv 67108864))) && (gg (IntKind.u8.wrap (IntKind.u32.wrap (x.tdiv 67108864))) (IntKind.i64.wrap ((IntKind.u32.wrap (x.tdiv 4194304)).tmod 16)) (IntKind.i64.wrap ((IntKind.u32.wrap (x.tdiv 262144)).tmod 16)) 0 (IntKind.i64.wrap (IntKind.i64.wrap (x.tmod 16384) - 16384)))) (
 cond (ww (IntKind.u8.wrap (IntKind.u32.wrap (x.tdiv 67108864))) (IntKind.i64.wrap ((IntKind.u32.wrap (x.tdiv 4194304)).tmod 16)) (IntKind.i64.wrap ((IntKind.u32.wrap (x.tdiv 262144)).tmod 16)) 0 (IntKind.i64.wrap (IntKind.i64.wrap (x.tmod 16384) - 16384)) != x) (
 some (.tuple #[(.agg #[(.int .u8 0), (.int .i64 0), (.int .i64 0), (.int .i64 0), (.int .i64 0)]), (.int .i64 6)])) (
 some (.tuple #[(.agg #[(.int .u8 (IntKind.u8.wrap (IntKind.u32.wrap (x.tdiv 67108864)))), (.int .i64 (IntKind.i64.wrap ((IntKind.u32.wrap (x.tdiv 4194304)).tmod 16))), (.int .i64 (IntKind.i64.wrap ((IntKind.u32.wrap (x.tdiv 262144)).tmod 16))), (.int .i64 0), (.int .i64 (IntKind.i64.wrap (IntKind.i64.wrap (x.tmod 16384) - 16384)))]), (.int .i64 0)]))) (
 none)) (
 some (.tuple #[(.agg #[(.int .u8 0), (.int .i64 0), (.int .i64 0), (.int .i64 0), (.int .i64 0)]), (.int .i64 6)]))) (
 none)) (
 cond (decide (0 ≤ IntKind.u8.wrap (IntKind.u32.wrap (x.tdiv 67108864))) && true) (
 cond (mb (IntKind.u8.wrap (IntKind.u32.wrap (x.tdiv 67108864))) (IntKind.i64.wrap ((IntKind.u32.wrap (x.tdiv 4194304)).tmod 16)) (IntKind.i64.wrap ((IntKind.u32.wrap (x.tdiv 262144)).tmod 16)) 0 (IntKind.i64.wrap (x.tmod 16384))) (
 cond (decide (0 ≤ IntKind.u8.wrap (IntKind.u32.wrap (x.tdiv 67108864))) && (gg (IntKind.u8.wrap (IntKind.u32.wrap (x.tdiv 67108864))) (IntKind.i64.wrap ((IntKind.u32.wrap (x.tdiv 4194304)).tmod 16)) (IntKind.i64.wrap ((IntKind.u32.wrap (x.tdiv 262144)).tmod 16)) 0 (IntKind.i64.wrap (x.tmod 16384)))) (
 cond (ww (IntKind.u8.wrap (IntKind.u32.wrap (x.tdiv 67108864))) (IntKind.i64.wrap ((IntKind.u32.wrap (x.tdiv 4194304)).tmod 16)) (IntKind.i64.wrap ((IntKind.u32.wrap (x.tdiv 262144)).tmod 16)) 0 (IntKind.i64.wrap (x.tmod 16384)) != x) (
 some (.tuple #[(.agg #[(.int .u8 0), (.int .i64 0), (.int .i64 0), (.int .i64 0), (.int .i64 0)]), (.int .i64 6)])) (
 some (.tuple #[(.agg #[(.int .u8 (IntKind.u8.wrap (IntKind.u32.wrap (x.tdiv 67108864)))), (.int .i64 (IntKind.i64.wrap ((IntKind.u32.wrap (x.tdiv 4194304)).tmod 16))), (.int .i64 (IntKind.i64.wrap ((IntKind.u32.wrap (x.tdiv 262144)).tmod 16))), (.int .i64 0), (.int .i64 (IntKind.i64.wrap (x.tmod 16384)))]), (.int .i64 0)]))) (
 none)) (
 some (.tuple #[(.agg #[(.int .u8 0), (.int .i64 0), (.int .i64 0), (.int .i64 0), (.int .i64 0)]), (.int .i64 6)]))) (
 none))) (
 cond (ff (IntKind.u8.wrap (IntKind.u32.wrap (x.tdiv 67108864))) == 3) (
 cond (ff (IntKind.u8.wrap (IntKind.u32.wrap (x.tdiv 67108864))) == 3) (
 cond (decide (IntKind.i64.wrap (x.tmod 16384) ≥ 2097152)) (
 cond (decide (0 ≤ IntKind.u8.wrap (IntKind.u32.wrap (x.tdiv 67108864))) && true) (
 cond (mb (IntKind.u8.wrap (IntKind.u32.wrap (x.tdiv 67108864))) (IntKind.i64.wrap ((IntKind.u32.wrap (x.tdiv 4194304)).tmod 16)) 0 0 (IntKind.i64.wrap (IntKind.i64.wrap (x.tmod 16384) - 4194304))) (
 cond (decide (0 ≤ IntKind.u8.wrap (IntKind.u32.wrap (x.tdiv 67108864))) && (gg (IntKind.u8.wrap (IntKind.u32.wrap (x.tdiv 67108864))) (IntKind.i64.wrap ((IntKind.u32.wrap (x.tdiv 4194304)).tmod 16)) 0 0 (IntKind.i64.wrap (IntKind.i64.wrap (x.tmod 16384) - 4194304)))) (
 cond (ww (IntKind.u8.wrap (IntKind.u32.wrap (x.tdiv 67108864))) (IntKind.i64.wrap ((IntKind.u32.wrap (x.tdiv 4194304)).tmod 16)) 0 0 (IntKind.i64.wrap (IntKind.i64.wrap (x.tmod 16384) - 4194304)) != x) (
 some (.tuple #[(.agg #[(.int .u8 0), (.int .i64 0), (.int .i64 0), (.int .i64 0), (.int .i64 0)]), (.int .i64 6)])) (
 some (.tuple #[(.agg #[(.int .u8 (IntKind.u8.wrap (IntKind.u32.wrap (x.tdiv 67108864)))), (.int .i64 (IntKind.i64.wrap ((IntKind.u32.wrap (x.tdiv 4194304)).tmod 16))), (.int .i64 0), (.int .i64 0), (.int .i64 (IntKind.i64.wrap (IntKind.i64.wrap (x.tmod 16384) - 4194304)))]), (.int .i64 0)]))) (
 none)) (
 some (.tuple #[(.agg #[(.int .u8 0), (.int .i64 0), (.int .i64 0), (.int .i64 0), (.int .i64 0)]), (.int .i64 6)]))) (
 none)) (
 cond (decide (0 ≤ IntKind.u8.wrap (IntKind.u32.wrap (x.tdiv 67108864))) && true) (
 cond (mb (IntKind.u8.wrap (IntKind.u32.wrap (x.tdiv 67108864))) (IntKind.i64.wrap ((IntKind.u32.wrap (x.tdiv 4194304)).tmod 16)) 0 0 (IntKind.i64.wrap (x.tmod 16384))) (
 cond (decide (0 ≤ IntKind.u8.wrap (IntKind.u32.wrap (x.tdiv 67108864))) && (gg (IntKind.u8.wrap (IntKind.u32.wrap (x.tdiv 67108864))) (IntKind.i64.wrap ((IntKind.u32.wrap (x.tdiv 4194304)).tmod 16)) 0 0 (IntKind.i64.wrap (x.tmod 16384)))) (
 cond (ww (IntKind.u8.wrap (IntKind.u32.wrap (x.tdiv 67108864))) (IntKind.i64.wrap ((IntKind.u32.wrap (x.tdiv 4194304)).tmod 16)) 0 0 (IntKind.i64.wrap (x.tmod 16384)) != x) (
 some (.tuple #[(.agg #[(.int .u8 0), (.int .i64 0), (.int .i64 0), (.int .i64 0), (.int .i64 0)]), (.int .i64 6)])) (
 some (.tuple #[(.agg #[(.int .u8 (IntKind.u8.wrap (IntKind.u32.wrap (x.tdiv 67108864)))), (.int .i64 (IntKind.i64.wrap ((IntKind.u32.wrap (x.tdiv 4194304)).tmod 16))), (.int .i64 0), (.int .i64 0), (.int .i64 (IntKind.i64.wrap (x.tmod 16384)))]), (.int .i64 0)]))) (
 none)) (
 some (.tuple #[(.agg #[(.int .u8 0), (.int .i64 0), (.int .i64 0), (.int .i64 0), (.int .i64 0)]), (.int .i64 6)]))) (
 none))) (
 cond (decide (IntKind.i64.wrap (x.tmod 16384) ≥ 2097152)) (
 cond (decide (0 ≤ IntKind.u8.wrap (IntKind.u32.wrap (x.tdiv 67108864))) && true) (
 cond (mb (IntKind.u8.wrap (IntKind.u32.wrap (x.tdiv 67108864))) 0 0 0 (IntKind.i64.wrap (IntKind.i64.wrap (x.tmod 16384) - 4194304))) (
 cond (decide (0 ≤ IntKind.u8.wrap (IntKind.u32.wrap (x.tdiv 67108864))) && (gg (IntKind.u8.wrap (IntKind.u32.wrap (x.tdiv 67108864))) 0 0 0 (IntKind.i64.wrap (IntKind.i64.wrap (x.tmod 16384) - 4194304)))) (
 cond (ww (IntKind.u8.wrap (IntKind.u32.wrap (x.tdiv 67108864))) 0 0 0 (IntKind.i64.wrap (IntKind.i64.wrap (x.tmod 16384) - 4194304)) != x) (
 some (.tuple #[(.agg #[(.int .u8 0), (.int .i64 0), (.int .i64 0), (.int .i64 0), (.int .i64 0)]), (.int .i64 6)])) (
 some (.tuple #[(.agg #[(.int .u8 (IntKind.u8.wrap (IntKind.u32.wrap (x.tdiv 67108864)))), (.int .i64 0), (.int .i64 0), (.int .i64 0), (.int .i64 (IntKind.i64.wrap (IntKind.i64.wrap (x.tmod 16384) - 4194304)))]), (.int .i64 0)]))) (
 none)) (
 some (.tuple #[(.agg #[(.int .u8 0), (.int .i64 0), (.int .i64 0), (.int .i64 0), (.int .i64 0)]), (.int .i64 6)]))) (
 none)) (
 cond (decide (0 ≤ IntKind.u8.wrap (IntKind.u32.wrap (x.tdiv 67108864))) && true) (
 cond (mb (IntKind.u8.wrap (IntKind.u32.wrap (x.tdiv 67108864))) 0 0 0 (IntKind.i64.wrap (x.tmod 16384))) (
 cond (decide (0 ≤ IntKind.u8.wrap (IntKind.u32.wrap (x.tdiv 67108864))) && (gg (IntKind.u8.wrap (IntKind.u32.wrap (x.tdiv 67108864))) 0 0 0 (IntKind.i64.wrap (x.tmod 16384)))) (
 cond (ww (IntKind.u8.wrap (IntKind.u32.wrap (x.tdiv 67108864))) 0 0 0 (IntKind.i64.wrap (x.tmod 16384)) != x) (
 some (.tuple #[(.agg #[(.int .u8 0), (.int .i64 0), (.int .i64 0), (.int .i64 0), (.int .i64 0)]), (.int .i64 6)])) (
 some (.tuple #[(.agg #[(.int .u8 (IntKind.u8.wrap (IntKind.u32.wrap (x.tdiv 67108864)))), (.int .i64 0), (.int .i64 0), (.int .i64 0), (.int .i64 (IntKind.i64.wrap (x.tmod 16384)))]), (.int .i64 0)]))) (
 none)) (
 some (.tuple #[(.agg #[(.int .u8 0), (.int .i64 0), (.int .i64 0), (.int .i64 0), (.int .i64 0)]), (.int .i64 6)]))) (
 none)))) (
 cond (ff (IntKind.u8.wrap (IntKind.u32.wrap (x.tdiv 67108864))) == 4) (
 cond (ff (IntKind.u8.wrap (IntKind.u32.wrap (x.tdiv 67108864))) == 3) (
 cond (decide (IntKind.i64.wrap (x.tmod 16384) ≥ 2097152)) (
 cond (decide (0 ≤ IntKind.u8.wrap (IntKind.u32.wrap (x.tdiv 67108864))) && true) (
 cond (mb (IntKind.u8.wrap (IntKind.u32.wrap (x.tdiv 67108864))) (IntKind.i64.wrap ((IntKind.u32.wrap (x.tdiv 4194304)).tmod 16)) 0 0 (IntKind.i64.wrap (IntKind.i64.wrap (x.tmod 16384) - 4194304))) (
 cond (decide (0 ≤ IntKind.u8.wrap (IntKind.u32.wrap (x.tdiv 67108864))) && (gg (IntKind.u8.wrap (IntKind.u32.wrap (x.tdiv 67108864))) (IntKind.i64.wrap ((IntKind.u32.wrap (x.tdiv 4194304)).tmod 16)) 0 0 (IntKind.i64.wrap (IntKind.i64.wrap (x.tmod 16384) - 4194304)))) (
 cond (ww (IntKind.u8.wrap (IntKind.u32.wrap (x.tdiv 67108864))) (IntKind.i64.wrap ((IntKind.u32.wrap (x.tdiv 4194304)).tmod 16)) 0 0 (IntKind.i64.wrap (IntKind.i64.wrap (x.tmod 16384) - 4194304)) != x) (
 some (.tuple #[(.agg #[(.int .u8 0), (.int .i64 0), (.int .i64 0), (.int .i64 0), (.int .i64 0)]), (.int .i64 6)])) (
 some (.tuple #[(.agg #[(.int .u8 (IntKind.u8.wrap (IntKind.u32.wrap (x.tdiv 67108864)))), (.int .i64 (IntKind.i64.wrap ((IntKind.u32.wrap (x.tdiv 4194304)).tmod 16))), (.int .i64 0), (.int .i64 0), (.int .i64 (IntKind.i64.wrap (IntKind.i64.wrap (x.tmod 16384) - 4194304)))]), (.int .i64 0)]))) (
 none)) (
 some (.tuple #[(.agg #[(.int .u8 0), (.int .i64 0), (.int .i64 0), (.int .i64 0), (.int .i64 0)]), (.int .i64 6)]))) (
 none)) (
 cond (decide (0 ≤ IntKind.u8.wrap (IntKind.u32.wrap (x.tdiv 67108864))) && true) (
 cond (mb (IntKind.u8.wrap (IntKind.u32.wrap (x.tdiv 67108864))) (IntKind.i64.wrap ((IntKind.u32.wrap (x.tdiv 4194304)).tmod 16)) 0 0 (IntKind.i64.wrap (x.tmod 16384))) (
 cond (decide (0 ≤ IntKind.u8.wrap (IntKind.u32.wrap (x.tdiv 67108864))) && (gg (IntKind.u8.wrap (IntKind.u32.wrap (x.tdiv 67108864))) (IntKind.i64.wrap ((IntKind.u32.wrap (x.tdiv 4194304)).tmod 16)) 0 0 (IntKind.i64.wrap (x.tmod 16384)))) (
 cond (ww (IntKind.u8.wrap (IntKind.u32.wrap (x.tdiv 67108864))) (IntKind.i64.wrap ((IntKind.u32.wrap (x.tdiv 4194304)).tmod 16)) 0 0 (IntKind.i64.wrap (x.tmod 16384)) != x) (
 some (.tuple #[(.agg #[(.int .u8 0), (.int .i64 0), (.int .i64 0), (.int .i64 0), (.int .i64 0)]), (.int .i64 6)])) (
 some (.tuple #[(.agg #[(.int .u8 (IntKind.u8.wrap (IntKind.u32.wrap (x.tdiv 67108864)))), (.int .i64 (IntKind.i64.wrap ((IntKind.u32.wrap (x.tdiv 4194304)).tmod 16))), (.int .i64 0), (.int .i64 0), (.int .i64 (IntKind.i64.wrap (x.tmod 16384)))]), (.int .i64 0)]))) (
 none)) (
 some (.tuple #[(.agg #[(.int .u8 0), (.int .i64 0), (.int .i64 0), (.int .i64 0), (.int .i64 0)]), (.int .i64 6)]))) (
 none))) (
 cond (decide (IntKind.i64.wrap (x.tmod 16384) ≥ 2097152)) (
 cond (decide (0 ≤ IntKind.u8.wrap (IntKind.u32.wrap (x.tdiv 67108864))) && true) (
 cond (mb (IntKind.u8.wrap (IntKind.u32.wrap (x.tdiv 67108864))) 0 0 0 (IntKind.i64.wrap (IntKind.i64.wrap (x.tmod 16384) - 4194304))) (
 cond (decide (0 ≤ IntKind.u8.wrap (IntKind.u32.wrap (x.tdiv 67108864))) && (gg (IntKind.u8.wrap (IntKind.u32.wrap (x.tdiv 67108864))) 0 0 0 (IntKind.i64.wrap (IntKind.i64.wrap (x.tmod 16384) - 4194304)))) (
 cond (ww (IntKind.u8.wrap (IntKind.u32.wrap (x.tdiv 67108864))) 0 0 0 (IntKind.i64.wrap (IntKind.i64.wrap (x.tmod 16384) - 4194304)) != x) (
 some (.tuple #[(.agg #[(.int .u8 0), (.int .i64 0), (.int .i64 0), (.int .i64 0), (.int .i64 0)]), (.int .i64 6)])) (
 some (.tuple #[(.agg #[(.int .u8 (IntKind.u8.wrap (IntKind.u32.wrap (x.tdiv 67108864)))), (.int .i64 0), (.int .i64 0), (.int .i64 0), (.int .i64 (IntKind.i64.wrap (IntKind.i64.wrap (x.tmod 16384) - 4194304)))]), (.int .i64 0)]))) (
 none)) (
 some (.tuple #[(.agg #[(.int .u8 0), (.int .i64 0), (.int .i64 0), (.int .i64 0), (.int .i64 0)]), (.int .i64 6)]))) (
 none)) (
 cond (decide (0 ≤ IntKind.u8.wrap (IntKind.u32.wrap (x.tdiv 67108864))) && true) (
 cond (mb (IntKind.u8.wrap (IntKind.u32.wrap (x.tdiv 67108864))) 0 0 0 (IntKind.i64.wrap (x.tmod 16384))) (
 cond (decide (0 ≤ IntKind.u8.wrap (IntKind.u32.wrap (x.tdiv 67108864))) && (gg (IntKind.u8.wrap (IntKind.u32.wrap (x.tdiv 67108864))) 0 0 0 (IntKind.i64.wrap (x.tmod 16384)))) (
 cond (ww (IntKind.u8.wrap (IntKind.u32.wrap (x.tdiv 67108864))) 0 0 0 (IntKind.i64.wrap (x.tmod 16384)) != x) (
 some (.tuple #[(.agg #[(.int .u8 0), (.int .i64 0), (.int .i64 0), (.int .i64 0), (.int .i64 0)]), (.int .i64 6)])) (
 some (.tuple #[(.agg #[(.int .u8 (IntKind.u8.wrap (IntKind.u32.wrap (x.tdiv 67108864)))), (.int .i64 0), (.int .i64 0), (.int .i64 0), (.int .i64 (IntKind.i64.wrap (x.tmod 16384)))]), (.int .i64 0)]))) (
 none)) (
 some (.tuple #[(.agg #[(.int .u8 0), (.int .i64 0), (.int .i64 0), (.int .i64 0), (.int .i64 0)]), (.int .i64 6)]))) (
 none)))) (
 cond (ff (IntKind.u8.wrap (IntKind.u32.wrap (x.tdiv 67108864))) == 5) (
 cond (decide (0 ≤ IntKind.u8.wrap (IntKind.u32.wrap (x.tdiv 67108864))) && true) (
 cond (mb (IntKind.u8.wrap (IntKind.u32.wrap (x.tdiv 67108864))) 0 0 0 (IntKind.i64.wrap (x.tmod 16384))) (
 cond (decide (0 ≤ IntKind.u8.wrap (IntKind.u32.wrap (x.tdiv 67108864))) && (gg (IntKind.u8.wrap (IntKind.u32.wrap (x.tdiv 67108864))) 0 0 0 (IntKind.i64.wrap (x.tmod 16384)))) (
 cond (ww (IntKind.u8.wrap (IntKind.u32.wrap (x.tdiv 67108864))) 0 0 0 (IntKind.i64.wrap (x.tmod 16384)) != x) (
 some (.tuple #[(.agg #[(.int .u8 0), (.int .i64 0), (.int .i64 0), (.int .i64 0), (.int .i64 0)]), (.int .i64 6)])) (
 some (.tuple #[(.agg #[(.int .u8 (IntKind.u8.wrap (IntKind.u32.wrap (x.tdiv 67108864)))), (.int .i64 0), (.int .i64 0), (.int .i64 0), (.int .i64 (IntKind.i64.wrap (x.tmod 16384)))]), (.int .i64 0)]))) (
 none)) (
 some (.tuple #[(.agg #[(.int .u8 0), (.int .i64 0), (.int .i64 0), (.int .i64 0), (.int .i64 0)]), (.int .i64 6)]))) (
 none)) (
 cond (ff (IntKind.u8.wrap (IntKind.u32.wrap (x.tdiv 67108864))) == 6) (
 cond (decide (0 ≤ IntKind.u8.wrap (IntKind.u32.wrap (x.tdiv 67108864))) && true) (
 cond (mb (IntKind.u8.wrap (IntKind.u32.wrap (x.tdiv 67108864))) (IntKind.i64.wrap ((IntKind.u32.wrap (x.tdiv 4194304)).tmod 16)) 0 0 0) (
 cond (decide (0 ≤ IntKind.u8.wrap (IntKind.u32.wrap (x.tdiv 67108864))) && (gg (IntKind.u8.wrap (IntKind.u32.wrap (x.tdiv 67108864))) (IntKind.i64.wrap ((IntKind.u32.wrap (x.tdiv 4194304)).tmod 16)) 0 0 0)) (
 cond (ww (IntKind.u8.wrap (IntKind.u32.wrap (x.tdiv 67108864))) (IntKind.i64.wrap ((IntKind.u32.wrap (x.tdiv 4194304)).tmod 16)) 0 0 0 != x) (
 some (.tuple #[(.agg #[(.int .u8 0), (.int .i64 0), (.int .i64 0), (.int .i64 0), (.int .i64 0)]), (.int .i64 6)])) (
 some (.tuple #[(.agg #[(.int .u8 (IntKind.u8.wrap (IntKind.u32.wrap (x.tdiv 67108864)))), (.int .i64 (IntKind.i64.wrap ((IntKind.u32.wrap (x.tdiv 4194304)).tmod 16))), (.int .i64 0), (.int .i64 0), (.int .i64 0)]), (.int .i64 0)]))) (
 none)) (
 some (.tuple #[(.agg #[(.int .u8 0), (.int .i64 0), (.int .i64 0), (.int .i64 0), (.int .i64 0)]), (.int .i64 6)]))) (
 none)) (
 cond (decide (0 ≤ IntKind.u8.wrap (IntKind.u32.wrap (x.tdiv 67108864))) && true) (
 cond (mb (IntKind.u8.wrap (IntKind.u32.wrap (x.tdiv 67108864))) 0 0 0 0) (
 cond (decide (0 ≤ IntKind.u8.wrap (IntKind.u32.wrap (x.tdiv 67108864))) && (gg (IntKind.u8.wrap (IntKind.u32.wrap (x.tdiv 67108864))) 0 0 0 0)) (
 cond (ww (IntKind.u8.wrap (IntKind.u32.wrap (x.tdiv 67108864))) 0 0 0 0 != x) (
 some (.tuple #[(.agg #[(.int .u8 0), (.int .i64 0), (.int .i64 0), (.int .i64 0), (.int .i64 0)]), (.int .i64 6)])) (
 some (.tuple #[(.agg #[(.int .u8 (IntKind.u8.wrap (IntKind.u32.wrap (x.tdiv 67108864)))), (.int .i64 0), (.int .i64 0), (.int .i64 0), (.int .i64 0)]), (.int .i64 0)]))) (
 none)) (
 some (.tuple #[(.agg #[(.int .u8 0), (.int .i64 0), (.int .i64 0), (.int .i64 0), (.int .i64 0)]), (.int .i64 6)]))) (
 none)))))))) (
 cond (ff (IntKind.u8.wrap (IntKind.u32.wrap (x.tdiv 67108864))) == 1) (
 cond (decide (0 ≤ IntKind.u8.wrap (IntKind.u32.wrap (x.tdiv 67108864))) && true) (
 cond (mb (IntKind.u8.wrap (IntKind.u32.wrap (x.tdiv 67108864))) (IntKind.i64.wrap ((IntKind.u32.wrap (x.tdiv 4194304)).tmod 16)) (IntKind.i64.wrap ((IntKind.u32.wrap (x.tdiv 262144)).tmod 16)) (IntKind.i64.wrap ((IntKind.u32.wrap (x.tdiv 16384)).tmod 16)) 0) (
 cond (decide (0 ≤ IntKind.u8.wrap (IntKind.u32.wrap (x.tdiv 67108864))) && (gg (IntKind.u8.wrap (IntKind.u32.wrap (x.tdiv 67108864))) (IntKind.i64.wrap ((IntKind.u32.wrap (x.tdiv 4194304)).tmod 16)) (IntKind.i64.wrap ((IntKind.u32.wrap (x.tdiv 262144)).tmod 16)) (IntKind.i64.wrap ((IntKind.u32.wrap (x.tdiv 16384)).tmod 16)) 0)) (
 cond (ww (IntKind.u8.wrap (IntKind.u32.wrap (x.tdiv 67108864))) (IntKind.i64.wrap ((IntKind.u32.wrap (x.tdiv 4194304)).tmod 16)) (IntKind.i64.wrap ((IntKind.u32.wrap (x.tdiv 262144)).tmod 16)) (IntKind.i64.wrap ((IntKind.u32.wrap (x.tdiv 16384)).tmod 16)) 0 != x) (
 some (.tuple #[(.agg #[(.int .u8 0), (.int .i64 0), (.int .i64 0), (.int .i64 0), (.int .i64 0)]), (.int .i64 6)])) (
 some (.tuple #[(.agg #[(.int .u8 (IntKind.u8.wrap (IntKind.u32.wrap (x.tdiv 67108864)))), (.int .i64 (IntKind.i64.wrap ((IntKind.u32.wrap (x.tdiv 4194304)).tmod 16))), (.int .i64 (IntKind.i64.wrap ((IntKind.u32.wrap (x.tdiv 262144)).tmod 16))), (.int .i64 (IntKind.i64.wrap ((IntKind.u32.wrap (x.tdiv 16384)).tmod 16))), (.int .i64 0)]), (.int .i64 0)]))) (
 none)) (
 some (.tuple #[(.agg #[(.int .u8 0), (.int .i64 0), (.int .i64 0), (.int .i64 0), (.int .i64 0)]), (.int .i64 6)]))) (
 none)) (
 cond (ff (IntKind.u8.wrap (IntKind.u32.wrap (x.tdiv 67108864))) == 2) (
 cond (decide (IntKind.i64.wrap (x.tmod 4194304) ≥ 8192)) (
 cond (decide (0 ≤ IntKind.u8.wrap (IntKind.u32.wrap (x.tdiv 67108864))) && true) (
 cond (mb (IntKind.u8.wrap (IntKind.u32.wrap (x.tdiv 67108864))) (IntKind.i64.wrap ((IntKind.u32.wrap (x.tdiv 4194304)).tmod 16)) (IntKind.i64.wrap ((IntKind.u32.wrap (x.tdiv 262144)).tmod 16)) 0 (IntKind.i64.wrap (IntKind.i64.wrap (x.tmod 4194304) - 16384))) (
 cond (decide (0 ≤ IntKind.u8.wrap (IntKind.u32.wrap (x.tdiv 67108864))) && (gg (IntKind.u8.wrap (IntKind.u32.wrap (x.tdiv 67108864))) (IntKind.i64.wrap ((IntKind.u32.wrap (x.tdiv 4194304)).tmod 16)) (IntKind.i64.wrap ((IntKind.u32.wrap (x.tdiv 262144)).tmod 16)) 0 (IntKind.i64.wrap (IntKind.i64.wrap (x.tmod 4194304) - 16384)))) (
 cond (ww (IntKind.u8.wrap (IntKind.u32.wrap (x.tdiv 67108864))) (IntKind.i64.wrap ((IntKind.u32.wrap (x.tdiv 4194304)).tmod 16)) (IntKind.i64.wrap ((IntKind.u32.wrap (x.tdiv 262144)).tmod 16)) 0 (IntKind.i64.wrap (IntKind.i64.wrap (x.tmod 4194304) - 16384)) != x) (
 some (.tuple #[(.agg #[(.int .u8 0), (.int .i64 0), (.int .i64 0), (.int .i64 0), (.int .i64 0)]), (.int .i64 6)])) (
 some (.tuple #[(.agg #[(.int .u8 (IntKind.u8.wrap (IntKind.u32.wrap (x.tdiv 67108864)))), (.int .i64 (IntKind.i64.wrap ((IntKind.u32.wrap (x.tdiv 4194304)).tmod 16))), (.int .i64 (IntKind.i64.wrap ((IntKind.u32.wrap (x.tdiv 262144)).tmod 16))), (.int .i64 0), (.int .i64 (IntKind.i64.wrap (IntKind.i64.wrap (x.tmod 4194304) - 16384)))]), (.int .i64 0)]))) (
 none)) (
 some (.tuple #[(.agg #[(.int .u8 0), (.int .i64 0), (.int .i64 0), (.int .i64 0), (.int .i64 0)]), (.int .i64 6)]))) (
 none)) (
 cond (decide (0 ≤ IntKind.u8.wrap (IntKind.u32.wrap (x.tdiv 67108864))) && true) (
 cond (mb (IntKind.u8.wrap (IntKind.u32.wrap (x.tdiv 67108864))) (IntKind.i64.wrap ((IntKind.u32.wrap (x.tdiv 4194304)).tmod 16)) (IntKind.i64.wrap ((IntKind.u32.wrap (x.tdiv 262144)).tmod 16)) 0 (IntKind.i64.wrap (x.tmod 4194304))) (
 cond (decide (0 ≤ IntKind.u8.wrap (IntKind.u32.wrap (x.tdiv 67108864))) && (gg (IntKind.u8.wrap (IntKind.u32.wrap (x.tdiv 67108864))) (IntKind.i64.wrap ((IntKind.u32.wrap (x.tdiv 4194304)).tmod 16)) (IntKind.i64.wrap ((IntKind.u32.wrap (x.tdiv 262144)).tmod 16)) 0 (IntKind.i64.wrap (x.tmod 4194304)))) (
 cond (ww (IntKind.u8.wrap (IntKind.u32.wrap (x.tdiv 67108864))) (IntKind.i64.wrap ((IntKind.u32.wrap (x.tdiv 4194304)).tmod 16)) (IntKind.i64.wrap ((IntKind.u32.wrap (x.tdiv 262144)).tmod 16)) 0 (IntKind.i64.wrap (x.tmod 4194304)) != x) (
 some (.tuple #[(.agg #[(.int .u8 0), (.int .i64 0), (.int .i64 0), (.int .i64 0), (.int .i64 0)]), (.int .i64 6)])) (
 some (.tuple #[(.agg #[(.int .u8 (IntKind.u8.wrap (IntKind.u32.wrap (x.tdiv 67108864)))), (.int .i64 (IntKind.i64.wrap ((IntKind.u32.wrap (x.tdiv 4194304)).tmod 16))), (.int .i64 (IntKind.i64.wrap ((IntKind.u32.wrap (x.tdiv 262144)).tmod 16))), (.int .i64 0), (.int .i64 (IntKind.i64.wrap (x.tmod 4194304)))]), (.int .i64 0)]))) (
 none)) (
 some (.tuple #[(.agg #[(.int .u8 0), (.int .i64 0), (.int .i64 0), (.int .i64 0), (.int .i64 0)]), (.int .i64 6)]))) (
 none))) (
 cond (ff (IntKind.u8.wrap (IntKind.u32.wrap (x.tdiv 67108864))) == 3) (
 cond (ff (IntKind.u8.wrap (IntKind.u32.wrap (x.tdiv 67108864))) == 3) (
 cond (decide (IntKind.i64.wrap (x.tmod 4194304) ≥ 2097152)) (
 cond (decide (0 ≤ IntKind.u8.wrap (IntKind.u32.wrap (x.tdiv 67108864))) && true) (
 cond (mb (IntKind.u8.wrap (IntKind.u32.wrap (x.tdiv 67108864))) (IntKind.i64.wrap ((IntKind.u32.wrap (x.tdiv 4194304)).tmod 16)) 0 0 (IntKind.i64.wrap (IntKind.i64.wrap (x.tmod 4194304) - 4194304))) (
 cond (decide (0 ≤ IntKind.u8.wrap (IntKind.u32.wrap (x.tdiv 67108864))) && (gg (IntKind.u8.wrap (IntKind.u32.wrap (x.tdiv 67108864))) (IntKind.i64.wrap ((IntKind.u32.wrap (x.tdiv 4194304)).tmod 16)) 0 0 (IntKind.i64.wrap (IntKind.i64.wrap (x.tmod 4194304) - 4194304)))) (
 cond (ww (IntKind.u8.wrap (IntKind.u32.wrap (x.tdiv 67108864))) (IntKind.i64.wrap ((IntKind.u32.wrap (x.tdiv 4194304)).tmod 16)) 0 0 (IntKind.i64.wrap (IntKind.i64.wrap (x.tmod 4194304) - 4194304)) != x) (
 some (.tuple #[(.agg #[(.int .u8 0), (.int .i64 0), (.int .i64 0), (.int .i64 0), (.int .i64 0)]), (.int .i64 6)])) (
 some (.tuple #[(.agg #[(.int .u8 (IntKind.u8.wrap (IntKind.u32.wrap (x.tdiv 67108864)))), (.int .i64 (IntKind.i64.wrap ((IntKind.u32.wrap (x.tdiv 4194304)).tmod 16))), (.int .i64 0), (.int .i64 0), (.int .i64 (IntKind.i64.wrap (IntKind.i64.wrap (x.tmod 4194304) - 4194304)))]), (.int .i64 0)]))) (
 none)) (
 some (.tuple #[(.agg #[(.int .u8 0), (.int .i64 0), (.int .i64 0), (.int .i64 0), (.int .i64 0)]), (.int .i64 6)]))) (
 none)) (
 cond (decide (0 ≤ IntKind.u8.wrap (IntKind.u32.wrap (x.tdiv 67108864))) && true) (
 cond (mb (IntKind.u8.wrap (IntKind.u32.wrap (x.tdiv 67108864))) (IntKind.i64.wrap ((IntKind.u32.wrap (x.tdiv 4194304)).tmod 16)) 0 0 (IntKind.i64.wrap (x.tmod 4194304))) (
 cond (decide (0 ≤ IntKind.u8.wrap (IntKind.u32.wrap (x.tdiv 67108864))) && (gg (IntKind.u8.wrap (IntKind.u32.wrap (x.tdiv 67108864))) (IntKind.i64.wrap ((IntKind.u32.wrap (x.tdiv 4194304)).tmod 16)) 0 0 (IntKind.i64.wrap (x.tmod 4194304)))) (
 cond (ww (IntKind.u8.wrap (IntKind.u32.wrap (x.tdiv 67108864))) (IntKind.i64.wrap ((IntKind.u32.wrap (x.tdiv 4194304)).tmod 16)) 0 0 (IntKind.i64.wrap (x.tmod 4194304)) != x) (
 some (.tuple #[(.agg #[(.int .u8 0), (.int .i64 0), (.int .i64 0), (.int .i64 0), (.int .i64 0)]), (.int .i64 6)])) (
 some (.tuple #[(.agg #[(.int .u8 (IntKind.u8.wrap (IntKind.u32.wrap (x.tdiv 67108864)))), (.int .i64 (IntKind.i64.wrap ((IntKind.u32.wrap (x.tdiv 4194304)).tmod 16))), (.int .i64 0), (.int .i64 0), (.int .i64 (IntKind.i64.wrap (x.tmod 4194304)))]), (.int .i64 0)]))) (
 none)) (
 some (.tuple #[(.agg #[(.int .u8 0), (.int .i64 0), (.int .i64 0), (.int .i64 0), (.int .i64 0)]), (.int .i64 6)]))) (
 none))) (
 cond (decide (IntKind.i64.wrap (x.tmod 4194304) ≥ 2097152)) (
 cond (decide (0 ≤ IntKind.u8.wrap (IntKind.u32.wrap (x.tdiv 67108864))) && true) (
 cond (mb (IntKind.u8.wrap (IntKind.u32.wrap (x.tdiv 67108864))) 0 0 0 (IntKind.i64.wrap (IntKind.i64.wrap (x.tmod 4194304) - 4194304))) (
 cond (decide (0 ≤ IntKind.u8.wrap (IntKind.u32.wrap (x.tdiv 67108864))) && (gg (IntKind.u8.wrap (IntKind.u32.wrap (x.tdiv 67108864))) 0 0 0 (IntKind.i64.wrap (IntKind.i64.wrap (x.tmod 4194304) - 4194304)))) (
 cond (ww (IntKind.u8.wrap (IntKind.u32.wrap (x.tdiv 67108864))) 0 0 0 (IntKind.i64.wrap (IntKind.i64.wrap (x.tmod 4194304) - 4194304)) != x) (
 some (.tuple #[(.agg #[(.int .u8 0), (.int .i64 0), (.int .i64 0), (.int .i64 0), (.int .i64 0)]), (.int .i64 6)])) (
 some (.tuple #[(.agg #[(.int .u8 (IntKind.u8.wrap (IntKind.u32.wrap (x.tdiv 67108864)))), (.int .i64 0), (.int .i64 0), (.int .i64 0), (.int .i64 (IntKind.i64.wrap (IntKind.i64.wrap (x.tmod 4194304) - 4194304)))]), (.int .i64 0)]))) (
 none)) (
 some (.tuple #[(.agg #[(.int .u8 0), (.int .i64 0), (.int .i64 0), (.int .i64 0), (.int .i64 0)]), (.int .i64 6)]))) (
 none)) (
 cond (decide (0 ≤ IntKind.u8.wrap (IntKind.u32.wrap (x.tdiv 67108864))) && true) (
 cond (mb (IntKind.u8.wrap (IntKind.u32.wrap (x.tdiv 67108864))) 0 0 0 (IntKind.i64.wrap (x.tmod 4194304))) (
 cond (decide (0 ≤ IntKind.u8.wrap (IntKind.u32.wrap (x.tdiv 67108864))) && (gg (IntKind.u8.wrap (IntKind.u32.wrap (x.tdiv 67108864))) 0 0 0 (IntKind.i64.wrap (x.tmod 4194304)))) (
 cond (ww (IntKind.u8.wrap (IntKind.u32.wrap (x.tdiv 67108864))) 0 0 0 (IntKind.i64.wrap (x.tmod 4194304)) != x) (
 some (.tuple #[(.agg #[(.int .u8 0), (.int .i64 0), (.int .i64 0), (.int .i64 0), (.int .i64 0)]), (.int .i64 6)])) (
 some (.tuple #[(.agg #[(.int .u8 (IntKind.u8.wrap (IntKind.u32.wrap (x.tdiv 67108864)))), (.int .i64 0), (.int .i64 0), (.int .i64 0), (.int .i64 (IntKind.i64.wrap (x.tmod 4194304)))]), (.int .i64 0)]))) (
 none)) (
 some (.tuple #[(.agg #[(.int .u8 0), (.int .i64 0), (.int .i64 0), (.int .i64 0), (.int .i64 0)]), (.int .i64 6)]))) (
 none)))) (
 cond (ff (IntKind.u8.wrap (IntKind.u32.wrap (x.tdiv 67108864))) == 4) (
 cond (ff (IntKind.u8.wrap (IntKind.u32.wrap (x.tdiv 67108864))) == 3) (
 cond (decide (IntKind.i64.wrap (x.tmod 4194304) ≥ 2097152)) (
 cond (decide (0 ≤ IntKind.u8.wrap (IntKind.u32.wrap (x.tdiv 67108864))) && true) (
 cond (mb (IntKind.u8.wrap (IntKind.u32.wrap (x.tdiv 67108864))) (IntKind.i64.wrap ((IntKind.u32.wrap (x.tdiv 4194304)).tmod 16)) 0 0 (IntKind.i64.wrap (IntKind.i64.wrap (x.tmod 4194304) - 4194304))) (
 cond (decide (0 ≤ IntKind.u8.wrap (IntKind.u32.wrap (x.tdiv 67108864))) && (gg (IntKind.u8.wrap (IntKind.u32.wrap (x.tdiv 67108864))) (IntKind.i64.wrap ((IntKind.u32.wrap (x.tdiv 4194304)).tmod 16)) 0 0 (IntKind.i64.wrap (IntKind.i64.wrap (x.tmod 4194304) - 4194304)))) (
 cond (ww (IntKind.u8.wrap (IntKind.u32.wrap (x.tdiv 67108864))) (IntKind.i64.wrap ((IntKind.u32.wrap (x.tdiv 4194304)).tmod 16)) 0 0 (IntKind.i64.wrap (IntKind.i64.wrap (x.tmod 4194304) - 4194304)) != x) (
 some (.tuple #[(.agg #[(.int .u8 0), (.int .i64 0), (.int .i64 0), (.int .i64 0), (.int .i64 0)]), (.int .i64 6)])) (
 some (.tuple #[(.agg #[(.int .u8 (IntKind.u8.wrap (IntKind.u32.wrap (x.tdiv 67108864)))), (.int .i64 (IntKind.i64.wrap ((IntKind.u32.wrap (x.tdiv 4194304)).tmod 16))), (.int .i64 0), (.int .i64 0), (.int .i64 (IntKind.i64.wrap (IntKind.i64.wrap (x.tmod 4194304) - 4194304)))]), (.int .i64 0)]))) (
 none)) (
 some (.tuple #[(.agg #[(.int .u8 0), (.int .i64 0), (.int .i64 0), (.int .i64 0), (.int .i64 0)]), (.int .i64 6)]))) (
 none)) (
 cond (decide (0 ≤ IntKind.u8.wrap (IntKind.u32.wrap (x.tdiv 67108864))) && true) (
 cond (mb (IntKind.u8.wrap (IntKind.u32.wrap (x.tdiv 67108864))) (IntKind.i64.wrap ((IntKind.u32.wrap (x.tdiv 4194304)).tmod 16)) 0 0 (IntKind.i64.wrap (x.tmod 4194304))) (
 cond (decide (0 ≤ IntKind.u8.wrap (IntKind.u32.wrap (x.tdiv 67108864))) && (gg (IntKind.u8.wrap (IntKind.u32.wrap (x.tdiv 67108864))) (IntKind.i64.wrap ((IntKind.u32.wrap (x.tdiv 4194304)).tmod 16)) 0 0 (IntKind.i64.wrap (x.tmod 4194304)))) (
 cond (ww (IntKind.u8.wrap (IntKind.u32.wrap (x.tdiv 67108864))) (IntKind.i64.wrap ((IntKind.u32.wrap (x.tdiv 4194304)).tmod 16)) 0 0 (IntKind.i64.wrap (x.tmod 4194304)) != x) (
 some (.tuple #[(.agg #[(.int .u8 0), (.int .i64 0), (.int .i64 0), (.int .i64 0), (.int .i64 0)]), (.int .i64 6)])) (
 some (.tuple #[(.agg #[(.int .u8 (IntKind.u8.wrap (IntKind.u32.wrap (x.tdiv 67108864)))), (.int .i64 (IntKind.i64.wrap ((IntKind.u32.wrap (x.tdiv 4194304)).tmod 16))), (.int .i64 0), (.int .i64 0), (.int .i64 (IntKind.i64.wrap (x.tmod 4194304)))]), (.int .i64 0)]))) (
 none)) (
 some (.tuple #[(.agg #[(.int .u8 0), (.int .i64 0), (.int .i64 0), (.int .i64 0), (.int .i64 0)]), (.int .i64 6)]))) (
 none))) (
 cond (decide (IntKind.i64.wrap (x.tmod 4194304) ≥ 2097152)) (
 cond (decide (0 ≤ IntKind.u8.wrap (IntKind.u32.wrap (x.tdiv 67108864))) && true) (
 cond (mb (IntKind.u8.wrap (IntKind.u32.wrap (x.tdiv 67108864))) 0 0 0 (IntKind.i64.wrap (IntKind.i64.wrap (x.tmod 4194304) - 4194304))) (
 cond (decide (0 ≤ IntKind.u8.wrap (IntKind.u32.wrap (x.tdiv 67108864))) && (gg (IntKind.u8.wrap (IntKind.u32.wrap (x.tdiv 67108864))) 0 0 0 (IntKind.i64.wrap (IntKind.i64.wrap (x.tmod 4194304) - 4194304)))) (
 cond (ww (IntKind.u8.wrap (IntKind.u32.wrap (x.tdiv 67108864))) 0 0 0 (IntKind.i64.wrap (IntKind.i64.wrap (x.tmod 4194304) - 4194304)) != x) (
 some (.tuple #[(.agg #[(.int .u8 0), (.int .i64 0), (.int .i64 0), (.int .i64 0), (.int .i64 0)]), (.int .i64 6)])) (
 some (.tuple #[(.agg #[(.int .u8 (IntKind.u8.wrap (IntKind.u32.wrap (x.tdiv 67108864)))), (.int .i64 0), (.int .i64 0), (.int .i64 0), (.int .i64 (IntKind.i64.wrap (IntKind.i64.wrap (x.tmod 4194304) - 4194304)))]), (.int .i64 0)]))) (
 none)) (
 some (.tuple #[(.agg #[(.int .u8 0), (.int .i64 0), (.int .i64 0), (.int .i64 0), (.int .i64 0)]), (.int .i64 6)]))) (
 none)) (
 cond (decide (0 ≤ IntKind.u8.wrap (IntKind.u32.wrap (x.tdiv 67108864))) && true) (
 cond (mb (IntKind.u8.wrap (IntKind.u32.wrap (x.tdiv 67108864))) 0 0 0 (IntKind.i64.wrap (x.tmod 4194304))) (
 cond (decide (0 ≤ IntKind.u8.wrap (IntKind.u32.wrap (x.tdiv 67108864))) && (gg (IntKind.u8.wrap (IntKind.u32.wrap (x.tdiv 67108864))) 0 0 0 (IntKind.i64.wrap (x.tmod 4194304)))) (
 cond (ww (IntKind.u8.wrap (IntKind.u32.wrap (x.tdiv 67108864))) 0 0 0 (IntKind.i64.wrap (x.tmod 4194304)) != x) (
 some (.tuple #[(.agg #[(.int .u8 0), (.int .i64 0), (.int .i64 0), (.int .i64 0), (.int .i64 0)]), (.int .i64 6)])) (
 some (.tuple #[(.agg #[(.int .u8 (IntKind.u8.wrap (IntKind.u32.wrap (x.tdiv 67108864)))), (.int .i64 0), (.int .i64 0), (.int .i64 0), (.int .i64 (IntKind.i64.wrap (x.tmod 4194304)))]), (.int .i64 0)]))) (
 none)) (
 some (.tuple #[(.agg #[(.int .u8 0), (.int .i64 0), (.int .i64 0), (.int .i64 0), (.int .i64 0)]), (.int .i64 6)]))) (
 none)))) (
 cond (ff (IntKind.u8.wrap (IntKind.u32.wrap (x.tdiv 67108864))) == 5) (
 cond (decide (0 ≤ IntKind.u8.wrap (IntKind.u32.wrap (x.tdiv 67108864))) && true) (
 cond (mb (IntKind.u8.wrap (IntKind.u32.wrap (x.tdiv 67108864))) 0 0 0 (IntKind.i64.wrap (x.tmod 4194304))) (
 cond (decide (0 ≤ IntKind.u8.wrap (IntKind.u32.wrap (x.tdiv 67108864))) && (gg (IntKind.u8.wrap (IntKind.u32.wrap (x.tdiv 67108864))) 0 0 0 (IntKind.i64.wrap (x.tmod 4194304)))) (
 cond (ww (IntKind.u8.wrap (IntKind.u32.wrap (x.tdiv 67108864))) 0 0 0 (IntKind.i64.wrap (x.tmod 4194304)) != x) (
 some (.tuple #[(.agg #[(.int .u8 0), (.int .i64 0), (.int .i64 0), (.int .i64 0), (.int .i64 0)]), (.int .i64 6)])) (
 some (.tuple #[(.agg #[(.int .u8 (IntKind.u8.wrap (IntKind.u32.wrap (x.tdiv 67108864)))), (.int .i64 0), (.int .i64 0), (.int .i64 0), (.int .i64 (IntKind.i64.wrap (x.tmod 4194304)))]), (.int .i64 0)]))) (
 none)) (
 some (.tuple #[(.agg #[(.int .u8 0), (.int .i64 0), (.int .i64 0), (.int .i64 0), (.int .i64 0)]), (.int .i64 6)]))) (
 none)) (
 cond (ff (IntKind.u8.wrap (IntKind.u32.wrap (x.tdiv 67108864))) == 6) (
 cond (decide (0 ≤ IntKind.u8.wrap (IntKind.u32.wrap (x.tdiv 67108864))) && true) (
 cond (mb (IntKind.u8.wrap (IntKind.u32.wrap (x.tdiv 67108864))) (IntKind.i64.wrap ((IntKind.u32.wrap (x.tdiv 4194304)).tmod 16)) 0 0 0) (
 cond (decide (0 ≤ IntKind.u8.wrap (IntKind.u32.wrap (x.tdiv 67108864))) && (gg (IntKind.u8.wrap (IntKind.u32.wrap (x.tdiv 67108864))) (IntKind.i64.wrap ((IntKind.u32.wrap (x.tdiv 4194304)).tmod 16)) 0 0 0)) (
 cond (ww (IntKind.u8.wrap (IntKind.u32.wrap (x.tdiv 67108864))) (IntKind.i64.wrap ((IntKind.u32.wrap (x.tdiv 4194304)).tmod 16)) 0 0 0 != x) (
 some (.tuple #[(.agg #[(.int .u8 0), (.int .i64 0), (.int .i64 0), (.int .i64 0), (.int .i64 0)]), (.int .i64 6)])) (
 some (.tuple #[(.agg #[(.int .u8 (IntKind.u8.wrap (IntKind.u32.wrap (x.tdiv 67108864)))), (.int .i64 (IntKind.i64.wrap ((IntKind.u32.wrap (x.tdiv 4194304)).tmod 16))), (.int .i64 0), (.int .i64 0), (.int .i64 0)]), (.int .i64 0)]))) (
 none)) (
 some (.tuple #[(.agg #[(.int .u8 0), (.int .i64 0), (.int .i64 0), (.int .i64 0), (.int .i64 0)]), (.int .i64 6)]))) (
 none)) (
 cond (decide (0 ≤ IntKind.u8.wrap (IntKind.u32.wrap (x.tdiv 67108864))) && true) (
 cond (mb (IntKind.u8.wrap (IntKind.u32.wrap (x.tdiv 67108864))) 0 0 0 0) (
 cond (decide (0 ≤ IntKind.u8.wrap (IntKind.u32.wrap (x.tdiv 67108864))) && (gg (IntKind.u8.wrap (IntKind.u32.wrap (x.tdiv 67108864))) 0 0 0 0)) (
 cond (ww (IntKind.u8.wrap (IntKind.u32.wrap (x.tdiv 67108864))) 0 0 0 0 != x) (
 some (.tuple #[(.agg #[(.int .u8 0), (.int .i64 0), (.int .i64 0), (.int .i64 0), (.int .i64 0)]), (.int .i64 6)])) (
 some (.tuple #[(.agg #[(.int .u8 (IntKind.u8.wrap (IntKind.u32.wrap (x.tdiv 67108864)))), (.int .i64 0), (.int .i64 0), (.int .i64 0), (.int .i64 0)]), (.int .i64 0)]))) (
 none)) (
 some (.tuple #[(.agg #[(.int .u8 0), (.int .i64 0), (.int .i64 0), (.int .i64 0), (.int .i64 0)]), (.int .i64 6)]))) (
 none))))))))) (
 none) := by kernel_rfl
end Go.Proofs.YtpckfdopokmbkaaGreatDoor.Ev

namespace Go.Proofs.YtpckfdopokmbkaaGreatDoor.Ev
open Go
open Go.Proofs Go.RowKit

/-! Instructions and words: the numbers. -/
theorem wrap_u32 {x : Int} (h0 : 0 ≤ x) (h1 : x < 4294967296) : IntKind.u32.wrap x = x := by
  simp [IntKind.wrap, IntKind.bits, IntKind.signed]; omega
theorem wrap_u8 {x : Int} (h0 : 0 ≤ x) (h1 : x < 256) : IntKind.u8.wrap x = x := by
  simp [IntKind.wrap, IntKind.bits, IntKind.signed]; omega
theorem wrap_64 {x : Int} (h0 : -9223372036854775808 ≤ x) (h1 : x < 9223372036854775808) : IntKind.i64.wrap x = x := by
  simp [IntKind.wrap, IntKind.bits, IntKind.signed]; omega
theorem bv_toNat {x : Int} (h0 : 0 ≤ x) (h1 : x < 4294967296) : (BitVec.ofInt 32 x).toNat = x.toNat := by
  rw [BitVec.toNat_ofInt]
  have : (x % ((2 ^ 32 : Nat) : Int)) = x := by
    apply Int.emod_eq_of_lt h0
    simpa using h1
  rw [this]
theorem and_u32 {x : Int} (h0 : 0 ≤ x) (h1 : x < 4294967296) (k : Nat) (hk : k < 32) : IntKind.u32.wrap (↑(BitVec.ofInt 32 x &&& BitVec.ofInt 32 (2 ^ k - 1)).toNat : Int) = x % 2 ^ k := by
  have h2 : (1 : Int) ≤ 2 ^ k := by have := Int.pow_pos (n := 2) (m := k) (by decide); omega
  have h3 : (2 : Int) ^ k ≤ 2 ^ 31 := by
    have := Nat.pow_le_pow_right (n := 2) (by decide) (show k ≤ 31 by omega)
    exact_mod_cast this
  rw [BitVec.toNat_and, bv_toNat h0 h1, bv_toNat (by omega) (by omega)]
  have e : ((2 : Int) ^ k - 1).toNat = 2 ^ k - 1 := by
    have : ((2 : Int) ^ k) = ((2 ^ k : Nat) : Int) := by push_cast; rfl
    rw [this]
    omega
  rw [e, Nat.and_two_pow_sub_one_eq_mod]
  have hx : x = (x.toNat : Int) := by omega
  rw [hx]
  simp only [Int.toNat_natCast]
  have e2 : ((x.toNat % 2 ^ k : Nat) : Int) = (x.toNat : Int) % 2 ^ k := by push_cast; rfl
  rw [e2]
  apply wrap_u32
  · exact Int.emod_nonneg _ (by omega)
  · have := Int.emod_lt_of_pos (x.toNat : Int) (b := 2 ^ k) (by omega)
    omega
theorem or_u32 {a b : Int} (k : Nat) (ha : 0 ≤ a) (hb : 0 ≤ b) (hb2 : b < 2 ^ k) (h1 : 2 ^ k * a + b < 4294967296) : IntKind.u32.wrap (↑(BitVec.ofInt 32 (2 ^ k * a) ||| BitVec.ofInt 32 b).toNat : Int) = 2 ^ k * a + b := by
  obtain ⟨a, rfl⟩ := Int.eq_ofNat_of_zero_le ha
  obtain ⟨b, rfl⟩ := Int.eq_ofNat_of_zero_le hb
  have e : (2 : Int) ^ k * (a : Int) = ((2 ^ k * a : Nat) : Int) := by push_cast; rfl
  have e2 : ((2 : Int) ^ k) = ((2 ^ k : Nat) : Int) := by push_cast; rfl
  rw [e] at h1 ⊢
  rw [e2] at hb2
  rw [BitVec.toNat_or, bv_toNat (by omega) (by omega), bv_toNat hb (by omega), Int.toNat_natCast, Int.toNat_natCast, ← Nat.two_pow_add_eq_or_of_lt (by omega)]
  rw [wrap_u32 (by omega) (by omega)]
  push_cast
  rfl
end Go.Proofs.YtpckfdopokmbkaaGreatDoor.Ev

namespace Go.Proofs.YtpckfdopokmbkaaGreatDoor.Ev
open Go
open Go.Proofs Go.RowKit

/-! Instructions and words: told, and taken. -/
def wordN : C5 Int := fun op a b c n => (((op * 16 + a) * 16 + b) * 16 + c) * 16384 + (if n < 0 then (if formN op = 2 then n + 16384 else n + 4194304) else n)
def cmayI : C5 Int := fun op a b c n => cond (cmay op a b c n) 0 2
def putN : C5 Int := fun op a b c n => cond (cmay op a b c n) (wordN op a b c n) 0
theorem wrap32 (x : Int) : IntKind.u32.wrap x = x % 4294967296 := by
  simp [IntKind.wrap, IntKind.bits, IntKind.signed]
theorem or_add {A b : Int} (k : Nat) (hA : A % 2 ^ k = 0) (h0 : 0 ≤ A) (hb : 0 ≤ b) (hb2 : b < 2 ^ k) (h1 : A + b < 4294967296) : IntKind.u32.wrap (↑(BitVec.ofInt 32 A ||| BitVec.ofInt 32 b).toNat : Int) = A + b := by
  have h2 : (0 : Int) < 2 ^ k := Int.pow_pos (n := 2) (m := k) (by decide)
  have e : A = 2 ^ k * (A / 2 ^ k) := by
    have := Int.mul_ediv_add_emod A (2 ^ k)
    omega
  have h3 : 0 ≤ A / 2 ^ k := Int.ediv_nonneg h0 (by omega)
  have h := or_u32 (a := A / 2 ^ k) (b := b) k h3 hb hb2 (by rw [← e]; exact h1)
  rw [← e] at h
  exact h
structure CF_t (op a b c n : Int) : Prop where
  o0 : 0 ≤ op
  o1 : op < 22
  a0 : 0 ≤ a
  a1 : a < 16
  b0 : 0 ≤ b
  b1 : b < 16
  c0 : 0 ≤ c
  c1 : c < 16
  n : (formN op = 1 ∧ n = 0) ∨ (formN op = 2 ∧ c = 0 ∧ -8192 ≤ n ∧ n < 8192) ∨ (formN op ≠ 1 ∧ formN op ≠ 2 ∧ b = 0 ∧ c = 0 ∧ -2097152 ≤ n ∧ n < 2097152)
theorem cmay_f {op a b c n : Int} (h : cmay op a b c n = true) : CF_t op a b c n := by
  unfold cmay at h
  simp only [Bool.and_eq_true, decide_eq_true_eq] at h
  obtain ⟨⟨h0, h1⟩, h⟩ := h
  rcases form_cases h0 h1 with e | e | e | e | e | e | e <;> rw [e] at h <;> simp only [Bool.and_eq_true, decide_eq_true_eq] at h <;> refine ⟨h0, h1, ?_, ?_, ?_, ?_, ?_, ?_, ?_⟩ <;> omega
theorem word_lt {op a b c n : Int} (h : cmay op a b c n = true) : 0 ≤ wordN op a b c n ∧ wordN op a b c n < 4294967296 := by
  obtain ⟨h0, h1, h2, h3, h4, h5, h6, h7, h8⟩ := cmay_f h
  unfold wordN
  split <;> (try split) <;> omega
theorem tup_eq {x y : Int} {e : Value} (h : x = y) : some (Value.tuple #[.int .u32 x, e]) = some (Value.tuple #[.int .u32 y, e]) := by rw [h]
theorem cput_eq (gl : Gl) (op a b c n : Int) (h0 : 0 ≤ op) : evFm gl (HM3 cmayI) 42 [cdV op a b c n] = some (.tuple #[.int .u32 (putN op a b c n), .int .i64 (cmayI op a b c n)]) := by
  rw [r_cput]
  unfold putN cmayI
  rw [decide_eq_true h0]
  by_cases h : cmay op a b c n = true
  case neg => rw [Bool.eq_false_iff.2 h]; rfl
  have hf := cmay_f h
  obtain ⟨_, h1, h2, h3, h4, h5, h6, h7, h8⟩ := hf
  have k0 : (symI formsL).okI .i64 (0 + op.toNat * 1) = true := by
    simp only [symI, decide_true, Bool.true_and]
    exact nbl (by show _ ≤ 22; omega)
  have k1 : (symI formsL).int .i64 (0 + op.toNat * 1) = formN op := by
    show nthI formsL (0 + op.toNat * 1) = nthI formsL op.toNat
    rw [Nat.zero_add, Nat.mul_one]
  have n1 : IntKind.u32.wrap (↑(BitVec.ofInt 32 (IntKind.u32.wrap n) &&& BitVec.ofInt 32 16383).toNat : Int) = IntKind.u32.wrap n % 16384 := and_u32 (x := IntKind.u32.wrap n) (by rw [wrap32]; omega) (by rw [wrap32]; omega) 14 (by decide)
  have n2 : IntKind.u32.wrap (↑(BitVec.ofInt 32 (IntKind.u32.wrap n) &&& BitVec.ofInt 32 4194303).toNat : Int) = IntKind.u32.wrap n % 4194304 := and_u32 (x := IntKind.u32.wrap n) (by rw [wrap32]; omega) (by rw [wrap32]; omega) 22 (by decide)
  simp only [h, decide_eq_true h1, k0, k1, n1, n2, cond_true, Bool.and_self, beqI]
  rw [show ((0 : Int) != 0) = false from rfl, cond_false]
  have e1 : IntKind.u32.wrap (IntKind.u32.wrap op * 67108864) = op * 67108864 := by rw [wrap_u32 h0 (by omega), wrap_u32 (by omega) (by omega)]
  have e2 : IntKind.u32.wrap (IntKind.u32.wrap a * 4194304) = a * 4194304 := by rw [wrap_u32 h2 (by omega), wrap_u32 (by omega) (by omega)]
  have e3 : IntKind.u32.wrap (IntKind.u32.wrap b * 262144) = b * 262144 := by rw [wrap_u32 h4 (by omega), wrap_u32 (by omega) (by omega)]
  have e4 : IntKind.u32.wrap (IntKind.u32.wrap c * 16384) = c * 16384 := by rw [wrap_u32 h6 (by omega), wrap_u32 (by omega) (by omega)]
  rw [e1, e2, e3, e4, wrap32 n]
  rw [or_add (A := op * 67108864) (b := a * 4194304) 26 (by omega) (by omega) (by omega) (by omega) (by omega), or_add (A := op * 67108864 + a * 4194304) (b := b * 262144) 22 (by omega) (by omega) (by omega) (by omega) (by omega), or_add (A := op * 67108864 + a * 4194304 + b * 262144) (b := c * 16384) 18 (by omega) (by omega) (by omega) (by omega) (by omega)]
  generalize hA : op * 67108864 + a * 4194304 + b * 262144 + c * 16384 = A
  unfold wordN
  by_cases hq : formN op = 2
  · rw [decide_eq_true hq, cond_true, or_add (A := A) (b := n % 4294967296 % 16384) 14 (by omega) (by omega) (by omega) (by omega) (by omega), if_pos hq]
    refine tup_eq ?_
    split <;> omega
  · rw [decide_eq_false hq, cond_false, if_neg hq]
    rcases h8 with ⟨h8, rfl⟩ | h8 | h8
    · rw [or_add (A := A) (b := 0 % 4294967296 % 4194304) 14 (by omega) (by omega) (by omega) (by omega) (by omega)]
      refine tup_eq ?_
      split <;> omega
    · omega
    · rw [or_add (A := A) (b := n % 4294967296 % 4194304) 22 (by omega) (by omega) (by omega) (by omega) (by omega)]
      refine tup_eq ?_
      split <;> omega
end Go.Proofs.YtpckfdopokmbkaaGreatDoor.Ev

namespace Go.Proofs.YtpckfdopokmbkaaGreatDoor.Ev
open Go
open Go.Proofs Go.RowKit

/-! The document's: forms, May, words. -/
def formR (op : Int) : Int := cond (decide (op < 22)) (formN op) 1
theorem formR_lt {op : Int} (h : op < 22) : formR op = formN op := by unfold formR; rw [decide_eq_true h]; rfl
theorem formR_ge {op : Int} (h : ¬ op < 22) : formR op = 1 := by unfold formR; rw [decide_eq_false h]; rfl
set_option maxHeartbeats 1000000 in
theorem form_eq (gl : Gl) (op : Int) (h0 : 0 ≤ op) : evFm gl H0 50 [.int .u8 op] = some (.int .i64 (formR op)) := by
  rw [q_form]
  by_cases h : op < 22
  · rcases (show op = 0 ∨ op = 1 ∨ op = 2 ∨ op = 3 ∨ op = 4 ∨ op = 5 ∨ op = 6 ∨ op = 7 ∨ op = 8 ∨ op = 9 ∨ op = 10 ∨ op = 11 ∨ op = 12 ∨ op = 13 ∨ op = 14 ∨ op = 15 ∨ op = 16 ∨ op = 17 ∨ op = 18 ∨ op = 19 ∨ op = 20 ∨ op = 21 by omega) with
      rfl | rfl | rfl | rfl | rfl | rfl | rfl | rfl | rfl | rfl | rfl | rfl | rfl | rfl | rfl | rfl | rfl | rfl | rfl | rfl | rfl | rfl <;> rfl
  · rw [formR_ge h]
    have hn : ∀ k : Int, k < 22 → (op == k) = false := fun k hk => by rw [beqI]; exact decide_eq_false (by omega)
    simp only [hn 0 (by omega), hn 18 (by omega), hn 21 (by omega), hn 8 (by omega), hn 9 (by omega), hn 10 (by omega), hn 13 (by omega), hn 14 (by omega), hn 15 (by omega), hn 12 (by omega), hn 16 (by omega), hn 17 (by omega), hn 19 (by omega), hn 20 (by omega), cond_false]
theorem bneI (a b : Int) : (a != b) = !(decide (a = b)) := rfl
theorem le15 (x : Int) : decide (x ≤ 15) = decide (x < 16) := decide_eq_decide.2 (by omega)
theorem le13 (x : Int) : decide (x ≤ 8191) = decide (x < 8192) := decide_eq_decide.2 (by omega)
theorem le21 (x : Int) : decide (x ≤ 2097151) = decide (x < 2097152) := decide_eq_decide.2 (by omega)
theorem z15 {x : Int} (h : 0 = x) : decide (x ≥ 0) = true ∧ decide (x < 16) = true := by subst h; exact ⟨rfl, rfl⟩
/-- Numbers that are registers', zeros and within: their questions go together. -/
theorem rmay_eq (gl : Gl) (op a b c n : Int) (h0 : 0 ≤ op) : evFm gl (HM3r formR) 51 [cdV op a b c n] = some (.bool (cmay op a b c n)) := by
  rw [r_rmay]
  by_cases h : op < 22
  case neg =>
    rw [decide_eq_true (show op > 21 by omega)]
    unfold cmay
    rw [decide_eq_false h, Bool.and_false, Bool.false_and]
    rfl
  rw [decide_eq_false (show ¬ op > 21 by omega), decide_eq_true h0, formR_lt h]
  simp only [cond_true, cond_false, bneI, beqI, le15, le13, le21]
  unfold cmay
  rw [decide_eq_true h0, decide_eq_true h]
  have hz : ∀ x : Int, decide (x = 0) = decide (0 = x) := fun x => decide_eq_decide.2 ⟨Eq.symm, Eq.symm⟩
  have ha : decide (a ≥ 0) = false ∨ decide (a < 16) = false → decide (0 = a) = false := fun e => decide_eq_false fun q => by
    obtain ⟨q1, q2⟩ := z15 q
    rw [q1, q2] at e
    rcases e with e | e <;> cases e
  have hb : decide (b ≥ 0) = false ∨ decide (b < 16) = false → decide (0 = b) = false := fun e => decide_eq_false fun q => by
    obtain ⟨q1, q2⟩ := z15 q
    rw [q1, q2] at e
    rcases e with e | e <;> cases e
  have hc : decide (c ≥ 0) = false ∨ decide (c < 16) = false → decide (0 = c) = false := fun e => decide_eq_false fun q => by
    obtain ⟨q1, q2⟩ := z15 q
    rw [q1, q2] at e
    rcases e with e | e <;> cases e
  have hf := form_cases h0 h
  generalize formN op = f at *
  simp only [hz]
  generalize decide (a ≥ 0) = a0 at *
  generalize decide (a < 16) = a1 at *
  generalize decide (0 = a) = a2 at *
  generalize decide (b ≥ 0) = b0 at *
  generalize decide (b < 16) = b1 at *
  generalize decide (0 = b) = b2 at *
  generalize decide (c ≥ 0) = c0 at *
  generalize decide (c < 16) = c1 at *
  generalize decide (0 = c) = c2 at *
  generalize decide (0 = n) = n0 at *
  generalize decide (n ≥ 0) = n1 at *
  generalize decide (n ≤ 255) = n2 at *
  generalize decide (n ≥ -8192) = n3 at *
  generalize decide (n < 8192) = n4 at *
  generalize decide (n ≥ -2097152) = n5 at *
  generalize decide (n < 2097152) = n6 at *
  have nf : ∀ {x : Bool}, x = false → some (Value.bool false) = some (Value.bool x) := fun e => by rw [e]
  cases a0 with
  | false =>
    rw [ha (.inl rfl)]
    exact nf (by rcases hf with e | e | e | e | e | e | e <;> subst e <;> simp)
  | true =>
  cases a1 with
  | false =>
    rw [ha (.inr rfl)]
    exact nf (by rcases hf with e | e | e | e | e | e | e <;> subst e <;> simp)
  | true =>
  cases b0 with
  | false =>
    rw [hb (.inl rfl)]
    exact nf (by rcases hf with e | e | e | e | e | e | e <;> subst e <;> simp)
  | true =>
  cases b1 with
  | false =>
    rw [hb (.inr rfl)]
    exact nf (by rcases hf with e | e | e | e | e | e | e <;> subst e <;> simp)
  | true =>
  cases c0 with
  | false =>
    rw [hc (.inl rfl)]
    exact nf (by rcases hf with e | e | e | e | e | e | e <;> subst e <;> simp)
  | true =>
  cases c1 with
  | false =>
    rw [hc (.inr rfl)]
    exact nf (by rcases hf with e | e | e | e | e | e | e <;> subst e <;> simp)
  | true =>
  clear ha hb hc hz nf
  rcases hf with e | e | e | e | e | e | e <;> subst e
  · cases a2 <;> cases b2 <;> cases c2 <;> cases n0 <;> rfl
  · cases n0 <;> rfl
  · cases c2 <;> cases n3 <;> cases n4 <;> rfl
  · cases b2 <;> cases c2 <;> cases n5 <;> cases n6 <;> rfl
  · cases a2 <;> cases b2 <;> cases c2 <;> cases n5 <;> cases n6 <;> rfl
  · cases a2 <;> cases b2 <;> cases c2 <;> cases n1 <;> cases n2 <;> rfl
  · cases b2 <;> cases c2 <;> cases n0 <;> rfl
theorem rword_eq (gl : Gl) (op a b c n : Int) (h : cmay op a b c n = true) : evFm gl (HM3r formR) 52 [cdV op a b c n] = some (.int .u32 (wordN op a b c n)) := by
  rw [r_rword]
  have hf := cmay_f h
  have hw := word_lt h
  obtain ⟨h0, h1, h2, h3, h4, h5, h6, h7, h8⟩ := hf
  have ie : ∀ {x y : Int}, x = y → some (Value.int .u32 x) = some (Value.int .u32 y) := fun e => by rw [e]
  have key : ∀ m : Int, -4194304 ≤ m → m ≤ 4194304 → (((op * 16 + a) * 16 + b) * 16 + c) * 16384 + m = wordN op a b c n → IntKind.u32.wrap (IntKind.i64.wrap (IntKind.i64.wrap (IntKind.i64.wrap (IntKind.i64.wrap (IntKind.i64.wrap (IntKind.i64.wrap (IntKind.i64.wrap (IntKind.i64.wrap (IntKind.i64.wrap op * 16) + a) * 16) + b) * 16) + c) * 16384) + m)) = wordN op a b c n := by
    intro m m0 m1 e
    rw [wrap_64 (x := op) (by omega) (by omega), wrap_64 (x := op * 16) (by omega) (by omega), wrap_64 (x := op * 16 + a) (by omega) (by omega), wrap_64 (x := (op * 16 + a) * 16) (by omega) (by omega), wrap_64 (x := (op * 16 + a) * 16 + b) (by omega) (by omega), wrap_64 (x := ((op * 16 + a) * 16 + b) * 16) (by omega) (by omega), wrap_64 (x := ((op * 16 + a) * 16 + b) * 16 + c) (by omega) (by omega), wrap_64 (x := (((op * 16 + a) * 16 + b) * 16 + c) * 16384) (by omega) (by omega), wrap_64 (by omega) (by omega), e]
    exact wrap_u32 hw.1 hw.2
  rw [decide_eq_true h0, formR_lt h1]
  simp only [cond_true, bneI, beqI]
  by_cases hq : formN op = 2
  · have hn : -8192 ≤ n ∧ n < 8192 := by omega
    rw [decide_eq_true hq]
    by_cases hl : n < 0
    · rw [decide_eq_true hl]
      refine ie (key _ (by rw [wrap_64] <;> omega) (by rw [wrap_64] <;> omega) ?_)
      rw [wrap_64 (by omega) (by omega)]
      unfold wordN
      rw [if_pos hl, if_pos hq]
    · rw [decide_eq_false hl]
      refine ie (key _ (by omega) (by omega) ?_)
      unfold wordN
      rw [if_neg hl]
  · have hn : -2097152 ≤ n ∧ n < 2097152 := by omega
    rw [decide_eq_false hq]
    by_cases hl : n < 0
    · rw [decide_eq_true hl]
      refine ie (key _ (by rw [wrap_64] <;> omega) (by rw [wrap_64] <;> omega) ?_)
      rw [wrap_64 (by omega) (by omega)]
      unfold wordN
      rw [if_pos hl, if_neg hq]
    · rw [decide_eq_false hl]
      refine ie (key _ (by omega) (by omega) ?_)
      unfold wordN
      rw [if_neg hl]
end Go.Proofs.YtpckfdopokmbkaaGreatDoor.Ev

namespace Go.Proofs.YtpckfdopokmbkaaGreatDoor.Ev
open Go
open Go.Proofs Go.RowKit

/-! Words that are taken. -/
def oN (x : Int) : Int := x / 67108864
def sg (m h : Int) : Int := cond (decide (m ≥ h)) (m - 2 * h) m
def errTk : Value := .tuple #[cdV 0 0 0 0 0, .int .i64 6]
def tkV (x op a b c n : Int) : Value := cond (cmay op a b c n && decide (wordN op a b c n = x)) (.tuple #[cdV op a b c n, .int .i64 0]) errTk
def takeV (x : Int) : Value := match formN (oN x) with
  | 1 => tkV x (oN x) (x / 4194304 % 16) (x / 262144 % 16) (x / 16384 % 16) 0
  | 2 => tkV x (oN x) (x / 4194304 % 16) (x / 262144 % 16) 0 (sg (x % 16384) 8192)
  | 3 => tkV x (oN x) (x / 4194304 % 16) 0 0 (sg (x % 4194304) 2097152)
  | 4 => tkV x (oN x) 0 0 0 (sg (x % 4194304) 2097152)
  | 5 => tkV x (oN x) 0 0 0 (x % 4194304)
  | 6 => tkV x (oN x) (x / 4194304 % 16) 0 0 0
  | _ => tkV x (oN x) 0 0 0 0
theorem tk_bad {x op a b c n : Int} (h : ¬ op < 22) : tkV x op a b c n = errTk := by
  unfold tkV cmay
  rw [decide_eq_false h, Bool.and_false, Bool.false_and, Bool.false_and]
  rfl
theorem take_bad {x : Int} (h : ¬ oN x < 22) : takeV x = errTk := by
  unfold takeV
  split <;> exact tk_bad h
theorem tk_c {x op a b c n : Int} (h0 : 0 ≤ op) : cond (decide (0 ≤ op) && true) (cond (cmayI op a b c n != 0) (some errTk) (cond (putN op a b c n != x) (some errTk) (some (.tuple #[cdV op a b c n, .int .i64 0])))) none = some (tkV x op a b c n) := by
  unfold tkV cmayI putN
  rw [decide_eq_true h0]
  cases cmay op a b c n with
  | false => rfl
  | true =>
    simp only [Bool.and_self, cond_true, Bool.true_and, bneI]
    cases decide (wordN op a b c n = x) <;> rfl
theorem tk_r {x op a b c n : Int} (h0 : 0 ≤ op) : cond (decide (0 ≤ op) && true) (cond (cmay op a b c n) (cond (decide (0 ≤ op) && cmay op a b c n) (cond (wordN op a b c n != x) (some errTk) (some (.tuple #[cdV op a b c n, .int .i64 0]))) none) (some errTk)) none = some (tkV x op a b c n) := by
  unfold tkV
  rw [decide_eq_true h0]
  cases cmay op a b c n with
  | false => rfl
  | true =>
    simp only [Bool.and_self, cond_true, Bool.true_and, bneI]
    cases decide (wordN op a b c n = x) <;> rfl
theorem nib {y : Int} (h0 : 0 ≤ y) (h1 : y < 4294967296) : IntKind.i64.wrap (IntKind.u32.wrap (↑(BitVec.ofInt 32 y &&& BitVec.ofInt 32 15).toNat : Int)) = y % 16 := by
  have h : IntKind.u32.wrap (↑(BitVec.ofInt 32 y &&& BitVec.ofInt 32 15).toNat : Int) = y % 16 := and_u32 h0 h1 4 (by decide)
  rw [h, wrap_64 (by omega) (by omega)]
theorem fdivE {x d : Int} (hd : 0 ≤ d) : x.fdiv d = x / d := Int.fdiv_eq_ediv_of_nonneg x hd
theorem tdivE {x d : Int} (hx : 0 ≤ x) : x.tdiv d = x / d := Int.tdiv_eq_ediv_of_nonneg hx
theorem tmodE {x d : Int} (hx : 0 ≤ x) : x.tmod d = x % d := Int.tmod_eq_emod_of_nonneg hx
theorem ctake_eq (gl : Gl) (x : Int) (h0 : 0 ≤ x) (h1 : x < 4294967296) : evFm gl (HM3p putN cmayI) 25 [.int .u32 x] = some (takeV x) := by
  rw [r_ctake]
  have ho : IntKind.u8.wrap (x.fdiv 67108864) = oN x := by
    rw [fdivE (by omega), wrap_u8 (by omega) (by omega)]; rfl
  have ho0 : 0 ≤ oN x := by unfold oN; omega
  rw [ho]
  by_cases h : oN x < 22
  case neg => rw [decide_eq_true (show oN x ≥ 22 by omega), take_bad h]; rfl
  have k0 : (symI formsL).okI .i64 (0 + (oN x).toNat * 1) = true := by
    simp only [symI, decide_true, Bool.true_and]
    exact nbl (by show _ ≤ 22; omega)
  have k1 : (symI formsL).int .i64 (0 + (oN x).toNat * 1) = formN (oN x) := by
    show nthI formsL (0 + (oN x).toNat * 1) = nthI formsL (oN x).toNat
    rw [Nat.zero_add, Nat.mul_one]
  have d1 : decide (oN x ≥ 22) = false := decide_eq_false (by omega)
  have d2 : (decide (0 ≤ oN x) && decide (oN x < 22)) = true := by rw [decide_eq_true ho0, decide_eq_true h]; rfl
  have a1 : IntKind.i64.wrap (IntKind.u32.wrap (↑(BitVec.ofInt 32 (x / 4194304) &&& BitVec.ofInt 32 15).toNat : Int)) = x / 4194304 % 16 := nib (by omega) (by omega)
  have a2 : IntKind.i64.wrap (IntKind.u32.wrap (↑(BitVec.ofInt 32 (x / 262144) &&& BitVec.ofInt 32 15).toNat : Int)) = x / 262144 % 16 := nib (by omega) (by omega)
  have a3 : IntKind.i64.wrap (IntKind.u32.wrap (↑(BitVec.ofInt 32 (x / 16384) &&& BitVec.ofInt 32 15).toNat : Int)) = x / 16384 % 16 := nib (by omega) (by omega)
  have f1 : x.fdiv 4194304 = x / 4194304 := fdivE (by omega)
  have f2 : x.fdiv 262144 = x / 262144 := fdivE (by omega)
  have f3 : x.fdiv 16384 = x / 16384 := fdivE (by omega)
  have w1 : IntKind.i64.wrap x = x := wrap_64 (by omega) (by omega)
  have w2 : IntKind.u32.wrap x = x := wrap_u32 h0 h1
  have n1 : IntKind.u32.wrap (↑(BitVec.ofInt 32 x &&& BitVec.ofInt 32 16383).toNat : Int) = x % 16384 := and_u32 h0 h1 14 (by decide)
  have n2 : IntKind.u32.wrap (↑(BitVec.ofInt 32 x &&& BitVec.ofInt 32 4194303).toNat : Int) = x % 4194304 := and_u32 h0 h1 22 (by decide)
  have m1 : IntKind.i64.wrap (x % 16384) = x % 16384 := wrap_64 (by omega) (by omega)
  have m2 : IntKind.i64.wrap (x % 4194304) = x % 4194304 := wrap_64 (by omega) (by omega)
  have m3 : IntKind.i64.wrap (x % 16384 - 16384) = x % 16384 - 16384 := wrap_64 (by omega) (by omega)
  have m4 : IntKind.i64.wrap (x % 4194304 - 4194304) = x % 4194304 - 4194304 := wrap_64 (by omega) (by omega)
  have hE : Value.tuple #[.agg #[.int .u8 0, .int .i64 0, .int .i64 0, .int .i64 0, .int .i64 0], .int .i64 6] = errTk := rfl
  have hV : ∀ op a b c n, Value.tuple #[.agg #[.int .u8 op, .int .i64 a, .int .i64 b, .int .i64 c, .int .i64 n], .int .i64 0] = .tuple #[cdV op a b c n, .int .i64 0] := fun _ _ _ _ _ => rfl
  simp only [d1, d2, k0, k1, cond_true, cond_false, f1, f2, f3, a1, a2, a3, w1, w2, n1, n2, m1, m2, m3, m4, hE, hV, tk_c ho0]
  unfold takeV
  rcases form_cases ho0 h with e | e | e | e | e | e | e <;> rw [e]
  · rfl
  · rfl
  · unfold sg; cases decide (x % 16384 ≥ 8192) <;> rfl
  · unfold sg; cases decide (x % 4194304 ≥ 2097152) <;> rfl
  · unfold sg; cases decide (x % 4194304 ≥ 2097152) <;> rfl
  · rfl
  · rfl
theorem rtake_eq (gl : Gl) (x : Int) (h0 : 0 ≤ x) (h1 : x < 4294967296) : evFm gl (HM3t formR cmay cmay wordN) 29 [.int .u32 x] = some (takeV x) := by
  rw [r_rtake]
  have ho : IntKind.u8.wrap (IntKind.u32.wrap (x.tdiv 67108864)) = oN x := by
    rw [tdivE h0, wrap_u32 (by omega) (by omega), wrap_u8 (by omega) (by omega)]; rfl
  have ho0 : 0 ≤ oN x := by unfold oN; omega
  have d1 : decide (0 ≤ oN x) = true := decide_eq_true ho0
  have f1 : IntKind.i64.wrap ((IntKind.u32.wrap (x.tdiv 4194304)).tmod 16) = x / 4194304 % 16 := by
    rw [tdivE h0, wrap_u32 (by omega) (by omega), tmodE (by omega), wrap_64 (by omega) (by omega)]
  have f2 : IntKind.i64.wrap ((IntKind.u32.wrap (x.tdiv 262144)).tmod 16) = x / 262144 % 16 := by
    rw [tdivE h0, wrap_u32 (by omega) (by omega), tmodE (by omega), wrap_64 (by omega) (by omega)]
  have f3 : IntKind.i64.wrap ((IntKind.u32.wrap (x.tdiv 16384)).tmod 16) = x / 16384 % 16 := by
    rw [tdivE h0, wrap_u32 (by omega) (by omega), tmodE (by omega), wrap_64 (by omega) (by omega)]
  have t1 : x.tmod 16384 = x % 16384 := tmodE h0
  have t2 : x.tmod 4194304 = x % 4194304 := tmodE h0
  have m1 : IntKind.i64.wrap (x % 16384) = x % 16384 := wrap_64 (by omega) (by omega)
  have m2 : IntKind.i64.wrap (x % 4194304) = x % 4194304 := wrap_64 (by omega) (by omega)
  have m3 : IntKind.i64.wrap (x % 16384 - 16384) = x % 16384 - 16384 := wrap_64 (by omega) (by omega)
  have m4 : IntKind.i64.wrap (x % 4194304 - 4194304) = x % 4194304 - 4194304 := wrap_64 (by omega) (by omega)
  have hE : Value.tuple #[.agg #[.int .u8 0, .int .i64 0, .int .i64 0, .int .i64 0, .int .i64 0], .int .i64 6] = errTk := rfl
  have hV : ∀ op a b c n, Value.tuple #[.agg #[.int .u8 op, .int .i64 a, .int .i64 b, .int .i64 c, .int .i64 n], .int .i64 0] = .tuple #[cdV op a b c n, .int .i64 0] := fun _ _ _ _ _ => rfl
  simp only [ho, f1, f2, f3, t1, t2, m1, m2, m3, m4, hE, hV, tk_r ho0]
  rw [d1, cond_true]
  by_cases h : oN x < 22
  case neg =>
    rw [formR_ge h, take_bad h]
    exact congrArg some (tk_bad h)
  rw [formR_lt h]
  unfold takeV
  rcases form_cases ho0 h with e | e | e | e | e | e | e <;> rw [e]
  · rfl
  · rfl
  · unfold sg; cases decide (x % 16384 ≥ 8192) <;> rfl
  · unfold sg; cases decide (x % 4194304 ≥ 2097152) <;> rfl
  · unfold sg; cases decide (x % 4194304 ≥ 2097152) <;> rfl
  · rfl
  · rfl
end Go.Proofs.YtpckfdopokmbkaaGreatDoor.Ev

namespace Go.Proofs.YtpckfdopokmbkaaGreatDoor.Ev
open Go
open Go.Proofs Go.RowKit

/-! Words and instructions: what is answered of the functions. -/
theorem fnCd {gl : Gl} (hF : GlF gl) (hgl : Low gl) {H : Hs} (hH : H.OK Tryz.prog gl) {f : FuncId} {gg : C5 Bool} {vv : C5 Value} (h : ∀ op a b c n, 0 ≤ op → gg op a b c n = true → evFm gl H f [cdV op a b c n] = some (vv op a b c n)) : FnOK Tryz.prog gl f (afCd gg vv) :=
  fn_of (syF_ok hF) goodT hgl tglob hH (L := 100) (G := 40) (d := 40) fun args σ v e => by
    unfold afCd at e
    split at e
    · rename_i op a b c n
      simp only [Option.some.injEq, Prod.mk.injEq, Bool.and_eq_true, decide_eq_true_eq] at e
      obtain ⟨⟨h1, h2⟩, rfl⟩ := e
      exact ⟨rfl, h op a b c n h1 h2⟩
    · cases e
theorem fn_form {gl : Gl} (hF : GlF gl) (hgl : Low gl) : FnOK Tryz.prog gl 50 (afForm formR) :=
  fn_of (syF_ok hF) goodT hgl tglob H0_ok (L := 100) (G := 40) (d := 40) fun args σ v e => by
    unfold afForm at e
    split at e
    · rename_i op
      simp only [Option.some.injEq, Prod.mk.injEq, decide_eq_true_eq] at e
      obtain ⟨h1, rfl⟩ := e
      exact ⟨rfl, form_eq gl op h1⟩
    · cases e
theorem fn_cmay {gl : Gl} (hF : GlF gl) (hgl : Low gl) : FnOK Tryz.prog gl 61 (afCd tt5 (i5 .i64 cmayI)) := fnCd hF hgl H0_ok fun op a b c n h _ => cmay_eq gl op a b c n h
def putV : C5 Value := fun op a b c n => .tuple #[.int .u32 (putN op a b c n), .int .i64 (cmayI op a b c n)]
def mayV : C5 Value := fun op a b c n => .bool (cmay op a b c n)
theorem one_ok {gl : Gl} {a : List (FuncId × AF)} (h : ∀ p ∈ a, FnOK Tryz.prog gl p.1 p.2) : (hsOf a [] []).OK Tryz.prog gl := hsOf_ok h (fun _ h => by cases h) (fun _ h => by cases h)
theorem HM3_ok {gl : Gl} (hF : GlF gl) (hgl : Low gl) : (HM3 cmayI).OK Tryz.prog gl := one_ok fun p hp => by
  simp only [List.mem_cons, List.not_mem_nil, or_false] at hp
  subst hp
  exact fn_cmay hF hgl
theorem fn_cput {gl : Gl} (hF : GlF gl) (hgl : Low gl) : FnOK Tryz.prog gl 42 (afCd tt5 putV) := fnCd hF hgl (HM3_ok hF hgl) fun op a b c n h _ => cput_eq gl op a b c n h
theorem HM3r_ok {gl : Gl} (hF : GlF gl) (hgl : Low gl) : (HM3r formR).OK Tryz.prog gl := one_ok fun p hp => by
  simp only [List.mem_cons, List.not_mem_nil, or_false] at hp
  subst hp
  exact fn_form hF hgl
theorem fn_rmay {gl : Gl} (hF : GlF gl) (hgl : Low gl) : FnOK Tryz.prog gl 51 (afCd tt5 mayV) := fnCd hF hgl (HM3r_ok hF hgl) fun op a b c n h _ => rmay_eq gl op a b c n h
theorem fn_rword {gl : Gl} (hF : GlF gl) (hgl : Low gl) : FnOK Tryz.prog gl 52 (afCd cmay (i5 .u32 wordN)) := fnCd hF hgl (HM3r_ok hF hgl) fun op a b c n _ h => rword_eq gl op a b c n h
theorem HM3p_ok {gl : Gl} (hF : GlF gl) (hgl : Low gl) : (HM3p putN cmayI).OK Tryz.prog gl := one_ok fun p hp => by
  simp only [List.mem_cons, List.not_mem_nil, or_false] at hp
  subst hp
  exact fn_cput hF hgl
theorem HM3t_ok {gl : Gl} (hF : GlF gl) (hgl : Low gl) : (HM3t formR cmay cmay wordN).OK Tryz.prog gl := one_ok fun p hp => by
  simp only [List.mem_cons, List.not_mem_nil, or_false] at hp
  rcases hp with rfl | rfl | rfl
  · exact fn_form hF hgl
  · exact fn_rmay hF hgl
  · exact fn_rword hF hgl
def afTake (tk : Int → Value) : AF := fun args _ => match args with
  | [.int .u32 x] => some (decide (0 ≤ x) && decide (x < 4294967296), tk x)
  | _ => none
theorem fnTake {gl : Gl} (hF : GlF gl) (hgl : Low gl) {H : Hs} (hH : H.OK Tryz.prog gl) {f : FuncId} {tk : Int → Value} (h : ∀ x, 0 ≤ x → x < 4294967296 → evFm gl H f [.int .u32 x] = some (tk x)) : FnOK Tryz.prog gl f (afTake tk) :=
  fn_of (syF_ok hF) goodT hgl tglob hH (L := 100) (G := 40) (d := 40) fun args σ v e => by
    unfold afTake at e
    split at e
    · rename_i x
      simp only [Option.some.injEq, Prod.mk.injEq, Bool.and_eq_true, decide_eq_true_eq] at e
      obtain ⟨⟨h1, h2⟩, rfl⟩ := e
      exact ⟨rfl, h x h1 h2⟩
    · cases e
theorem fn_ctake {gl : Gl} (hF : GlF gl) (hgl : Low gl) : FnOK Tryz.prog gl 25 (afTake takeV) := fnTake hF hgl (HM3p_ok hF hgl) fun x => ctake_eq gl x
theorem fn_rtake {gl : Gl} (hF : GlF gl) (hgl : Low gl) : FnOK Tryz.prog gl 29 (afTake takeV) := fnTake hF hgl (HM3t_ok hF hgl) fun x => rtake_eq gl x
end Go.Proofs.YtpckfdopokmbkaaGreatDoor.Ev
