/- A chip made anew, whatever comes in; whether a deck may be. Where the forms stand as the program's text lays them. -/
import Derived.Test.YtpckfdopokmbkaaGreatDoorK6
noncomputable section
namespace Go.Proofs.YtpckfdopokmbkaaGreatDoor.Ev
open Go
open Go.Proofs Go.RowKit

/-! A chip made anew: whether. -/
structure ChS where
  i : Int
  po : Nat
  pn : Nat
  pc : Nat
  dO : Nat
  dn : Nat
  dc : Nat
  n' : Int
  c1 : Cfg
  c2 : Cfg
  m : Rws
  hm : Rws
  nt : Rws
  tm : Int
def chRow (c : Cfg) (sl : Value) (tm : Int) : LObj := rowT 83 (cfgL c ++ [pK 1002, pK 1003, pK 1004, sl, .int .u64 tm])
def ptL : Nat → Nat → List Value
  | _, 0 => []
  | i, n + 1 => pK i :: ptL (i + 1) n
def noneL : Nat → Rws
  | 0 => []
  | n + 1 => none :: noneL n
def chR (k : Nat) (s : ChS) : Rws := [some (chRow s.c1 (match k with | 0 => .slice none 0 0 | k + 1 => .slice (some ⟨1005, 0, none⟩) (k + 1) (k + 1)) s.tm), some (cfgRow s.c2), some (.box (.raw s.m) []), some (.box (.raw s.hm) [1002]), some (.box (.raw s.nt) [])] ++ (match k with
  | 0 => []
  | k + 1 => some (.row ⟨ptL 1006 (k + 1), 92, (0, 0), 1, false, false⟩) :: noneL (k + 1))
def pCh : Par (Cfg × Unit × Unit × Unit × Unit × Int) := pCfg.s ((pP 1002).s ((pP 1003).s ((pP 1004).s (pNil.s (pI .u64)))))
/-! Its data. -/
def dtV (s : ChS) : List Value := [.int .i64 s.i, pK 1000, wSl' 901 s.dO s.dn s.dc, pK 1001, wSl' 900 s.po s.pn s.pc, .int .i64 s.n', .pointer none, .int .i64 0]
def dtT : LpT ChS := ⟨fun vs rows => match vs, rows with
  | [.int .i64 i, .pointer (some p), .slice (some a) dn dc, .pointer (some p1), .slice (some b) pn pc, .int .i64 n', .pointer none, .int .i64 e], [some (.row b0), some (.row b1), some (.box (.raw m) []), some (.box (.raw hm) [o]), some (.box (.raw nt) [])] => cond (isP p 1000 && isSl a 901 && isP p1 1001 && isSl b 900 && decide (e = 0) && Nat.beq o 1002) ((rowP 83 pCh b0).bind fun x => (rowP 23 pCfg b1).map fun y =>
    ⟨i, b.off, pn, pc, a.off, dn, dc, n', x.1, y, m, hm, nt, x.2.2.2.2.2⟩) none
  | _, _ => none, fun s => (dtV s, chR 0 s), fun vs rows s h => by
  split at h
  case h_2 => cases h
  rename_i i p a dn dc p1 b pn pc n' e b0 b1 m hm o nt
  obtain ⟨h1, h⟩ := condT h
  obtain ⟨x, h2, h⟩ := Option.bind_eq_some_iff.1 h
  obtain ⟨y, h3, h⟩ := Option.map_eq_some_iff.1 h
  simp only [Bool.and_eq_true, decide_eq_true_eq] at h1
  obtain ⟨⟨⟨⟨⟨h1, h4⟩, h5⟩, h6⟩, h7⟩, h8⟩ := h1
  have h8 := Nat.eq_of_beq_eq_true h8
  subst h; subst h7; subst h8
  rw [rowP_ok h2, rowP_ok h3, isP_t h1, isP_t h5]
  conv => lhs; rw [isSl_t h4, isSl_t h6]
  rfl⟩
def skOk (S : Sym) (o : Nat) : Bool := S.okI .u32 (o + 0) && (S.okI .u32 (o + 1) && (S.okI .u32 (o + 2) && (S.okI .u32 (o + 3) && (S.okI .u32 (o + 4) && (S.okI .u32 (o + 5) && (S.okI .u32 (o + 6) && (S.okI .u32 (o + 7) && (S.okI .u32 (o + 8) && (S.okI .u32 (o + 9) && (S.okI .u32 (o + 10) && (S.okI .u32 (o + 11) && (S.okI .u32 (o + 12) && (S.okI .u32 (o + 13) && (S.okI .u32 (o + 14) && (S.okI .u32 (o + 15) && true)))))))))))))))
def skW (S : Sym) (o : Nat) : W16 := ⟨S.int .u32 (o + 0), S.int .u32 (o + 1), S.int .u32 (o + 2), S.int .u32 (o + 3), S.int .u32 (o + 4), S.int .u32 (o + 5), S.int .u32 (o + 6), S.int .u32 (o + 7), S.int .u32 (o + 8), S.int .u32 (o + 9), S.int .u32 (o + 10), S.int .u32 (o + 11), S.int .u32 (o + 12), S.int .u32 (o + 13), S.int .u32 (o + 14), S.int .u32 (o + 15)⟩
def W16.l0 (r : W16) : List Int := [r.a0, r.a1, r.a2, r.a3, r.a4, r.a5, r.a6, r.a7, r.a8, r.a9, r.a10, r.a11, r.a12, r.a13, r.a14, r.a15]
def setB (m : Rws) (i : Int) (x : W16) : Rws := memR ((mOf m).setBlock i x)
def dtStep (off : Nat) (ws : List Int) (s : ChS) : DT (ChS ⊕ ChS) := .br (decide (s.i < s.n')) (do
    chk (decide (0 ≤ s.i) && decide (s.i < (s.dn : Int)) && s.dn.ble s.dc)
    chk (skOk (symW off ws) (s.dO + s.i.toNat * 16))
    chk (isMem s.m)
    qsD (skW (symW off ws) (s.dO + s.i.toNat * 16)).l0
    pure (.inl { s with i := IntKind.i64.wrap (s.i + 1), m := setB s.m s.i (skW (symW off ws) (s.dO + s.i.toNat * 16)) })) (pure (.inr s))
def dtF (off : Nat) (ws : List Int) : Nat → ChS → ChS
  | 0, s => s
  | k + 1, s => dtF off ws k { s with i := s.i + 1, m := setB s.m s.i (skW (symW off ws) (s.dO + s.i.toNat * 16)) }
def dtG (off : Nat) (ws : List Int) (s : ChS) : Bool := Nat.beq s.dO off && Nat.beq (s.dn * 16) ws.length && Nat.ble s.dn s.dc && decide (s.n' = (s.dn : Int)) && decide (0 ≤ s.i) && decide (s.i ≤ (s.dn : Int)) && isMem s.m && Nat.ble s.dn 1048576
def dtSp (off : Nat) (ws : List Int) (s : ChS) : DT ChS := ifT (dtG off ws s) (dtF off ws (s.dn - s.i.toNat) s)
theorem setB_ok {m : Rws} (h : isMem m = true) (i : Int) (x : W16) : isMem (setB m i x) = true ∧ (mOf (setB m i x)).n = (mOf m).n := by
  obtain ⟨q, hq, rfl⟩ := of_cl h
  unfold setB
  rw [mOf_eq hq]
  have : (q.setBlock i x).ok ∧ (q.setBlock i x).n = q.n := by
    unfold MemS.setBlock
    cases hi : q.inn i 0 with
    | false => exact ⟨hq, rfl⟩
    | true =>
      refine ⟨⟨?_, hq.2.1, hq.2.2⟩, rfl⟩
      unfold MemS.inn at hi
      by_cases h1 : i < 0
      · rw [decide_eq_true h1] at hi; cases hi
      · rw [decide_eq_false h1, cond_false] at hi
        by_cases h2 : i ≥ (q.n : Int)
        · rw [decide_eq_true h2] at hi; cases hi
        · show (putI q.ws (i.toNat * 16) (w16I x)).length = q.n * 16
          rw [putI_len (by have := hq.1; show i.toNat * 16 + 16 ≤ _; omega)]
          exact hq.1
  rw [mOf_eq this.1]
  exact ⟨isMem_t this.1, this.2⟩
theorem skOk_t {off : Nat} {ws : List Int} {k : Nat} (h : k + 16 ≤ ws.length) : skOk (symW off ws) (off + k) = true := by
  have e : ∀ j, j < 16 → (symW off ws).okI .u32 (off + k + j) = true := fun j hj => by
    have := symW_t (off := off) (zs := ws) (i := k + j) (by omega)
    rwa [show off + (k + j) * 1 = off + k + j by omega] at this
  unfold skOk
  rw [e 0 (by decide), e 1 (by decide), e 2 (by decide), e 3 (by decide), e 4 (by decide), e 5 (by decide), e 6 (by decide), e 7 (by decide), e 8 (by decide), e 9 (by decide), e 10 (by decide), e 11 (by decide), e 12 (by decide), e 13 (by decide), e 14 (by decide), e 15 (by decide)]
  rfl
theorem dtSp_ok (off : Nat) (ws : List Int) (s b : ChS) (h : (dtSp off ws s).run = some b) : ∃ m, itN (dtStep off ws) m s = some b := by
  obtain ⟨h1, rfl⟩ := ifT_run h
  refine it_of (fun s : ChS => dtG off ws s = true) (fun s => s.dn - s.i.toNat) (fun s : ChS => dtF off ws (s.dn - s.i.toNat) s) ?_ _ s h1 (Nat.lt_succ_self _)
  intro s hg
  simp only [dtG, Bool.and_eq_true, decide_eq_true_eq] at hg
  obtain ⟨⟨⟨⟨⟨⟨⟨g1, g2⟩, g3⟩, g4⟩, g5⟩, g6⟩, g7⟩, g8⟩ := hg
  have g1' := Nat.eq_of_beq_eq_true g1
  have g2' := Nat.eq_of_beq_eq_true g2
  have g8' := Nat.le_of_ble_eq_true g8
  by_cases hi : s.i < (s.dn : Int)
  · have e1 : (decide (0 ≤ s.i) && decide (s.i < (s.dn : Int)) && s.dn.ble s.dc) = true := andI (andI (decide_eq_true g5) (decide_eq_true hi)) g3
    have e2 : skOk (symW off ws) (s.dO + s.i.toNat * 16) = true := by rw [g1']; exact skOk_t (by omega)
    have er : (dtStep off ws s).run = some (.inl { s with i := IntKind.i64.wrap (s.i + 1), m := setB s.m s.i (skW (symW off ws) (s.dO + s.i.toNat * 16)) }) := by
      unfold dtStep
      rw [run_br, decide_eq_true (show s.i < s.n' by rw [g4]; exact hi), cond_true]
      simp only [run_bind, chk_run, e1, e2, g7, qsD_run, cond_true, Option.bind_some, run_pure]
    rw [er]
    rw [wrap_id (s.i + 1) (by omega)]
    refine ⟨?_, ?_, ?_⟩
    · simp only [dtG, Bool.and_eq_true, decide_eq_true_eq]
      exact ⟨⟨⟨⟨⟨⟨⟨g1, g2⟩, g3⟩, g4⟩, by omega⟩, by omega⟩, (setB_ok g7 _ _).1⟩, g8⟩
    · show s.dn - (s.i + 1).toNat < s.dn - s.i.toNat
      omega
    · dsimp only
      rw [show s.dn - s.i.toNat = (s.dn - (s.i + 1).toNat) + 1 by omega]; rfl
  · have er : (dtStep off ws s).run = some (.inr s) := by
      unfold dtStep
      rw [run_br, decide_eq_false (show ¬ s.i < s.n' by rw [g4]; exact hi), cond_false]; rfl
    rw [er]
    show s = _
    rw [show s.dn - s.i.toNat = 0 by omega]; rfl
def HDt : Hs := hsOf [] [(38, hdM decBk (fun r _ => isMem r) (fun r x => .int .i64 ((mOf r).e x.1 0)) fun r x => memR ((mOf r).setBlock x.1 x.2))] []
theorem HDt_ok {gl : Gl} (hgl : Low gl) : HDt.OK Tryz.prog gl := hsOf_ok fx0 (sxC (sub_mSetBlock hgl) sx0) fun _ h => nomatch h
def dtW (s : ChS) : Out := (.exit 0, [pK 1000, pK 1001, wSl' 900 s.po s.pn s.pc, .pointer none, .int .i64 0], chR 0 s)
set_option maxRecDepth 100000 in
theorem l_dt {gl : Gl} (hgl : Low gl) {ws : List Int} {off : Nat} (hW : GlW gl 901 off ws) : LpOK Tryz.prog gl 23 0 ⟨[73, 8, 71, 3, 1, 72, 6, 7], [8, 3, 1, 6, 7], hLp 5 (dtT).dec (dtSp off ws) (dtW)⟩ := loop_sp (st := dtStep off ws) goodT hgl tglob (dtT).ok (by decide) (dtSp_ok off ws) fun s => ⟨syW 901 off ws [], HDt, 100, 40, 40, [], fun _ => [], syW_ok (by decide) hW, HDt_ok hgl, by kernel_rfl⟩
end Go.Proofs.YtpckfdopokmbkaaGreatDoor.Ev

namespace Go.Proofs.YtpckfdopokmbkaaGreatDoor.Ev
open Go
open Go.Proofs Go.RowKit

/-! A chip made anew: its programs. -/
/-- A program that comes in: nil, or where it begins, its room, its words. -/
abbrev Pg := Option (Nat × Nat × List Int)
def Pg.ws : Pg → List Int
  | none => []
  | some p => p.2.2
def pgV (j : Nat) : Pg → Value
  | none => .slice none 0 0
  | some p => wSl' (903 + j) p.1 p.2.2.length p.2.1
def Pg.ok (p : Pg) : Bool := match p with
  | none => true
  | some p => Nat.ble p.2.2.length p.2.1 && p.2.2.all wordG
/-- What is known of the programs that come in. -/
def GlPs (gl : Gl) (po : Nat) (ps : List Pg) : Prop := ∀ (j : Nat) p, ps[j]? = some p → gl 900 (po + j) = some (pgV j p) ∧ ∀ q, p = some q → GlW gl (903 + j) q.1 q.2.2
def symV (o : Nat) (v : Value) : Sym := ⟨[], fun _ _ => 0, fun _ => ByteArray.empty, fun _ _ => false, fun _ => false, fun _ => false, fun _ => false, fun _ => v, fun o' => Nat.beq o' o, false⟩
def syV (b o : Nat) (v : Value) : Sy := fun i => cond (Nat.beq i b) (some (symV o v)) none
theorem syV_ok {gl : Gl} {b o : Nat} {v : Value} (hb : b < 1000) (h : gl b o = some v) : SyOK gl (syV b o v) := fun i S e => by
  unfold syV at e
  rw [Bool.cond_eq_ite] at e
  split at e
  · rename_i q
    cases e
    rw [nbeq] at q
    subst q
    refine ⟨fun hl => by omega, fun _ => ⟨fun _ _ h => (by cases h), fun _ h => (by cases h), fun _ h => (by cases h), fun o' h1 => ?_⟩⟩
    rw [Nat.eq_of_beq_eq_true h1]; exact h
  · cases e
/-- A core made of a program that came in. -/
def hCn (j : Nat) : Pg → Hd
  | none => hA mrL decCnN (fun m x => cnC m x.1 x.2 []) cnO
  | some p => hA mrL (decCn (903 + j)) (fun m x => .br (cnSl p.1 p.2.2 x.2.2) (cnC m x.1 x.2.1 p.2.2) .fail) cnO
def HCr (j : Nat) (p : Pg) : Hs := hsOf [] [(39, hCn j p)] []
theorem HCr_ok {gl : Gl} (hF : GlF gl) (hgl : Low gl) {j : Nat} (hj : j < 16) {p : Pg} (hp : ∀ q, p = some q → GlW gl (903 + j) q.1 q.2.2) : (HCr j p).OK Tryz.prog gl := hsOf_ok fx0 (sxC (by
  cases p with
  | none => exact s_cnN hgl
  | some q => exact s_cnC hgl hF hj (hp q rfl)) sx0) fun _ h => nomatch h
abbrev PsS := Nat × ChS
abbrev PsB := Bool × ChS
def psV (k : Nat) (s : ChS) : List Value := [.int .i64 (k : Int), pK 1000, pK 1001, wSl' 900 s.po s.pn s.pc, .int .i64 s.n', .pointer none, .int .i64 0]
def psE (x : PsS) : LSt := (psV (min x.1 16) x.2, chR (min x.1 16) x.2)
def psT : LpT PsS := ⟨fun vs rows => match vs, rows with
  | [.int .i64 i, .pointer (some p), .pointer (some p1), .slice (some b) pn pc, .int .i64 n', .pointer none, .int .i64 e], [some (.row b0), some (.row b1), some (.box (.raw m) []), some (.box (.raw hm) [o]), some (.box (.raw nt) [])] => cond (isP p 1000 && isP p1 1001 && isSl b 900 && decide (e = 0) && Nat.beq o 1002 && decide (i = 0)) ((rowP 83 pCh b0).bind fun x => (rowP 23 pCfg b1).map fun y =>
    (0, ⟨0, b.off, pn, pc, 0, 0, 0, n', x.1, y, m, hm, nt, x.2.2.2.2.2⟩)) none
  | _, _ => none, psE, fun vs rows s h => by
  split at h
  case h_2 => cases h
  rename_i i p p1 b pn pc n' e b0 b1 m hm o nt
  obtain ⟨h1, h⟩ := condT h
  obtain ⟨x, h2, h⟩ := Option.bind_eq_some_iff.1 h
  obtain ⟨y, h3, h⟩ := Option.map_eq_some_iff.1 h
  simp only [Bool.and_eq_true, decide_eq_true_eq] at h1
  obtain ⟨⟨⟨⟨⟨h1, h5⟩, h6⟩, h7⟩, h8⟩, h9⟩ := h1
  have h8 := Nat.eq_of_beq_eq_true h8
  subst h; subst h7; subst h8; subst h9
  rw [rowP_ok h2, rowP_ok h3, isP_t h1, isP_t h5]
  conv => lhs; rw [isSl_t h6]
  rfl⟩
def psStP (po : Nat) (p : Option Pg) (k : Nat) (s : ChS) : DT (PsS ⊕ PsB) := .br (decide ((k : Int) < s.n')) (do
    chk (decide (0 ≤ (k : Int)) && decide ((k : Int) < (s.pn : Int)) && s.pn.ble s.pc)
    match p with
    | none => .fail
    | some p => do
      chk (Nat.beq (s.po + k) (po + k))
      let r ← (match p with
        | none => cnC s.m s.c2 (k : Int) []
        | some q => .br (cnSl q.1 q.2.2 (q.1, q.2.2.length, q.2.1)) (cnC s.m s.c2 (k : Int) q.2.2) .fail)
      qsD s.c2.l0
      pure (cond r.1 (.inl (k + 1, { s with m := r.2 })) (.inr (true, { s with m := r.2 })))) (pure (.inr (false, s)))
def psStep (po : Nat) (ps : List Pg) (x : PsS) : DT (PsS ⊕ PsB) := psStP po ps[min x.1 16]? (min x.1 16) x.2
def psW (b : PsB) : Out := (cond b.1 .ret (.exit 2), [pK 1000, .pointer none, .int .i64 (cond b.1 2 0)], none :: (chR 0 b.2).tail)
def psCl (r : CR4) : List VStep := match r.1 with
  | .normal => []
  | _ => [.drp 1000]
def syN : Sy := fun i => cond (Nat.beq i 900) (some ⟨[], fun _ _ => 0, fun _ => ByteArray.empty, fun _ _ => false, fun _ => false, fun _ => false, fun _ => false, fun _ => .nilFunc, fun _ => false, false⟩) none
theorem syN_ok {gl : Gl} : SyOK gl syN := fun i S e => by
  unfold syN at e
  rw [Bool.cond_eq_ite] at e
  split at e
  · cases e
    exact ⟨fun _ => ⟨fun _ _ h => (by cases h), fun _ h => (by cases h), fun _ h => (by cases h), fun _ h => (by cases h)⟩, fun _ => ⟨fun _ _ h => (by cases h), fun _ h => (by cases h), fun _ h => (by cases h), fun _ h => (by cases h)⟩⟩
  · cases e
set_option maxRecDepth 100000 in
theorem ps_round {gl : Gl} (hF : GlF gl) (hgl : Low gl) {po : Nat} {ps : List Pg} (hP : GlPs gl po ps) (hn : ps.length ≤ 16) (x : PsS) : ∃ (sy : Sy) (H : Hs) (L G d : Nat) (op : List VStep) (cls : CR4 → List VStep), SyOK gl sy ∧ H.OK Tryz.prog gl ∧ roundV sy Tryz.prog gl (fun _ => none) H L G d 23 1 [88, 8, 3, 86, 87, 6, 7] (psE x) op (rndW Tryz.prog (1000 + 5) [88, 8, 3, 86, 87, 6, 7] [8, 6, 7] cls) = (psStep po ps x).runK fun q => some (rawL (encQ psE psW q)) := by
  obtain ⟨k0, s⟩ := x
  show ∃ (sy : Sy) (H : Hs) (L G d : Nat) (op : List VStep) (cls : CR4 → List VStep), SyOK gl sy ∧ H.OK Tryz.prog gl ∧ roundV sy Tryz.prog gl (fun _ => none) H L G d 23 1 [88, 8, 3, 86, 87, 6, 7] (psV (min k0 16) s, chR (min k0 16) s) op (rndW Tryz.prog (1000 + 5) [88, 8, 3, 86, 87, 6, 7] [8, 6, 7] cls) = (psStP po ps[min k0 16]? (min k0 16) s).runK fun q => some (rawL (encQ psE psW q))
  have hk : min k0 16 < 17 := by omega
  generalize min k0 16 = k at hk
  cases e : ps[k]? with
  | none =>
    refine ⟨syN, H0, 100, 40, 40, [], psCl, syN_ok, H0_ok, ?_⟩
    clear e hP hn hF hgl
    match k, hk with
    | 0, _ => (show _ = _; kernel_rfl)
    | 1, _ => (show _ = _; kernel_rfl)
    | 2, _ => (show _ = _; kernel_rfl)
    | 3, _ => (show _ = _; kernel_rfl)
    | 4, _ => (show _ = _; kernel_rfl)
    | 5, _ => (show _ = _; kernel_rfl)
    | 6, _ => (show _ = _; kernel_rfl)
    | 7, _ => (show _ = _; kernel_rfl)
    | 8, _ => (show _ = _; kernel_rfl)
    | 9, _ => (show _ = _; kernel_rfl)
    | 10, _ => (show _ = _; kernel_rfl)
    | 11, _ => (show _ = _; kernel_rfl)
    | 12, _ => (show _ = _; kernel_rfl)
    | 13, _ => (show _ = _; kernel_rfl)
    | 14, _ => (show _ = _; kernel_rfl)
    | 15, _ => (show _ = _; kernel_rfl)
    | 16, _ => (show _ = _; kernel_rfl)
    | n + 17, h => exact absurd h (by omega)
  | some p =>
    have hk2 : k < 16 := by
      have := (List.getElem?_eq_some_iff.1 e).1
      omega
    obtain ⟨h1, h2⟩ := hP k p e
    refine ⟨syV 900 (po + k) (pgV k p), HCr k p, 100, 40, 40, [], psCl, syV_ok (by decide) h1, HCr_ok hF hgl hk2 h2, ?_⟩
    clear e hP hn hF hgl h1 h2 hk
    rcases p with _ | q
    · match k, hk2 with
      | 0, _ => (show _ = _; kernel_rfl)
      | 1, _ => (show _ = _; kernel_rfl)
      | 2, _ => (show _ = _; kernel_rfl)
      | 3, _ => (show _ = _; kernel_rfl)
      | 4, _ => (show _ = _; kernel_rfl)
      | 5, _ => (show _ = _; kernel_rfl)
      | 6, _ => (show _ = _; kernel_rfl)
      | 7, _ => (show _ = _; kernel_rfl)
      | 8, _ => (show _ = _; kernel_rfl)
      | 9, _ => (show _ = _; kernel_rfl)
      | 10, _ => (show _ = _; kernel_rfl)
      | 11, _ => (show _ = _; kernel_rfl)
      | 12, _ => (show _ = _; kernel_rfl)
      | 13, _ => (show _ = _; kernel_rfl)
      | 14, _ => (show _ = _; kernel_rfl)
      | 15, _ => (show _ = _; kernel_rfl)
      | n + 16, h => exact absurd h (by omega)
    · match k, hk2 with
      | 0, _ => (show _ = _; kernel_rfl)
      | 1, _ => (show _ = _; kernel_rfl)
      | 2, _ => (show _ = _; kernel_rfl)
      | 3, _ => (show _ = _; kernel_rfl)
      | 4, _ => (show _ = _; kernel_rfl)
      | 5, _ => (show _ = _; kernel_rfl)
      | 6, _ => (show _ = _; kernel_rfl)
      | 7, _ => (show _ = _; kernel_rfl)
      | 8, _ => (show _ = _; kernel_rfl)
      | 9, _ => (show _ = _; kernel_rfl)
      | 10, _ => (show _ = _; kernel_rfl)
      | 11, _ => (show _ = _; kernel_rfl)
      | 12, _ => (show _ = _; kernel_rfl)
      | 13, _ => (show _ = _; kernel_rfl)
      | 14, _ => (show _ = _; kernel_rfl)
      | 15, _ => (show _ = _; kernel_rfl)
      | n + 16, h => exact absurd h (by omega)
end Go.Proofs.YtpckfdopokmbkaaGreatDoor.Ev

namespace Go.Proofs.YtpckfdopokmbkaaGreatDoor.Ev
open Go
open Go.Proofs Go.RowKit

/-! A chip made anew, whole. -/
def pgOk (p : Pg) : Bool := cnRs p.ws
def psG (po : Nat) (ps : List Pg) (x : PsS) : Bool := Nat.beq x.2.po po && Nat.beq x.2.pn ps.length && Nat.ble ps.length x.2.pc && decide (x.2.n' = (ps.length : Int)) && Nat.ble x.1 ps.length && planOk x.2.c2 && isMemN x.2.m x.2.c2.blocks && ps.all Pg.ok && Nat.ble ps.length 16 && decide ((ps.length : Int) ≤ x.2.c2.cores)
def psSp (po : Nat) (ps : List Pg) (x : PsS) : DT PsB := .br (psG po ps x) (do let b ← bl ((ps.drop x.1).all pgOk); pure (!b, x.2)) .fail
theorem psSp_run {po : Nat} {ps : List Pg} {x : PsS} {b : PsB} (h : (psSp po ps x).run = some b) : psG po ps x = true ∧ b = (!((ps.drop x.1).all pgOk), x.2) := by
  obtain ⟨h1, h2⟩ := condT (show cond (psG po ps x) _ none = some b from h)
  refine ⟨h1, ?_⟩
  revert h2
  generalize (ps.drop x.1).all pgOk = c
  intro h2
  cases c <;> (cases h2; rfl)
theorem psSp_ok (po : Nat) (ps : List Pg) (x : PsS) (b : PsB) (h : (psSp po ps x).run = some b) : ∃ m, itN (psStep po ps) m x = some b := by
  obtain ⟨h1, rfl⟩ := psSp_run h
  refine it_of (fun x : PsS => psG po ps x = true) (fun x => ps.length - x.1) (fun x : PsS => (!((ps.drop x.1).all pgOk), x.2)) ?_ _ x h1 (Nat.lt_succ_self _)
  rintro ⟨k, s⟩ hg
  have hg0 := hg
  simp only [psG, Bool.and_eq_true, decide_eq_true_eq] at hg
  obtain ⟨⟨⟨⟨⟨⟨⟨⟨⟨g1, g2⟩, g3⟩, g4⟩, g5⟩, g6⟩, g7⟩, g8⟩, g9⟩, g10⟩ := hg
  have g1' := Nat.eq_of_beq_eq_true g1
  have g2' := Nat.eq_of_beq_eq_true g2
  have g5' := Nat.le_of_ble_eq_true g5
  have g9' := Nat.le_of_ble_eq_true g9
  have hmin : min k 16 = k := by omega
  have e0 : psStep po ps (k, s) = psStP po ps[k]? k s := by
    show psStP po ps[min k 16]? (min k 16) s = _
    rw [hmin]
  rw [e0]
  dsimp only
  by_cases hk : k < ps.length
  · have e1 : (decide (0 ≤ (k : Int)) && decide ((k : Int) < (s.pn : Int)) && s.pn.ble s.pc) = true := andI (andI (decide_eq_true (by omega)) (decide_eq_true (by omega))) (by rw [g2']; exact g3)
    have hpk : Pg.ok ps[k] = true := List.all_eq_true.1 g8 _ (List.getElem_mem hk)
    have e2 : Nat.beq (s.po + k) (po + k) = true := by rw [g1']; simp
    have hgd : ∀ zs : List Int, zs.all wordG = true → cnGd s.m s.c2 (k : Int) zs = true := fun zs hz => andI (andI (andI g6 g7) (andI (decide_eq_true (by omega)) (decide_eq_true (by omega)))) hz
    have hc : ∀ zs : List Int, zs.all wordG = true → (cnC s.m s.c2 (k : Int) zs).run = some (cnRs zs, s.m) := fun zs hz => by
      unfold cnC
      rw [run_br, hgd zs hz, cond_true]
      cases cnRs zs <;> rfl
    have e3 : (match ps[k] with
      | none => cnC s.m s.c2 (k : Int) []
      | some q => .br (cnSl q.1 q.2.2 (q.1, q.2.2.length, q.2.1)) (cnC s.m s.c2 (k : Int) q.2.2) .fail : DT (Bool × Rws)).run = some (pgOk ps[k], s.m) := by
      cases hq : ps[k] with
      | none => exact hc [] rfl
      | some q =>
        rw [hq] at hpk
        have hpk : (Nat.ble q.2.2.length q.2.1 && q.2.2.all wordG) = true := hpk
        simp only [Bool.and_eq_true] at hpk
        have : cnSl q.1 q.2.2 (q.1, q.2.2.length, q.2.1) = true := by
          simp only [cnSl, Bool.and_eq_true]
          exact ⟨⟨by simp, by simp⟩, hpk.1⟩
        rw [run_br, this, cond_true]
        exact hc _ hpk.2
    have er : (psStP po ps[k]? k s).run = some (cond (pgOk ps[k]) (.inl (k + 1, s)) (.inr (true, s))) := by
      rw [List.getElem?_eq_getElem hk]
      unfold psStP
      rw [run_br, decide_eq_true (show (k : Int) < s.n' by omega), cond_true]
      simp only [run_bind, chk_run, e1, e2, cond_true, Option.bind_some]
      erw [e3]
      simp only [Option.bind_some, qsD_run, run_pure]
    rw [er]
    have hd : (ps.drop k).all pgOk = (pgOk ps[k] && (ps.drop (k + 1)).all pgOk) := by rw [List.drop_eq_getElem_cons hk]; rfl
    rw [hd]
    cases pgOk ps[k] with
    | true =>
      refine ⟨?_, ?_, ?_⟩
      · simp only [psG, Bool.and_eq_true, decide_eq_true_eq]
        exact ⟨⟨⟨⟨⟨⟨⟨⟨⟨g1, g2⟩, g3⟩, g4⟩, nbl (by omega)⟩, g6⟩, g7⟩, g8⟩, g9⟩, g10⟩
      · show ps.length - (k + 1) < ps.length - k
        omega
      · rfl
    | false => rfl
  · have er : (psStP po ps[k]? k s).run = some (.inr (false, s)) := by
      unfold psStP
      rw [run_br, decide_eq_false (show ¬ (k : Int) < s.n' by omega), cond_false]; rfl
    rw [er]
    rw [List.drop_eq_nil_of_le (by omega)]; rfl
theorem l_ps {gl : Gl} (hgl : Low gl) (hF : GlF gl) {po : Nat} {ps : List Pg} (hP : GlPs gl po ps) (hn : ps.length ≤ 16) : LpOK Tryz.prog gl 23 1 ⟨[88, 8, 3, 86, 87, 6, 7], [8, 6, 7], hLp 5 psT.dec (psSp po ps) psW⟩ := loop_sp (st := psStep po ps) goodT hgl tglob psT.ok (by decide) (psSp_ok po ps) fun x => ps_round hF hgl hP hn x
/-! What it is made of. -/
def meGd (n : Int) : Bool := decide (1 ≤ n) && decide (n ≤ 256)
theorem sub_mN {gl : Gl} (hgl : Low gl) : SubOK Tryz.prog gl 35 (hdN (decI .i64) meGd (fun _ => 0) fun n => memR ⟨n.toNat, List.replicate (n.toNat * 16) 0⟩) := hdN_weak (sub_mNew hgl) fun n h => by
  simp only [meGd, Bool.and_eq_true, decide_eq_true_eq] at h
  refine ⟨rfl, ?_⟩
  rw [decide_eq_false (show ¬ n < 1 by omega), decide_eq_false (show ¬ n > 256 by omega)]; rfl
def HCh0 : Hs := hsOf [(20, afC ttC fun c => .int .i64 (mayE c)), (22, afC ttC fun c => .int .i64 (dataP c))] [(35, hdN (decI .i64) meGd (fun _ => 0) fun n => memR ⟨n.toNat, List.replicate (n.toNat * 16) 0⟩), (36, hdNM decHm (fun r c => planOk c && isMemN r c.blocks) (fun _ _ => 0) fun _ c => homeN c), (37, hdN decCi ntOk1 (fun _ => 0) fun x => netN x.1 x.2)] []
theorem HCh0_ok {gl : Gl} (hgl : Low gl) : HCh0.OK Tryz.prog gl := hsOf_ok (fxC (fn_pMay hgl) (fxC (fn_pData hgl) fx0)) (sxC (sub_mN hgl) (sxC (sub_hmNew hgl) (sxC (sub_ntNew hgl) sx0))) fun _ h => nomatch h
abbrev Pgs := Nat × Nat × List Pg
abbrev Dat := Nat × Nat × List Int
/-- What is known of all that comes in. -/
structure GlD (gl : Gl) (P : Pgs) (D : Dat) : Prop where
  F : GlF gl
  P : GlPs gl P.1 P.2.2
  D : GlW gl 901 D.1 D.2.2
def HChPD (P : Pgs) (D : Dat) : Hs := (HCh0.addL 23 0 ⟨[73, 8, 71, 3, 1, 72, 6, 7], [8, 3, 1, 6, 7], hLp 5 dtT.dec (dtSp D.1 D.2.2) dtW⟩).addL 23 1 ⟨[88, 8, 3, 86, 87, 6, 7], [8, 6, 7], hLp 5 psT.dec (psSp P.1 P.2.2) psW⟩
theorem HChPD_ok {gl : Gl} (hgl : Low gl) {P : Pgs} {D : Dat} (h : GlD gl P D) (hn : P.2.2.length ≤ 16) : (HChPD P D).OK Tryz.prog gl := Hs.addL_ok (Hs.addL_ok (HCh0_ok hgl) (l_dt hgl h.D)) (l_ps hgl h.F h.P hn)
def decCh : Dec (Cfg × (Nat × Nat × Nat) × Nat × Nat × Nat) := ⟨fun vs => match vs with
  | [.agg ⟨[.int .i64 a0, .int .i64 a1, .int .i64 a2, .int .i64 a3, .int .i64 a4, .int .i64 a5, .int .i64 a6, .int .i64 a7]⟩, .slice (some a) n c, .slice (some b) m d] => cond (isSl a 900 && isSl b 901) (some (⟨a0, a1, a2, a3, a4, a5, a6, a7⟩, (a.off, n, c), b.off, m, d)) none
  | _ => none, fun x => [cfgV x.1, wSl' 900 x.2.1.1 x.2.1.2.1 x.2.1.2.2, wSl' 901 x.2.2.1 x.2.2.2.1 x.2.2.2.2], fun vs x h => by
  split at h
  · rename_i a n c b m d
    obtain ⟨h1, h2⟩ := condT h
    cases h2
    simp only [Bool.and_eq_true] at h1
    conv => lhs; rw [isSl_t h1.1, isSl_t h1.2]
    rfl
  · cases h⟩
def ch0 (c : Cfg) (x : Nat × Nat × Nat) (y : Nat × Nat × Nat) : ChS := ⟨0, x.1, x.2.1, x.2.2, y.1, y.2.1, y.2.2, (y.2.1 : Int), c, c, memR ⟨c.blocks.toNat, List.replicate (c.blocks.toNat * 16) 0⟩, homeN c ++ [none], netN c 1024, 1⟩
def chPre (c : Cfg) (np nd : Int) (k : DT Bool) : DT Bool := .br (mayE c != 0) (pure false) (.br (np != c.cores) (pure false) (.br (decide (nd > dataP c)) (pure false) (do
  chk (meGd c.blocks)
  chk (planOk c && isMemN (memR ⟨c.blocks.toNat, List.replicate (c.blocks.toNat * 16) 0⟩) c.blocks)
  qsD c.l0
  chk (ntOk1 (c, 1024))
  k)))
def chNew (P : Pgs) (D : Dat) (x : Cfg × (Nat × Nat × Nat) × Nat × Nat × Nat) : DT Bool := chPre x.1 (x.2.1.2.1 : Int) (x.2.2.2.1 : Int) (do
  let s ← dtSp D.1 D.2.2 (ch0 x.1 x.2.1 x.2.2)
  let r ← psSp P.1 P.2.2 (0, { s with i := 0, dO := 0, dn := 0, dc := 0, n' := (s.pn : Int) })
  cond r.1 (pure false) (pure true))
def chO (b : Bool) : Out := cond b (.normal, [.tuple #[pK 1000, .int .i64 0]], [none]) (.normal, [.tuple #[.pointer none, .int .i64 2]], [])
set_option maxRecDepth 100000 in
theorem s_ch {gl : Gl} (hgl : Low gl) {P : Pgs} {D : Dat} (h : GlD gl P D) (hn : P.2.2.length ≤ 16) : SubOK Tryz.prog gl 23 (hA (noL) (decCh) (fun _ => chNew P D) (chO)) := hA_sub hgl fun k x => ⟨syG [], HChPD P D, noV, syG_ok _, HChPD_ok hgl h hn, by kernel_rfl⟩
end Go.Proofs.YtpckfdopokmbkaaGreatDoor.Ev

namespace Go.Proofs.YtpckfdopokmbkaaGreatDoor.Ev
open Go
open Go.Proofs Go.RowKit

/-! A chip made anew of nil rows. -/
def decChSN : Dec (Cfg × Nat × Nat × Nat) := ⟨fun vs => match vs with
  | [.agg ⟨[.int .i64 a0, .int .i64 a1, .int .i64 a2, .int .i64 a3, .int .i64 a4, .int .i64 a5, .int .i64 a6, .int .i64 a7]⟩, .slice (some a) n c, .slice none 0 0] => cond (isSl a 900) (some (⟨a0, a1, a2, a3, a4, a5, a6, a7⟩, a.off, n, c)) none
  | _ => none, fun x => [cfgV x.1, wSl' 900 x.2.1 x.2.2.1 x.2.2.2, .slice none 0 0], fun vs x h => by
  split at h
  · obtain ⟨h1, h2⟩ := condT h
    cases h2
    conv => lhs; rw [isSl_t h1]
    rfl
  · cases h⟩
def decChNS : Dec (Cfg × Nat × Nat × Nat) := ⟨fun vs => match vs with
  | [.agg ⟨[.int .i64 a0, .int .i64 a1, .int .i64 a2, .int .i64 a3, .int .i64 a4, .int .i64 a5, .int .i64 a6, .int .i64 a7]⟩, .slice none 0 0, .slice (some b) m d] => cond (isSl b 901) (some (⟨a0, a1, a2, a3, a4, a5, a6, a7⟩, b.off, m, d)) none
  | _ => none, fun x => [cfgV x.1, .slice none 0 0, wSl' 901 x.2.1 x.2.2.1 x.2.2.2], fun vs x h => by
  split at h
  · obtain ⟨h1, h2⟩ := condT h
    cases h2
    conv => lhs; rw [isSl_t h1]
    rfl
  · cases h⟩
def decChNN : Dec Cfg := ⟨fun vs => match vs with
  | [.agg ⟨[.int .i64 a0, .int .i64 a1, .int .i64 a2, .int .i64 a3, .int .i64 a4, .int .i64 a5, .int .i64 a6, .int .i64 a7]⟩, .slice none 0 0, .slice none 0 0] => some ⟨a0, a1, a2, a3, a4, a5, a6, a7⟩
  | _ => none, fun x => [cfgV x, .slice none 0 0, .slice none 0 0], fun vs x h => by
  split at h
  · cases h; rfl
  · cases h⟩
def HChP (P : Pgs) : Hs := HCh0.addL 23 1 ⟨[88, 8, 3, 86, 87, 6, 7], [8, 6, 7], hLp 5 psT.dec (psSp P.1 P.2.2) psW⟩
/-- With nil programs. -/
def dtTN : LpT ChS := ⟨fun vs rows => match vs, rows with
  | [.int .i64 i, .pointer (some p), .slice (some a) dn dc, .pointer (some p1), .slice none 0 0, .int .i64 n', .pointer none, .int .i64 e], [some (.row b0), some (.row b1), some (.box (.raw m) []), some (.box (.raw hm) [o]), some (.box (.raw nt) [])] => cond (isP p 1000 && isSl a 901 && isP p1 1001 && decide (e = 0) && Nat.beq o 1002) ((rowP 83 pCh b0).bind fun x => (rowP 23 pCfg b1).map fun y =>
    ⟨i, 0, 0, 0, a.off, dn, dc, n', x.1, y, m, hm, nt, x.2.2.2.2.2⟩) none
  | _, _ => none, fun s => ([.int .i64 s.i, pK 1000, wSl' 901 s.dO s.dn s.dc, pK 1001, .slice none 0 0, .int .i64 s.n', .pointer none, .int .i64 0], chR 0 s), fun vs rows s h => by
  split at h
  case h_2 => cases h
  rename_i i p a dn dc p1 n' e b0 b1 m hm o nt
  obtain ⟨h1, h⟩ := condT h
  obtain ⟨x, h2, h⟩ := Option.bind_eq_some_iff.1 h
  obtain ⟨y, h3, h⟩ := Option.map_eq_some_iff.1 h
  simp only [Bool.and_eq_true, decide_eq_true_eq] at h1
  obtain ⟨⟨⟨⟨h1, h4⟩, h5⟩, h7⟩, h8⟩ := h1
  have h8 := Nat.eq_of_beq_eq_true h8
  subst h; subst h7; subst h8
  rw [rowP_ok h2, rowP_ok h3, isP_t h1, isP_t h5]
  conv => lhs; rw [isSl_t h4]
  rfl⟩
def dtWN (s : ChS) : Out := (.exit 0, [pK 1000, pK 1001, .slice none 0 0, .pointer none, .int .i64 0], chR 0 s)
set_option maxRecDepth 100000 in
theorem l_dtN {gl : Gl} (hgl : Low gl) {ws : List Int} {off : Nat} (hW : GlW gl 901 off ws) : LpOK Tryz.prog gl 23 0 ⟨[73, 8, 71, 3, 1, 72, 6, 7], [8, 3, 1, 6, 7], hLp 5 (dtTN).dec (dtSp off ws) (dtWN)⟩ := loop_sp (st := dtStep off ws) goodT hgl tglob (dtTN).ok (by decide) (dtSp_ok off ws) fun s => ⟨syW 901 off ws [], HDt, 100, 40, 40, [], fun _ => [], syW_ok (by decide) hW, HDt_ok hgl, by kernel_rfl⟩
def HChDN (D : Dat) : Hs := HCh0.addL 23 0 ⟨[73, 8, 71, 3, 1, 72, 6, 7], [8, 3, 1, 6, 7], hLp 5 dtTN.dec (dtSp D.1 D.2.2) dtWN⟩
def chNewSN (P : Pgs) (x : Cfg × Nat × Nat × Nat) : DT Bool := chPre x.1 (x.2.2.1 : Int) 0 (do
  let r ← psSp P.1 P.2.2 (0, { ch0 x.1 x.2 (0, 0, 0) with n' := (x.2.2.1 : Int) })
  cond r.1 (pure false) (pure true))
def chNewNS (D : Dat) (x : Cfg × Nat × Nat × Nat) : DT Bool := chPre x.1 0 (x.2.2.1 : Int) (do
  let _ ← dtSp D.1 D.2.2 (ch0 x.1 (0, 0, 0) x.2)
  pure true)
def chNewNN (c : Cfg) : DT Bool := chPre c 0 0 (pure true)
set_option maxRecDepth 100000 in
theorem s_chSN {gl : Gl} (hgl : Low gl) {P : Pgs} {D : Dat} (h : GlD gl P D) (hn : P.2.2.length ≤ 16) : SubOK Tryz.prog gl 23 (hA (noL) (decChSN) (fun _ => chNewSN P) (chO)) := hA_sub hgl fun k x => ⟨syG [], HChP P, noV, syG_ok _, Hs.addL_ok (HCh0_ok hgl) (l_ps hgl h.F h.P hn), by kernel_rfl⟩
set_option maxRecDepth 100000 in
theorem s_chNS {gl : Gl} (hgl : Low gl) {P : Pgs} {D : Dat} (h : GlD gl P D) : SubOK Tryz.prog gl 23 (hA (noL) (decChNS) (fun _ => chNewNS D) (chO)) := hA_sub hgl fun k x => ⟨syG [], HChDN D, plD, syG_ok _, Hs.addL_ok (HCh0_ok hgl) (l_dtN hgl h.D), by kernel_rfl⟩
set_option maxRecDepth 100000 in
theorem s_chNN {gl : Gl} (hgl : Low gl)  : SubOK Tryz.prog gl 23 (hA (noL) (decChNN) (fun _ => chNewNN) (chO)) := hA_sub hgl fun k x => ⟨syG [], HCh0, plD, syG_ok _, HCh0_ok hgl, by kernel_rfl⟩
end Go.Proofs.YtpckfdopokmbkaaGreatDoor.Ev

namespace Go.Proofs.YtpckfdopokmbkaaGreatDoor.Ev
open Go
open Go.Proofs Go.RowKit

/-! A chip made anew, in closed form. -/
abbrev Sl := Option (Nat × Nat × Nat)
def Sl.n : Sl → Nat
  | none => 0
  | some x => x.2.1
def slO (b : Nat) : Sl → Value
  | none => .slice none 0 0
  | some x => wSl' b x.1 x.2.1 x.2.2
def pSlO (b : Nat) : Par Sl := ⟨fun l => match l with
  | .slice none 0 0 :: r => some (none, r)
  | .slice (some a) n c :: r => cond (isSl a b) (some (some (a.off, n, c), r)) none
  | _ => none, fun x r => slO b x :: r, fun l a r h => by
  split at h
  · cases h; rfl
  · obtain ⟨h1, h2⟩ := condT h
    cases h2
    conv => lhs; rw [isSl_t h1]
    rfl
  · cases h⟩
theorem dtF_inv (off : Nat) (ws : List Int) : ∀ (k : Nat) (s : ChS), isMem s.m = true → isMem (dtF off ws k s).m = true ∧ (mOf (dtF off ws k s).m).n = (mOf s.m).n ∧ (dtF off ws k s).c1 = s.c1 ∧ (dtF off ws k s).c2 = s.c2 ∧ (dtF off ws k s).po = s.po ∧ (dtF off ws k s).pn = s.pn ∧ (dtF off ws k s).pc = s.pc
  | 0, s, h => ⟨h, rfl, rfl, rfl, rfl, rfl, rfl⟩
  | k + 1, s, h => by
    have h1 := setB_ok h s.i (skW (symW off ws) (s.dO + s.i.toNat * 16))
    have ih := dtF_inv off ws k { s with i := s.i + 1, m := setB s.m s.i (skW (symW off ws) (s.dO + s.i.toNat * 16)) } h1.1
    obtain ⟨a1, a2, a3⟩ := ih
    exact ⟨a1, a2.trans h1.2, a3⟩
/-- Whether a chip is made. -/
def chB (c : Cfg) (ps : List Pg) (nd : Nat) : Bool := planOk c && decide ((ps.length : Int) = c.cores) && decide ((nd : Int) ≤ dataI c) && ps.all pgOk
/-- What comes in is as it is told. -/
def slPs (P : Pgs) : Sl → Bool
  | none => P.2.2.isEmpty
  | some x => Nat.beq x.1 P.1 && Nat.beq x.2.1 P.2.2.length && Nat.ble P.2.2.length x.2.2 && P.2.2.all Pg.ok
def slWs (w : Nat) (D : Dat) : Sl → Bool
  | none => D.2.2.isEmpty
  | some x => Nat.beq x.1 D.1 && Nat.beq (x.2.1 * w) D.2.2.length && Nat.ble x.2.1 x.2.2
def cutP (P : Pgs) : Pgs := (P.1, P.2.1, P.2.2.take 16)
theorem GlD.cut {gl : Gl} {P : Pgs} {D : Dat} (h : GlD gl P D) : GlD gl (cutP P) D := ⟨h.F, fun j p hp => h.P j p (by
  have : (P.2.2.take 16)[j]? = some p := hp
  rw [List.getElem?_take] at this
  split at this
  · exact this
  · cases this), h.D⟩
theorem planE (c : Cfg) : mayE c = cond (planOk c) 0 2 := rfl
theorem chPre_run {c : Cfg} {np : Nat} {nd : Nat} {k : DT Bool} {r : Bool} (h1 : planOk c = true → (np : Int) = c.cores → (nd : Int) ≤ dataI c → k.run = some r) : (chPre c (np : Int) (nd : Int) k).run = some (planOk c && decide ((np : Int) = c.cores) && decide ((nd : Int) ≤ dataI c) && r) := by
  unfold chPre
  simp only [run_br]
  cases hp : planOk c with
  | false => rw [planE, hp]; rfl
  | true =>
    rw [mayE_t hp, show ((0 : Int) != 0) = false from rfl, cond_false, dataP_t hp]
    by_cases h2 : (np : Int) = c.cores
    · have e2 : ((np : Int) != c.cores) = false := by rw [h2]; exact bneI_self _
      rw [e2, cond_false, decide_eq_true h2]
      by_cases h3 : (nd : Int) ≤ dataI c
      · rw [decide_eq_false (show ¬ (nd : Int) > dataI c by omega), cond_false, decide_eq_true h3]
        obtain ⟨⟨_, _, _, _, _, _, hb1, hb2, _⟩, _⟩ := planOk_iff.1 hp
        have e3 : meGd c.blocks = true := andI (decide_eq_true (by omega)) (decide_eq_true (by omega))
        have e4 : isMemN (memR ⟨c.blocks.toNat, List.replicate (c.blocks.toNat * 16) 0⟩) c.blocks = true := by
          have hk : MemS.ok ⟨c.blocks.toNat, List.replicate (c.blocks.toNat * 16) 0⟩ := ⟨by simp, by show 1 ≤ c.blocks.toNat; omega, by show c.blocks.toNat ≤ 256; omega⟩
          unfold isMemN
          rw [isMem_t hk, mOf_eq hk]
          show (true && ((c.blocks.toNat : Int) == c.blocks)) = true
          rw [show ((c.blocks.toNat : Nat) : Int) = c.blocks by omega, beq_self_eq_true]; rfl
        have e5 : ntOk1 (c, 1024) = true := andI hp rfl
        simp only [run_bind, chk_run, e3, e4, e5, Bool.and_self, cond_true, Option.bind_some, qsD_run]
        rw [h1 hp h2 h3]
        simp
      · rw [decide_eq_true (show (nd : Int) > dataI c by omega), decide_eq_false h3]; rfl
    · have e2 : ((np : Int) != c.cores) = true := by simpa using h2
      rw [e2, decide_eq_false h2]; rfl
/-- Whatever rows come in. -/
abbrev ChX := Cfg × Sl × Sl
def decChO : Dec ChX := ⟨fun vs => match vs with
  | [.agg ⟨[.int .i64 a0, .int .i64 a1, .int .i64 a2, .int .i64 a3, .int .i64 a4, .int .i64 a5, .int .i64 a6, .int .i64 a7]⟩, v, u] => ((pSlO 900).run [v]).bind fun p => ((pSlO 901).run [u]).map fun q => (⟨a0, a1, a2, a3, a4, a5, a6, a7⟩, p.1, q.1)
  | _ => none, fun x => [cfgV x.1, slO 900 x.2.1, slO 901 x.2.2], fun vs x h => by
  split at h
  · rename_i v u
    obtain ⟨⟨p, r⟩, h1, h2⟩ := Option.bind_eq_some_iff.1 h
    obtain ⟨⟨q, r'⟩, h3, h4⟩ := Option.map_eq_some_iff.1 h2
    have e1 := (pSlO 900).ok _ _ _ h1
    have e2 := (pSlO 901).ok _ _ _ h3
    have e1 : [v] = slO 900 p :: r := e1
    have e2 : [u] = slO 901 q :: r' := e2
    cases h4
    rw [List.head_eq_of_cons_eq e1, List.head_eq_of_cons_eq e2]; rfl
  · cases h⟩
def chC (P : Pgs) (D : Dat) (x : ChX) : DT Bool := .br (slPs P x.2.1 && slWs 16 D x.2.2 && Nat.ble x.2.2.n 1048576) (bl (chB x.1 P.2.2 x.2.2.n)) .fail
theorem planCores {c : Cfg} (h : planOk c = true) : 1 ≤ c.cores ∧ c.cores ≤ 16 := by
  obtain ⟨⟨h1, h2, _⟩, _⟩ := planOk_iff.1 h
  exact ⟨h1, h2⟩
theorem isMem_new {c : Cfg} (hp : planOk c = true) : isMemN (memR ⟨c.blocks.toNat, List.replicate (c.blocks.toNat * 16) 0⟩) c.blocks = true := by
  obtain ⟨⟨_, _, _, _, _, _, hb1, hb2, _⟩, _⟩ := planOk_iff.1 hp
  have hk : MemS.ok ⟨c.blocks.toNat, List.replicate (c.blocks.toNat * 16) 0⟩ := ⟨by simp, by show 1 ≤ c.blocks.toNat; omega, by show c.blocks.toNat ≤ 256; omega⟩
  unfold isMemN
  rw [isMem_t hk, mOf_eq hk]
  show (true && ((c.blocks.toNat : Int) == c.blocks)) = true
  rw [show ((c.blocks.toNat : Nat) : Int) = c.blocks by omega, beq_self_eq_true]; rfl
theorem cut_len {P : Pgs} {c : Cfg} (hp : planOk c = true) (h : (P.2.2.length : Int) = c.cores) : P.2.2.take 16 = P.2.2 := by
  have := planCores hp
  exact List.take_of_length_le (by omega)
theorem dt_run {D : Dat} {c : Cfg} {x y : Nat × Nat × Nat} (hp : planOk c = true) (hD : slWs 16 D (some y) = true) (hb : y.2.1 ≤ 1048576) : ∃ s, (dtSp D.1 D.2.2 (ch0 c x y)).run = some s ∧ isMemN s.m c.blocks = true ∧ s.c2 = c ∧ s.po = x.1 ∧ s.pn = x.2.1 ∧ s.pc = x.2.2 := by
  have hD : (Nat.beq y.1 D.1 && Nat.beq (y.2.1 * 16) D.2.2.length && Nat.ble y.2.1 y.2.2) = true := hD
  simp only [Bool.and_eq_true] at hD
  have hm := isMem_new hp
  simp only [isMemN, Bool.and_eq_true] at hm
  have hg : dtG D.1 D.2.2 (ch0 c x y) = true := by
    simp only [dtG, ch0, Bool.and_eq_true, decide_eq_true_eq]
    exact ⟨⟨⟨⟨⟨⟨⟨hD.1.1, hD.1.2⟩, hD.2⟩, trivial⟩, by simp⟩, by simp⟩, hm.1⟩, nbl hb⟩
  obtain ⟨a1, a2, _, a3, a4, a5, a6⟩ := dtF_inv D.1 D.2.2 ((ch0 c x y).dn - (ch0 c x y).i.toNat) (ch0 c x y) hm.1
  refine ⟨_, by unfold dtSp ifT; rw [run_br, hg]; rfl, ?_, a3, a4, a5, a6⟩
  unfold isMemN
  rw [a1, a2]; exact hm.2
theorem ps_run {P : Pgs} {c : Cfg} {x : Nat × Nat × Nat} {s : ChS} (hp : planOk c = true) (hP : slPs P (some x) = true) (hn : (x.2.1 : Int) = c.cores) (h1 : isMemN s.m c.blocks = true) (h2 : s.c2 = c) (h3 : s.po = x.1) (h4 : s.pn = x.2.1) (h5 : s.pc = x.2.2) (h6 : s.n' = (x.2.1 : Int)) :
    (do let r ← psSp (cutP P).1 (cutP P).2.2 (0, s); cond r.1 (pure false) (pure true) : DT Bool).run = some (P.2.2.all pgOk) := by
  have hP : (Nat.beq x.1 P.1 && Nat.beq x.2.1 P.2.2.length && Nat.ble P.2.2.length x.2.2 && P.2.2.all Pg.ok) = true := hP
  simp only [Bool.and_eq_true] at hP
  obtain ⟨⟨⟨p1, p2⟩, p3⟩, p4⟩ := hP
  have p1 := Nat.eq_of_beq_eq_true p1
  have p2 := Nat.eq_of_beq_eq_true p2
  have hc := planCores hp
  have hcut : (cutP P).2.2 = P.2.2 := cut_len hp (by omega)
  rw [hcut]
  have hg : psG (cutP P).1 P.2.2 (0, s) = true := by
    simp only [psG, Bool.and_eq_true, decide_eq_true_eq]
    refine ⟨⟨⟨⟨⟨⟨⟨⟨⟨?_, ?_⟩, ?_⟩, ?_⟩, nbl (Nat.zero_le _)⟩, by rw [h2]; exact hp⟩, by rw [h2]; exact h1⟩, p4⟩, nbl (by omega)⟩, by rw [h2]; omega⟩
    · rw [h3, p1]; show Nat.beq P.1 P.1 = true; simp
    · rw [h4, p2]; simp
    · rw [h5]; exact p3
    · rw [h6, p2]
  have e : (psSp (cutP P).1 P.2.2 (0, s)).run = some (!(P.2.2.all pgOk), s) := by
    unfold psSp
    rw [run_br, hg, cond_true]
    show (do let b ← bl (P.2.2.all pgOk); pure (!b, s) : DT PsB).run = _
    cases P.2.2.all pgOk <;> rfl
  rw [run_bind, e]
  cases P.2.2.all pgOk <;> rfl
theorem s_chC {gl : Gl} (hgl : Low gl) {P : Pgs} {D : Dat} (h : GlD gl P D) : SubOK Tryz.prog gl 23 (hA noL decChO (fun _ => chC P D) chO) := by
  intro vs rows t e v rows' h1 h2
  obtain ⟨⟨⟨⟩, c, p, d⟩, b, h3, h4, h5⟩ := hS_run (show hS _ _ _ vs rows = some t from h1) h2
  obtain ⟨u, k1, k2⟩ := Option.bind_eq_some_iff.1 h3
  obtain ⟨x, k3, k4⟩ := Option.map_eq_some_iff.1 k2
  cases k4
  have er : rows = [] := noL.ok _ _ k1
  have ev := decChO.ok _ _ k3
  subst er; subst ev
  obtain ⟨hg, hr⟩ := condT (show cond (slPs P p && slWs 16 D d && Nat.ble d.n 1048576) (bl (chB c P.2.2 d.n)).run none = some b from h4)
  rw [bl_run] at hr
  cases hr
  simp only [Bool.and_eq_true] at hg
  obtain ⟨⟨hP, hD⟩, hn⟩ := hg
  have hn := Nat.le_of_ble_eq_true hn
  have hcl : (cutP P).2.2.length ≤ 16 := by show (P.2.2.take 16).length ≤ 16; simp; omega
  have hc := h.cut
  have lenP : ∀ x, p = some x → x.2.1 = P.2.2.length := fun x e => by
    subst e
    have hP : (Nat.beq x.1 P.1 && Nat.beq x.2.1 P.2.2.length && Nat.ble P.2.2.length x.2.2 && P.2.2.all Pg.ok) = true := hP
    simp only [Bool.and_eq_true] at hP
    exact Nat.eq_of_beq_eq_true hP.1.1.2
  rcases p with _ | p <;> rcases d with _ | d
  · have hz : P.2.2 = [] := List.isEmpty_iff.1 hP
    refine s_chNN hgl [cfgV c, .slice none 0 0, .slice none 0 0] [] ((chNewNN c).map chO) e v rows' rfl ?_
    have e1 : (chNewNN c).run = some (chB c P.2.2 0) := by
      refine (chPre_run (np := 0) (nd := 0) (r := true) fun _ _ _ => rfl).trans ?_
      rw [hz]; unfold chB; rfl
    rw [DT.run_map, e1, ← h5]; rfl
  · have hz : P.2.2 = [] := List.isEmpty_iff.1 hP
    refine s_chNS hgl hc [cfgV c, .slice none 0 0, wSl' 901 d.1 d.2.1 d.2.2] [] ((chNewNS D (c, d)).map chO) e v rows' rfl ?_
    have e1 : (chNewNS D (c, d)).run = some (chB c P.2.2 d.2.1) := by
      refine (chPre_run (np := 0) (nd := d.2.1) (r := true) fun hp _ _ => ?_).trans ?_
      · obtain ⟨s, a1, _⟩ := dt_run (x := (0, 0, 0)) hp hD hn
        show (do let _ ← dtSp D.1 D.2.2 (ch0 c (0, 0, 0) d); pure true : DT Bool).run = _
        rw [run_bind, a1]; rfl
      · rw [hz]; unfold chB; rfl
    rw [DT.run_map, e1, ← h5]; rfl
  · refine s_chSN hgl hc hcl [cfgV c, wSl' 900 p.1 p.2.1 p.2.2, .slice none 0 0] [] ((chNewSN (cutP P) (c, p)).map chO) e v rows' rfl ?_
    have e1 : (chNewSN (cutP P) (c, p)).run = some (chB c P.2.2 0) := by
      refine (chPre_run (np := p.2.1) (nd := 0) (r := P.2.2.all pgOk) fun hp h2 _ => ?_).trans ?_
      · exact ps_run (s := { ch0 c p (0, 0, 0) with n' := (p.2.1 : Int) }) hp hP h2 (isMem_new hp) rfl rfl rfl rfl rfl
      · rw [lenP p rfl]; rfl
    rw [DT.run_map, e1, ← h5]; rfl
  · refine s_ch hgl hc hcl [cfgV c, wSl' 900 p.1 p.2.1 p.2.2, wSl' 901 d.1 d.2.1 d.2.2] [] ((chNew (cutP P) D (c, p, d)).map chO) e v rows' rfl ?_
    have e1 : (chNew (cutP P) D (c, p, d)).run = some (chB c P.2.2 d.2.1) := by
      refine (chPre_run (np := p.2.1) (nd := d.2.1) (r := P.2.2.all pgOk) fun hp h2 _ => ?_).trans ?_
      · obtain ⟨s, a1, a2, a3, a4, a5, a6⟩ := dt_run (x := p) hp hD hn
        show (do let s ← dtSp D.1 D.2.2 (ch0 c p d); let r ← psSp (cutP P).1 (cutP P).2.2 (0, { s with i := 0, dO := 0, dn := 0, dc := 0, n' := (s.pn : Int) }); cond r.1 (pure false) (pure true) : DT Bool).run = _
        rw [run_bind, a1, Option.bind_some]
        exact ps_run hp hP h2 a2 a3 a4 a5 a6 (by rw [a5])
      · rw [lenP p rfl]; rfl
    rw [DT.run_map, e1, ← h5]; rfl
end Go.Proofs.YtpckfdopokmbkaaGreatDoor.Ev

namespace Go.Proofs.YtpckfdopokmbkaaGreatDoor.Ev
open Go
open Go.Proofs Go.RowKit

/-! Decks: whether they may be. -/
abbrev Pk := Int × Int
def nthP (l : List Pk) (i : Nat) : Pk := (l[i]?).getD (0, 0)
def symP (off : Nat) (l : List Pk) : Sym := ⟨[], fun _ o => cond (Nat.beq ((o - off) % 2) 0) (nthP l ((o - off) / 2)).1 (nthP l ((o - off) / 2)).2, fun _ => ByteArray.empty, fun k o => Nat.ble off o && Nat.ble ((o - off) / 2 + 1) l.length && decide (k = cond (Nat.beq ((o - off) % 2) 0) .u8 .i64), fun _ => false, fun _ => false, fun _ => false, fun _ => .nilFunc, fun _ => false, false⟩
def GlPk (gl : Gl) (b off : Nat) (l : List Pk) : Prop := ∀ (i : Nat) p, l[i]? = some p → gl b (off + i * 2) = some (.int .u8 p.1) ∧ gl b (off + i * 2 + 1) = some (.int .i64 p.2)
theorem symP_of {gl : Gl} {b off : Nat} {l : List Pk} (h : GlPk gl b off l) : (symP off l).Of (gl b) where
  int := fun k o h1 => by
    simp only [symP, Bool.and_eq_true, decide_eq_true_eq] at h1 ⊢
    obtain ⟨⟨h2, h3⟩, h4⟩ := h1
    have h2 := Nat.le_of_ble_eq_true h2
    have h3 := Nat.le_of_ble_eq_true h3
    obtain ⟨k1, k2⟩ := h ((o - off) / 2) _ (List.getElem?_eq_getElem (show (o - off) / 2 < l.length by omega))
    have hn : nthP l ((o - off) / 2) = l[(o - off) / 2] := by unfold nthP; rw [List.getElem?_eq_getElem (by omega)]; rfl
    rw [hn, h4]
    cases hc : Nat.beq ((o - off) % 2) 0 with
    | true =>
      have := Nat.eq_of_beq_eq_true hc
      rw [show off + (o - off) / 2 * 2 = o by omega] at k1
      exact k1
    | false =>
      have := Nat.ne_of_beq_eq_false hc
      rw [show off + (o - off) / 2 * 2 + 1 = o by omega] at k2
      exact k2
  str := fun o h1 => by cases h1
  bool := fun o h1 => by cases h1
  val := fun o h1 => by cases h1
def syP (b off : Nat) (l : List Pk) : Sy := fun i => cond (Nat.beq i b) (some (symP off l)) none
theorem syP_ok {gl : Gl} {b off : Nat} {l : List Pk} (hb : b < 1000) (h : GlPk gl b off l) : SyOK gl (syP b off l) := fun i S e => by
  unfold syP at e
  rw [Bool.cond_eq_ite] at e
  split at e
  · rename_i q
    cases e
    rw [nbeq] at q
    subst q
    exact ⟨fun hl => by omega, fun _ => symP_of h⟩
  · cases e
structure DkS where
  c : Cfg
  p : Sl
  d : Sl
  q : Sl
def dkL (k : DkS) : List Value := cfgL k.c ++ [slO 900 k.p, slO 901 k.d, slO 902 k.q]
def dkRow (k : DkS) : LObj := rowT 28 (dkL k)
def pDk : Par DkS := (pCfg.s ((pSlO 900).s ((pSlO 901).s (pSlO 902)))).m (fun x => ⟨x.1, x.2.1, x.2.2.1, x.2.2.2⟩) (fun k => (k.c, k.p, k.d, k.q)) fun _ => rfl
abbrev MyS := Int × (Nat × Nat × Nat) × Int × DkS
def myT : LpT MyS := ⟨fun vs rows => match vs, rows with
  | [.int .i64 i, .slice (some a) n cap, .pointer (some p), .int .i64 n', .pointer none, .bool false], [some (.row b)] => cond (isSl a 902 && isP p 1000) ((rowP 28 pDk b).map fun k => (i, (a.off, n, cap), n', k)) none
  | _, _ => none, fun x => ([.int .i64 x.1, wSl' 902 x.2.1.1 x.2.1.2.1 x.2.1.2.2, pK 1000, .int .i64 x.2.2.1, .pointer none, .bool false], [some (dkRow x.2.2.2)]), fun vs rows s h => by
  split at h
  case h_2 => cases h
  rename_i i a n cap p n' b
  obtain ⟨h1, h⟩ := condT h
  obtain ⟨k, h2, h⟩ := Option.map_eq_some_iff.1 h
  simp only [Bool.and_eq_true] at h1
  subst h
  rw [isP_t h1.2]
  conv => lhs; rw [isSl_t h1.1]
  rw [rowP_ok h2]; rfl⟩
def pkD {B : Type} (p : Pk) (x y : DT B) : DT B :=
  let t : DT B := .br (decide (p.2 < 0)) x (.br (decide (p.2 > 127)) x y)
  .br (p.1 != 1) (.br (p.1 != 2) x t) t
def pkOk (p : Pk) : Bool := (p.1 == 1 || p.1 == 2) && decide (0 ≤ p.2) && decide (p.2 ≤ 127)
theorem pkD_run {B : Type} (p : Pk) (x y : DT B) : (pkD p x y).run = cond (pkOk p) y.run x.run := by
  obtain ⟨k, n⟩ := p
  unfold pkD pkOk bne
  simp only [run_br]
  cases h1 : k == 1 <;> cases h2 : k == 2 <;> by_cases h3 : n < 0 <;> by_cases h4 : n > 127
  all_goals first
    | rw [decide_eq_true h3, decide_eq_false (show ¬ 0 ≤ n by omega)]
    | rw [decide_eq_false h3, decide_eq_true (show 0 ≤ n by omega)]
  all_goals first
    | rw [decide_eq_true h4, decide_eq_false (show ¬ n ≤ 127 by omega)]
    | rw [decide_eq_false h4, decide_eq_true (show n ≤ 127 by omega)]
  all_goals rfl
def pkAt (S : Sym) (o : Nat) : Pk := (S.int .u8 (o + 0), S.int .i64 (o + 1))
abbrev MyB := Bool × DkS
def myStep (off : Nat) (l : List Pk) (x : MyS) : DT (MyS ⊕ MyB) := .br (decide (x.1 < x.2.2.1)) (do
    chk (decide (0 ≤ x.1) && decide (x.1 < (x.2.1.2.1 : Int)) && x.2.1.2.1.ble x.2.1.2.2)
    chk ((symP off l).okI .u8 (x.2.1.1 + x.1.toNat * 2 + 0) && ((symP off l).okI .i64 (x.2.1.1 + x.1.toNat * 2 + 1) && true))
    pkD (pkAt (symP off l) (x.2.1.1 + x.1.toNat * 2)) (pure (.inr (true, x.2.2.2))) (pure (.inl (IntKind.i64.wrap (x.1 + 1), x.2)))) (pure (.inr (false, x.2.2.2)))
def myG (off : Nat) (l : List Pk) (x : MyS) : Bool := Nat.beq x.2.1.1 off && Nat.beq x.2.1.2.1 l.length && Nat.ble l.length x.2.1.2.2 && decide (x.2.2.1 = (l.length : Int)) && decide (0 ≤ x.1) && decide (x.1 ≤ (l.length : Int)) && Nat.ble l.length 1048576
def mySp (off : Nat) (l : List Pk) (x : MyS) : DT MyB := .br (myG off l x) (do let b ← bl ((l.drop x.1.toNat).all pkOk); pure (!b, x.2.2.2)) .fail
theorem symP_at {off : Nat} {l : List Pk} {j : Nat} (h : j < l.length) : ((symP off l).okI .u8 (off + j * 2 + 0) && ((symP off l).okI .i64 (off + j * 2 + 1) && true)) = true ∧ pkAt (symP off l) (off + j * 2) = l[j] := by
  have a1 : (off + j * 2 + 0 - off) % 2 = 0 := by omega
  have a2 : (off + j * 2 + 0 - off) / 2 = j := by omega
  have b1 : (off + j * 2 + 1 - off) % 2 = 1 := by omega
  have b2 : (off + j * 2 + 1 - off) / 2 = j := by omega
  have hn : nthP l j = l[j] := by unfold nthP; rw [List.getElem?_eq_getElem h]; rfl
  refine ⟨?_, ?_⟩
  · unfold symP
    simp only [a1, a2, b1, b2]
    rw [nbl (show off ≤ off + j * 2 + 0 by omega), nbl (show off ≤ off + j * 2 + 1 by omega), nbl (show j + 1 ≤ l.length by omega)]
    rfl
  · unfold pkAt symP
    simp only [a1, a2, b1, b2, hn]
    rfl
theorem mySp_ok (off : Nat) (l : List Pk) (x : MyS) (b : MyB) (h : (mySp off l x).run = some b) : ∃ m, itN (myStep off l) m x = some b := by
  obtain ⟨h1, h2⟩ := condT (show cond (myG off l x) _ none = some b from h)
  have hb : b = (!((l.drop x.1.toNat).all pkOk), x.2.2.2) := by
    revert h2
    generalize (l.drop x.1.toNat).all pkOk = c
    intro h2
    cases c <;> (cases h2; rfl)
  subst hb
  refine it_of (fun x : MyS => myG off l x = true) (fun x => l.length - x.1.toNat) (fun x : MyS => (!((l.drop x.1.toNat).all pkOk), x.2.2.2)) ?_ _ x h1 (Nat.lt_succ_self _)
  rintro ⟨i, ⟨o, n, cap⟩, n', k⟩ hg
  simp only [myG, Bool.and_eq_true, decide_eq_true_eq] at hg
  obtain ⟨⟨⟨⟨⟨⟨g1, g2⟩, g3⟩, g4⟩, g5⟩, g6⟩, g7⟩ := hg
  have g1 := Nat.eq_of_beq_eq_true g1
  have g2 := Nat.eq_of_beq_eq_true g2
  have g7' := Nat.le_of_ble_eq_true g7
  subst g1; subst g2; subst g4
  by_cases hi : i < (l.length : Int)
  · obtain ⟨j, rfl⟩ : ∃ j : Nat, i = (j : Int) := ⟨i.toNat, by omega⟩
    have hj : j < l.length := by omega
    obtain ⟨s1, s2⟩ := symP_at (off := o) hj
    have e1 : (decide (0 ≤ (j : Int)) && decide ((j : Int) < (l.length : Int)) && l.length.ble cap) = true := andI (andI (decide_eq_true g5) (decide_eq_true hi)) g3
    have er : (myStep o l ((j : Int), (o, l.length, cap), (l.length : Int), k)).run = some (cond (pkOk l[j]) (.inl (IntKind.i64.wrap ((j : Int) + 1), (o, l.length, cap), (l.length : Int), k)) (.inr (true, k))) := by
      unfold myStep
      simp only [Int.toNat_natCast]
      rw [run_br, decide_eq_true hi, cond_true]
      rw [decide_eq_true hi] at e1
      simp only [run_bind, chk_run, e1, s1, cond_true, Option.bind_some, pkD_run, s2, run_pure]
      cases pkOk l[j] <;> rfl
    rw [er]
    dsimp only
    rw [Int.toNat_natCast, List.drop_eq_getElem_cons hj]
    have e5 : IntKind.i64.wrap ((j : Int) + 1) = ((j + 1 : Nat) : Int) := by rw [wrap_id _ (by omega)]; omega
    rw [e5]
    cases hk : pkOk l[j] with
    | true =>
      refine ⟨?_, ?_, ?_⟩
      · simp only [myG, Bool.and_eq_true, decide_eq_true_eq]
        exact ⟨⟨⟨⟨⟨⟨by simp, by simp⟩, g3⟩, trivial⟩, by omega⟩, by omega⟩, g7⟩
      · show l.length - ((j + 1 : Nat) : Int).toNat < l.length - j
        omega
      · show (!((l.drop ((j + 1 : Nat) : Int).toNat).all pkOk), k) = (!(pkOk l[j] && (l.drop (j + 1)).all pkOk), k)
        rw [hk, Int.toNat_natCast]; rfl
    | false =>
      show (true, k) = (!(pkOk l[j] && (l.drop (j + 1)).all pkOk), k)
      rw [hk]; rfl
  · have er : (myStep o l (i, (o, l.length, cap), (l.length : Int), k)).run = some (.inr (false, k)) := by
      unfold myStep
      rw [run_br, decide_eq_false hi, cond_false]; rfl
    rw [er]
    show (false, k) = (!((l.drop i.toNat).all pkOk), k)
    rw [List.drop_eq_nil_of_le (by omega)]; rfl
def myW (b : MyB) : Out := (cond b.1 .ret (.exit 0), [pK 1000, .pointer none, .bool false], [some (dkRow b.2)])
set_option maxRecDepth 100000 in
theorem l_my {gl : Gl} (hgl : Low gl) {l : List Pk} {off : Nat} (hQ : GlPk gl 902 off l) : LpOK Tryz.prog gl 12 0 ⟨[21, 19, 1, 20, 2, 3], [1, 2, 3], hLp 1 (myT).dec (mySp off l) (myW)⟩ := loop_sp (st := myStep off l) goodT hgl tglob (myT).ok (by decide) (mySp_ok off l) fun s => ⟨syP 902 off l, H0, 100, 40, 40, [], fun _ => [], syP_ok (by decide) hQ, H0_ok, (by
  obtain ⟨i, a, n', c, p, d, q⟩ := s
  rcases p with _ | p <;> rcases d with _ | d <;> rcases q with _ | q <;> (show _ = _; kernel_rfl))⟩
/-! The whole of it. -/
def decDk : Dec DkS := ⟨fun vs => match vs with
  | [.agg ⟨l⟩] => (pDk.run l).bind fun x => match x.2 with
    | [] => some x.1
    | _ => none
  | _ => none, fun k => [.agg ⟨dkL k⟩], fun vs x h => by
  split at h
  · obtain ⟨⟨k, r⟩, h1, h2⟩ := Option.bind_eq_some_iff.1 h
    have e := pDk.ok _ _ _ h1
    simp only at h2
    split at h2
    · cases h2
      rw [e]; rfl
    · cases h2
  · cases h⟩
abbrev Pks := Nat × List Pk
structure GlK (gl : Gl) (P : Pgs) (D : Dat) (Q : Pks) : Prop where
  PD : GlD gl P D
  Q : GlPk gl 902 Q.1 Q.2
def HMy0 (P : Pgs) (D : Dat) : Hs := hsOf [] [(23, hA noL decChO (fun _ => chC P D) chO)] []
def HMyD (P : Pgs) (D : Dat) (Q : Pks) : Sl → Hs
  | none => HMy0 P D
  | some _ => (HMy0 P D).addL 12 0 ⟨[21, 19, 1, 20, 2, 3], [1, 2, 3], hLp 1 myT.dec (mySp Q.1 Q.2) myW⟩
theorem HMyD_ok {gl : Gl} (hgl : Low gl) {P : Pgs} {D : Dat} {Q : Pks} (h : GlK gl P D Q) (q : Sl) : (HMyD P D Q q).OK Tryz.prog gl := by
  have h0 : (HMy0 P D).OK Tryz.prog gl := hsOf_ok fx0 (sxC (s_chC hgl h.PD) sx0) lx0
  cases q with
  | none => exact h0
  | some _ => exact Hs.addL_ok h0 (l_my hgl h.Q)
def dkMay (P : Pgs) (D : Dat) (Q : Pks) (k : DkS) : DT Bool := .br (decide ((k.q.n : Int) > 65536)) (pure false) (.br (decide ((k.d.n : Int) > 255)) (pure false) (do
  let r ← (match k.q with
    | none => pure (false, k)
    | some q => mySp Q.1 Q.2 (0, q, (q.2.1 : Int), k))
  cond r.1 (pure false) (chC P D (r.2.c, r.2.p, r.2.d))))
def myO (b : Bool) : Out := cond b (.normal, [.tuple #[pK 1000, .bool true]], [none]) (.normal, [.tuple #[.pointer none, .bool false]], [])
set_option maxRecDepth 100000 in
theorem s_may0 {gl : Gl} (hgl : Low gl) {P : Pgs} {D : Dat} {Q : Pks} (h : GlK gl P D Q) : SubOK Tryz.prog gl 12 (hA (noL) (decDk) (fun _ => dkMay P D Q) (myO)) := hA_sub hgl fun k x => ⟨syG [], HMyD P D Q x.q, noV, syG_ok _, HMyD_ok hgl h x.q, (by
  obtain ⟨c, p, d, q⟩ := x
  rcases p with _ | p <;> rcases d with _ | d <;> rcases q with _ | q <;> (show _ = _; kernel_rfl))⟩
/-- Whether a deck may be. -/
def dkB (c : Cfg) (ps : List Pg) (nd : Nat) (pks : List Pk) : Bool := decide (pks.length ≤ 65536) && decide (nd ≤ 255) && pks.all pkOk && chB c ps nd
def slQs (Q : Pks) : Sl → Bool
  | none => Q.2.isEmpty
  | some x => Nat.beq x.1 Q.1 && Nat.beq x.2.1 Q.2.length && Nat.ble Q.2.length x.2.2
def dkG (P : Pgs) (D : Dat) (Q : Pks) (k : DkS) : Bool := slPs P k.p && slWs 16 D k.d && slQs Q k.q
def mayC (P : Pgs) (D : Dat) (Q : Pks) (k : DkS) : DT Bool := .br (dkG P D Q k) (bl (dkB k.c P.2.2 k.d.n Q.2)) .fail
theorem slQ_len {Q : Pks} {q : Sl} (h : slQs Q q = true) : q.n = Q.2.length := by
  cases q with
  | none => rw [List.isEmpty_iff.1 h]; rfl
  | some x =>
    have h : (Nat.beq x.1 Q.1 && Nat.beq x.2.1 Q.2.length && Nat.ble Q.2.length x.2.2) = true := h
    simp only [Bool.and_eq_true] at h
    exact Nat.eq_of_beq_eq_true h.1.2
theorem mayC_run {P : Pgs} {D : Dat} {Q : Pks} {k : DkS} {b : Bool} (h : (mayC P D Q k).run = some b) : (dkMay P D Q k).run = some b := by
  obtain ⟨h1, h2⟩ := condT (show cond (dkG P D Q k) _ none = some b from h)
  rw [bl_run] at h2
  cases h2
  simp only [dkG, Bool.and_eq_true] at h1
  obtain ⟨⟨hP, hD⟩, hQ⟩ := h1
  have hq := slQ_len hQ
  unfold dkMay dkB
  simp only [run_br]
  rw [hq]
  by_cases h3 : Q.2.length ≤ 65536
  case neg => rw [decide_eq_true (show (Q.2.length : Int) > 65536 by omega), decide_eq_false h3]; rfl
  rw [decide_eq_false (show ¬ (Q.2.length : Int) > 65536 by omega), decide_eq_true h3, cond_false, Bool.true_and]
  by_cases h4 : k.d.n ≤ 255
  case neg => rw [decide_eq_true (show (k.d.n : Int) > 255 by omega), decide_eq_false h4]; rfl
  rw [decide_eq_false (show ¬ (k.d.n : Int) > 255 by omega), decide_eq_true h4, cond_false, Bool.true_and]
  have e1 : ((match k.q with
      | none => pure (false, k)
      | some q => mySp Q.1 Q.2 (0, q, (q.2.1 : Int), k)) : DT MyB).run = some (!(Q.2.all pkOk), k) := by
    cases hk : k.q with
    | none =>
      rw [hk] at hQ
      rw [List.isEmpty_iff.1 hQ]; rfl
    | some x =>
      rw [hk] at hQ
      have hQ : (Nat.beq x.1 Q.1 && Nat.beq x.2.1 Q.2.length && Nat.ble Q.2.length x.2.2) = true := hQ
      simp only [Bool.and_eq_true] at hQ
      have hg : myG Q.1 Q.2 (0, x, (x.2.1 : Int), k) = true := by
        simp only [myG, Bool.and_eq_true, decide_eq_true_eq]
        exact ⟨⟨⟨⟨⟨⟨hQ.1.1, hQ.1.2⟩, hQ.2⟩, by rw [Nat.eq_of_beq_eq_true hQ.1.2]⟩, by simp⟩, by simp⟩, nbl (by omega)⟩
      show (mySp Q.1 Q.2 (0, x, (x.2.1 : Int), k)).run = _
      unfold mySp
      rw [run_br, hg, cond_true]
      show (do let b ← bl (Q.2.all pkOk); pure (!b, k) : DT MyB).run = _
      cases Q.2.all pkOk <;> rfl
  rw [run_bind, e1, Option.bind_some]
  cases Q.2.all pkOk with
  | false => rfl
  | true =>
    show (chC P D (k.c, k.p, k.d)).run = _
    unfold chC
    rw [run_br, hP, hD, nbl (show k.d.n ≤ 1048576 by omega)]
    exact bl_run _
theorem s_may {gl : Gl} (hgl : Low gl) {P : Pgs} {D : Dat} {Q : Pks} (h : GlK gl P D Q) : SubOK Tryz.prog gl 12 (hA noL decDk (fun _ => mayC P D Q) myO) := hA_weak (s_may0 hgl h) fun _ _ _ e => mayC_run e
end Go.Proofs.YtpckfdopokmbkaaGreatDoor.Ev
