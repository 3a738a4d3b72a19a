/- The document's chip made anew; its images. Where the forms stand as the program's text lays them. -/
import Derived.Test.YtpckfdopokmbkaaGreatDoorK9
noncomputable section
namespace Go.Proofs.YtpckfdopokmbkaaGreatDoor.Ev
open Go
open Go.Proofs Go.RowKit

/-! The document's memories, nets. -/
def mm0 (n : Int) : M4 := ⟨(IntKind.i64.wrap (16 * n)).toNat, (IntKind.i64.wrap (16 * n)).toNat, repl (IntKind.i64.wrap (16 * n)).toNat [Value.int .u32 0]⟩
def mmT (n : Int) : DT (Bool × M4) := .br (decide (n < 1)) (pure (false, mm0 n)) (.br (decide (n > 256)) (pure (false, mm0 n)) (do
  mkD (IntKind.i64.wrap (16 * n)) 4
  chk ((mm0 n).cs.all (af 8) && true)
  pure (true, mm0 n)))
def mmW (b : Bool × M4) : Out := cond b.1 (.normal, [.tuple #[pK 1000, .int .i64 0]], m4R b.2.n b.2.c b.2.cs) (.normal, [.tuple #[.pointer none, .int .i64 2]], [])
set_option maxRecDepth 100000 in
theorem s_mm0 {gl : Gl} (hgl : Low gl)  : SubOK Tryz.prog gl 45 (hA (noL) (decI .i64) (fun _ n => mmT n) (mmW)) := hA_sub hgl fun k x => ⟨syG [], H0, noV, syG_ok _, H0_ok, by kernel_rfl⟩
def mmB (n : Int) : M4 := ⟨(16 * n).toNat, (16 * n).toNat, repl (16 * n).toNat [Value.int .u32 0]⟩
theorem repl_u32 (n : Nat) : (repl n [Value.int .u32 0]).all (af 8) = true ∧ (repl n [Value.int .u32 0]).length = n := by
  induction n with
  | zero => exact ⟨rfl, rfl⟩
  | succ n ih =>
    have e : repl (n + 1) [Value.int .u32 0] = .int .u32 0 :: repl n [Value.int .u32 0] := rfl
    rw [e]
    exact ⟨by rw [List.all_cons, ih.1]; rfl, by rw [List.length_cons, ih.2]⟩
def m4Ok (m : M4) : Bool := Nat.beq m.cs.length m.n && Nat.ble m.n m.c && m.cs.all (af 8) && Nat.ble m.n 4096
theorem s_mm {gl : Gl} (hgl : Low gl) : SubOK Tryz.prog gl 45 (hA noL (decI .i64) (fun _ n => ifT (meGd n) (true, mmB n)) mmW) := hA_weak (s_mm0 hgl) fun _ n b h => by
  obtain ⟨h1, rfl⟩ := ifT_run h
  simp only [meGd, Bool.and_eq_true, decide_eq_true_eq] at h1
  have hw : IntKind.i64.wrap (16 * n) = 16 * n := wrap_id _ (by omega)
  have hm : mm0 n = mmB n := by unfold mm0 mmB; rw [hw]
  unfold mmT
  rw [hw, hm]
  have h2 := (repl_u32 (16 * n).toNat).1
  have h3 : ((mmB n).cs.all (af 8) && true) = true := by unfold mmB; rw [h2]; rfl
  have h4 : (mkD (16 * n) 4).run = some () := by
    unfold mkD
    rw [run_bind, chk_run, decide_eq_true (show 0 ≤ 16 * n by omega), chk_run, nbl (Nat.le_refl _), nbl (show (16 * n).toNat ≤ 1099511627776 by omega), nbl (show 4 * (16 * n).toNat ≤ 140737488355328 by omega)]
    rfl
  simp only [run_br, decide_eq_false (show ¬ n < 1 by omega), decide_eq_false (show ¬ n > 256 by omega), cond_false, run_bind, h4, chk_run, h3, cond_true, Option.bind_some, run_pure]
theorem mmB_ok {n : Int} (h : meGd n = true) : m4Ok (mmB n) = true := by
  simp only [meGd, Bool.and_eq_true, decide_eq_true_eq] at h
  have h2 := repl_u32 (16 * n).toNat
  unfold m4Ok mmB
  simp only [h2.1, h2.2, Bool.and_true, Bool.and_eq_true]
  exact ⟨⟨by simp, nbl (Nat.le_refl _)⟩, nbl (by omega)⟩
set_option maxRecDepth 100000 in
theorem s_ntN0 {gl : Gl} (hgl : Low gl)  : SubOK Tryz.prog gl 47 (hA (noL) (decCi) (fun _ x => .br (planOk x.1) (.br (decide (x.2 < 1)) (pure false) (.br (decide (x.2 > 1024)) (pure false) (pure true))) .fail) (fun b => cond b (.normal, [.tuple #[pK 1000, .int .i64 0]], [none]) (.normal, [.tuple #[.pointer none, .int .i64 2]], []))) := hA_sub hgl fun k x => ⟨syG [], HRc, plD, syG_ok _, HRc_ok hgl, by kernel_rfl⟩
theorem s_ntN {gl : Gl} (hgl : Low gl) : SubOK Tryz.prog gl 47 (hA noL decCi (fun _ x => ifT (planOk x.1 && decide (x.2 = 1024)) true) fun b => cond b (.normal, [.tuple #[pK 1000, .int .i64 0]], [none]) (.normal, [.tuple #[.pointer none, .int .i64 2]], [])) := hA_weak (s_ntN0 hgl) fun _ x b h => by
  obtain ⟨h1, rfl⟩ := ifT_run h
  obtain ⟨c, n⟩ := x
  simp only [Bool.and_eq_true, decide_eq_true_eq] at h1
  obtain ⟨h1, rfl⟩ := h1
  simp only [run_br, h1, cond_true]; rfl
/-! Words written. -/
def sbR (i : Int) : Nat → List Int → List Value → List Value
  | _, [], cs => cs
  | j, x :: l, cs => sbR i (j + 1) l (splice cs (0 + (IntKind.i64.wrap (i + (j : Int))).toNat * 1) [.int .u32 x])
theorem splice_af {cs : List Value} {o : Nat} {v : Value} (h : cs.all (af 8) = true) (hv : af 8 v = true) : (splice cs o [v]).all (af 8) = true := by
  unfold splice
  simp only [List.all_append, Bool.and_eq_true, List.all_eq_true] at h ⊢
  refine ⟨⟨fun x hx => h x (List.mem_of_mem_take hx), ?_⟩, fun x hx => h x (List.mem_of_mem_drop hx)⟩
  intro x hx
  rw [List.mem_singleton.1 hx]; exact hv
theorem sbL_run {n c : Nat} {i : Int} (hc : n ≤ c) (hi : 0 ≤ i) (hb : n ≤ 4096) : ∀ (l : List Int) (j : Nat) (cs : List Value), cs.length = n → i + (j : Int) + (l.length : Int) ≤ (n : Int) → cs.all (af 8) = true → (sbL n c i j l cs).run = some (sbR i j l cs) ∧ (sbR i j l cs).length = n ∧ (sbR i j l cs).all (af 8) = true
  | [], j, cs, h, _, h3 => ⟨rfl, h, h3⟩
  | x :: l, j, cs, h1, h2, h3 => by
    have h2 : i + (j : Int) + ((l.length : Int) + 1) ≤ (n : Int) := by simpa using h2
    have hw : IntKind.i64.wrap (i + (j : Int)) = i + (j : Int) := wrap_id _ (by omega)
    have e1 : (decide (0 ≤ i + (j : Int)) && decide (i + (j : Int) < (n : Int)) && n.ble c) = true := andI (andI (decide_eq_true (by omega)) (decide_eq_true (by omega))) (nbl hc)
    have hlt : 0 + (i + (j : Int)).toNat * 1 + 1 ≤ cs.length := by omega
    have e2 : ((0 + (i + (j : Int)).toNat * 1 + [Value.int .u32 x].length).ble cs.length && true && true) = true := by
      rw [nbl (show 0 + (i + (j : Int)).toNat * 1 + [Value.int .u32 x].length ≤ cs.length from hlt)]; rfl
    have ih := sbL_run hc hi hb l (j + 1) (splice cs (0 + (i + (j : Int)).toNat * 1) [.int .u32 x]) (by rw [splice_length hlt]; exact h1) (by omega) (splice_af h3 rfl)
    have er : sbR i j (x :: l) cs = sbR i (j + 1) l (splice cs (0 + (i + (j : Int)).toNat * 1) [.int .u32 x]) := by
      show sbR i (j + 1) l (splice cs (0 + (IntKind.i64.wrap (i + (j : Int))).toNat * 1) [.int .u32 x]) = _
      rw [hw]
    rw [er]
    refine ⟨?_, ih.2⟩
    unfold sbL
    rw [hw]
    simp only [run_bind, chk_run, e1, e2, cond_true, Option.bind_some, qsD_run, qnD_run]
    exact ih.1
def sbM (m : M4) (x : Int × W16) : M4 := { m with cs := sbR (16 * x.1) 0 x.2.l1 m.cs }
def sbGd (m : M4) (b : Int) : Bool := m4Ok m && decide (0 ≤ b) && decide (16 * b + 16 ≤ (m.n : Int))
theorem sbM_ok {m : M4} {x : Int × W16} (h : sbGd m x.1 = true) : m4Ok (sbM m x) = true := by
  simp only [sbGd, m4Ok, Bool.and_eq_true, decide_eq_true_eq] at h
  obtain ⟨⟨⟨⟨⟨a1, a2⟩, a3⟩, a4⟩, h2⟩, h3⟩ := h
  have := sbL_run (Nat.le_of_ble_eq_true a2) (i := 16 * x.1) (by omega) (Nat.le_of_ble_eq_true a4) x.2.l1 0 m.cs (Nat.eq_of_beq_eq_true a1) (by show 16 * x.1 + 0 + 16 ≤ _; omega) a3
  unfold m4Ok sbM
  simp only [this.2.1, this.2.2, Bool.and_true, Bool.and_eq_true]
  exact ⟨⟨by simp, a2⟩, a4⟩
theorem s_sb {gl : Gl} (hgl : Low gl) : SubOK Tryz.prog gl 46 (hA m4L decBk4 (fun m x => ifT (sbGd m x.1) (0, sbM m x)) fun b => (.normal, [.int .i64 b.1], m4R b.2.n b.2.c b.2.cs)) := hA_weak (s_sb0 hgl) fun m x b h => by
  obtain ⟨h1, rfl⟩ := ifT_run h
  have hok := sbM_ok h1
  simp only [sbGd, m4Ok, Bool.and_eq_true, decide_eq_true_eq] at h1
  obtain ⟨⟨⟨⟨⟨a1, a2⟩, a3⟩, a4⟩, h2⟩, h3⟩ := h1
  have a4' := Nat.le_of_ble_eq_true a4
  have hL := sbL_run (Nat.le_of_ble_eq_true a2) (i := 16 * x.1) (by omega) a4' x.2.l1 0 m.cs (Nat.eq_of_beq_eq_true a1) (by show 16 * x.1 + 0 + 16 ≤ _; omega) a3
  have w1 : IntKind.i64.wrap (16 * x.1) = 16 * x.1 := wrap_id _ (by omega)
  have w2 : IntKind.i64.wrap (16 * x.1 + 0) = 16 * x.1 := by rw [Int.add_zero, w1]
  have ht : (m.n : Int).tdiv 16 = (m.n : Int) / 16 := Int.tdiv_eq_ediv_of_nonneg (by omega)
  have w3 : IntKind.i64.wrap ((m.n : Int).tdiv 16) = (m.n : Int) / 16 := by rw [ht]; exact wrap_id _ (by omega)
  have h7 : ((sbR (16 * x.1) 0 x.2.l1 m.cs).all (af 8) && true) = true := by rw [hL.2.2]; rfl
  unfold sbT
  simp only [w1, w2, w3, run_br, decide_eq_false (show ¬ x.1 < 0 by omega), decide_eq_false (show ¬ x.1 ≥ (m.n : Int) / 16 by omega), decide_eq_false (show ¬ 16 * x.1 < 0 by omega), cond_false, run_bind, hL.1, Option.bind_some, chk_run, h7, cond_true, run_pure]
  rfl
def HRh : Hs := hsOf [] [(43, hA noL decC (fun _ c => bl (planOk c)) fun b => (.normal, [.bool b], [])), (45, hA noL (decI .i64) (fun _ n => ifT (meGd n) (true, mmB n)) mmW), (47, hA noL decCi (fun _ x => ifT (planOk x.1 && decide (x.2 = 1024)) true) fun b => cond b (.normal, [.tuple #[pK 1000, .int .i64 0]], [none]) (.normal, [.tuple #[.pointer none, .int .i64 2]], [])), (48, hA m4L decHo hoC fun m => (.normal, [pK 1002], m4R m.n m.c m.cs ++ [none]))] []
theorem HRh_ok {gl : Gl} (hgl : Low gl) : HRh.OK Tryz.prog gl := hsOf_ok fx0 (sxC (s_rMay hgl) (sxC (s_mm hgl) (sxC (s_ntN hgl) (sxC (s_ho hgl) sx0)))) fun _ h => nomatch h
end Go.Proofs.YtpckfdopokmbkaaGreatDoor.Ev

namespace Go.Proofs.YtpckfdopokmbkaaGreatDoor.Ev
open Go
open Go.Proofs Go.RowKit

/-! The document's chip made anew: its data. -/
structure DrS where
  i : Int
  p : Sl
  o : Nat
  n : Nat
  cap : Nat
  m : M4
  c : Cfg
def drV (s : DrS) : List Value := [.int .i64 s.i, wSl' 901 s.o s.n s.cap, pK 1000, slO 900 s.p, pK 1001, .pointer none, .int .i64 0]
def drR (m : M4) (c : Cfg) : Rws := [some (m4Q 1002 m), some (cfgRow c), some (w4Q m)]
def drLp : LpT DrS := ⟨fun vs rows => match vs, rows with
  | [.int .i64 i, .slice (some a) n cap, .pointer (some p), u, .pointer (some p1), .pointer none, .int .i64 e], [some (.row b0), some (.row b1), some (.row w)] => cond (isP p 1000 && isSl a 901 && isP p1 1001 && decide (e = 0) && isU32 w) (((pSlO 900).run [u]).bind fun q => (rowP 156 (pSlA 1002) b0).bind fun x => (rowP 23 pCfg b1).map fun y =>
    ⟨i, q.1, a.off, n, cap, ⟨x.1, x.2, w.cells⟩, y⟩) none
  | _, _ => none, fun s => (drV s, drR s.m s.c), fun vs rows s h => by
  split at h
  case h_2 => cases h
  rename_i i a n cap p u p1 e b0 b1 w
  obtain ⟨h1, h⟩ := condT h
  obtain ⟨⟨q, r⟩, h9, h⟩ := Option.bind_eq_some_iff.1 h
  obtain ⟨x, h2, h⟩ := Option.bind_eq_some_iff.1 h
  obtain ⟨y, h3, h⟩ := Option.map_eq_some_iff.1 h
  simp only [Bool.and_eq_true, decide_eq_true_eq] at h1
  obtain ⟨⟨⟨⟨h1, h4⟩, h5⟩, h7⟩, h8⟩ := h1
  have e9 : [u] = slO 900 q :: r := (pSlO 900).ok _ _ _ h9
  subst h; subst h7
  rw [rowP_ok h2, rowP_ok h3, isP_t h1, isP_t h5, isU32_eq h8, List.head_eq_of_cons_eq e9]
  conv => lhs; rw [isSl_t h4]
  rfl⟩
abbrev DrB := Sl × Cfg × M4
def drStep (off : Nat) (ws : List Int) (s : DrS) : DT (DrS ⊕ DrB) := .br (decide (s.i < (s.n : Int))) (do
    chk (decide (0 ≤ s.i) && decide (s.i < (s.n : Int)) && s.n.ble s.cap)
    chk (skOk (symW off ws) (s.o + s.i.toNat * 16))
    m4C s.m
    chk (sbGd s.m s.i)
    m4C (sbM s.m (s.i, skW (symW off ws) (s.o + s.i.toNat * 16)))
    m4C (sbM s.m (s.i, skW (symW off ws) (s.o + s.i.toNat * 16)))
    pure (.inl { s with i := IntKind.i64.wrap (s.i + 1), m := sbM s.m (s.i, skW (symW off ws) (s.o + s.i.toNat * 16)) })) (do m4C s.m; pure (.inr (s.p, s.c, s.m)))
def drF (off : Nat) (ws : List Int) : Nat → DrS → DrS
  | 0, s => s
  | k + 1, s => drF off ws k { s with i := s.i + 1, m := sbM s.m (s.i, skW (symW off ws) (s.o + s.i.toNat * 16)) }
def drG (off : Nat) (ws : List Int) (s : DrS) : Bool := Nat.beq s.o off && Nat.beq (s.n * 16) ws.length && Nat.ble s.n s.cap && decide (0 ≤ s.i) && decide (s.i ≤ (s.n : Int)) && m4Ok s.m && Nat.ble (s.n * 16) s.m.n && Nat.ble s.n 1048576
def drSp (off : Nat) (ws : List Int) (s : DrS) : DT DrB := ifT (drG off ws s) (s.p, s.c, (drF off ws (s.n - s.i.toNat) s).m)
theorem m4C_run {m : M4} (h : m4Ok m = true) : (m4C m).run = some () := by
  simp only [m4Ok, Bool.and_eq_true] at h
  unfold m4C
  rw [h.1.2]; rfl
theorem drSp_ok (off : Nat) (ws : List Int) (s : DrS) (b : DrB) (h : (drSp off ws s).run = some b) : ∃ m, itN (drStep off ws) m s = some b := by
  obtain ⟨h1, rfl⟩ := ifT_run h
  refine it_of (fun s : DrS => drG off ws s = true) (fun s => s.n - s.i.toNat) (fun s : DrS => (s.p, s.c, (drF off ws (s.n - s.i.toNat) s).m)) ?_ _ s h1 (Nat.lt_succ_self _)
  intro s hg
  simp only [drG, Bool.and_eq_true, decide_eq_true_eq] at hg
  obtain ⟨⟨⟨⟨⟨⟨⟨g1, g2⟩, g3⟩, g5⟩, g6⟩, g7⟩, g9⟩, g8⟩ := hg
  have g1' := Nat.eq_of_beq_eq_true g1
  have g2' := Nat.eq_of_beq_eq_true g2
  have g8' := Nat.le_of_ble_eq_true g8
  have g9' := Nat.le_of_ble_eq_true g9
  have hm := m4C_run g7
  by_cases hi : s.i < (s.n : Int)
  · have e1 : (decide (0 ≤ s.i) && true && s.n.ble s.cap) = true := by rw [decide_eq_true g5, g3]; rfl
    have e2 : skOk (symW off ws) (s.o + s.i.toNat * 16) = true := by rw [g1']; exact skOk_t (by omega)
    have e3 : sbGd s.m s.i = true := andI (andI g7 (decide_eq_true g5)) (decide_eq_true (by omega))
    have e4 := sbM_ok (x := (s.i, skW (symW off ws) (s.o + s.i.toNat * 16))) e3
    have e5 := m4C_run e4
    have er : (drStep off ws s).run = some (.inl { s with i := IntKind.i64.wrap (s.i + 1), m := sbM s.m (s.i, skW (symW off ws) (s.o + s.i.toNat * 16)) }) := by
      unfold drStep
      rw [run_br, decide_eq_true hi, cond_true]
      simp only [run_bind, chk_run, e1, e2, e3, hm, e5, cond_true, Option.bind_some, run_pure]
    rw [er]
    rw [wrap_id (s.i + 1) (by omega)]
    refine ⟨?_, ?_, ?_⟩
    · simp only [drG, Bool.and_eq_true, decide_eq_true_eq]
      exact ⟨⟨⟨⟨⟨⟨⟨g1, g2⟩, g3⟩, by omega⟩, by omega⟩, e4⟩, g9⟩, g8⟩
    · show s.n - (s.i + 1).toNat < s.n - s.i.toNat
      omega
    · dsimp only
      rw [show s.n - s.i.toNat = (s.n - (s.i + 1).toNat) + 1 by omega]; rfl
  · have er : (drStep off ws s).run = some (.inr (s.p, s.c, s.m)) := by
      unfold drStep
      rw [run_br, decide_eq_false hi, cond_false]
      simp only [run_bind, hm, Option.bind_some, run_pure]
    rw [er]
    show (s.p, s.c, s.m) = _
    rw [show s.n - s.i.toNat = 0 by omega]; rfl
def HDr : Hs := hsOf [] [(46, hA m4L decBk4 (fun m x => ifT (sbGd m x.1) (0, sbM m x)) fun b => (.normal, [.int .i64 b.1], m4R b.2.n b.2.c b.2.cs))] []
theorem HDr_ok {gl : Gl} (hgl : Low gl) : HDr.OK Tryz.prog gl := hsOf_ok fx0 (sxC (s_sb hgl) sx0) fun _ h => nomatch h
def drW (s : DrB) : Out := (.exit 0, [pK 1000, slO 900 s.1, pK 1001, .pointer none, .int .i64 0], drR s.2.2 s.2.1)
set_option maxRecDepth 100000 in
theorem l_dr {gl : Gl} (hgl : Low gl) {ws : List Int} {off : Nat} (hW : GlW gl 901 off ws) : LpOK Tryz.prog gl 27 0 ⟨[10, 2, 8, 1, 3, 6, 7], [8, 1, 3, 6, 7], hLp 3 (drLp).dec (drSp off ws) (drW)⟩ := loop_sp (st := drStep off ws) goodT hgl tglob (drLp).ok (by decide) (drSp_ok off ws) fun s => ⟨syW 901 off ws [], HDr, 100, 40, 40, [], fun _ => [], syW_ok (by decide) hW, HDr_ok hgl, (by
  obtain ⟨i, p, o, n, cap, m, c⟩ := s
  rcases p with _ | p <;> (show _ = _; kernel_rfl))⟩
end Go.Proofs.YtpckfdopokmbkaaGreatDoor.Ev

namespace Go.Proofs.YtpckfdopokmbkaaGreatDoor.Ev
open Go
open Go.Proofs Go.RowKit

/-! The document's chip made anew: its programs. -/
structure PrS where
  po : Nat
  pn : Nat
  pc : Nat
  c1 : Cfg
  c2 : Cfg
  m : M4
  tm : Int
def cpRow (c : Cfg) (sl : Value) (tm : Int) : LObj := rowT 111 (cfgL c ++ [pK 1001, pK 1003, pK 1004, sl, .int .u64 tm])
def cpR (k : Nat) (s : PrS) : Rws := [some (cpRow s.c1 (match k with | 0 => .slice none 0 0 | k + 1 => .slice (some ⟨1006, 0, none⟩) (k + 1) (k + 1)) s.tm), some (m4Q 1005 s.m), some (cfgRow s.c2), none, none, some (w4Q s.m)] ++ (match k with
  | 0 => []
  | k + 1 => some (.row ⟨ptL 1007 (k + 1), 112, (0, 0), 1, false, false⟩) :: noneL (k + 1))
def cpV (k : Nat) (s : PrS) : List Value := [.int .i64 (k : Int), pK 1000, pK 1001, wSl' 900 s.po s.pn s.pc, pK 1002, .pointer none, .int .i64 0]
def hRc (j : Nat) : Pg → Hd
  | none => hA m4L decCnN (fun m x => rcC m x.1 x.2 []) rcO
  | some p => hA m4L (decCn (903 + j)) (fun m x => .br (cnSl p.1 p.2.2 x.2.2) (rcC m x.1 x.2.1 p.2.2) .fail) rcO
def HRcj (j : Nat) (p : Pg) : Hs := hsOf [] [(49, hRc j p)] []
theorem HRcj_ok {gl : Gl} (hF : GlF gl) (hgl : Low gl) {j : Nat} (hj : j < 16) {p : Pg} (hp : ∀ q, p = some q → GlW gl (903 + j) q.1 q.2.2) : (HRcj j p).OK Tryz.prog gl := hsOf_ok fx0 (sxC (by
  cases p with
  | none => exact s_rcN hgl
  | some q => exact s_rc hgl hF hj (hp q rfl)) sx0) fun _ h => nomatch h
abbrev PrX := Nat × PrS
abbrev PrB := Bool × PrS
def cpE (x : PrX) : LSt := (cpV (min x.1 16) x.2, cpR (min x.1 16) x.2)
def pCp : Par (Cfg × Unit × Unit × Unit × Unit × Int) := pCfg.s ((pP 1001).s ((pP 1003).s ((pP 1004).s (pNil.s (pI .u64)))))
def cpLp : LpT PrX := ⟨fun vs rows => match vs, rows with
  | [.int .i64 i, .pointer (some p), .pointer (some p1), .slice (some b) pn pc, .pointer (some p2), .pointer none, .int .i64 e], [some (.row b0), some (.row b1), some (.row b2), none, none, some (.row w)] => cond (isP p 1000 && isP p1 1001 && isSl b 900 && isP p2 1002 && decide (e = 0) && isU32 w && decide (i = 0)) ((rowP 111 pCp b0).bind fun x => (rowP 156 (pSlA 1005) b1).bind fun u => (rowP 23 pCfg b2).map fun y =>
    (0, ⟨b.off, pn, pc, x.1, y, ⟨u.1, u.2, w.cells⟩, x.2.2.2.2.2⟩)) none
  | _, _ => none, cpE, fun vs rows s h => by
  split at h
  case h_2 => cases h
  rename_i i p p1 b pn pc p2 e b0 b1 b2 w
  obtain ⟨h1, h⟩ := condT h
  obtain ⟨x, h2, h⟩ := Option.bind_eq_some_iff.1 h
  obtain ⟨u, h9, h⟩ := Option.bind_eq_some_iff.1 h
  obtain ⟨y, h3, h⟩ := Option.map_eq_some_iff.1 h
  simp only [Bool.and_eq_true, decide_eq_true_eq] at h1
  obtain ⟨⟨⟨⟨⟨⟨h1, h5⟩, h6⟩, h7⟩, h8⟩, h10⟩, h11⟩ := h1
  subst h; subst h8; subst h11
  rw [rowP_ok h2, rowP_ok h9, rowP_ok h3, isP_t h1, isP_t h5, isP_t h7, isU32_eq h10]
  conv => lhs; rw [isSl_t h6]
  rfl⟩
def pgQ (p : Pg) : DT Unit := match p with
  | none => pure ()
  | some q => do
    chk (q.1.beq q.1 && true && true)
    qnD [q.2.2.length, q.2.1]
def prStP (po : Nat) (p : Option Pg) (k : Nat) (s : PrS) : DT (PrX ⊕ PrB) := .br (decide ((k : Int) < (s.pn : Int))) (do
    chk (decide (0 ≤ (k : Int)) && decide ((k : Int) < (s.pn : Int)) && s.pn.ble s.pc)
    match p with
    | none => .fail
    | some p => do
      chk (Nat.beq (s.po + k) (po + k))
      m4C s.m
      let r ← (match p with
        | none => rcC s.m s.c2 (k : Int) []
        | some q => .br (cnSl q.1 q.2.2 (q.1, q.2.2.length, q.2.1)) (rcC s.m s.c2 (k : Int) q.2.2) .fail)
      m4C s.m
      chk (Nat.beq (s.po + k) (po + k))
      pgQ p
      qsD s.c2.l
      m4C s.m
      pure (cond r.1 (.inl (k + 1, { s with m := r.2 })) (.inr (true, { s with m := r.2 })))) (do m4C s.m; pure (.inr (false, s)))
def prStep (po : Nat) (ps : List Pg) (x : PrX) : DT (PrX ⊕ PrB) := prStP po ps[min x.1 16]? (min x.1 16) x.2
def prW (b : PrB) : Out := (cond b.1 .ret (.exit 2), [pK 1000, .pointer none, .int .i64 (cond b.1 2 0)], none :: (cpR 0 b.2).tail)
set_option maxRecDepth 100000 in
theorem pr_round {gl : Gl} (hF : GlF gl) (hgl : Low gl) {po : Nat} {ps : List Pg} (hP : GlPs gl po ps) (hn : ps.length ≤ 16) (x : PrX) : ∃ (sy : Sy) (H : Hs) (L G d : Nat) (op : List VStep) (cls : CR4 → List VStep), SyOK gl sy ∧ H.OK Tryz.prog gl ∧ roundV sy Tryz.prog gl (fun _ => none) H L G d 27 1 [14, 13, 8, 1, 3, 6, 7] (cpE x) op (rndW Tryz.prog (1000 + 6) [14, 13, 8, 1, 3, 6, 7] [13, 6, 7] cls) = (prStep po ps x).runK fun q => some (rawL (encQ cpE prW q)) := by
  obtain ⟨k0, s⟩ := x
  show ∃ (sy : Sy) (H : Hs) (L G d : Nat) (op : List VStep) (cls : CR4 → List VStep), SyOK gl sy ∧ H.OK Tryz.prog gl ∧ roundV sy Tryz.prog gl (fun _ => none) H L G d 27 1 [14, 13, 8, 1, 3, 6, 7] (cpV (min k0 16) s, cpR (min k0 16) s) op (rndW Tryz.prog (1000 + 6) [14, 13, 8, 1, 3, 6, 7] [13, 6, 7] cls) = (prStP po ps[min k0 16]? (min k0 16) s).runK fun q => some (rawL (encQ cpE prW q))
  have hk : min k0 16 < 17 := by omega
  generalize min k0 16 = k at hk
  cases e : ps[k]? with
  | none =>
    refine ⟨syN, H0, 100, 40, 40, [], psCl, syN_ok, H0_ok, ?_⟩
    clear e hP hn hF hgl
    match k, hk with
    | 0, _ => (show _ = _; kernel_rfl)
    | 1, _ => (show _ = _; kernel_rfl)
    | 2, _ => (show _ = _; kernel_rfl)
    | 3, _ => (show _ = _; kernel_rfl)
    | 4, _ => (show _ = _; kernel_rfl)
    | 5, _ => (show _ = _; kernel_rfl)
    | 6, _ => (show _ = _; kernel_rfl)
    | 7, _ => (show _ = _; kernel_rfl)
    | 8, _ => (show _ = _; kernel_rfl)
    | 9, _ => (show _ = _; kernel_rfl)
    | 10, _ => (show _ = _; kernel_rfl)
    | 11, _ => (show _ = _; kernel_rfl)
    | 12, _ => (show _ = _; kernel_rfl)
    | 13, _ => (show _ = _; kernel_rfl)
    | 14, _ => (show _ = _; kernel_rfl)
    | 15, _ => (show _ = _; kernel_rfl)
    | 16, _ => (show _ = _; kernel_rfl)
    | n + 17, h => exact absurd h (by omega)
  | some p =>
    have hk2 : k < 16 := by
      have := (List.getElem?_eq_some_iff.1 e).1
      omega
    obtain ⟨h1, h2⟩ := hP k p e
    refine ⟨syV 900 (po + k) (pgV k p), HRcj k p, 100, 40, 40, [], psCl, syV_ok (by decide) h1, HRcj_ok hF hgl hk2 h2, ?_⟩
    clear e hP hn hF hgl h1 h2 hk
    rcases p with _ | q
    · match k, hk2 with
      | 0, _ => (show _ = _; kernel_rfl)
      | 1, _ => (show _ = _; kernel_rfl)
      | 2, _ => (show _ = _; kernel_rfl)
      | 3, _ => (show _ = _; kernel_rfl)
      | 4, _ => (show _ = _; kernel_rfl)
      | 5, _ => (show _ = _; kernel_rfl)
      | 6, _ => (show _ = _; kernel_rfl)
      | 7, _ => (show _ = _; kernel_rfl)
      | 8, _ => (show _ = _; kernel_rfl)
      | 9, _ => (show _ = _; kernel_rfl)
      | 10, _ => (show _ = _; kernel_rfl)
      | 11, _ => (show _ = _; kernel_rfl)
      | 12, _ => (show _ = _; kernel_rfl)
      | 13, _ => (show _ = _; kernel_rfl)
      | 14, _ => (show _ = _; kernel_rfl)
      | 15, _ => (show _ = _; kernel_rfl)
      | n + 16, h => exact absurd h (by omega)
    · match k, hk2 with
      | 0, _ => (show _ = _; kernel_rfl)
      | 1, _ => (show _ = _; kernel_rfl)
      | 2, _ => (show _ = _; kernel_rfl)
      | 3, _ => (show _ = _; kernel_rfl)
      | 4, _ => (show _ = _; kernel_rfl)
      | 5, _ => (show _ = _; kernel_rfl)
      | 6, _ => (show _ = _; kernel_rfl)
      | 7, _ => (show _ = _; kernel_rfl)
      | 8, _ => (show _ = _; kernel_rfl)
      | 9, _ => (show _ = _; kernel_rfl)
      | 10, _ => (show _ = _; kernel_rfl)
      | 11, _ => (show _ = _; kernel_rfl)
      | 12, _ => (show _ = _; kernel_rfl)
      | 13, _ => (show _ = _; kernel_rfl)
      | 14, _ => (show _ = _; kernel_rfl)
      | 15, _ => (show _ = _; kernel_rfl)
      | n + 16, h => exact absurd h (by omega)
end Go.Proofs.YtpckfdopokmbkaaGreatDoor.Ev

namespace Go.Proofs.YtpckfdopokmbkaaGreatDoor.Ev
open Go
open Go.Proofs Go.RowKit

/-! The document's chip made anew, whole. -/
def prG (po : Nat) (ps : List Pg) (x : PrX) : Bool := Nat.beq x.2.po po && Nat.beq x.2.pn ps.length && Nat.ble ps.length x.2.pc && Nat.ble x.1 ps.length && planOk x.2.c2 && m4Ok x.2.m && decide ((x.2.m.n : Int) = 16 * x.2.c2.blocks) && ps.all Pg.ok && Nat.ble ps.length 16 && decide ((ps.length : Int) ≤ x.2.c2.cores)
def prSp (po : Nat) (ps : List Pg) (x : PrX) : DT PrB := .br (prG po ps x) (do let b ← bl ((ps.drop x.1).all pgOk); pure (!b, x.2)) .fail
theorem prSp_run {po : Nat} {ps : List Pg} {x : PrX} {b : PrB} (h : (prSp po ps x).run = some b) : prG po ps x = true ∧ b = (!((ps.drop x.1).all pgOk), x.2) := by
  obtain ⟨h1, h2⟩ := condT (show cond (prG po ps x) _ none = some b from h)
  refine ⟨h1, ?_⟩
  revert h2
  generalize (ps.drop x.1).all pgOk = c
  intro h2
  cases c <;> (cases h2; rfl)
theorem pgQ_run (p : Pg) : (pgQ p).run = some () := by
  unfold pgQ
  cases p with
  | none => rfl
  | some q => simp only [run_bind, chk_run, qnD_run, Nat.beq_refl, Bool.and_self, cond_true, Option.bind_some]
theorem prSp_ok (po : Nat) (ps : List Pg) (x : PrX) (b : PrB) (h : (prSp po ps x).run = some b) : ∃ m, itN (prStep po ps) m x = some b := by
  obtain ⟨h1, rfl⟩ := prSp_run h
  refine it_of (fun x : PrX => prG po ps x = true) (fun x => ps.length - x.1) (fun x : PrX => (!((ps.drop x.1).all pgOk), x.2)) ?_ _ x h1 (Nat.lt_succ_self _)
  rintro ⟨k, s⟩ hg
  have hg0 := hg
  simp only [prG, Bool.and_eq_true, decide_eq_true_eq] at hg
  obtain ⟨⟨⟨⟨⟨⟨⟨⟨⟨g1, g2⟩, g3⟩, g5⟩, g6⟩, g7⟩, g11⟩, g8⟩, g9⟩, g10⟩ := hg
  have g1' := Nat.eq_of_beq_eq_true g1
  have g2' := Nat.eq_of_beq_eq_true g2
  have g5' := Nat.le_of_ble_eq_true g5
  have g9' := Nat.le_of_ble_eq_true g9
  have hm := m4C_run g7
  have hmin : min k 16 = k := by omega
  have e0 : prStep po ps (k, s) = prStP po ps[k]? k s := by
    show prStP po ps[min k 16]? (min k 16) s = _
    rw [hmin]
  rw [e0]
  dsimp only
  by_cases hk : k < ps.length
  · have e1 : (decide (0 ≤ (k : Int)) && true && s.pn.ble s.pc) = true := by rw [decide_eq_true (show 0 ≤ (k : Int) by omega), g2', g3]; rfl
    have hpk : Pg.ok ps[k] = true := List.all_eq_true.1 g8 _ (List.getElem_mem hk)
    have e2 : Nat.beq (s.po + k) (po + k) = true := by rw [g1']; simp
    have haf : s.m.cs.all (af 8) = true := by simp only [m4Ok, Bool.and_eq_true] at g7; exact g7.1.2
    have hgd : ∀ zs : List Int, zs.all wordG = true → rcGd s.m s.c2 (k : Int) zs = true := fun zs hz => andI (andI (andI (andI g6 (andI (decide_eq_true (show 0 ≤ (k : Int) by omega)) (decide_eq_true (show (k : Int) < s.c2.cores by omega)))) (decide_eq_true g11)) haf) hz
    have hc : ∀ zs : List Int, zs.all wordG = true → (rcC s.m s.c2 (k : Int) zs).run = some (cnRs zs, s.m) := fun zs hz => by
      unfold rcC
      rw [run_br, hgd zs hz, cond_true]
      cases cnRs zs <;> rfl
    have e3 : (match ps[k] with
      | none => rcC s.m s.c2 (k : Int) []
      | some q => .br (cnSl q.1 q.2.2 (q.1, q.2.2.length, q.2.1)) (rcC s.m s.c2 (k : Int) q.2.2) .fail : DT (Bool × M4)).run = some (pgOk ps[k], s.m) := by
      cases hq : ps[k] with
      | none => exact hc [] rfl
      | some q =>
        rw [hq] at hpk
        have hpk : (Nat.ble q.2.2.length q.2.1 && q.2.2.all wordG) = true := hpk
        simp only [Bool.and_eq_true] at hpk
        have : cnSl q.1 q.2.2 (q.1, q.2.2.length, q.2.1) = true := by
          simp only [cnSl, Bool.and_eq_true]
          exact ⟨⟨by simp, by simp⟩, hpk.1⟩
        rw [run_br, this, cond_true]
        exact hc _ hpk.2
    have er : (prStP po ps[k]? k s).run = some (cond (pgOk ps[k]) (.inl (k + 1, s)) (.inr (true, s))) := by
      rw [List.getElem?_eq_getElem hk]
      unfold prStP
      rw [run_br, decide_eq_true (show (k : Int) < (s.pn : Int) by omega), cond_true]
      simp only [run_bind, chk_run, e1, e2, hm, cond_true, Option.bind_some]
      erw [e3]
      simp only [Option.bind_some, pgQ_run, qsD_run, run_pure]
    rw [er]
    have hd : (ps.drop k).all pgOk = (pgOk ps[k] && (ps.drop (k + 1)).all pgOk) := by rw [List.drop_eq_getElem_cons hk]; rfl
    rw [hd]
    cases pgOk ps[k] with
    | true =>
      refine ⟨?_, ?_, ?_⟩
      · simp only [prG, Bool.and_eq_true, decide_eq_true_eq]
        exact ⟨⟨⟨⟨⟨⟨⟨⟨⟨g1, g2⟩, g3⟩, nbl (by omega)⟩, g6⟩, g7⟩, g11⟩, g8⟩, g9⟩, g10⟩
      · show ps.length - (k + 1) < ps.length - k
        omega
      · rfl
    | false => rfl
  · have er : (prStP po ps[k]? k s).run = some (.inr (false, s)) := by
      unfold prStP
      rw [run_br, decide_eq_false (show ¬ (k : Int) < (s.pn : Int) by omega), cond_false]
      simp only [run_bind, hm, Option.bind_some, run_pure]
    rw [er]
    rw [List.drop_eq_nil_of_le (by omega)]; rfl
theorem l_pr {gl : Gl} (hgl : Low gl) (hF : GlF gl) {po : Nat} {ps : List Pg} (hP : GlPs gl po ps) (hn : ps.length ≤ 16) : LpOK Tryz.prog gl 27 1 ⟨[14, 13, 8, 1, 3, 6, 7], [13, 6, 7], hLp 6 cpLp.dec (prSp po ps) prW⟩ := loop_sp (st := prStep po ps) goodT hgl tglob cpLp.ok (by decide) (prSp_ok po ps) fun x => pr_round hF hgl hP hn x
def HCp (P : Pgs) (D : Dat) (p d : Sl) : Hs := (match d with
  | none => HRh
  | some _ => HRh.addL 27 0 ⟨[10, 2, 8, 1, 3, 6, 7], [8, 1, 3, 6, 7], hLp 3 drLp.dec (drSp D.1 D.2.2) drW⟩) |> fun H => match p with
  | none => H
  | some _ => H.addL 27 1 ⟨[14, 13, 8, 1, 3, 6, 7], [13, 6, 7], hLp 6 cpLp.dec (prSp P.1 P.2.2) prW⟩
theorem HCp_ok {gl : Gl} (hgl : Low gl) {P : Pgs} {D : Dat} (h : GlD gl P D) (hn : P.2.2.length ≤ 16) (p d : Sl) : (HCp P D p d).OK Tryz.prog gl := by
  rcases p with _ | p <;> rcases d with _ | d
  · exact HRh_ok hgl
  · exact Hs.addL_ok (HRh_ok hgl) (l_dr hgl h.D)
  · exact Hs.addL_ok (HRh_ok hgl) (l_pr hgl h.F h.P hn)
  · exact Hs.addL_ok (Hs.addL_ok (HRh_ok hgl) (l_dr hgl h.D)) (l_pr hgl h.F h.P hn)
def pr0 (c : Cfg) (x : Nat × Nat × Nat) (m : M4) : PrS := ⟨x.1, x.2.1, x.2.2, c, c, m, 1⟩
def rchNew (P : Pgs) (D : Dat) (x : ChX) : DT Bool := .br (planOk x.1) (.br ((x.2.1.n : Int) != x.1.cores) (pure false) (.br (decide ((x.2.2.n : Int) > dataI x.1)) (pure false) (do
  chk (meGd x.1.blocks)
  let m := mmB x.1.blocks
  m4C m
  let m2 ← (match x.2.2 with
    | none => pure m
    | some d => do
      m4C m
      let s ← drSp D.1 D.2.2 ⟨0, x.2.1, d.1, d.2.1, d.2.2, m, x.1⟩
      m4C s.2.2
      pure s.2.2)
  chk (planOk x.1 && true)
  m4C m2
  chk (planOk x.1 && m2.cs.all (af 8))
  m4C m2
  qsD (x.1.l ++ x.1.l ++ x.1.l)
  match x.2.1 with
  | none => pure true
  | some p => do
    m4C m2
    let r ← prSp P.1 P.2.2 (0, pr0 x.1 p m2)
    m4C r.2.m
    cond r.1 (pure false) (pure true)))) (pure false)
set_option maxRecDepth 100000 in
theorem s_rch {gl : Gl} (hgl : Low gl) {P : Pgs} {D : Dat} (h : GlD gl P D) (hn : P.2.2.length ≤ 16) : SubOK Tryz.prog gl 27 (hA (noL) (decChO) (fun _ => rchNew P D) (chO)) := hA_sub hgl fun k x => ⟨syG [], HCp P D x.2.1 x.2.2, plD, syG_ok _, HCp_ok hgl h hn x.2.1 x.2.2, (by
  obtain ⟨c, p, d⟩ := x
  rcases p with _ | p <;> rcases d with _ | d <;> (show _ = _; kernel_rfl))⟩
end Go.Proofs.YtpckfdopokmbkaaGreatDoor.Ev

namespace Go.Proofs.YtpckfdopokmbkaaGreatDoor.Ev
open Go
open Go.Proofs Go.RowKit

/-! The document's chip made anew, in closed form. -/
theorem drF_inv (off : Nat) (ws : List Int) : ∀ (k : Nat) (s : DrS), m4Ok s.m = true → 0 ≤ s.i → 16 * (s.i + (k : Int)) ≤ (s.m.n : Int) → m4Ok (drF off ws k s).m = true ∧ (drF off ws k s).m.n = s.m.n
  | 0, s, h, _, _ => ⟨h, rfl⟩
  | k + 1, s, h, h1, h2 => by
    have hk : ((k + 1 : Nat) : Int) = (k : Int) + 1 := rfl
    rw [hk] at h2
    have e3 : sbGd s.m s.i = true := andI (andI h (decide_eq_true h1)) (decide_eq_true (by omega))
    have e4 := sbM_ok (x := (s.i, skW (symW off ws) (s.o + s.i.toNat * 16))) e3
    exact drF_inv off ws k { s with i := s.i + 1, m := sbM s.m (s.i, skW (symW off ws) (s.o + s.i.toNat * 16)) } e4 (by show 0 ≤ s.i + 1; omega) (by show 16 * (s.i + 1 + (k : Int)) ≤ (s.m.n : Int); omega)
theorem plan_me {c : Cfg} (hp : planOk c = true) : meGd c.blocks = true ∧ (dataI c : Int) ≤ c.blocks ∧ ((mmB c.blocks).n : Int) = 16 * c.blocks := by
  obtain ⟨⟨c1, _, _, _, _, _, hb1, hb2, l1, _⟩, _⟩ := planOk_iff.1 hp
  obtain ⟨_, _, h3⟩ := data_bd hp
  have hm : 1 * 1 ≤ c.cores * c.logs := Int.mul_le_mul c1 l1 (by omega) (by omega)
  refine ⟨andI (decide_eq_true hb1) (decide_eq_true hb2), by omega, ?_⟩
  show (((16 * c.blocks).toNat : Nat) : Int) = _
  omega
theorem rch_ps {P : Pgs} {c : Cfg} {x : Nat × Nat × Nat} {m : M4} (hp : planOk c = true) (hP : slPs P (some x) = true) (hn : (x.2.1 : Int) = c.cores) (hm : m4Ok m = true) (hb : (m.n : Int) = 16 * c.blocks) :
    (do m4C m; let r ← prSp (cutP P).1 (cutP P).2.2 (0, pr0 c x m); m4C r.2.m; cond r.1 (pure false) (pure true) : DT Bool).run = some (P.2.2.all pgOk) := by
  have hP : (Nat.beq x.1 P.1 && Nat.beq x.2.1 P.2.2.length && Nat.ble P.2.2.length x.2.2 && P.2.2.all Pg.ok) = true := hP
  simp only [Bool.and_eq_true] at hP
  obtain ⟨⟨⟨p1, p2⟩, p3⟩, p4⟩ := hP
  have p1 := Nat.eq_of_beq_eq_true p1
  have p2 := Nat.eq_of_beq_eq_true p2
  have hc := planCores hp
  have hcut : (cutP P).2.2 = P.2.2 := cut_len hp (by omega)
  rw [hcut]
  have hmr := m4C_run hm
  have hg : prG (cutP P).1 P.2.2 (0, pr0 c x m) = true := by
    simp only [prG, pr0, Bool.and_eq_true]
    refine ⟨⟨⟨⟨⟨⟨⟨⟨⟨?_, ?_⟩, ?_⟩, nbl (Nat.zero_le _)⟩, hp⟩, hm⟩, decide_eq_true hb⟩, p4⟩, nbl (by omega)⟩, decide_eq_true (by show (P.2.2.length : Int) ≤ c.cores; omega)⟩
    · rw [p1]; show Nat.beq P.1 P.1 = true; simp
    · rw [p2]; simp
    · exact p3
  have e : (prSp (cutP P).1 P.2.2 (0, pr0 c x m)).run = some (!(P.2.2.all pgOk), pr0 c x m) := by
    unfold prSp
    rw [run_br, hg, cond_true]
    show (do let b ← bl (P.2.2.all pgOk); pure (!b, pr0 c x m) : DT PrB).run = _
    cases P.2.2.all pgOk <;> rfl
  simp only [run_bind, hmr, Option.bind_some, e]
  show ((m4C m).run.bind _) = _
  rw [hmr]
  cases P.2.2.all pgOk <;> rfl
theorem rch_run {P : Pgs} {D : Dat} {x : ChX} {b : Bool} (h : (chC P D x).run = some b) : (rchNew (cutP P) D x).run = some b := by
  obtain ⟨c, p, d⟩ := x
  obtain ⟨hg, hr⟩ := condT (show cond (slPs P p && slWs 16 D d && Nat.ble d.n 1048576) (bl (chB c P.2.2 d.n)).run none = some b from h)
  rw [bl_run] at hr
  cases hr
  simp only [Bool.and_eq_true] at hg
  obtain ⟨⟨hP, hD⟩, hn⟩ := hg
  have hn := Nat.le_of_ble_eq_true hn
  have lenP : p.n = P.2.2.length := by
    cases p with
    | none =>
      have hz : P.2.2 = [] := List.isEmpty_iff.1 hP
      rw [hz]; rfl
    | some x =>
      have hP : (Nat.beq x.1 P.1 && Nat.beq x.2.1 P.2.2.length && Nat.ble P.2.2.length x.2.2 && P.2.2.all Pg.ok) = true := hP
      simp only [Bool.and_eq_true] at hP
      exact Nat.eq_of_beq_eq_true hP.1.1.2
  unfold rchNew chB
  simp only [run_br]
  cases hp : planOk c with
  | false => rfl
  | true =>
    rw [cond_true]
    by_cases h2 : (p.n : Int) = c.cores
    · have e2 : ((p.n : Int) != c.cores) = false := by rw [h2]; exact bneI_self _
      rw [e2, cond_false, ← lenP, decide_eq_true h2]
      by_cases h3 : (d.n : Int) ≤ dataI c
      · rw [decide_eq_false (show ¬ (d.n : Int) > dataI c by omega), cond_false, decide_eq_true h3]
        obtain ⟨q1, q2, q3⟩ := plan_me hp
        have hm0 := mmB_ok q1
        have hmr := m4C_run hm0
        have hdt : ∃ m2, (match d with
            | none => pure (mmB c.blocks)
            | some d => do
              m4C (mmB c.blocks)
              let s ← drSp D.1 D.2.2 ⟨0, p, d.1, d.2.1, d.2.2, mmB c.blocks, c⟩
              m4C s.2.2
              pure s.2.2 : DT M4).run = some m2 ∧ m4Ok m2 = true ∧ (m2.n : Int) = 16 * c.blocks := by
          cases d with
          | none => exact ⟨_, rfl, hm0, q3⟩
          | some y =>
            have hD : (Nat.beq y.1 D.1 && Nat.beq (y.2.1 * 16) D.2.2.length && Nat.ble y.2.1 y.2.2) = true := hD
            simp only [Bool.and_eq_true] at hD
            have h3 : (y.2.1 : Int) ≤ dataI c := h3
            have hgd : drG D.1 D.2.2 ⟨0, p, y.1, y.2.1, y.2.2, mmB c.blocks, c⟩ = true := by
              simp only [drG, Bool.and_eq_true, decide_eq_true_eq]
              exact ⟨⟨⟨⟨⟨⟨⟨hD.1.1, hD.1.2⟩, hD.2⟩, by simp⟩, by simp⟩, hm0⟩, nbl (by omega)⟩, nbl hn⟩
            obtain ⟨f1, f2⟩ := drF_inv D.1 D.2.2 (y.2.1 - (0 : Int).toNat) ⟨0, p, y.1, y.2.1, y.2.2, mmB c.blocks, c⟩ hm0 (by simp) (by show 16 * (0 + ((y.2.1 - (0 : Int).toNat : Nat) : Int)) ≤ ((mmB c.blocks).n : Int); omega)
            have hs : (drSp D.1 D.2.2 ⟨0, p, y.1, y.2.1, y.2.2, mmB c.blocks, c⟩).run = some (p, c, (drF D.1 D.2.2 (y.2.1 - (0 : Int).toNat) ⟨0, p, y.1, y.2.1, y.2.2, mmB c.blocks, c⟩).m) := by
              unfold drSp ifT
              rw [run_br, hgd]; rfl
            refine ⟨_, by simp only [run_bind, hmr, Option.bind_some, hs, m4C_run f1, run_pure], f1, by rw [f2]; exact q3⟩
        obtain ⟨m2, hd1, hd2, hd3⟩ := hdt
        simp only [run_bind, chk_run, q1, cond_true, Option.bind_some, hmr]
        erw [hd1]
        simp only [Option.bind_some]
        have ha : m2.cs.all (af 8) = true := by simp only [m4Ok, Bool.and_eq_true] at hd2; exact hd2.1.2
        have hm2 := m4C_run hd2
        simp only [hm2, ha, Bool.and_self, cond_true, Option.bind_some, qsD_run]
        cases p with
        | none =>
          have hz : P.2.2 = [] := List.isEmpty_iff.1 hP
          rw [hz]; rfl
        | some x =>
          have := rch_ps (x := x) hp hP h2 hd2 hd3
          simp only [run_bind] at this ⊢
          erw [this]
          simp
      · rw [decide_eq_true (show (d.n : Int) > dataI c by omega), decide_eq_false h3]; rfl
    · have e2 : ((p.n : Int) != c.cores) = true := by simpa using h2
      rw [e2, ← lenP, decide_eq_false h2]; rfl
theorem s_rchC {gl : Gl} (hgl : Low gl) {P : Pgs} {D : Dat} (h : GlD gl P D) : SubOK Tryz.prog gl 27 (hA noL decChO (fun _ => chC P D) chO) := hA_weak (s_rch hgl h.cut (by show (P.2.2.take 16).length ≤ 16; simp; omega)) fun _ _ _ h => rch_run h
end Go.Proofs.YtpckfdopokmbkaaGreatDoor.Ev

namespace Go.Proofs.YtpckfdopokmbkaaGreatDoor.Ev
open Go
open Go.Proofs Go.RowKit

/-! The document's decks: whether they may be. -/
abbrev MrS := Int × (Nat × Nat × Nat) × Cfg × Sl × Sl
def MrS.k (x : MrS) : DkS := ⟨x.2.2.1, x.2.2.2.1, x.2.2.2.2, some x.2.1⟩
def mrT : LpT MrS := ⟨fun vs rows => match vs, rows with
  | [.int .i64 i, .pointer (some p), .bool false], [some (.row b)] => cond (isP p 1000) ((rowP 28 pDk b).bind fun k => k.q.map fun q => (i, q, k.c, k.p, k.d)) none
  | _, _ => none, fun x => ([.int .i64 x.1, pK 1000, .bool false], [some (dkRow x.k)]), fun vs rows s h => by
  split at h
  case h_2 => cases h
  rename_i i p b
  obtain ⟨h1, h⟩ := condT h
  obtain ⟨k, h2, h⟩ := Option.bind_eq_some_iff.1 h
  obtain ⟨q, h3, h⟩ := Option.map_eq_some_iff.1 h
  subst h
  rw [isP_t h1, rowP_ok h2]
  obtain ⟨c, p, d, q'⟩ := k
  have h3 : q' = some q := h3
  subst h3
  rfl⟩
def mrStep (off : Nat) (l : List Pk) (x : MrS) : DT (MrS ⊕ MyB) := .br (decide (x.1 < (x.2.1.2.1 : Int))) (do
    chk (decide (0 ≤ x.1) && decide (x.1 < (x.2.1.2.1 : Int)) && x.2.1.2.1.ble x.2.1.2.2)
    chk ((symP off l).okI .u8 (x.2.1.1 + x.1.toNat * 2 + 0) && ((symP off l).okI .i64 (x.2.1.1 + x.1.toNat * 2 + 1) && true))
    pkD (pkAt (symP off l) (x.2.1.1 + x.1.toNat * 2)) (pure (.inr (true, x.k))) (pure (.inl (IntKind.i64.wrap (x.1 + 1), x.2)))) (pure (.inr (false, x.k)))
def mrG (off : Nat) (l : List Pk) (x : MrS) : Bool := Nat.beq x.2.1.1 off && Nat.beq x.2.1.2.1 l.length && Nat.ble l.length x.2.1.2.2 && decide (0 ≤ x.1) && decide (x.1 ≤ (l.length : Int)) && Nat.ble l.length 1048576
def mrSp (off : Nat) (l : List Pk) (x : MrS) : DT MyB := .br (mrG off l x) (do let b ← bl ((l.drop x.1.toNat).all pkOk); pure (!b, x.k)) .fail
theorem mrSp_ok (off : Nat) (l : List Pk) (x : MrS) (b : MyB) (h : (mrSp off l x).run = some b) : ∃ m, itN (mrStep off l) m x = some b := by
  obtain ⟨h1, h2⟩ := condT (show cond (mrG off l x) _ none = some b from h)
  have hb : b = (!((l.drop x.1.toNat).all pkOk), x.k) := by
    revert h2
    generalize (l.drop x.1.toNat).all pkOk = c
    intro h2
    cases c <;> (cases h2; rfl)
  subst hb
  refine it_of (fun x : MrS => mrG off l x = true) (fun x => l.length - x.1.toNat) (fun x : MrS => (!((l.drop x.1.toNat).all pkOk), x.k)) ?_ _ x h1 (Nat.lt_succ_self _)
  rintro ⟨i, ⟨o, n, cap⟩, k⟩ hg
  simp only [mrG, Bool.and_eq_true, decide_eq_true_eq] at hg
  obtain ⟨⟨⟨⟨⟨g1, g2⟩, g3⟩, g5⟩, g6⟩, g7⟩ := hg
  have g1 := Nat.eq_of_beq_eq_true g1
  have g2 := Nat.eq_of_beq_eq_true g2
  have g7' := Nat.le_of_ble_eq_true g7
  subst g1; subst g2
  by_cases hi : i < (l.length : Int)
  · obtain ⟨j, rfl⟩ : ∃ j : Nat, i = (j : Int) := ⟨i.toNat, by omega⟩
    have hj : j < l.length := by omega
    obtain ⟨s1, s2⟩ := symP_at (off := o) hj
    have e1 : (decide (0 ≤ (j : Int)) && true && l.length.ble cap) = true := by rw [decide_eq_true g5, g3]; rfl
    have er : (mrStep o l ((j : Int), (o, l.length, cap), k)).run = some (cond (pkOk l[j]) (.inl (IntKind.i64.wrap ((j : Int) + 1), (o, l.length, cap), k)) (.inr (true, MrS.k ((j : Int), (o, l.length, cap), k)))) := by
      unfold mrStep
      simp only [Int.toNat_natCast]
      rw [run_br, decide_eq_true hi, cond_true]
      simp only [run_bind, chk_run, e1, s1, cond_true, Option.bind_some, pkD_run, s2, run_pure]
      cases pkOk l[j] <;> rfl
    rw [er]
    dsimp only
    rw [Int.toNat_natCast, List.drop_eq_getElem_cons hj]
    have e5 : IntKind.i64.wrap ((j : Int) + 1) = ((j + 1 : Nat) : Int) := by rw [wrap_id _ (by omega)]; omega
    rw [e5]
    cases hk : pkOk l[j] with
    | true =>
      refine ⟨?_, ?_, ?_⟩
      · simp only [mrG, Bool.and_eq_true, decide_eq_true_eq]
        exact ⟨⟨⟨⟨⟨by simp, by simp⟩, g3⟩, by omega⟩, by omega⟩, g7⟩
      · show l.length - ((j + 1 : Nat) : Int).toNat < l.length - j
        omega
      · show (!((l.drop ((j + 1 : Nat) : Int).toNat).all pkOk), _) = (!(pkOk l[j] && (l.drop (j + 1)).all pkOk), _)
        rw [hk, Int.toNat_natCast]; rfl
    | false =>
      show (true, _) = (!(pkOk l[j] && (l.drop (j + 1)).all pkOk), _)
      rw [hk]; rfl
  · have er : (mrStep o l (i, (o, l.length, cap), k)).run = some (.inr (false, MrS.k (i, (o, l.length, cap), k))) := by
      unfold mrStep
      rw [run_br, decide_eq_false hi, cond_false]; rfl
    rw [er]
    show (false, _) = (!((l.drop i.toNat).all pkOk), _)
    rw [List.drop_eq_nil_of_le (by omega)]; rfl
def mrW (b : MyB) : Out := (cond b.1 .ret (.exit 0), [pK 1000, .bool false], [some (dkRow b.2)])
set_option maxRecDepth 100000 in
theorem l_mr {gl : Gl} (hgl : Low gl) {l : List Pk} {off : Nat} (hQ : GlPk gl 902 off l) : LpOK Tryz.prog gl 15 0 ⟨[3, 1, 2], [1, 2], hLp 1 (mrT).dec (mrSp off l) (mrW)⟩ := loop_sp (st := mrStep off l) goodT hgl tglob (mrT).ok (by decide) (mrSp_ok off l) fun s => ⟨syP 902 off l, H0, 100, 40, 40, [], fun _ => [], syP_ok (by decide) hQ, H0_ok, (by
  obtain ⟨i, a, c, p, d⟩ := s
  rcases p with _ | p <;> rcases d with _ | d <;> (show _ = _; kernel_rfl))⟩
def HMr0 (P : Pgs) (D : Dat) : Hs := hsOf [] [(27, hA noL decChO (fun _ => chC P D) chO)] []
def HMrD (P : Pgs) (D : Dat) (Q : Pks) : Sl → Hs
  | none => HMr0 P D
  | some _ => (HMr0 P D).addL 15 0 ⟨[3, 1, 2], [1, 2], hLp 1 mrT.dec (mrSp Q.1 Q.2) mrW⟩
theorem HMrD_ok {gl : Gl} (hgl : Low gl) {P : Pgs} {D : Dat} {Q : Pks} (h : GlK gl P D Q) (q : Sl) : (HMrD P D Q q).OK Tryz.prog gl := by
  have h0 : (HMr0 P D).OK Tryz.prog gl := hsOf_ok fx0 (sxC (s_rchC hgl h.PD) sx0) lx0
  cases q with
  | none => exact h0
  | some _ => exact Hs.addL_ok h0 (l_mr hgl h.Q)
def rdMay (P : Pgs) (D : Dat) (Q : Pks) (k : DkS) : DT Bool := .br (decide ((k.q.n : Int) > 65536)) (pure false) (.br (decide ((k.d.n : Int) > 255)) (pure false) (do
  let r ← (match k.q with
    | none => pure (false, k)
    | some q => mrSp Q.1 Q.2 (0, q, k.c, k.p, k.d))
  cond r.1 (pure false) (chC P D (r.2.c, r.2.p, r.2.d))))
set_option maxRecDepth 100000 in
theorem s_rdm0 {gl : Gl} (hgl : Low gl) {P : Pgs} {D : Dat} {Q : Pks} (h : GlK gl P D Q) : SubOK Tryz.prog gl 15 (hA (noL) (decDk) (fun _ => rdMay P D Q) (fun b => (.normal, [.bool b], []))) := hA_sub hgl fun k x => ⟨syG [], HMrD P D Q x.q, noV, syG_ok _, HMrD_ok hgl h x.q, (by
  obtain ⟨c, p, d, q⟩ := x
  rcases p with _ | p <;> rcases d with _ | d <;> rcases q with _ | q <;> (show _ = _; kernel_rfl))⟩
theorem rmayC_run {P : Pgs} {D : Dat} {Q : Pks} {k : DkS} {b : Bool} (h : (mayC P D Q k).run = some b) : (rdMay P D Q k).run = some b := by
  obtain ⟨h1, h2⟩ := condT (show cond (dkG P D Q k) _ none = some b from h)
  rw [bl_run] at h2
  cases h2
  simp only [dkG, Bool.and_eq_true] at h1
  obtain ⟨⟨hP, hD⟩, hQ⟩ := h1
  have hq := slQ_len hQ
  unfold rdMay dkB
  simp only [run_br]
  rw [hq]
  by_cases h3 : Q.2.length ≤ 65536
  case neg => rw [decide_eq_true (show (Q.2.length : Int) > 65536 by omega), decide_eq_false h3]; rfl
  rw [decide_eq_false (show ¬ (Q.2.length : Int) > 65536 by omega), decide_eq_true h3, cond_false, Bool.true_and]
  by_cases h4 : k.d.n ≤ 255
  case neg => rw [decide_eq_true (show (k.d.n : Int) > 255 by omega), decide_eq_false h4]; rfl
  rw [decide_eq_false (show ¬ (k.d.n : Int) > 255 by omega), decide_eq_true h4, cond_false, Bool.true_and]
  have e1 : ((match k.q with
      | none => pure (false, k)
      | some q => mrSp Q.1 Q.2 (0, q, k.c, k.p, k.d)) : DT MyB).run = some (!(Q.2.all pkOk), k) := by
    obtain ⟨kc, kp, kd, kq⟩ := k
    cases kq with
    | none =>
      rw [List.isEmpty_iff.1 hQ]; rfl
    | some x =>
      have hQ : (Nat.beq x.1 Q.1 && Nat.beq x.2.1 Q.2.length && Nat.ble Q.2.length x.2.2) = true := hQ
      simp only [Bool.and_eq_true] at hQ
      have hg : mrG Q.1 Q.2 (0, x, kc, kp, kd) = true := by
        simp only [mrG, Bool.and_eq_true, decide_eq_true_eq]
        exact ⟨⟨⟨⟨⟨hQ.1.1, hQ.1.2⟩, hQ.2⟩, by simp⟩, by simp⟩, nbl (by omega)⟩
      show (mrSp Q.1 Q.2 (0, x, kc, kp, kd)).run = _
      unfold mrSp
      rw [run_br, hg, cond_true]
      show (do let b ← bl (Q.2.all pkOk); pure (!b, _) : DT MyB).run = _
      cases Q.2.all pkOk <;> rfl
  rw [run_bind, e1, Option.bind_some]
  cases Q.2.all pkOk with
  | false => rfl
  | true =>
    show (chC P D (k.c, k.p, k.d)).run = _
    unfold chC
    rw [run_br, hP, hD, nbl (show k.d.n ≤ 1048576 by omega)]
    exact bl_run _
theorem s_rdm {gl : Gl} (hgl : Low gl) {P : Pgs} {D : Dat} {Q : Pks} (h : GlK gl P D Q) : SubOK Tryz.prog gl 15 (hA noL decDk (fun _ => mayC P D Q) fun b => (.normal, [.bool b], [])) := hA_weak (s_rdm0 hgl h) fun _ _ _ e => rmayC_run e
end Go.Proofs.YtpckfdopokmbkaaGreatDoor.Ev

namespace Go.Proofs.YtpckfdopokmbkaaGreatDoor.Ev
open Go
open Go.Proofs Go.RowKit

/-! The document's sums, bytes. -/
theorem w8E (a : Int) : IntKind.u8.wrap a = a % 256 := by simp [IntKind.wrap, IntKind.bits, IntKind.signed]
theorem w32E (a : Int) : IntKind.u32.wrap a = a % 4294967296 := by simp [IntKind.wrap, IntKind.bits, IntKind.signed]
theorem w64uE (a : Int) : IntKind.u64.wrap a = a % 18446744073709551616 := by simp [IntKind.wrap, IntKind.bits, IntKind.signed]
theorem bytesL_app : ∀ {a b : List Value} {x y : List UInt8}, bytesL a = some x → bytesL b = some y → bytesL (a ++ b) = some (x ++ y)
  | [], b, x, y, h1, h2 => by cases h1; exact h2
  | v :: a, b, x, y, h1, h2 => by
    obtain ⟨u, e1, h3⟩ := Option.bind_eq_some_iff.1 (show (byteOfV v).bind (fun b => (bytesL a).map fun m => b :: m) = some x from h1)
    obtain ⟨m, e2, rfl⟩ := Option.map_eq_some_iff.1 h3
    show (byteOfV v).bind (fun c => (bytesL (a ++ b)).map fun m => c :: m) = _
    rw [e1, bytesL_app e2 h2]; rfl
theorem strOf_app {a b : List Value} (ha : isU8 a = true) (hb : isU8 b = true) : strOf (a ++ b) = strOf a ++ strOf b := by
  obtain ⟨x, h1, _⟩ := bytesL_some ha
  obtain ⟨y, h2, _⟩ := bytesL_some hb
  unfold strOf
  rw [h1, h2, bytesL_app h1 h2]
  apply ByteArray.ext
  simp
theorem strOf_nil (s : ByteArray) : ByteArray.mk #[] ++ s = s := by
  apply ByteArray.ext
  simp
/-- A number's digits, as the document takes them. -/
def dgs (W : Int → Int) : Nat → Int → List Value
  | 0, _ => []
  | n + 1, x => .int .u8 (IntKind.u8.wrap (x.tmod 256)) :: dgs W n (W (x.tdiv 256))
def numG (x : Int) : Bool := decide (0 ≤ x) && decide (x < 4611686018427387904)
theorem dgs_eq {W : Int → Int} (hW : ∀ y : Int, 0 ≤ y → y < 4611686018427387904 → W y = y) {x : Int} (h : numG x = true) : dgs W 2 x = by2 x ∧ dgs W 4 x = by4 x := by
  simp only [numG, Bool.and_eq_true, decide_eq_true_eq] at h
  have t : ∀ y : Int, 0 ≤ y → y < 4611686018427387904 → W (y.tdiv 256) = y / 256 := fun y h0 h1 => by
    rw [Int.tdiv_eq_ediv_of_nonneg h0]
    exact hW _ (by omega) (by omega)
  have m : ∀ y : Int, 0 ≤ y → IntKind.u8.wrap (y.tmod 256) = y % 256 := fun y h0 => by
    rw [Int.tmod_eq_emod_of_nonneg h0, w8E]; omega
  have f : ∀ k : Int, 0 ≤ k → IntKind.u8.wrap (x.fdiv k) = x / k % 256 := fun k hk => by
    rw [Int.fdiv_eq_ediv_of_nonneg _ hk, w8E]
  have e1 := t x h.1 h.2
  have e2 := t (x / 256) (by omega) (by omega)
  have e3 := t (x / 256 / 256) (by omega) (by omega)
  have m0 := m x h.1
  have m1 := m (x / 256) (by omega)
  have m2 := m (x / 256 / 256) (by omega)
  have m3 := m (x / 256 / 256 / 256) (by omega)
  have q1 : x / 1 % 256 = x % 256 := by omega
  have q2 : x / 65536 = x / 256 / 256 := by omega
  have q3 : x / 16777216 = x / 256 / 256 / 256 := by omega
  refine ⟨?_, ?_⟩
  · show [Value.int .u8 (IntKind.u8.wrap (x.tmod 256)), Value.int .u8 (IntKind.u8.wrap ((W (x.tdiv 256)).tmod 256))] = [Value.int .u8 (IntKind.u8.wrap (x.fdiv 1)), Value.int .u8 (IntKind.u8.wrap (x.fdiv 256))]
    rw [e1, m0, m1, f 1 (by decide), f 256 (by decide), q1]
  · show [Value.int .u8 (IntKind.u8.wrap (x.tmod 256)), Value.int .u8 (IntKind.u8.wrap ((W (x.tdiv 256)).tmod 256)), Value.int .u8 (IntKind.u8.wrap ((W ((W (x.tdiv 256)).tdiv 256)).tmod 256)), Value.int .u8 (IntKind.u8.wrap ((W ((W ((W (x.tdiv 256)).tdiv 256)).tdiv 256)).tmod 256))] = [Value.int .u8 (IntKind.u8.wrap (x.fdiv 1)), Value.int .u8 (IntKind.u8.wrap (x.fdiv 256)), Value.int .u8 (IntKind.u8.wrap (x.fdiv 65536)), Value.int .u8 (IntKind.u8.wrap (x.fdiv 16777216))]
    rw [e1, e2, e3, m0, m1, m2, m3, f 1 (by decide), f 256 (by decide), f 65536 (by decide), f 16777216 (by decide), q1, q2, q3]
theorem w64u_id (y : Int) (h0 : 0 ≤ y) (h1 : y < 4611686018427387904) : IntKind.u64.wrap y = y := by rw [w64uE]; omega
theorem wi64_id (y : Int) (h0 : 0 ≤ y) (h1 : y < 4611686018427387904) : IntKind.i64.wrap y = y := wrap_id _ (by omega)
def decN (k : IntKind) (n : Int) : Dec Int := ⟨fun vs => match vs with
  | [.int j x, .int .i64 m] => cond (decide (j = k) && decide (m = n)) (some x) none
  | _ => none, fun x => [.int k x, .int .i64 n], fun vs x h => by
  split at h
  · obtain ⟨h1, h2⟩ := condT h
    cases h2
    simp only [Bool.and_eq_true, decide_eq_true_eq] at h1
    rw [h1.1, h1.2]
  · cases h⟩
def catS (l : List Value) : ByteArray := l.foldl (fun s v => s ++ strOf [v]) ⟨#[]⟩
theorem catS_eq {a b c d : Value} (ha : isB8 a = true) (hb : isB8 b = true) (hc : isB8 c = true) (hd : isB8 d = true) : catS [a, b] = strOf [a, b] ∧ catS [a, b, c, d] = strOf [a, b, c, d] := by
  have o : ∀ v, isB8 v = true → isU8 [v] = true := fun v h => by show (isB8 v && true) = true; rw [h]; rfl
  have e2 : strOf [a, b] = strOf [a] ++ strOf [b] := strOf_app (o a ha) (o b hb)
  have u2 : isU8 [a, b] = true := isU8_app (o a ha) (o b hb)
  have e3 : strOf [a, b, c] = strOf [a, b] ++ strOf [c] := strOf_app u2 (o c hc)
  have u3 : isU8 [a, b, c] = true := isU8_app u2 (o c hc)
  have e4 : strOf [a, b, c, d] = strOf [a, b, c] ++ strOf [d] := strOf_app u3 (o d hd)
  refine ⟨?_, ?_⟩
  · show ((ByteArray.mk #[] ++ strOf [a]) ++ strOf [b]) = _
    rw [strOf_nil, e2]
  · show ((((ByteArray.mk #[] ++ strOf [a]) ++ strOf [b]) ++ strOf [c]) ++ strOf [d]) = _
    rw [strOf_nil, e4, e3, e2]
def stO (s : ByteArray) : Out := (.normal, [.string s], [])
set_option maxRecDepth 100000 in
theorem s_rb2s {gl : Gl} (hgl : Low gl)  : SubOK Tryz.prog gl 28 (hA (noL) (decN .u64 2) (fun _ x => pure (catS (dgs IntKind.u64.wrap 2 x))) (stO)) := hA_sub hgl fun k x => ⟨syG [], H0, noV, syG_ok _, H0_ok, by kernel_rfl⟩
set_option maxRecDepth 100000 in
theorem s_rb4s {gl : Gl} (hgl : Low gl)  : SubOK Tryz.prog gl 28 (hA (noL) (decN .u64 4) (fun _ x => pure (catS (dgs IntKind.u64.wrap 4 x))) (stO)) := hA_sub hgl fun k x => ⟨syG [], H0, noV, syG_ok _, H0_ok, by kernel_rfl⟩
def byO (l : List Value) : Out := (.normal, [.slice (some ⟨1000, 0, none⟩) l.length l.length], [some (byRow l)])
set_option maxRecDepth 100000 in
theorem s_rb2 {gl : Gl} (hgl : Low gl)  : SubOK Tryz.prog gl 16 (hA (noL) (decN .i64 2) (fun _ x => pure (dgs IntKind.i64.wrap 2 x)) (byO)) := hA_sub hgl fun k x => ⟨syG [], H0, noV, syG_ok _, H0_ok, by kernel_rfl⟩
set_option maxRecDepth 100000 in
theorem s_rb4 {gl : Gl} (hgl : Low gl)  : SubOK Tryz.prog gl 16 (hA (noL) (decN .i64 4) (fun _ x => pure (dgs IntKind.i64.wrap 4 x)) (byO)) := hA_sub hgl fun k x => ⟨syG [], H0, noV, syG_ok _, H0_ok, by kernel_rfl⟩
theorem s_sB2 {gl : Gl} (hgl : Low gl) : SubOK Tryz.prog gl 28 (hA noL (decN .u64 2) (fun _ x => ifT (numG x) (strOf (by2 x))) stO) := hA_weak (s_rb2s hgl) fun _ x b h => by
  obtain ⟨h1, rfl⟩ := ifT_run h
  rw [(dgs_eq w64u_id h1).1, run_pure]
  exact congrArg some (catS_eq (c := .int .u8 0) (d := .int .u8 0) rfl rfl rfl rfl).1
theorem s_sB4 {gl : Gl} (hgl : Low gl) : SubOK Tryz.prog gl 28 (hA noL (decN .u64 4) (fun _ x => ifT (numG x) (strOf (by4 x))) stO) := hA_weak (s_rb4s hgl) fun _ x b h => by
  obtain ⟨h1, rfl⟩ := ifT_run h
  rw [(dgs_eq w64u_id h1).2, run_pure]
  exact congrArg some (catS_eq rfl rfl rfl rfl).2
theorem s_bB2 {gl : Gl} (hgl : Low gl) : SubOK Tryz.prog gl 16 (hA noL (decN .i64 2) (fun _ x => ifT (numG x) (by2 x)) byO) := hA_weak (s_rb2 hgl) fun _ x b h => by
  obtain ⟨h1, rfl⟩ := ifT_run h
  rw [(dgs_eq wi64_id h1).1, run_pure]
theorem s_bB4 {gl : Gl} (hgl : Low gl) : SubOK Tryz.prog gl 16 (hA noL (decN .i64 4) (fun _ x => ifT (numG x) (by4 x)) byO) := hA_weak (s_rb4 hgl) fun _ x b h => by
  obtain ⟨h1, rfl⟩ := ifT_run h
  rw [(dgs_eq wi64_id h1).2, run_pure]
/-! Sums. -/
abbrev RsS := Int × Int × ByteArray
def rsT : LpT RsS := ⟨fun vs rows => match vs, rows with
  | [.int .i64 i, .string s, .int .u64 n], [] => some (i, n, s)
  | _, _ => none, fun x => ([.int .i64 x.1, .string x.2.2, .int .u64 x.2.1], []), fun vs rows s h => by
  split at h
  · cases h; rfl
  · cases h⟩
def rsN (n b : Int) : Int := (IntKind.u64.wrap (IntKind.u64.wrap (31 * n) + IntKind.u64.wrap b)).tmod 4294967296
def rsStep (x : RsS) : DT (RsS ⊕ Int) := .br (decide (x.1 < (x.2.2.size : Int))) (.br (decide (0 ≤ x.1) && decide (x.1 < (x.2.2.size : Int))) (.ret (.inl (IntKind.i64.wrap (x.1 + 1), rsN x.2.1 (byteAt x.2.2 x.1), x.2.2))) .fail) (.ret (.inr x.2.1))
def rsG (x : RsS) : Bool := decide (0 ≤ x.1) && decide (x.1 ≤ (x.2.2.size : Int)) && decide ((x.2.2.size : Int) ≤ 1152921504606846975) && wordG x.2.1
def rsSp (x : RsS) : DT Int := ifT (rsG x) (bsF gSum x.2.2 ((x.2.2.size : Int) - x.1).toNat x.1.toNat x.2.1)
theorem byteAt_bd (s : ByteArray) (i : Int) : 0 ≤ byteAt s i ∧ byteAt s i < 256 := by
  unfold byteAt byteI
  cases nthB s.data.toList i.toNat with
  | none => exact ⟨Int.le_refl _, by decide⟩
  | some b =>
    have := b.toNat_lt
    show 0 ≤ (b.toNat : Int) ∧ (b.toNat : Int) < 256
    omega
theorem rsN_eq {n b : Int} (h : wordG n = true) (hb : 0 ≤ b ∧ b < 256) (i : Int) : rsN n b = gSum i n b ∧ wordG (rsN n b) = true := by
  simp only [wordG, Bool.and_eq_true, decide_eq_true_eq] at h ⊢
  have e : rsN n b = (31 * n + b) % 4294967296 := by
    unfold rsN
    rw [w64uE, w64uE, w64uE]
    have : (31 * n % 18446744073709551616 + b % 18446744073709551616) % 18446744073709551616 = 31 * n + b := by omega
    rw [this, Int.tmod_eq_emod_of_nonneg (by omega)]
  rw [e]
  refine ⟨?_, by omega⟩
  unfold gSum
  rw [w32E, w32E, w32E]; omega
theorem rsSp_ok (x : RsS) (b : Int) (h : (rsSp x).run = some b) : ∃ m, itN rsStep m x = some b := by
  obtain ⟨h1, rfl⟩ := ifT_run h
  refine it_of (fun x : RsS => rsG x = true) (fun x => ((x.2.2.size : Int) - x.1).toNat) (fun x : RsS => bsF gSum x.2.2 ((x.2.2.size : Int) - x.1).toNat x.1.toNat x.2.1) ?_ _ x h1 (Nat.lt_succ_self _)
  rintro ⟨i, n, s⟩ hg
  simp only [rsG, Bool.and_eq_true, decide_eq_true_eq] at hg
  obtain ⟨⟨⟨g1, g2⟩, g3⟩, g4⟩ := hg
  by_cases hi : i < (s.size : Int)
  · have e0 : (rsStep (i, n, s)).run = some (.inl (IntKind.i64.wrap (i + 1), rsN n (byteAt s i), s)) := by
      unfold rsStep
      simp only
      rw [decide_eq_true hi, decide_eq_true g1]; rfl
    rw [e0]
    show _ ∧ _ ∧ _
    have e : IntKind.i64.wrap (i + 1) = i + 1 := wrap_id _ (by omega)
    obtain ⟨r1, r2⟩ := rsN_eq g4 (byteAt_bd s i) i
    refine ⟨?_, ?_, ?_⟩
    · simp only [rsG, e, Bool.and_eq_true, decide_eq_true_eq]; exact ⟨⟨⟨by omega, by omega⟩, g3⟩, r2⟩
    · simp only [e]; omega
    · simp only [e]
      rw [show ((s.size : Int) - i).toNat = ((s.size : Int) - (i + 1)).toNat + 1 by omega]
      show _ = bsF gSum s _ (i.toNat + 1) (gSum (i.toNat : Int) n (byteAt s (i.toNat : Int)))
      rw [show ((i.toNat : Nat) : Int) = i by omega, show (i + 1).toNat = i.toNat + 1 by omega, r1]
  · have e0 : (rsStep (i, n, s)).run = some (.inr n) := by
      unfold rsStep
      simp only
      rw [decide_eq_false hi]; rfl
    rw [e0]
    show n = _
    rw [show ((s.size : Int) - i).toNat = 0 by omega]; rfl
set_option maxRecDepth 100000 in
theorem l_rsum {gl : Gl} (hgl : Low gl)  : LpOK Tryz.prog gl 30 0 ⟨[4, 0, 3], [3], hLp 0 (rsT).dec (rsSp) (fun b => (.exit 0, [.int .u64 b], []))⟩ := loop_sp (st := rsStep) goodT hgl tglob (rsT).ok (by decide) (rsSp_ok) fun s => ⟨syG [], H0, 100, 40, 40, [], fun _ => [], syG_ok _, H0_ok, by kernel_rfl⟩
def HRsum : Hs := hsOf [] [] [(30, [(0, ⟨[4, 0, 3], [3], hLp 0 rsT.dec rsSp fun b => (.exit 0, [.int .u64 b], [])⟩)])]
theorem HRsum_ok {gl : Gl} (hgl : Low gl) : HRsum.OK Tryz.prog gl := hsOf_ok fx0 sx0 (lxC (l_rsum hgl) lx0)
set_option maxRecDepth 100000 in
theorem s_rsum0 {gl : Gl} (hgl : Low gl)  : SubOK Tryz.prog gl 30 (hA (noL) (decS) (fun _ s => (rsSp (0, 1, s)).map IntKind.u32.wrap) (fun b => (.normal, [.int .u32 b], []))) := hA_sub hgl fun k x => ⟨syG [], HRsum, noV, syG_ok _, HRsum_ok hgl, by kernel_rfl⟩
theorem bsF_word : ∀ (s : ByteArray) (k i : Nat) (n : Int), wordG n = true → wordG (bsF gSum s k i n) = true
  | _, 0, _, _, h => h
  | s, k + 1, i, n, h => by
    obtain ⟨r1, r2⟩ := rsN_eq h (byteAt_bd s (i : Int)) (i : Int)
    exact bsF_word s k (i + 1) _ (by rw [← r1]; exact r2)
theorem s_rsum {gl : Gl} (hgl : Low gl) : SubOK Tryz.prog gl 30 (hA noL decS (fun _ s => bsSp gSum (0, 1, s, (s.size : Int))) fun b => (.normal, [.int .u32 b], [])) := hA_weak (s_rsum0 hgl) fun _ s b h => by
  obtain ⟨h1, rfl⟩ := ifT_run h
  simp only [bsG, Bool.and_eq_true, decide_eq_true_eq] at h1
  have hg : rsG (0, 1, s) = true := by
    simp only [rsG, Bool.and_eq_true, decide_eq_true_eq]
    exact ⟨⟨⟨by omega, by omega⟩, h1.2⟩, rfl⟩
  have hw := bsF_word s ((s.size : Int) - 0).toNat 0 1 rfl
  have hr : (rsSp (0, 1, s)).run = some (bsF gSum s ((s.size : Int) - 0).toNat 0 1) := by
    unfold rsSp ifT
    rw [run_br, hg]; rfl
  rw [DT.run_map, hr]
  show some (IntKind.u32.wrap _) = some _
  simp only [wordG, Bool.and_eq_true, decide_eq_true_eq] at hw
  rw [wrap_u32 hw.1 hw.2]
  rfl
end Go.Proofs.YtpckfdopokmbkaaGreatDoor.Ev

namespace Go.Proofs.YtpckfdopokmbkaaGreatDoor.Ev
open Go
open Go.Proofs Go.RowKit

/-! The document's images. -/
def ccatD (a b : ByteArray) : DT ByteArray := do chk ((a.size + b.size).ble 9223372036854775807); pure (a ++ b)
/-- Where the loop over words stands. -/
structure RpS where
  i : Int
  o : Nat
  n : Nat
  cap : Nat
  s : ByteArray
def rpT (b : Nat) : LpT RpS := ⟨fun vs rows => match vs, rows with
  | [.int .i64 i, .slice (some a) n cap, .string s, .string ⟨⟨[]⟩⟩, .int .i64 e], [] => cond (isSl a b && decide (e = 0)) (some ⟨i, a.off, n, cap, s⟩) none
  | _, _ => none, fun x => ([.int .i64 x.i, wSl' b x.o x.n x.cap, .string x.s, .string ⟨#[]⟩, .int .i64 0], []), fun vs rows s h => by
  split at h
  case h_2 => cases h
  obtain ⟨h1, h0⟩ := condT h
  simp only [Bool.and_eq_true, decide_eq_true_eq] at h1
  cases h0
  rw [h1.2]
  conv => lhs; rw [isSl_t h1.1]⟩
abbrev RpB := Bool × ByteArray
def rpStep (off' : Nat) (zs : List Int) (x : RpS) : DT (RpS ⊕ RpB) := .br (decide (x.i < (x.n : Int))) (do
    chk (decide (0 ≤ x.i) && decide (x.i < (x.n : Int)) && x.n.ble x.cap)
    chk ((symW off' zs).okI .u32 (x.o + x.i.toNat * 1))
    let w := (symW off' zs).int .u32 (x.o + x.i.toNat * 1)
    chk (wordG w)
    .br (tkE w != 0) (pure (.inr (true, x.s))) (do
      chk (decide (0 ≤ x.i) && decide (x.i < (x.n : Int)) && x.n.ble x.cap)
      chk ((symW off' zs).okI .u32 (x.o + x.i.toNat * 1))
      chk (numG (IntKind.u64.wrap w))
      let s ← ccatD x.s (strOf (by4 (IntKind.u64.wrap w)))
      pure (.inl { x with i := IntKind.i64.wrap (x.i + 1), s := s }))) (pure (.inr (false, x.s)))
def rpF (s : ByteArray) : List Int → RpB
  | [] => (false, s)
  | x :: l => cond (tkE x != 0) (true, s) (rpF (s ++ strOf (by4 x)) l)
def rpG (off' : Nat) (zs : List Int) (x : RpS) : Bool := Nat.beq x.o off' && Nat.beq x.n zs.length && Nat.ble zs.length x.cap && zs.all wordG && decide (0 ≤ x.i) && decide (x.i ≤ (zs.length : Int)) && Nat.ble zs.length 1048576 && Nat.ble (x.s.size + 4 * (zs.length - x.i.toNat)) 1000000000000
def spl1 {C : Type} (r : Bool × C) : DT (Bool × C) := do let e ← bl r.1; pure (e, r.2)
theorem spl1_run {C : Type} (r : Bool × C) : (spl1 r).run = some r := by
  obtain ⟨a, c⟩ := r
  cases a <;> rfl
def rpSp (off' : Nat) (zs : List Int) (x : RpS) : DT RpB := .br (rpG off' zs x) (spl1 (rpF x.s (zs.drop x.i.toNat))) .fail
theorem numG_word {w : Int} (h : wordG w = true) : IntKind.u64.wrap w = w ∧ numG w = true := by
  simp only [wordG, numG, Bool.and_eq_true, decide_eq_true_eq] at h ⊢
  rw [w64uE]
  omega
theorem rpSp_ok (off' : Nat) (zs : List Int) (x : RpS) (b : RpB) (h : (rpSp off' zs x).run = some b) : ∃ m, itN (rpStep off' zs) m x = some b := by
  obtain ⟨h1, h2⟩ := condT (show cond (rpG off' zs x) (spl1 _).run none = some b from h)
  rw [spl1_run] at h2
  cases h2
  refine it_of (fun x : RpS => rpG off' zs x = true) (fun x => zs.length - x.i.toNat) (fun x : RpS => rpF x.s (zs.drop x.i.toNat)) ?_ _ x h1 (Nat.lt_succ_self _)
  rintro ⟨i, off, n, cap, s⟩ hg
  simp only [rpG, Bool.and_eq_true, decide_eq_true_eq] at hg
  obtain ⟨⟨⟨⟨⟨⟨⟨g1, g2⟩, g3⟩, g4⟩, g5⟩, g6⟩, g8⟩, g9⟩ := hg
  have g9' := Nat.le_of_ble_eq_true g9
  have g1 := Nat.eq_of_beq_eq_true g1
  have g2 := Nat.eq_of_beq_eq_true g2
  have g8' := Nat.le_of_ble_eq_true g8
  subst g1; subst g2
  by_cases hi : i < (zs.length : Int)
  · obtain ⟨j, rfl⟩ : ∃ j : Nat, i = (j : Int) := ⟨i.toNat, by omega⟩
    have hj : j < zs.length := by omega
    have e1 : (symW off zs).okI .u32 (off + (j : Int).toNat * 1) = true := symW_t hj
    have e2 : (symW off zs).int .u32 (off + (j : Int).toNat * 1) = zs[j] := wX_eq hj
    have e3 : wordG zs[j] = true := List.all_eq_true.1 g4 _ (List.getElem_mem hj)
    have e4 : (decide (0 ≤ (j : Int)) && true && zs.length.ble cap) = true := by rw [decide_eq_true g5, g3]; rfl
    obtain ⟨e5, e6⟩ := numG_word e3
    have e7 : (strOf (by4 zs[j])).size = 4 := strOf_size (l := by4 zs[j]) rfl
    rw [Int.toNat_natCast] at g9'
    have e8 : (ccatD s (strOf (by4 zs[j]))).run = some (s ++ strOf (by4 zs[j])) := by
      unfold ccatD
      rw [run_bind, chk_run, e7, nbl (show s.size + 4 ≤ 9223372036854775807 by omega)]; rfl
    dsimp only
    rw [Int.toNat_natCast, List.drop_eq_getElem_cons hj]
    cases ht : tkE zs[j] != 0 with
    | true =>
      have er : (rpStep off zs ⟨(j : Int), off, zs.length, cap, s⟩).run = some (.inr (true, s)) := by
        unfold rpStep
        simp only [e2, ht]
        rw [run_br, decide_eq_true hi, cond_true]
        simp only [run_bind, chk_run, e4, e1, e3, cond_true, Option.bind_some, run_br, run_pure]
      rw [er]
      show (true, s) = cond (tkE zs[j] != 0) _ _
      rw [ht]; rfl
    | false =>
      have er : (rpStep off zs ⟨(j : Int), off, zs.length, cap, s⟩).run = some (.inl ⟨IntKind.i64.wrap ((j : Int) + 1), off, zs.length, cap, s ++ strOf (by4 zs[j])⟩) := by
        unfold rpStep
        simp only [e2, ht]
        rw [run_br, decide_eq_true hi, cond_true]
        simp only [run_bind, chk_run, e4, e1, e3, cond_true, cond_false, Option.bind_some, run_br, e5, e6, e8, run_pure]
      rw [er]
      have e5 : IntKind.i64.wrap ((j : Int) + 1) = ((j + 1 : Nat) : Int) := by rw [wrap_id _ (by omega)]; omega
      rw [e5]
      refine ⟨?_, ?_, ?_⟩
      · simp only [rpG, Bool.and_eq_true, decide_eq_true_eq]
        refine ⟨⟨⟨⟨⟨⟨⟨by simp, by simp⟩, g3⟩, g4⟩, by omega⟩, by omega⟩, g8⟩, nbl ?_⟩
        rw [ByteArray.size_append, e7, Int.toNat_natCast]; omega
      · show zs.length - ((j + 1 : Nat) : Int).toNat < zs.length - j
        omega
      · show rpF (s ++ strOf (by4 zs[j])) (zs.drop ((j + 1 : Nat) : Int).toNat) = cond (tkE zs[j] != 0) _ (rpF _ _)
        rw [ht, Int.toNat_natCast]; rfl
  · have er : (rpStep off zs ⟨i, off, zs.length, cap, s⟩).run = some (.inr (false, s)) := by
      unfold rpStep
      rw [run_br, decide_eq_false hi, cond_false]; rfl
    rw [er]
    show (false, s) = rpF s (zs.drop i.toNat)
    rw [List.drop_eq_nil_of_le (by omega)]; rfl
def rpW (b : RpB) : Out := cond b.1 (.ret, [.string b.2, .string ⟨#[]⟩, .int .i64 2], []) (.exit 0, [.string b.2, .string ⟨#[]⟩, .int .i64 0], [])
structure SumD where
  g : ByteArray → Bool
  f : ByteArray → Int
def smD : SumD := ⟨fun s => bsG (0, 1, s, (s.size : Int)), fun s => bsF gSum s ((s.size : Int) - 0).toNat (0 : Int).toNat 1⟩
structure NumD where
  g : Int → Bool
  u2 : Int → ByteArray
  u4 : Int → ByteArray
def hSB (d : NumD) : Hd := hOr (hA noL (decN .u64 2) (fun _ x => ifT (d.g x) (d.u2 x)) stO) (hA noL (decN .u64 4) (fun _ x => ifT (d.g x) (d.u4 x)) stO)
def hSm (sm : SumD) : Hd := hA noL decS (fun _ s => ifT (sm.g s) (sm.f s)) fun b => (.normal, [.int .u32 b], [])
def nmD : NumD := ⟨numG, fun x => strOf (by2 x), fun x => strOf (by4 x)⟩
theorem s_sB {gl : Gl} (hgl : Low gl) : SubOK Tryz.prog gl 28 (hSB nmD) := SubOK.or (s_sB2 hgl) (s_sB4 hgl)
def HRp (d : NumD) (sm : SumD) : Hs := hsOf [(29, afTk wordG tkE (fun x => (tkS x).op) (fun x => (tkS x).a) (fun x => (tkS x).b) (fun x => (tkS x).c) (fun x => (tkS x).n))] [(28, hSB d), (30, hSm sm)] []
theorem HRp_ok {gl : Gl} (hF : GlF gl) (hgl : Low gl) {d : NumD} {sm : SumD} (h1 : SubOK Tryz.prog gl 28 (hSB d)) (h2 : SubOK Tryz.prog gl 30 (hSm sm)) : (HRp d sm).OK Tryz.prog gl := hsOf_ok (fxC (fn_rtk hF hgl) fx0) (sxC h1 (sxC h2 sx0)) fun _ h => nomatch h
set_option maxRecDepth 100000 in
theorem l_rp {gl : Gl} (hgl : Low gl) (hF : GlF gl) {j : Nat} (hj : j < 16) {zs : List Int} {off : Nat} (hW : GlW gl (903 + j) off zs) : LpOK Tryz.prog gl 17 0 ⟨[5, 0, 4, 2, 3], [4, 2, 3], hLp 0 (rpT (903 + j)).dec (rpSp off zs) (rpW)⟩ := loop_sp (st := rpStep off zs) goodT hgl tglob (rpT (903 + j)).ok (by decide) (rpSp_ok off zs) fun s => ⟨syW (903 + j) off zs [], HRp nmD smD, 100, 40, 40, [], fun _ => [], syW_ok (by omega) hW, HRp_ok hF hgl (s_sB hgl) (s_rsum hgl), (by match j, hj with
  | 0, _ => (show _ = _; kernel_rfl)
  | 1, _ => (show _ = _; kernel_rfl)
  | 2, _ => (show _ = _; kernel_rfl)
  | 3, _ => (show _ = _; kernel_rfl)
  | 4, _ => (show _ = _; kernel_rfl)
  | 5, _ => (show _ = _; kernel_rfl)
  | 6, _ => (show _ = _; kernel_rfl)
  | 7, _ => (show _ = _; kernel_rfl)
  | 8, _ => (show _ = _; kernel_rfl)
  | 9, _ => (show _ = _; kernel_rfl)
  | 10, _ => (show _ = _; kernel_rfl)
  | 11, _ => (show _ = _; kernel_rfl)
  | 12, _ => (show _ = _; kernel_rfl)
  | 13, _ => (show _ = _; kernel_rfl)
  | 14, _ => (show _ = _; kernel_rfl)
  | 15, _ => (show _ = _; kernel_rfl)
  | n + 16, h => exact absurd h (by omega))⟩
def HRpJ (d : NumD) (sm : SumD) (b off : Nat) (zs : List Int) : Hs := (HRp d sm).addL 17 0 ⟨[5, 0, 4, 2, 3], [4, 2, 3], hLp 0 (rpT b).dec (rpSp off zs) rpW⟩
def utS : ByteArray := ⟨#[85, 84, 1]⟩
def rpEnd (d : NumD) (sm : SumD) (s : ByteArray) : DT (ByteArray × Int) := do
  chk (sm.g s)
  let c := sm.f s
  chk (d.g (IntKind.u64.wrap c))
  let t ← ccatD s (d.u4 (IntKind.u64.wrap c))
  pure (t, 0)
def rpPut (d : NumD) (sm : SumD) (off' : Nat) (zs : List Int) (x : Nat × Nat × Nat) : DT (ByteArray × Int) := .br (decide ((x.2.1 : Int) > 1024)) (pure (⟨#[]⟩, 2)) (do
  chk (d.g (IntKind.u64.wrap (x.2.1 : Int)))
  let s ← ccatD utS (d.u2 (IntKind.u64.wrap (x.2.1 : Int)))
  let r ← rpSp off' zs ⟨0, x.1, x.2.1, x.2.2, s⟩
  cond r.1 (pure (⟨#[]⟩, 2)) (rpEnd d sm r.2))
set_option maxRecDepth 100000 in
theorem s_rp0 {gl : Gl} (hgl : Low gl) (hF : GlF gl) {j : Nat} (hj : j < 16) {zs : List Int} {off : Nat} (hW : GlW gl (903 + j) off zs) {d : NumD} {sm : SumD} (h1 : SubOK Tryz.prog gl 28 (hSB d)) (h2 : SubOK Tryz.prog gl 30 (hSm sm)) : SubOK Tryz.prog gl 17 (hA (noL) (decSl (903 + j)) (fun _ => rpPut d sm off zs) (ipO)) := hA_sub hgl fun k x => ⟨syG [], HRpJ d sm (903 + j) off zs, noV, syG_ok _, Hs.addL_ok (HRp_ok hF hgl h1 h2) (l_rp hgl hF hj hW), (by match j, hj with
  | 0, _ => (show _ = _; kernel_rfl)
  | 1, _ => (show _ = _; kernel_rfl)
  | 2, _ => (show _ = _; kernel_rfl)
  | 3, _ => (show _ = _; kernel_rfl)
  | 4, _ => (show _ = _; kernel_rfl)
  | 5, _ => (show _ = _; kernel_rfl)
  | 6, _ => (show _ = _; kernel_rfl)
  | 7, _ => (show _ = _; kernel_rfl)
  | 8, _ => (show _ = _; kernel_rfl)
  | 9, _ => (show _ = _; kernel_rfl)
  | 10, _ => (show _ = _; kernel_rfl)
  | 11, _ => (show _ = _; kernel_rfl)
  | 12, _ => (show _ = _; kernel_rfl)
  | 13, _ => (show _ = _; kernel_rfl)
  | 14, _ => (show _ = _; kernel_rfl)
  | 15, _ => (show _ = _; kernel_rfl)
  | n + 16, h => exact absurd h (by omega))⟩
def rpNil (d : NumD) (sm : SumD) : DT (ByteArray × Int) := do
  chk (d.g (IntKind.u64.wrap 0))
  let s ← ccatD utS (d.u2 (IntKind.u64.wrap 0))
  rpEnd d sm s
set_option maxRecDepth 100000 in
theorem s_rpN0 {gl : Gl} (hgl : Low gl) (hF : GlF gl) {d : NumD} {sm : SumD} (h1 : SubOK Tryz.prog gl 28 (hSB d)) (h2 : SubOK Tryz.prog gl 30 (hSm sm)) : SubOK Tryz.prog gl 17 (hA (noL) (decNil) (fun _ _ => rpNil d sm) (ipO)) := hA_sub hgl fun k x => ⟨syG [], HRp d sm, noV, syG_ok _, HRp_ok hF hgl h1 h2, by kernel_rfl⟩
end Go.Proofs.YtpckfdopokmbkaaGreatDoor.Ev

namespace Go.Proofs.YtpckfdopokmbkaaGreatDoor.Ev
open Go
open Go.Proofs Go.RowKit

/-! The document's images, in closed form. -/
theorem byteA_assoc (a b c : ByteArray) : a ++ b ++ c = a ++ (b ++ c) := by
  apply ByteArray.ext
  simp
theorem utS_eq : utS = strOf [v8 85, v8 84, v8 1] := by
  have : bytesL [v8 85, v8 84, v8 1] = some [85, 84, 1] := by
    simp only [bytesL, w8E, byteOfV]
    rfl
  unfold strOf
  rw [this]; rfl
theorem rpF_eq : ∀ (zs : List Int) (s : ByteArray), (rpF s zs).1 = !okW zs ∧ (okW zs = true → rpF s zs = (false, s ++ strOf (wrdB zs))) ∧ (rpF s zs).2.size ≤ s.size + 4 * zs.length
  | [], s => ⟨rfl, fun _ => by
      show (false, s) = (false, s ++ ByteArray.mk #[])
      have : s ++ ByteArray.mk #[] = s := by apply ByteArray.ext; simp
      rw [this], by show s.size ≤ _; omega⟩
  | x :: l, s => by
    obtain ⟨h1, h2, h3⟩ := rpF_eq l (s ++ strOf (by4 x))
    have e : rpF s (x :: l) = cond (tkE x != 0) (true, s) (rpF (s ++ strOf (by4 x)) l) := rfl
    have eo : okW (x :: l) = ((tkE x == 0) && okW l) := rfl
    rw [e, eo]
    have e7 : (strOf (by4 x)).size = 4 := strOf_size (l := by4 x) rfl
    rw [ByteArray.size_append, e7] at h3
    cases hx : tkE x == 0 with
    | false =>
      have hb : (tkE x != 0) = true := by unfold bne; rw [hx]; rfl
      rw [hb]
      exact ⟨rfl, fun h => (by cases h), by show s.size ≤ _; omega⟩
    | true =>
      have hb : (tkE x != 0) = false := by unfold bne; rw [hx]; rfl
      rw [hb, cond_false, Bool.true_and]
      refine ⟨h1, fun h => ?_, by simp only [List.length_cons]; omega⟩
      rw [h2 h]
      show (false, s ++ strOf (by4 x) ++ strOf (wrdB l)) = (false, s ++ strOf (by4 x ++ wrdB l))
      rw [byteA_assoc, strOf_app (a := by4 x) rfl (wrdB_u8 l)]
theorem numG_of {x : Int} (h0 : 0 ≤ x) (h1 : x < 4611686018427387904) : numG (IntKind.u64.wrap x) = true ∧ IntKind.u64.wrap x = x := by
  rw [w64u_id x h0 h1]
  exact ⟨andI (decide_eq_true h0) (decide_eq_true h1), rfl⟩
theorem ccat_run {a b : ByteArray} (h : a.size + b.size ≤ 1000000000000) : (ccatD a b).run = some (a ++ b) := by
  unfold ccatD
  rw [run_bind, chk_run, nbl (show a.size + b.size ≤ 9223372036854775807 by omega)]; rfl
theorem rpEnd_run {zs : List Int} (hn : zs.length ≤ 1024) : (rpEnd nmD smD (strOf (imB zs))).run = some (strOf (imB zs ++ by4 (sumB (imB zs))), 0) := by
  have hu := imB_u8 zs
  have hl := imB_len zs
  have hs := strOf_size hu
  have hg : smD.g (strOf (imB zs)) = true := by
    show bsG (0, 1, strOf (imB zs), ((strOf (imB zs)).size : Int)) = true
    simp only [bsG, Bool.and_eq_true, decide_eq_true_eq]
    rw [hs]; omega
  have hf : smD.f (strOf (imB zs)) = sumB (imB zs) := by
    show bsF gSum (strOf (imB zs)) (((strOf (imB zs)).size : Int) - 0).toNat (0 : Int).toNat 1 = _
    rw [show (((strOf (imB zs)).size : Int) - 0).toNat = (strOf (imB zs)).size by omega]; rfl
  have hw : wordG (sumB (imB zs)) = true := bsF_word _ _ _ _ rfl
  simp only [wordG, Bool.and_eq_true, decide_eq_true_eq] at hw
  obtain ⟨n1, n2⟩ := numG_of hw.1 (show sumB (imB zs) < 4611686018427387904 by omega)
  have h4 : (strOf (by4 (sumB (imB zs)))).size = 4 := strOf_size (l := by4 (sumB (imB zs))) rfl
  have hc : (ccatD (strOf (imB zs)) (strOf (by4 (sumB (imB zs))))).run = some (strOf (imB zs) ++ strOf (by4 (sumB (imB zs)))) := ccat_run (by rw [hs, h4]; omega)
  have n1' : nmD.g (IntKind.u64.wrap (smD.f (strOf (imB zs)))) = true := by rw [hf]; exact n1
  have n2' : nmD.u4 (IntKind.u64.wrap (smD.f (strOf (imB zs)))) = strOf (by4 (sumB (imB zs))) := by rw [hf, n2]; rfl
  unfold rpEnd
  simp only [run_bind, chk_run, hg, n1', n2', hc, cond_true, Option.bind_some, run_pure]
  rw [strOf_app hu (b := by4 (sumB (imB zs))) rfl]
theorem nmD_g (x : Int) : nmD.g x = numG x := rfl
theorem im_head {zs : List Int} (hn : zs.length ≤ 1024) : nmD.g (IntKind.u64.wrap (zs.length : Int)) = true ∧ ∃ s, (ccatD utS (nmD.u2 (IntKind.u64.wrap (zs.length : Int)))).run = some s ∧ s.size = 5 ∧ s ++ strOf (wrdB zs) = strOf (imB zs) := by
  obtain ⟨n1, n2⟩ := numG_of (x := (zs.length : Int)) (by omega) (by omega)
  refine ⟨(nmD_g _).trans n1, ?_⟩
  rw [n2]
  have h2 : (strOf (by2 (zs.length : Int))).size = 2 := strOf_size (l := by2 (zs.length : Int)) rfl
  have h3 : (strOf [v8 85, v8 84, v8 1]).size = 3 := strOf_size (l := [v8 85, v8 84, v8 1]) rfl
  refine ⟨utS ++ strOf (by2 (zs.length : Int)), ccat_run (by rw [utS_eq, h3]; show 3 + (strOf (by2 (zs.length : Int))).size ≤ _; rw [h2]; decide), by rw [ByteArray.size_append, utS_eq, h3, h2], ?_⟩
  have hw : IntKind.u32.wrap (zs.length : Int) = (zs.length : Int) := wrap_u32 (by omega) (by omega)
  unfold imB
  rw [utS_eq, hw, strOf_app (a := [v8 85, v8 84, v8 1] ++ by2 (zs.length : Int)) rfl (wrdB_u8 zs), strOf_app (a := [v8 85, v8 84, v8 1]) (b := by2 (zs.length : Int)) rfl rfl]
theorem rpC_run {off : Nat} {zs : List Int} {x : Nat × Nat × Nat} {b : ByteArray × Int} (h : (ipC off zs x).run = some b) : (rpPut nmD smD off zs x).run = some b := by
  obtain ⟨h1, rfl⟩ := ifT_run h
  obtain ⟨o, n, cap⟩ := x
  simp only [ipGd, Bool.and_eq_true] at h1
  obtain ⟨⟨⟨g1, g2⟩, g3⟩, g4⟩ := h1
  have g1 := Nat.eq_of_beq_eq_true g1
  have g2 := Nat.eq_of_beq_eq_true g2
  subst g1; subst g2
  unfold rpPut imF
  simp only [run_br]
  by_cases hn : zs.length ≤ 1024
  · rw [decide_eq_false (show ¬ (zs.length : Int) > 1024 by omega), decide_eq_true hn, cond_false, Bool.true_and]
    obtain ⟨n1, s, hs, hz, hi⟩ := im_head hn
    have hg : rpG o zs ⟨0, o, zs.length, cap, s⟩ = true := by
      simp only [rpG, Bool.and_eq_true, decide_eq_true_eq]
      exact ⟨⟨⟨⟨⟨⟨⟨by simp, by simp⟩, g3⟩, g4⟩, by omega⟩, by omega⟩, nbl (by omega)⟩, nbl (by rw [hz]; omega)⟩
    have hsp : (rpSp o zs ⟨0, o, zs.length, cap, s⟩).run = some (rpF s zs) := by
      unfold rpSp
      rw [run_br, hg, cond_true, spl1_run]; rfl
    simp only [run_bind, chk_run, n1, cond_true, Option.bind_some, hs, hsp]
    obtain ⟨f1, f2, _⟩ := rpF_eq zs s
    cases hk : okW zs with
    | true =>
      rw [f2 hk, hi]
      exact rpEnd_run hn
    | false =>
      rw [f1, hk]; rfl
  · rw [decide_eq_true (show (zs.length : Int) > 1024 by omega), decide_eq_false hn]; rfl
theorem s_rpC {gl : Gl} (hgl : Low gl) (hF : GlF gl) {j : Nat} (hj : j < 16) {zs : List Int} {off : Nat} (hW : GlW gl (903 + j) off zs) : SubOK Tryz.prog gl 17 (hA noL (decSl (903 + j)) (fun _ => ipC off zs) ipO) := hA_weak (s_rp0 hgl hF hj hW (sm := smD) (s_sB hgl) (show SubOK Tryz.prog gl 30 (hSm smD) from s_rsum hgl)) fun _ _ _ h => rpC_run h
theorem s_rpN {gl : Gl} (hgl : Low gl) (hF : GlF gl) : SubOK Tryz.prog gl 17 (hA noL decNil (fun _ _ => pure (imF [])) ipO) := hA_weak (s_rpN0 hgl hF (sm := smD) (s_sB hgl) (show SubOK Tryz.prog gl 30 (hSm smD) from s_rsum hgl)) fun _ _ b h => by
  rw [← h]
  obtain ⟨n1, s, hs, hz, hi⟩ := im_head (zs := []) (by decide)
  have n1 : nmD.g (IntKind.u64.wrap 0) = true := n1
  have hs : (ccatD utS (nmD.u2 (IntKind.u64.wrap 0))).run = some s := hs
  have e : s = strOf (imB []) := by
    rw [← hi]
    show s = s ++ ByteArray.mk #[]
    apply ByteArray.ext; simp
  unfold rpNil
  simp only [run_bind, chk_run, n1, cond_true, Option.bind_some, hs]
  rw [e, rpEnd_run (by decide)]
  rfl
end Go.Proofs.YtpckfdopokmbkaaGreatDoor.Ev
