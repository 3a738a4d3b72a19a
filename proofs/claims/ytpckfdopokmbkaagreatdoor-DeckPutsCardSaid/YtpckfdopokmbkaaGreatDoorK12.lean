/- Heavy decks; the law told; what comes in is lent; the call. Where the forms stand as the program's text lays them. -/
import Derived.Test.YtpckfdopokmbkaaGreatDoorK11
import Derived.Test.YtpckfdopokmbkaaGreatDoorK2
import Derived.Test.YtpckfdopokmbkaaGreatDoorK1
import Derived.ChangeMaps5
import Derived.OpenShut
import Derived.Deep.DeepHandedRow
noncomputable section
namespace Go.Proofs.YtpckfdopokmbkaaGreatDoor.Ev
open Go
open Go.Proofs Go.RowKit

/-! Heavy. -/
def symT (off n : Nat) : Sym := ⟨[], fun _ _ => 0, fun _ => ByteArray.empty, fun _ _ => false, fun _ => false, fun _ => false, fun _ => false, fun _ => .chan (some 0), fun o' => Nat.ble off o' && Nat.ble (o' + 1) (off + n), false⟩
def syT (b off n : Nat) : Sy := fun i => cond (Nat.beq i b) (some (symT off n)) none
/-- How long a program is. -/
def Pg.len : Pg → Nat
  | none => 0
  | some q => q.2.2.length
structure HvS where
  i : Int
  n : Int
  x : Nat × Nat × Nat
  y : Nat × Nat × Nat
  m : Int
  d : Sl
def HvS.e (s : HvS) (n : Value) : LSt := ([.int .i64 s.i, n, wSl' 900 s.x.1 s.x.2.1 s.x.2.2, .slice none 0 0, slO 901 s.d, wSl' 900 s.y.1 s.y.2.1 s.y.2.2, .int .i64 s.m], [])
def hvT : LpT HvS := ⟨fun vs rows => match vs, rows with
  | [.int .i64 i, .int .i64 n, .slice (some a) n1 c1, .slice none 0 0, u, .slice (some b) n2 c2, .int .i64 m], [] => cond (isSl a 900 && isSl b 900) (((pSlO 901).run [u]).map fun q => ⟨i, n, (a.off, n1, c1), (b.off, n2, c2), m, q.1⟩) none
  | _, _ => none, fun s => s.e (.int .i64 s.n), fun vs rows s h => by
  split at h
  case h_2 => cases h
  rename_i i n a n1 c1 u b n2 c2 m
  obtain ⟨h1, h⟩ := condT h
  obtain ⟨⟨q, r⟩, h9, h⟩ := Option.map_eq_some_iff.1 h
  have e9 : [u] = slO 901 q :: r := (pSlO 901).ok _ _ _ h9
  simp only [Bool.and_eq_true] at h1
  subst h
  rw [List.head_eq_of_cons_eq e9]
  conv => lhs; rw [isSl_t h1.1, isSl_t h1.2]
  rfl⟩
abbrev HvB := Int × (Nat × Nat × Nat) × Sl
def hvStP (po : Nat) (p : Option Pg) (s : HvS) : DT (HvS ⊕ HvB) := .br (decide (s.i < s.m)) (do
    chk (decide (0 ≤ s.i) && decide (s.i < (s.x.2.1 : Int)) && s.x.2.1.ble s.x.2.2)
    match p with
    | none => .fail
    | some p => do
      chk (Nat.beq (s.x.1 + s.i.toNat * 1) (po + s.i.toNat))
      pure (.inl { s with i := IntKind.i64.wrap (s.i + 1), n := IntKind.i64.wrap (s.n + (p.len : Int)) })) (pure (.inr (s.n, s.y, s.d)))
def hvStep (po : Nat) (ps : List Pg) (s : HvS) : DT (HvS ⊕ HvB) := hvStP po ps[s.i.toNat]? s
def hvW (b : HvB) : Out := (.exit 0, [.slice none 0 0, slO 901 b.2.2, .int .i64 b.1, wSl' 900 b.2.1.1 b.2.1.2.1 b.2.1.2.2], [])
def hvF : List Pg → Int → Int
  | [], n => n
  | p :: l, n => hvF l (IntKind.i64.wrap (n + (p.len : Int)))
def hvG (po : Nat) (ps : List Pg) (s : HvS) : Bool := Nat.beq s.x.1 po && Nat.beq s.x.2.1 ps.length && Nat.ble ps.length s.x.2.2 && decide (s.m = (ps.length : Int)) && decide (0 ≤ s.i) && decide (s.i ≤ (ps.length : Int)) && Nat.ble ps.length 20
def hvSp (po : Nat) (ps : List Pg) (s : HvS) : DT HvB := ifT (hvG po ps s) (hvF (ps.drop s.i.toNat) s.n, s.y, s.d)
theorem hvSp_ok (po : Nat) (ps : List Pg) (s : HvS) (b : HvB) (h : (hvSp po ps s).run = some b) : ∃ m, itN (hvStep po ps) m s = some b := by
  obtain ⟨h1, rfl⟩ := ifT_run h
  refine it_of (fun s : HvS => hvG po ps s = true) (fun s => ps.length - s.i.toNat) (fun s : HvS => (hvF (ps.drop s.i.toNat) s.n, s.y, s.d)) ?_ _ s h1 (Nat.lt_succ_self _)
  intro s hg
  simp only [hvG, Bool.and_eq_true, decide_eq_true_eq] at hg
  obtain ⟨⟨⟨⟨⟨⟨g1, g2⟩, g3⟩, g4⟩, g5⟩, g6⟩, g7⟩ := hg
  have g1' := Nat.eq_of_beq_eq_true g1
  have g2' := Nat.eq_of_beq_eq_true g2
  have g7' := Nat.le_of_ble_eq_true g7
  by_cases hi : s.i < (ps.length : Int)
  · have hj : s.i.toNat < ps.length := by omega
    have e1 : (decide (0 ≤ s.i) && decide (s.i < (s.x.2.1 : Int)) && s.x.2.1.ble s.x.2.2) = true := andI (andI (decide_eq_true g5) (decide_eq_true (by omega))) (by rw [g2']; exact g3)
    have e2 : Nat.beq (s.x.1 + s.i.toNat * 1) (po + s.i.toNat) = true := by rw [g1', Nat.mul_one]; simp
    have er : (hvStep po ps s).run = some (.inl { s with i := IntKind.i64.wrap (s.i + 1), n := IntKind.i64.wrap (s.n + ((ps[s.i.toNat]).len : Int)) }) := by
      unfold hvStep hvStP
      rw [List.getElem?_eq_getElem hj, run_br, decide_eq_true (show s.i < s.m by rw [g4]; exact hi), cond_true]
      simp only [run_bind, chk_run, e1, e2, cond_true, Option.bind_some, run_pure]
    rw [er]
    rw [wrap_id (s.i + 1) (by omega)]
    refine ⟨?_, ?_, ?_⟩
    · simp only [hvG, Bool.and_eq_true, decide_eq_true_eq]
      exact ⟨⟨⟨⟨⟨⟨g1, g2⟩, g3⟩, g4⟩, by omega⟩, by omega⟩, g7⟩
    · show ps.length - (s.i + 1).toNat < ps.length - s.i.toNat
      omega
    · dsimp only
      rw [List.drop_eq_getElem_cons hj, show (s.i + 1).toNat = s.i.toNat + 1 by omega]; rfl
  · have er : (hvStep po ps s).run = some (.inr (s.n, s.y, s.d)) := by
      unfold hvStep hvStP
      rw [run_br, decide_eq_false (show ¬ s.i < s.m by rw [g4]; exact hi), cond_false]; rfl
    rw [er]
    rw [List.drop_eq_nil_of_le (by omega)]; rfl
set_option maxRecDepth 100000 in
theorem hv_round {gl : Gl} {po : Nat} {ps : List Pg} (hP : GlPs gl po ps) (s : HvS) : ∃ (sy : Sy) (H : Hs) (L G d : Nat) (op : List VStep) (cls : CR4 → List VStep), SyOK gl sy ∧ H.OK Tryz.prog gl ∧ roundV sy Tryz.prog gl (fun _ => none) H L G d 8 0 [12, 7, 10, 2, 1, 0, 11] (hvT.enc s) op (rndW Tryz.prog (1000 + 0) [12, 7, 10, 2, 1, 0, 11] [2, 1, 7, 0] cls) = (hvStep po ps s).runK fun q => some (rawL (encQ hvT.enc hvW q)) := by
  show ∃ (sy : Sy) (H : Hs) (L G d : Nat) (op : List VStep) (cls : CR4 → List VStep), SyOK gl sy ∧ H.OK Tryz.prog gl ∧ roundV sy Tryz.prog gl (fun _ => none) H L G d 8 0 [12, 7, 10, 2, 1, 0, 11] (hvT.enc s) op (rndW Tryz.prog (1000 + 0) [12, 7, 10, 2, 1, 0, 11] [2, 1, 7, 0] cls) = (hvStP po ps[s.i.toNat]? s).runK fun q => some (rawL (encQ hvT.enc hvW q))
  obtain ⟨i, n, x, y, m, d⟩ := s
  dsimp only
  cases e : ps[i.toNat]? with
  | none =>
    refine ⟨syN, H0, 100, 40, 40, [], fun _ => [], syN_ok, H0_ok, ?_⟩
    clear e hP
    rcases d with _ | d <;> (show _ = _; kernel_rfl)
  | some p =>
    obtain ⟨h1, h2⟩ := hP i.toNat p e
    refine ⟨syV 900 (po + i.toNat) (pgV i.toNat p), H0, 100, 40, 40, [], fun _ => [], syV_ok (by decide) h1, H0_ok, ?_⟩
    clear e hP h1 h2
    rcases p with _ | p <;> rcases d with _ | d <;> (show _ = _; kernel_rfl)
theorem l_hv {gl : Gl} (hgl : Low gl) {po : Nat} {ps : List Pg} (hP : GlPs gl po ps) : LpOK Tryz.prog gl 8 0 ⟨[12, 7, 10, 2, 1, 0, 11], [2, 1, 7, 0], hLp 0 hvT.dec (hvSp po ps) hvW⟩ := loop_sp (st := hvStep po ps) goodT hgl tglob hvT.ok (by decide) (hvSp_ok po ps) fun s => hv_round hP s
def HHv (P : Pgs) (p : Sl) : Hs := H0.addO p 8 0 ⟨[12, 7, 10, 2, 1, 0, 11], [2, 1, 7, 0], hLp 0 hvT.dec (hvSp P.1 P.2.2) hvW⟩
def decHv : Dec (Sl × Sl) := ⟨fun vs => match vs with
  | [v, u, .slice none 0 0] => ((pSlO 900).run [v]).bind fun p => ((pSlO 901).run [u]).map fun q => (p.1, q.1)
  | _ => none, fun x => [slO 900 x.1, slO 901 x.2, .slice none 0 0], fun vs x h => by
  split at h
  · rename_i v u
    obtain ⟨⟨p, r⟩, h1, h2⟩ := Option.bind_eq_some_iff.1 h
    obtain ⟨⟨q, r'⟩, h3, h4⟩ := Option.map_eq_some_iff.1 h2
    have e1 : [v] = slO 900 p :: r := (pSlO 900).ok _ _ _ h1
    have e2 : [u] = slO 901 q :: r' := (pSlO 901).ok _ _ _ h3
    cases h4
    rw [List.head_eq_of_cons_eq e1, List.head_eq_of_cons_eq e2]
  · cases h⟩
def bO (b : Bool) : Out := (.normal, [.bool b], [])
def hvNew (P : Pgs) (x : Sl × Sl) : DT Bool := match x.1 with
  | none => bl (decide ((x.2.n : Int) > 300))
  | some p => do
    let r ← hvSp P.1 P.2.2 ⟨0, 0, p, p, (p.2.1 : Int), x.2⟩
    .br (decide ((r.2.1.2.1 : Int) > 20)) (pure true) (.br (decide (r.1 > 3000)) (pure true) (bl (decide ((r.2.2.n : Int) > 300))))
set_option maxRecDepth 100000 in
theorem s_hv0 {gl : Gl} (hgl : Low gl) {P : Pgs} (h : GlPs gl P.1 P.2.2) : SubOK Tryz.prog gl 8 (hA (noL) (decHv) (fun _ => hvNew P) (bO)) := hA_sub hgl fun k x => ⟨syG [], HHv P x.1, noV, syG_ok _, Hs.addO_ok H0_ok (l_hv hgl h), (by
  obtain ⟨p, d⟩ := x
  rcases p with _ | p <;> rcases d with _ | d <;> (show _ = _; kernel_rfl))⟩
def hvy (P : Pgs) (p d : Sl) : Bool := match p with
  | none => decide ((d.n : Int) > 300)
  | some p => decide ((p.2.1 : Int) > 20) || (decide (hvF P.2.2 0 > 3000) || decide ((d.n : Int) > 300))
def hvGd (P : Pgs) (p : Sl) : Bool := slPs P p && Nat.ble P.2.2.length 20
theorem s_hv {gl : Gl} (hgl : Low gl) {P : Pgs} (h : GlPs gl P.1 P.2.2) : SubOK Tryz.prog gl 8 (hA noL decHv (fun _ x => .br (hvGd P x.1) (bl (hvy P x.1 x.2)) .fail) bO) := hA_weak (s_hv0 hgl h) fun _ x b hb => by
  obtain ⟨h1, h2⟩ := condT (show cond (hvGd P x.1) (bl (hvy P x.1 x.2)).run none = some b from hb)
  rw [bl_run] at h2
  cases h2
  obtain ⟨p, d⟩ := x
  cases p with
  | none => exact bl_run _
  | some p =>
    have h1 : ((Nat.beq p.1 P.1 && Nat.beq p.2.1 P.2.2.length && Nat.ble P.2.2.length p.2.2 && P.2.2.all Pg.ok) && Nat.ble P.2.2.length 20) = true := h1
    simp only [Bool.and_eq_true] at h1
    obtain ⟨⟨⟨⟨p1, p2⟩, p3⟩, p4⟩, p5⟩ := h1
    have hg : hvG P.1 P.2.2 ⟨0, 0, p, p, (p.2.1 : Int), d⟩ = true := by
      simp only [hvG, Bool.and_eq_true, decide_eq_true_eq]
      exact ⟨⟨⟨⟨⟨⟨p1, p2⟩, p3⟩, by rw [Nat.eq_of_beq_eq_true p2]⟩, by simp⟩, by simp⟩, p5⟩
    have hs : (hvSp P.1 P.2.2 ⟨0, 0, p, p, (p.2.1 : Int), d⟩).run = some (hvF P.2.2 0, p, d) := by
      unfold hvSp ifT
      rw [run_br, hg]; rfl
    show (do let r ← hvSp P.1 P.2.2 ⟨0, 0, p, p, (p.2.1 : Int), d⟩; .br (decide ((r.2.1.2.1 : Int) > 20)) (pure true) (.br (decide (r.1 > 3000)) (pure true) (bl (decide ((r.2.2.n : Int) > 300)))) : DT Bool).run = _
    rw [run_bind, hs, Option.bind_some]
    simp only [run_br, bl_run, run_pure]
    show _ = some (decide ((p.2.1 : Int) > 20) || (decide (hvF P.2.2 0 > 3000) || decide ((d.n : Int) > 300)))
    cases decide ((p.2.1 : Int) > 20) <;> cases decide (hvF P.2.2 0 > 3000) <;> rfl
/-! More than twenty programs. -/
abbrev TvZ := Bool × HvS
def tvV (z : Bool) (s : HvS) : Value := cond z (.int .i64 s.n) (.chan (some 1))
def tvT : LpT TvZ := ⟨fun vs rows => (hvT.dec vs rows).map fun s => (true, s), fun x => x.2.e (tvV x.1 x.2), fun vs rows s h => by
  obtain ⟨t, h1, rfl⟩ := Option.map_eq_some_iff.1 h
  exact hvT.ok _ _ _ h1⟩
abbrev TvB := Bool × HvS
def tvStep (po n : Nat) (x : TvZ) : DT (TvZ ⊕ TvB) := .br (decide (x.2.i < x.2.m)) (do
    chk (decide (0 ≤ x.2.i) && decide (x.2.i < (x.2.x.2.1 : Int)) && x.2.x.2.1.ble x.2.x.2.2)
    chk ((symT po n).okV (x.2.x.1 + x.2.i.toNat * 1))
    pure (.inl (false, { x.2 with i := IntKind.i64.wrap (x.2.i + 1) }))) (pure (.inr x))
def tvW (x : TvB) : Out := (.exit 0, [.slice none 0 0, slO 901 x.2.d, tvV x.1 x.2, wSl' 900 x.2.y.1 x.2.y.2.1 x.2.y.2.2], [])
def tvG (po n : Nat) (x : TvZ) : Bool := Nat.beq x.2.x.1 po && Nat.beq x.2.x.2.1 n && Nat.ble n x.2.x.2.2 && decide (x.2.m = (n : Int)) && decide (0 ≤ x.2.i) && decide (x.2.i ≤ (n : Int)) && decide (n ≤ 9223372036854775807)
def tvF (n : Nat) (x : TvZ) : TvB := (cond (decide (x.2.i < (n : Int))) false x.1, { x.2 with i := (n : Int) })
def tvSp (po n : Nat) (x : TvZ) : DT TvB := ifT (tvG po n x && decide (x.2.i = 0) && decide (0 < n)) (false, { x.2 with i := (n : Int) })
theorem tvSp_ok (po n : Nat) (x : TvZ) (b : TvB) (h : (tvSp po n x).run = some b) : ∃ m, itN (tvStep po n) m x = some b := by
  obtain ⟨h1, rfl⟩ := ifT_run h
  simp only [Bool.and_eq_true, decide_eq_true_eq] at h1
  obtain ⟨⟨h1, h2⟩, h3⟩ := h1
  have hF : (false, { x.2 with i := (n : Int) }) = tvF n x := by
    unfold tvF
    rw [h2, decide_eq_true (show (0 : Int) < (n : Int) by omega)]; rfl
  rw [hF]
  refine it_of (fun x : TvZ => tvG po n x = true) (fun x => n - x.2.i.toNat) (fun x : TvZ => tvF n x) ?_ _ x h1 (Nat.lt_succ_self _)
  rintro ⟨z, s⟩ hg
  simp only [tvG, Bool.and_eq_true, decide_eq_true_eq] at hg
  obtain ⟨⟨⟨⟨⟨⟨g1, g2⟩, g3⟩, g4⟩, g5⟩, g6⟩, g7⟩ := hg
  have g1' := Nat.eq_of_beq_eq_true g1
  have g2' := Nat.eq_of_beq_eq_true g2
  by_cases hi : s.i < (n : Int)
  · have e1 : (decide (0 ≤ s.i) && decide (s.i < (s.x.2.1 : Int)) && s.x.2.1.ble s.x.2.2) = true := andI (andI (decide_eq_true g5) (decide_eq_true (by omega))) (by rw [g2']; exact g3)
    have e2 : (symT po n).okV (s.x.1 + s.i.toNat * 1) = true := by
      show (Nat.ble po (s.x.1 + s.i.toNat * 1) && Nat.ble (s.x.1 + s.i.toNat * 1 + 1) (po + n)) = true
      rw [nbl (show po ≤ s.x.1 + s.i.toNat * 1 by omega), nbl (show s.x.1 + s.i.toNat * 1 + 1 ≤ po + n by omega)]; rfl
    have er : (tvStep po n (z, s)).run = some (.inl (false, { s with i := IntKind.i64.wrap (s.i + 1) })) := by
      unfold tvStep
      rw [run_br, decide_eq_true (show s.i < s.m by rw [g4]; exact hi), cond_true]
      simp only [run_bind, chk_run, e1, e2, cond_true, Option.bind_some, run_pure]
    rw [er]
    rw [wrap_id (s.i + 1) (by omega)]
    refine ⟨?_, ?_, ?_⟩
    · simp only [tvG, Bool.and_eq_true, decide_eq_true_eq]
      exact ⟨⟨⟨⟨⟨⟨g1, g2⟩, g3⟩, g4⟩, by omega⟩, by omega⟩, g7⟩
    · show n - (s.i + 1).toNat < n - s.i.toNat
      omega
    · unfold tvF
      dsimp only
      rw [decide_eq_true hi]
      cases decide (s.i + 1 < (n : Int)) <;> rfl
  · have er : (tvStep po n (z, s)).run = some (.inr (z, s)) := by
      unfold tvStep
      rw [run_br, decide_eq_false (show ¬ s.i < s.m by rw [g4]; exact hi), cond_false]; rfl
    rw [er]
    have hin : s.i = (n : Int) := by omega
    unfold tvF
    dsimp only
    rw [decide_eq_false hi, cond_false, ← hin]
def GlT (gl : Gl) (po n : Nat) : Prop := ∀ i, i < n → gl 900 (po + i) = some (.chan (some 0))
theorem syT_ok {gl : Gl} {po n : Nat} (h : GlT gl po n) : SyOK gl (syT 900 po n) := fun i S e => by
  unfold syT at e
  rw [Bool.cond_eq_ite] at e
  split at e
  · rename_i q
    cases e
    rw [nbeq] at q
    subst q
    refine ⟨fun hl => by omega, fun _ => ⟨fun _ _ h => (by cases h), fun _ h => (by cases h), fun _ h => (by cases h), fun o' h1 => ?_⟩⟩
    have h1 : (Nat.ble po o' && Nat.ble (o' + 1) (po + n)) = true := h1
    simp only [Bool.and_eq_true] at h1
    have h2 := Nat.le_of_ble_eq_true h1.1
    have h3 := Nat.le_of_ble_eq_true h1.2
    have := h (o' - po) (by omega)
    rwa [show po + (o' - po) = o' by omega] at this
  · cases e
set_option maxRecDepth 100000 in
theorem l_tv {gl : Gl} (hgl : Low gl) {po n : Nat} (hT : GlT gl po n) : LpOK Tryz.prog gl 8 0 ⟨[12, 7, 10, 2, 1, 0, 11], [2, 1, 7, 0], hLp 0 (tvT).dec (tvSp po n) (tvW)⟩ := loop_sp (st := tvStep po n) goodT hgl tglob (tvT).ok (by decide) (tvSp_ok po n) fun s => match s with
  | (true, s) => ⟨syT 900 po n, H0, 100, 40, 40, [], fun _ => [], syT_ok hT, H0_ok, (by
  obtain ⟨i, n, x, y, m, d⟩ := s
  rcases d with _ | d <;> (show _ = _; kernel_rfl))⟩
  | (false, s) => ⟨syT 900 po n, H0, 100, 40, 40, [], fun _ => [], syT_ok hT, H0_ok, (by
  obtain ⟨i, n, x, y, m, d⟩ := s
  rcases d with _ | d <;> (show _ = _; kernel_rfl))⟩
def HTv (po n : Nat) : Hs := H0.addL 8 0 ⟨[12, 7, 10, 2, 1, 0, 11], [2, 1, 7, 0], hLp 0 tvT.dec (tvSp po n) tvW⟩
def decTv : Dec ((Nat × Nat × Nat) × Sl) := ⟨fun vs => (decHv.dec vs).bind fun x => x.1.map fun p => (p, x.2), fun x => decHv.enc (some x.1, x.2), fun vs x h => by
  obtain ⟨⟨p, d⟩, h1, h2⟩ := Option.bind_eq_some_iff.1 h
  obtain ⟨q, h3, rfl⟩ := Option.map_eq_some_iff.1 h2
  have h3 : p = some q := h3
  subst h3
  exact decHv.ok _ _ h1⟩
set_option maxRecDepth 100000 in
theorem s_tv0 {gl : Gl} (hgl : Low gl) {po n : Nat} (hT : GlT gl po n) : SubOK Tryz.prog gl 8 (hA (noL) (decTv) (fun _ x => (do let r ← tvSp po n (true, ⟨0, 0, x.1, x.1, (x.1.2.1 : Int), x.2⟩); .br (decide ((r.2.y.2.1 : Int) > 20)) (pure true) .fail)) (bO)) := hA_sub hgl fun k x => ⟨syG [], HTv po n, noV, syG_ok _, Hs.addL_ok H0_ok (l_tv hgl hT), (by
  obtain ⟨p, d⟩ := x
  rcases d with _ | d <;> (show _ = _; kernel_rfl))⟩
end Go.Proofs.YtpckfdopokmbkaaGreatDoor.Ev

namespace Go.Proofs.YtpckfdopokmbkaaGreatDoor.Ev
open Go
open Go.Proofs Go.RowKit

/-! Decks: heavy; the law. -/
def HH31 (P : Pgs) : Hs := hsOf [] [(8, hA noL decHv (fun _ x => .br (hvGd P x.1) (bl (hvy P x.1 x.2)) .fail) bO)] []
def hvK (P : Pgs) (k : DkS) : DT Bool := do
  chk (hvGd P k.p)
  let h ← bl (hvy P k.p k.d)
  cond h (pure true) (bl (decide ((k.q.n : Int) > 70000)))
set_option maxRecDepth 100000 in
theorem s_hk {gl : Gl} (hgl : Low gl) {P : Pgs} (h : GlPs gl P.1 P.2.2) : SubOK Tryz.prog gl 4 (hA (noL) (decDk) (fun _ => hvK P) (bO)) := hA_sub hgl fun k x => ⟨syG [], HH31 P, noV, syG_ok _, hsOf_ok fx0 (sxC (s_hv hgl h) sx0) lx0, (by
  obtain ⟨c, p, d, q⟩ := x
  rcases p with _ | p <;> rcases d with _ | d <;> rcases q with _ | q <;> (show _ = _; kernel_rfl))⟩
/-- More than twenty programs. -/
def tvGd (po n : Nat) (p : Nat × Nat × Nat) : Bool := Nat.beq p.1 po && Nat.beq p.2.1 n && Nat.ble n p.2.2 && decide (20 < n) && decide (n ≤ 9223372036854775807)
theorem s_tv {gl : Gl} (hgl : Low gl) {po n : Nat} (hT : GlT gl po n) : SubOK Tryz.prog gl 8 (hA noL decTv (fun _ x => ifT (tvGd po n x.1) true) bO) := hA_weak (s_tv0 hgl hT) fun _ x b hb => by
  obtain ⟨h1, rfl⟩ := ifT_run hb
  obtain ⟨p, d⟩ := x
  simp only [tvGd, Bool.and_eq_true, decide_eq_true_eq] at h1
  obtain ⟨⟨⟨⟨p1, p2⟩, p3⟩, p4⟩, p5⟩ := h1
  have p2' := Nat.eq_of_beq_eq_true p2
  have hg : (tvG po n (true, ⟨0, 0, p, p, (p.2.1 : Int), d⟩) && decide (((true, (⟨0, 0, p, p, (p.2.1 : Int), d⟩ : HvS)) : TvZ).2.i = 0) && decide (0 < n)) = true := by
    simp only [tvG, Bool.and_eq_true, decide_eq_true_eq]
    exact ⟨⟨⟨⟨⟨⟨⟨⟨p1, p2⟩, p3⟩, by rw [p2']⟩, by simp⟩, by simp⟩, p5⟩, trivial⟩, by omega⟩
  have hs : (tvSp po n (true, ⟨0, 0, p, p, (p.2.1 : Int), d⟩)).run = some (false, ⟨(n : Int), 0, p, p, (p.2.1 : Int), d⟩) := by
    unfold tvSp ifT
    rw [run_br, hg]; rfl
  show (do let r ← tvSp po n (true, ⟨0, 0, p, p, (p.2.1 : Int), d⟩); .br (decide ((r.2.y.2.1 : Int) > 20)) (pure true) .fail : DT Bool).run = _
  rw [run_bind, hs, Option.bind_some, run_br]
  show cond (decide ((p.2.1 : Int) > 20)) _ _ = _
  rw [decide_eq_true (show (p.2.1 : Int) > 20 by omega)]; rfl
def decDkP : Dec (Cfg × (Nat × Nat × Nat) × Sl × Sl) := ⟨fun vs => (decDk.dec vs).bind fun k => k.p.map fun p => (k.c, p, k.d, k.q), fun x => decDk.enc ⟨x.1, some x.2.1, x.2.2.1, x.2.2.2⟩, fun vs x h => by
  obtain ⟨⟨c, p, d, q⟩, h1, h2⟩ := Option.bind_eq_some_iff.1 h
  obtain ⟨p', h3, rfl⟩ := Option.map_eq_some_iff.1 h2
  have h3 : p = some p' := h3
  subst h3
  exact decDk.ok _ _ h1⟩
def HT31 (po n : Nat) : Hs := hsOf [] [(8, hA noL decTv (fun _ x => ifT (tvGd po n x.1) true) bO)] []
set_option maxRecDepth 100000 in
theorem s_tk {gl : Gl} (hgl : Low gl) {po n : Nat} (hT : GlT gl po n) : SubOK Tryz.prog gl 4 (hA (noL) (decDkP) (fun _ x => ifT (tvGd po n x.2.1) true) (bO)) := hA_sub hgl fun k x => ⟨syG [], HT31 po n, noV, syG_ok _, hsOf_ok fx0 (sxC (s_tv hgl hT) sx0) lx0, (by
  obtain ⟨c, p, d, q⟩ := x
  rcases d with _ | d <;> rcases q with _ | q <;> (show _ = _; kernel_rfl))⟩
def afW1 : AF := fun args _ => match args with
  | [] => some (true, .bool true)
  | _ => none
def HLaw (hv : Hd) (P : Pgs) (D : Dat) (Q : Pks) : Hs := hsOf [(5, afW1)] [(4, hv), (6, hA noL decDk (fun _ => ptC P D Q) ipO), (7, hA noL decDk (fun _ => rtC P D Q) ipO)] []
def dpK (P : Pgs) (D : Dat) (Q : Pks) (k : DkS) : DT Bool := do
  chk (hvGd P k.p)
  .br (hvy P k.p k.d) (pure true) (.br (decide ((k.q.n : Int) > 70000)) (pure true) (do
    chk (dkG P D Q k)
    chk (dkG P D Q k && D.2.2.all wordG)
    .br ((dkF k.c P.2.2 D.2.2 k.d.n Q.2).1.toList == (dkF k.c P.2.2 D.2.2 k.d.n Q.2).1.toList) (.br ((dkF k.c P.2.2 D.2.2 k.d.n Q.2).2 == (dkF k.c P.2.2 D.2.2 k.d.n Q.2).2) (pure true) (pure false)) (pure false)))
theorem HLaw_ok {gl : Gl} {hv : Hd} {P : Pgs} {D : Dat} {Q : Pks} (hgl : Low gl) (hW : FnOK Tryz.prog gl 5 afW1) (h1 : SubOK Tryz.prog gl 4 hv) (hK : GlK gl P D Q) : (HLaw hv P D Q).OK Tryz.prog gl :=
  hsOf_ok (fxC hW fx0) (sxC h1 (sxC (s_put hgl hK) (sxC (s_rt hgl hK) sx0))) lx0
set_option maxRecDepth 100000 in
theorem s_dp {gl : Gl} (hgl : Low gl) {P : Pgs} {D : Dat} {Q : Pks} (hW : FnOK Tryz.prog gl 5 afW1) (hK : GlK gl P D Q) : SubOK Tryz.prog gl 3 (hA (noL) (decDk) (fun _ => dpK P D Q) (bO)) := hA_sub hgl fun k x => ⟨syG [], HLaw (hA noL decDk (fun _ => hvK P) bO) P D Q, noV, syG_ok _, HLaw_ok hgl hW (s_hk hgl hK.PD.P) hK, (by
  obtain ⟨c, p, d, q⟩ := x
  rcases p with _ | p <;> rcases d with _ | d <;> rcases q with _ | q <;> (show _ = _; kernel_rfl))⟩
def HLawT (po n : Nat) : Hs := hsOf [(5, afW1)] [(4, hA noL decDkP (fun _ x => ifT (tvGd po n x.2.1) true) bO)] []
set_option maxRecDepth 100000 in
theorem s_dpT {gl : Gl} (hgl : Low gl) {po n : Nat} (hW : FnOK Tryz.prog gl 5 afW1) (hT : GlT gl po n) : SubOK Tryz.prog gl 3 (hA (noL) (decDkP) (fun _ x => ifT (tvGd po n x.2.1) true) (bO)) := hA_sub hgl fun k x => ⟨syG [], HLawT po n, noV, syG_ok _, hsOf_ok (fxC hW fx0) (sxC (s_tk hgl hT) sx0) lx0, (by
  obtain ⟨c, p, d, q⟩ := x
  rcases d with _ | d <;> rcases q with _ | q <;> (show _ = _; kernel_rfl))⟩
theorem dp_run {P : Pgs} {D : Dat} {Q : Pks} {k : DkS} (h1 : hvGd P k.p = true) (h2 : dkG P D Q k = true) (h3 : D.2.2.all wordG = true) : (dpK P D Q k).run = some true := by
  unfold dpK
  rw [run_bind, chk_run, h1]
  show (DT.br _ _ _).run = _
  rw [run_br, run_br]
  cases hvy P k.p k.d with
  | true => rfl
  | false =>
    cases decide ((k.q.n : Int) > 70000) with
    | true => rfl
    | false =>
      show (do chk (dkG P D Q k); chk (dkG P D Q k && D.2.2.all wordG); _ : DT Bool).run = _
      rw [run_bind, chk_run, h2, cond_true, Option.bind_some, run_bind, chk_run, h3]
      show (DT.br _ _ _).run = _
      rw [run_br, run_br, beq_self_eq_true, beq_self_eq_true]; rfl
end Go.Proofs.YtpckfdopokmbkaaGreatDoor.Ev

namespace Go.Proofs.YtpckfdopokmbkaaGreatDoor.Ev
open Go
open Go.Proofs Go.RowKit

/-! undertowlaw31: the listed variable; works: true. -/
def glX : Gl := glOf [(0, formsL.map (.int .i64))]
theorem glX_low : Low glX := lowTabs (by rfl)
theorem glX_F : GlF glX := fun i z h => by
  show (formsL.map (Value.int .i64))[i]? = _
  rw [List.getElem?_map, h]
  rfl
set_option maxRecDepth 100000 in
theorem works31_0 : isT (callF Tryz.prog glX (fun _ => none) [] 5000 100 40 (.fn 5) [] LS.start) = true := by kernel_rfl
theorem memo31 : MemoOK Tryz.prog glX 5 := memoM_ok goodT glX_low tglob (fun f hf => by cases hf) works31_0
theorem memo_mono {gl gl' : Gl} {f : FuncId} (h : ∀ g k v, gl g k = some v → gl' g k = some v) (hm : MemoOK Tryz.prog gl f) : MemoOK Tryz.prog gl' f := fun φ σ w hr => hm φ σ w (hr.gl_mono h)
end Go.Proofs.YtpckfdopokmbkaaGreatDoor.Ev

namespace Go.Proofs.YtpckfdopokmbkaaGreatDoor.Ev
open Go
open Go.Proofs Go.RowKit Go.ChangeShapes Go.WideShapes Go.ChangeAt

/-! Rows that come in. -/
theorem list_of {α : Type} {Q : Nat → α → Prop} : ∀ n : Nat, (∀ i, i < n → ∃ e, Q i e) → ∃ zs : List α, zs.length = n ∧ ∀ i e, zs[i]? = some e → Q i e
  | 0, _ => ⟨[], rfl, fun i e h => by simp at h⟩
  | n + 1, h => by
    obtain ⟨zs, h1, h2⟩ := list_of n fun i hi => h i (by omega)
    obtain ⟨e, he⟩ := h n (by omega)
    refine ⟨zs ++ [e], by simp [h1], fun i e' h3 => ?_⟩
    rcases Nat.lt_or_ge i n with hi | hi
    · rw [List.getElem?_append_left (by omega)] at h3
      exact h2 i e' h3
    · rw [List.getElem?_append_right (by omega), h1] at h3
      rcases Nat.eq_or_lt_of_le hi with rfl | hi
      · simp at h3; subst h3; exact he
      · rw [List.getElem?_eq_none (by simp; omega)] at h3; cases h3
theorem cell_spot {w : World} {a : Addr} {y : Value} (h : w.cell? a = some y) : a.spot = none ∧ a.block < w.heap.size := by
  unfold World.cell? at h
  split at h
  · rename_i c e f hb
    split at h
    · cases h
    · rename_i hs
      exact ⟨by simpa using hs, (Array.getElem?_eq_some_iff.1 hb).1⟩
  · cases h
theorem cells_at {w : World} {a : Addr} {k n : Nat} {cs : List Value} (h0 : 1 ≤ n) (h : w.cells? 0 (a.add (k * n)) n = some cs) : a.block < w.heap.size ∧ (k = 0 → a.spot = none) ∧ cs.length = n ∧ ∀ j, j < n → ∃ y, cs[j]? = some y ∧ w.cell? ⟨a.block, a.off + k * n + j, none⟩ = some y := by
  obtain ⟨_, hl, hat⟩ := World.cells?_some h
  have hget : ∀ j, j < n → ∃ y, cs[j]? = some y ∧ w.cell? ((a.add (k * n)).add j) = some y := fun j hj => ⟨cs[j]'(by omega), List.getElem?_eq_getElem (by omega), by rw [hat j hj]; exact List.getElem?_eq_getElem (by omega)⟩
  have hblk : ∀ m, (a.add m).block = a.block := fun m => by unfold Addr.add; split <;> rfl
  have hoff : ∀ (b : Addr) m, (b.add m).off = b.off + m := fun b m => by
    unfold Addr.add
    split
    · rename_i h; subst h; rfl
    · rfl
  obtain ⟨y0, _, h1⟩ := hget 0 (by omega)
  have hs0 := cell_spot h1
  have e0 : (a.add (k * n)).add 0 = a.add (k * n) := if_pos rfl
  rw [e0] at hs0
  refine ⟨by rw [← hblk (k * n)]; exact hs0.2, fun hk => ?_, hl, fun j hj => ?_⟩
  · subst hk
    rw [Nat.zero_mul] at hs0
    exact hs0.1
  · obtain ⟨y, g1, g2⟩ := hget j hj
    refine ⟨y, g1, ?_⟩
    rw [← g2]
    have hsp := (cell_spot g2).1
    have : (⟨a.block, a.off + k * n + j, none⟩ : Addr) = (a.add (k * n)).add j := by
      have hb : ((a.add (k * n)).add j).block = a.block := by
        show _ = _
        rw [show ((a.add (k * n)).add j).block = (a.add (k * n)).block by unfold Addr.add; split <;> split <;> rfl]
        exact hblk _
      have ho : ((a.add (k * n)).add j).off = a.off + k * n + j := by rw [hoff, hoff]
      rw [← hb, ← ho, ← hsp]
    rw [this]
/-- A slice, in its cells. -/
def AtIn (w : World) (a : Addr) (len cap : Nat) : Prop := len ≤ cap ∧ cap ≤ 9223372036854775807 ∧ (cap ≠ 0 → a.spot = none ∧ a.block < w.heap.size)
set_option maxRecDepth 100000 in
theorem open_sl {H : Type} {enc : TypeId × Value → H} {w : World} {held : Bool} {t e n m : Nat} {cs : List Value} {x : DataW H × List MemPlace} (ht : Tryz.prog.underlying t = some (.slice e)) (hn : Tryz.prog.cellsOf e = n) (h0 : 1 ≤ n)
    (h : DataW.trod enc Tryz.prog w 0 (fun _ => true) held m t cs = some x) :
    cs = [.slice none 0 0] ∨ ∃ (a : Addr) (len cap m' : Nat), cs = [.slice (some a) len cap] ∧ AtIn w a len cap ∧ ∀ i, i < len → ∃ es x, es.length = n ∧ (∀ j, j < n → ∃ y, es[j]? = some y ∧ w.cell? ⟨a.block, a.off + i * n + j, none⟩ = some y) ∧ DataW.trod enc Tryz.prog w 0 (fun _ => true) held m' e es = some x := by
  rcases DataW.trod_slice ht h with ⟨hn, _⟩ | ⟨a, len, cap, elems, rest, m', _, hcs, _, _, hlc, hcm, hel, hi, hsp, _⟩
  · exact .inl hn
  · have hmx : maxLen = 9223372036854775807 := by kernel_rfl
    refine .inr ⟨a, len, cap, m', hcs, ⟨hlc, by omega, fun hc => ?_⟩, fun i hlt => ?_⟩
    · rcases Nat.eq_zero_or_pos len with hl0 | hl0
      · obtain ⟨g1, g2⟩ := hsp rfl
        have h1 := g2 0 (by omega)
        rw [List.getElem?_eq_getElem (by omega)] at h1
        obtain ⟨cs', h2, _⟩ := Option.bind_eq_some_iff.1 h1
        rw [hn, hl0] at h2
        have := cells_at (k := 0) h0 h2
        exact ⟨this.2.1 rfl, this.1⟩
      · have h1 := hi 0 hl0
        rw [List.getElem?_eq_getElem (by omega)] at h1
        obtain ⟨cs', h2, _⟩ := Option.bind_eq_some_iff.1 h1
        rw [hn] at h2
        have := cells_at (k := 0) h0 h2
        exact ⟨this.2.1 rfl, this.1⟩
    · have h1 := hi i hlt
      rw [List.getElem?_eq_getElem (by omega)] at h1
      obtain ⟨cs', h2, h3⟩ := Option.bind_eq_some_iff.1 h1
      rw [hn] at h2
      obtain ⟨_, _, k1, k2⟩ := cells_at h0 h2
      exact ⟨cs', _, k1, k2, h3⟩
theorem trodI {H : Type} {enc : TypeId × Value → H} {w : World} {held : Bool} {m t : Nat} {k : IntKind} {cs : List Value} {x : DataW H × List MemPlace} (ht : Tryz.prog.underlying t = some (.int k)) (h : DataW.trod enc Tryz.prog w 0 (fun _ => true) held m t cs = some x) : ∃ z, cs = [.int k z] ∧ (Lit.int k z).wf = true := by
  obtain ⟨z, h1, _, h2⟩ := DataW.trod_int ht h
  exact ⟨z, h1, h2⟩
theorem u32_bounds {n : Int} (h : (Lit.int .u32 n).wf = true) : wordG n = true := by
  simp only [Lit.wf, Bool.and_eq_true, decide_eq_true_eq] at h
  have e1 : IntKind.min .u32 = 0 := by decide +kernel
  have e2 : IntKind.max .u32 = 4294967295 := by decide +kernel
  rw [e1, e2] at h
  exact andI (decide_eq_true h.1) (decide_eq_true (by omega))
/-- Words in a row. -/
def WsIn (w : World) (a : Addr) (ws : List Int) : Prop := (∀ (i : Nat) z, ws[i]? = some z → w.cell? ⟨a.block, a.off + i, none⟩ = some (.int .u32 z)) ∧ ws.all wordG = true
def PgIn (w : World) (v : Value) : Pg → Prop
  | none => v = .slice none 0 0
  | some q => ∃ a, v = .slice (some a) q.2.2.length q.2.1 ∧ a.off = q.1 ∧ AtIn w a q.2.2.length q.2.1 ∧ WsIn w a q.2.2
set_option maxRecDepth 100000 in
theorem open_pg {H : Type} {enc : TypeId × Value → H} {w : World} {held : Bool} {m : Nat} {cs : List Value} {x : DataW H × List MemPlace} (h : DataW.trod enc Tryz.prog w 0 (fun _ => true) held m 46 cs = some x) : ∃ v p, cs = [v] ∧ PgIn w v p := by
  rcases open_sl (n := 1) Tryz.underlying46 (by kernel_rfl) (by decide) h with h | ⟨a, len, cap, m', hcs, hat, hi⟩
  · exact ⟨_, none, h, rfl⟩
  · obtain ⟨ws, hl, hq⟩ := list_of (Q := fun i (x : Int) => w.cell? ⟨a.block, a.off + i, none⟩ = some (.int .u32 x) ∧ wordG x = true) len fun i hlt => by
      obtain ⟨es, x, h1, h2, h3⟩ := hi i hlt
      obtain ⟨z, rfl, g2⟩ := trodI Tryz.underlying45 h3
      obtain ⟨y, h4, h5⟩ := h2 0 (by decide)
      cases h4
      rw [Nat.mul_one, Nat.add_zero] at h5
      exact ⟨z, h5, u32_bounds g2⟩
    subst hl
    exact ⟨_, some (a.off, cap, ws), hcs, a, rfl, rfl, hat, fun i z hz => (hq i z hz).1, List.all_eq_true.2 fun z hz => by
      obtain ⟨i, hi⟩ := List.getElem?_of_mem hz
      exact (hq i z hi).2⟩
/-- A row of programs. -/
def PsIn (w : World) (v : Value) (q : Option (Addr × Nat)) (ps : List Pg) : Prop := match q with
  | none => v = .slice none 0 0 ∧ ps = []
  | some (a, cap) => v = .slice (some a) ps.length cap ∧ AtIn w a ps.length cap ∧ ∀ (i : Nat) p, ps[i]? = some p → ∃ u, w.cell? ⟨a.block, a.off + i, none⟩ = some u ∧ PgIn w u p
set_option maxRecDepth 100000 in
theorem open_ps {H : Type} {enc : TypeId × Value → H} {w : World} {held : Bool} {m : Nat} {cs : List Value} {x : DataW H × List MemPlace} (h : DataW.trod enc Tryz.prog w 0 (fun _ => true) held m 24 cs = some x) : ∃ v q ps, cs = [v] ∧ PsIn w v q ps := by
  rcases open_sl (n := 1) Tryz.underlying24 (by kernel_rfl) (by decide) h with h | ⟨a, len, cap, m', hcs, hat, hi⟩
  · exact ⟨_, none, [], h, rfl, rfl⟩
  · obtain ⟨ps, hl, hq⟩ := list_of (Q := fun i (p : Pg) => ∃ u, w.cell? ⟨a.block, a.off + i, none⟩ = some u ∧ PgIn w u p) len fun i hlt => by
      obtain ⟨es, x, h1, h2, h3⟩ := hi i hlt
      obtain ⟨v, p, rfl, g2⟩ := open_pg h3
      obtain ⟨y, h4, h5⟩ := h2 0 (by decide)
      cases h4
      rw [Nat.mul_one, Nat.add_zero] at h5
      exact ⟨p, v, h5, g2⟩
    subst hl
    exact ⟨_, some (a, cap), ps, hcs, rfl, hat, hq⟩
/-- A row of blocks, in words. -/
def BsIn (w : World) (v : Value) (q : Option (Addr × Nat × Nat)) (ws : List Int) : Prop := match q with
  | none => v = .slice none 0 0 ∧ ws = []
  | some (a, len, cap) => v = .slice (some a) len cap ∧ AtIn w a len cap ∧ len * 16 = ws.length ∧ WsIn w a ws
set_option maxRecDepth 100000 in
theorem open_bl {H : Type} {enc : TypeId × Value → H} {w : World} {held : Bool} {m : Nat} {cs : List Value} {x : DataW H × List MemPlace} (h : DataW.trod enc Tryz.prog w 0 (fun _ => true) held m 49 cs = some x) : ∀ j, j < 16 → ∃ z, cs[j]? = some (.int .u32 z) ∧ wordG z = true := by
  obtain ⟨xs, n, _, _, hl, hxl, hi⟩ := DataW.trod_array (n := 16) (e := 45) Tryz.underlying49 h
  have e1 : Tryz.prog.cellsOf 45 = 1 := by kernel_rfl
  have e16 : Tryz.prog.cellsOf 49 = 16 := by kernel_rfl
  rw [e16] at hl
  intro j hj
  have h1 := hi j hj
  rw [e1, Nat.mul_one, List.getElem?_eq_getElem (by omega)] at h1
  obtain ⟨z, g1, g2⟩ := trodI Tryz.underlying45 h1
  refine ⟨z, ?_, u32_bounds g2⟩
  have : ((cs.drop j).take 1)[0]? = some (.int .u32 z) := by rw [g1]; rfl
  simpa using this
set_option maxRecDepth 100000 in
theorem open_bs {H : Type} {enc : TypeId × Value → H} {w : World} {held : Bool} {m : Nat} {cs : List Value} {x : DataW H × List MemPlace} (h : DataW.trod enc Tryz.prog w 0 (fun _ => true) held m 25 cs = some x) : ∃ v q ws, cs = [v] ∧ BsIn w v q ws := by
  rcases open_sl (n := 16) Tryz.underlying25 (by kernel_rfl) (by decide) h with h | ⟨a, len, cap, m', hcs, hat, hi⟩
  · exact ⟨_, none, [], h, rfl, rfl⟩
  · obtain ⟨ws, hl, hq⟩ := list_of (Q := fun i (x : Int) => w.cell? ⟨a.block, a.off + i, none⟩ = some (.int .u32 x) ∧ wordG x = true) (len * 16) fun i hlt => by
      obtain ⟨es, x, h1, h2, h3⟩ := hi (i / 16) (by omega)
      obtain ⟨z, g1, g2⟩ := open_bl h3 (i % 16) (by omega)
      obtain ⟨y, h4, h5⟩ := h2 (i % 16) (by omega)
      rw [g1] at h4; cases h4
      rw [show a.off + i / 16 * 16 + i % 16 = a.off + i by omega] at h5
      exact ⟨z, h5, g2⟩
    exact ⟨_, some (a, len, cap), ws, hcs, rfl, hat, hl.symm, fun i z hz => (hq i z hz).1, List.all_eq_true.2 fun z hz => by
      obtain ⟨i, hi⟩ := List.getElem?_of_mem hz
      exact (hq i z hi).2⟩
/-- A row of picks. -/
def QsIn (w : World) (v : Value) (q : Option (Addr × Nat)) (l : List Pk) : Prop := match q with
  | none => v = .slice none 0 0 ∧ l = []
  | some (a, cap) => v = .slice (some a) l.length cap ∧ AtIn w a l.length cap ∧ ∀ (i : Nat) p, l[i]? = some p → w.cell? ⟨a.block, a.off + i * 2, none⟩ = some (.int .u8 p.1) ∧ w.cell? ⟨a.block, a.off + i * 2 + 1, none⟩ = some (.int .i64 p.2)
set_option maxRecDepth 100000 in
theorem open_qs {H : Type} {enc : TypeId × Value → H} {w : World} {held : Bool} {m : Nat} {cs : List Value} {x : DataW H × List MemPlace} (h : DataW.trod enc Tryz.prog w 0 (fun _ => true) held m 26 cs = some x) : ∃ v q l, cs = [v] ∧ QsIn w v q l := by
  rcases open_sl (n := 2) Tryz.underlying26 (by kernel_rfl) (by decide) h with h | ⟨a, len, cap, m', hcs, hat, hi⟩
  · exact ⟨_, none, [], h, rfl, rfl⟩
  · obtain ⟨l, hl, hq⟩ := list_of (Q := fun i (p : Pk) => w.cell? ⟨a.block, a.off + i * 2, none⟩ = some (.int .u8 p.1) ∧ w.cell? ⟨a.block, a.off + i * 2 + 1, none⟩ = some (.int .i64 p.2)) len fun i hlt => by
      obtain ⟨es, x, h1, h2, h3⟩ := hi i hlt
      obtain ⟨xs, n, _, _, hl, hlen, hf⟩ := DataW.trod_struct Tryz.underlying51 h3
      have hlen : xs.length = 2 := hlen
      obtain ⟨v0, v1, rfl⟩ : ∃ v0 v1, es = [v0, v1] := by
        match es, h1 with
        | [v0, v1], _ => exact ⟨v0, v1, rfl⟩
      have e8 : Tryz.prog.cellsOf 5 = 1 := by kernel_rfl
      have e3 : Tryz.prog.cellsOf 3 = 1 := by kernel_rfl
      have f0 : DataW.trod enc Tryz.prog w 0 (fun _ => true) held n 5 (([v0, v1].drop 0).take (Tryz.prog.cellsOf 5)) = xs[0]? := hf 0 _ rfl
      have f1 : DataW.trod enc Tryz.prog w 0 (fun _ => true) held n 3 (([v0, v1].drop 1).take (Tryz.prog.cellsOf 3)) = xs[1]? := hf 1 _ rfl
      rw [e8, List.getElem?_eq_getElem (by omega)] at f0
      rw [e3, List.getElem?_eq_getElem (by omega)] at f1
      obtain ⟨z0, g0, _⟩ := trodI Tryz.underlying5 f0
      obtain ⟨z1, g1, _⟩ := trodI Tryz.underlying3 f1
      cases g0; cases g1
      obtain ⟨y, h4, h5⟩ := h2 0 (by decide)
      obtain ⟨y', h6, h7⟩ := h2 1 (by decide)
      cases h4; cases h6
      exact ⟨(z0, z1), h5, h7⟩
    subst hl
    exact ⟨_, some (a, cap), l, hcs, rfl, hat, hq⟩
end Go.Proofs.YtpckfdopokmbkaaGreatDoor.Ev

namespace Go.Proofs.YtpckfdopokmbkaaGreatDoor.Ev
open Go
open Go.Proofs Go.RowKit Go.ChangeShapes Go.WideShapes Go.ChangeAt

/-! What comes in is lent: rows under numbers of their own. -/
theorem glK_lowV {gl : Gl} (hgl : Low gl) {b off : Nat} {cs : List Value} (hb : b < 1000) (hc : ∀ v ∈ cs, lowV 8 v = true) : Low (glK gl b off cs) := by
  intro g k v h
  unfold glK at h
  rw [Bool.cond_eq_ite] at h
  split at h
  · rename_i e
    rw [Nat.eq_of_beq_eq_true e]
    refine ⟨hb, ?_⟩
    rw [Bool.cond_eq_ite] at h
    split at h
    · exact hc v (List.mem_of_getElem? h)
    · cases h
  · exact hgl g k v h
theorem glK_ext {gl : Gl} {b off : Nat} {cs : List Value} (hg : ∀ k, gl b k = none) : ∀ g k v, gl g k = some v → glK gl b off cs g k = some v := fun g k v h => by
  unfold glK
  cases e : Nat.beq g b with
  | false => exact h
  | true => rw [Nat.eq_of_beq_eq_true e, hg] at h; cases h
theorem glK_ne {gl : Gl} {b off i : Nat} {cs : List Value} (h : i ≠ b) (k : Nat) : glK gl b off cs i k = gl i k := by
  unfold glK
  rw [show Nat.beq i b = false from by cases e : Nat.beq i b; rfl; exact absurd (Nat.eq_of_beq_eq_true e) h]; rfl
theorem glK_at {gl : Gl} {b off i : Nat} {cs : List Value} {v : Value} (h : cs[i]? = some v) : glK gl b off cs b (off + i) = some v := by
  unfold glK
  rw [show Nat.beq b b = true by simp, nbl (show off ≤ off + i by omega), show off + i - off = i by omega]
  exact h
theorem Rel.addV {P : Program} {gl : Gl} {φ : Phi} {w : World} (hr : Rel P gl φ LS.start w) {b off blk : Nat} {cs : List Value} (hb : b < 1000) (hφ : φ b = none) (hcs : ∀ (i : Nat) v, cs[i]? = some v → ∃ v', w.cell? ⟨blk, off + i, none⟩ = some v' ∧ VR φ v v') (hblk : blk < w.heap.size) :
    Rel P (glK gl b off cs) (φ.set b ⟨blk, none⟩) LS.start w := by
  have hle : φ.le (φ.set b ⟨blk, none⟩) := Phi.le_set hφ _
  have no : ∀ {i : Nat} {o : LObj}, LS.start.heap.get i = some o → False := fun h => by rw [start_get] at h; cases h
  refine ⟨fun i o h => (no h).elim, fun i j o o' r r' c h => (no h).elim, fun i hi => ?_, fun i r h => ?_, fun i o r c h => (no h).elim, fun g k v h => ?_, fun g hg => ?_, hr.size, fun i rows outs r h => (no h).elim⟩
  · have hi : 1000 ≤ i := hi
    have : i ≠ b := by omega
    simp only [Phi.set, this, if_false]
    exact hr.fresh i hi
  · by_cases e : i = b
    · subst e
      simp only [Phi.set, if_true] at h
      cases h
      exact hblk
    · simp only [Phi.set, e, if_false] at h
      exact hr.bound i r h
  · unfold glK at h
    rw [Bool.cond_eq_ite] at h
    split at h
    · rename_i e
      have e := Nat.eq_of_beq_eq_true e
      subst e
      rw [Bool.cond_eq_ite] at h
      split at h
      · rename_i ho
        have ho := Nat.le_of_ble_eq_true ho
        obtain ⟨v', h1, h2⟩ := hcs _ v h
        rw [show off + (k - off) = k from by omega] at h1
        exact ⟨blk, by simp [Phi.set], v', h1, h2.mono hle⟩
      · cases h
    · obtain ⟨b', h5, v', h6, h7⟩ := hr.glob g k v h
      exact ⟨b', hle _ _ h5, v', h6, h7.mono hle⟩
  · exact hle _ _ (hr.stat g hg)
/-- A place that a slice has, seen from here. -/
theorem VR.lent {φ : Phi} {b : Nat} {w : World} {a : Addr} {len cap : Nat} (hat : AtIn w a len cap) (h : φ b = some ⟨cond (Nat.beq cap 0) 0 a.block, none⟩) : VR φ (wSl' b a.off len cap) (.slice (some a) len cap) := by
  refine .slice _ _ _ _ _ ⟨rfl, fun hc => (hat.2.2 hc).1, _, h, fun hc => ?_, fun _ => ⟨fun _ => rfl, rfl⟩, fun S z s e => by cases e⟩
  show a.block = cond (Nat.beq cap 0) 0 a.block
  rw [show Nat.beq cap 0 = false from by cases e : Nat.beq cap 0; rfl; exact absurd (Nat.eq_of_beq_eq_true e) hc]; rfl
/-- Where we stand: what is known, and that nothing is known of the numbers from here to there. -/
structure Lent (gl0 gl : Gl) (φ : Phi) (w : World) (lo hi : Nat) : Prop where
  rel : Rel Tryz.prog gl φ LS.start w
  low : Low gl
  up : ∀ g k v, gl0 g k = some v → gl g k = some v
  no : ∀ i, lo ≤ i → i < hi → φ i = none ∧ ∀ k, gl i k = none
theorem heap_pos {gl : Gl} {φ : Phi} {w : World} (hr : Rel Tryz.prog gl φ LS.start w) : 0 < w.heap.size := by have := hr.size.1; omega
theorem Lent.add {gl0 gl : Gl} {φ : Phi} {w : World} {lo hi : Nat} (h : Lent gl0 gl φ w lo hi) (h1 : lo < hi) (h2 : hi ≤ 1000) {a : Addr} {len cap : Nat} (hat : AtIn w a len cap) {cs : List Value} (hc : ∀ v ∈ cs, lowV 8 v = true) (hl : cs ≠ [] → cap ≠ 0)
    (hcs : ∀ (i : Nat) v, cs[i]? = some v → ∃ v', w.cell? ⟨a.block, a.off + i, none⟩ = some v' ∧ VR φ v v') :
    Lent gl0 (glK gl lo a.off cs) (φ.set lo ⟨cond (Nat.beq cap 0) 0 a.block, none⟩) w (lo + 1) hi ∧ φ.le (φ.set lo ⟨cond (Nat.beq cap 0) 0 a.block, none⟩) ∧ VR (φ.set lo ⟨cond (Nat.beq cap 0) 0 a.block, none⟩) (wSl' lo a.off len cap) (.slice (some a) len cap) := by
  obtain ⟨n1, n2⟩ := h.no lo (Nat.le_refl _) h1
  have hblk : cond (Nat.beq cap 0) 0 a.block < w.heap.size := by
    cases e : Nat.beq cap 0 with
    | true => exact heap_pos h.rel
    | false => exact (hat.2.2 (Nat.ne_of_beq_eq_false e)).2
  refine ⟨⟨h.rel.addV (by omega) n1 (fun i v hv => ?_) hblk, glK_lowV h.low (by omega) hc, fun g k v hg => glK_ext n2 _ _ _ (h.up _ _ _ hg), fun i i1 i2 => ?_⟩, Phi.le_set n1 _, VR.lent hat (by simp [Phi.set])⟩
  · have : cs ≠ [] := fun e => by rw [e] at hv; cases hv
    rw [show Nat.beq cap 0 = false from by cases e : Nat.beq cap 0; rfl; exact absurd (Nat.eq_of_beq_eq_true e) (hl this)]
    exact hcs i v hv
  · have hne : i ≠ lo := by omega
    refine ⟨?_, fun k => ?_⟩
    · simp only [Phi.set, hne, if_false]
      exact (h.no i (by omega) i2).1
    · rw [glK_ne hne]
      exact (h.no i (by omega) i2).2 k
theorem Lent.skip {gl0 gl : Gl} {φ : Phi} {w : World} {lo hi : Nat} (h : Lent gl0 gl φ w lo hi) : Lent gl0 gl φ w (lo + 1) hi := ⟨h.rel, h.low, h.up, fun i i1 i2 => h.no i (by omega) i2⟩
def wV (ws : List Int) : List Value := ws.map (Value.int .u32)
theorem wV_low (ws : List Int) : ∀ v ∈ wV ws, lowV 8 v = true := fun v hv => by
  obtain ⟨z, _, rfl⟩ := List.mem_map.1 hv
  rfl
theorem wV_in {φ : Phi} {w : World} {a : Addr} {ws : List Int} (h : WsIn w a ws) : ∀ (i : Nat) v, (wV ws)[i]? = some v → ∃ v', w.cell? ⟨a.block, a.off + i, none⟩ = some v' ∧ VR φ v v' := fun i v hv => by
  unfold wV at hv
  rw [List.getElem?_map] at hv
  obtain ⟨z, hz, rfl⟩ := Option.map_eq_some_iff.1 hv
  exact ⟨_, h.1 i z hz, .int _ _⟩
theorem wV_gl {gl : Gl} {b off : Nat} {ws : List Int} : GlW (glK gl b off (wV ws)) b off ws := fun i z h => glK_at (by unfold wV; rw [List.getElem?_map, h]; rfl)
theorem GlW.up {gl gl' : Gl} (h : ∀ g k v, gl g k = some v → gl' g k = some v) {b off : Nat} {ws : List Int} (hw : GlW gl b off ws) : GlW gl' b off ws := fun i z hz => h _ _ _ (hw i z hz)
theorem lent_pgs (gl0 : Gl) (w : World) (hi : Nat) (h2 : hi ≤ 1000) : ∀ (ps : List Pg) (us : List Value) (j : Nat) (gl : Gl) (φ : Phi), Lent gl0 gl φ w (903 + j) hi → 903 + j + ps.length ≤ hi → us.length = ps.length → (∀ (i : Nat) p u, ps[i]? = some p → us[i]? = some u → PgIn w u p) →
    ∃ gl' φ', Lent gl gl' φ' w (903 + j + ps.length) hi ∧ φ.le φ' ∧ (∀ i, i < 903 + j → (φ' i = φ i ∧ ∀ k, gl' i k = gl i k)) ∧ ∀ (i : Nat) p u, ps[i]? = some p → us[i]? = some u → VR φ' (pgV (j + i) p) u ∧ Pg.ok p = true ∧ ∀ q, p = some q → GlW gl' (903 + (j + i)) q.1 q.2.2
  | [], us, j, gl, φ, h, _, _, _ => ⟨gl, φ, ⟨h.rel, h.low, fun _ _ _ e => e, h.no⟩, fun _ _ e => e, fun _ _ => ⟨rfl, fun _ => rfl⟩, fun i p u e => by simp at e⟩
  | p :: ps, [], j, gl, φ, _, _, hl, _ => by cases hl
  | p :: ps, u :: us, j, gl, φ, h, hn, hl, hin => by
    simp only [List.length_cons] at hn hl
    have h0 := hin 0 p u rfl rfl
    have hin' : ∀ (i : Nat) p u, ps[i]? = some p → us[i]? = some u → PgIn w u p := fun i p' u' e1 e2 => hin (i + 1) p' u' e1 e2
    have done : ∀ (gl1 : Gl) (φ1 : Phi), Lent gl gl1 φ1 w (903 + (j + 1)) hi → φ.le φ1 → (∀ i, i < 903 + j → (φ1 i = φ i ∧ ∀ k, gl1 i k = gl i k)) → VR φ1 (pgV j p) u → Pg.ok p = true → (∀ q, p = some q → GlW gl1 (903 + j) q.1 q.2.2) →
        ∃ gl' φ', Lent gl gl' φ' w (903 + j + (ps.length + 1)) hi ∧ φ.le φ' ∧ (∀ i, i < 903 + j → (φ' i = φ i ∧ ∀ k, gl' i k = gl i k)) ∧ ∀ (i : Nat) p' u', (p :: ps)[i]? = some p' → (u :: us)[i]? = some u' → VR φ' (pgV (j + i) p') u' ∧ Pg.ok p' = true ∧ ∀ q, p' = some q → GlW gl' (903 + (j + i)) q.1 q.2.2 := by
      intro gl1 φ1 g1 g2 g3 g4 g5 g6
      obtain ⟨gl', φ', k1, k2, k3, k4⟩ := lent_pgs gl w hi h2 ps us (j + 1) gl1 φ1 ⟨g1.rel, g1.low, g1.up, g1.no⟩ (by omega) (by omega) hin'
      refine ⟨gl', φ', ⟨k1.rel, k1.low, fun g k v e => k1.up _ _ _ (g1.up _ _ _ e), fun i i1 i2 => k1.no i (by omega) i2⟩, fun i r e => k2 _ _ (g2 _ _ e), fun i hi => ⟨((k3 i (by omega)).1).trans (g3 i hi).1, fun k => ((k3 i (by omega)).2 k).trans ((g3 i hi).2 k)⟩, fun i p' u' e1 e2 => ?_⟩
      cases i with
      | zero =>
        cases e1; cases e2
        exact ⟨g4.mono k2, g5, fun q e => (g6 q e).up k1.up⟩
      | succ i =>
        have := k4 i p' u' e1 e2
        rw [show j + 1 + i = j + (i + 1) by omega] at this
        exact this
    cases p with
    | none =>
      have hu : u = .slice none 0 0 := h0
      subst hu
      exact done gl φ ⟨h.rel, h.low, fun _ _ _ e => e, fun i i1 i2 => h.no i (by omega) i2⟩ (fun _ _ e => e) (fun _ _ => ⟨rfl, fun _ => rfl⟩) (.nilSlice 0 0) rfl (fun q e => by cases e)
    | some q =>
      obtain ⟨a, hu, ha, hat, hws⟩ := h0
      subst hu
      obtain ⟨g1, g2, g3⟩ := h.add (by omega) h2 hat (wV_low q.2.2) (fun hne hc => hne (by
        have := hat.1
        rw [hc] at this
        rw [List.length_eq_zero_iff.1 (Nat.le_zero.1 this)]; rfl)) (wV_in hws)
      obtain ⟨n1, n2⟩ := h.no (903 + j) (Nat.le_refl _) (by omega)
      refine done _ _ ⟨g1.rel, g1.low, glK_ext n2, fun i i1 i2 => g1.no i (by omega) i2⟩ g2 (fun i hi => ⟨by
        simp only [Phi.set, show i ≠ 903 + j by omega, if_false], fun k => glK_ne (show i ≠ 903 + j by omega) k⟩) ?_ (andI (nbl hat.1) hws.2) (fun q' e => ?_)
      · show VR _ (wSl' (903 + j) q.1 q.2.2.length q.2.1) _
        rw [← ha]; exact g3
      · cases e
        rw [← ha]
        exact wV_gl
end Go.Proofs.YtpckfdopokmbkaaGreatDoor.Ev

namespace Go.Proofs.YtpckfdopokmbkaaGreatDoor.Ev
open Go
open Go.Proofs Go.RowKit Go.ChangeShapes Go.WideShapes Go.ChangeAt

/-! DeckPuts: true, of any deck. -/
theorem calls_of {gl : Gl} {φ : Phi} {W : World} {f : FuncId} {A : Type} {D : Dec A} {sp : A → DT Bool} (hs : SubOK Tryz.prog gl f (hA noL D (fun _ => sp) bO)) {x : A} (hd : D.dec (D.enc x) = some x) (hr : (sp x).run = some true) (hrel : Rel Tryz.prog gl φ LS.start W) {args : Array Value} (hl : LR φ (D.enc x) args.toList) :
    Calls Tryz.prog f args W (fun e W' => e = .returned (.bool true) ∧ Below W.heap.size W W') := by
  have h1 : hA noL D (fun _ => sp) bO (D.enc x) [] = some ((sp x).map bO) := by
    show ((noL.p []).bind fun k => (D.dec (D.enc x)).map fun x => (k, x)).map _ = _
    rw [hd]; rfl
  have h2 : ((sp x).map bO).run = some (.normal, [.bool true], []) := by rw [DT.run_map, hr]; rfl
  refine Calls.mono (hs _ [] _ .normal (.bool true) [] h1 h2 φ W args hrel hl) ?_
  rintro e w2 ⟨v', φ1, rfl, t, hv⟩
  cases hv
  exact ⟨rfl, t.below fun i o hi => by rw [show rowsOf [] = LS.start from rfl, start_get] at hi; cases hi⟩
def qV (l : List Pk) : List Value := (List.range (l.length * 2)).map fun k => cond (Nat.beq (k % 2) 0) (.int .u8 (nthP l (k / 2)).1) (.int .i64 (nthP l (k / 2)).2)
theorem qV_low (l : List Pk) : ∀ v ∈ qV l, lowV 8 v = true := fun v hv => by
  obtain ⟨z, _, rfl⟩ := List.mem_map.1 hv
  cases Nat.beq (z % 2) 0 <;> rfl
theorem qV_get (l : List Pk) {k : Nat} (h : k < l.length * 2) : (qV l)[k]? = some (cond (Nat.beq (k % 2) 0) (.int .u8 (nthP l (k / 2)).1) (.int .i64 (nthP l (k / 2)).2)) := by
  unfold qV
  rw [List.getElem?_map, List.getElem?_range h]; rfl
theorem nthP_get {l : List Pk} {i : Nat} {p : Pk} (h : l[i]? = some p) : nthP l i = p := by unfold nthP; rw [h]; rfl
theorem qV_gl {gl : Gl} {off : Nat} {l : List Pk} : GlPk (glK gl 902 off (qV l)) 902 off l := fun i p h => by
  have hi := (List.getElem?_eq_some_iff.1 h).1
  refine ⟨glK_at ?_, ?_⟩
  · rw [qV_get l (by omega), show i * 2 % 2 = 0 by omega, show i * 2 / 2 = i by omega, nthP_get h]; rfl
  · rw [Nat.add_assoc]
    refine glK_at ?_
    rw [qV_get l (by omega), show (i * 2 + 1) % 2 = 1 by omega, show (i * 2 + 1) / 2 = i by omega, nthP_get h]; rfl
theorem qV_in {φ : Phi} {w : World} {a : Addr} {l : List Pk} (h : ∀ (i : Nat) p, l[i]? = some p → w.cell? ⟨a.block, a.off + i * 2, none⟩ = some (.int .u8 p.1) ∧ w.cell? ⟨a.block, a.off + i * 2 + 1, none⟩ = some (.int .i64 p.2)) : ∀ (k : Nat) v, (qV l)[k]? = some v → ∃ v', w.cell? ⟨a.block, a.off + k, none⟩ = some v' ∧ VR φ v v' := fun k v hv => by
  have hk : k < l.length * 2 := by
    have := (List.getElem?_eq_some_iff.1 hv).1
    unfold qV at this
    simpa using this
  rw [qV_get l hk] at hv
  have hi : k / 2 < l.length := by omega
  obtain ⟨h1, h2⟩ := h (k / 2) _ (List.getElem?_eq_getElem hi)
  have hn : nthP l (k / 2) = l[k / 2] := nthP_get (List.getElem?_eq_getElem hi)
  rw [hn] at hv
  cases hm : Nat.beq (k % 2) 0 with
  | true =>
    rw [hm] at hv; cases hv
    have := Nat.eq_of_beq_eq_true hm
    rw [show a.off + k / 2 * 2 = a.off + k by omega] at h1
    exact ⟨_, h1, .int _ _⟩
  | false =>
    rw [hm] at hv; cases hv
    have := Nat.ne_of_beq_eq_false hm
    rw [show a.off + k / 2 * 2 + 1 = a.off + k by omega] at h2
    exact ⟨_, h2, .int _ _⟩
theorem glX_no {i : Nat} (h : 900 ≤ i) (k : Nat) : glX i k = none := by
  unfold glX glOf
  show cond _ _ _ = _
  rw [show Nat.beq i 0 = false from by cases e : Nat.beq i 0; rfl; have := Nat.eq_of_beq_eq_true e; omega]; rfl
/-- Data and picks lent. -/
theorem lend_dq {W : World} (hr : Rel Tryz.prog glX (phi0 Tryz.prog.globals.size []) LS.start W) {vd vq : Value} {qd : Option (Addr × Nat × Nat)} {ws : List Int} {qq : Option (Addr × Nat)} {l : List Pk} (hd : BsIn W vd qd ws) (hq : QsIn W vq qq l) :
    ∃ gl φ, Lent glX gl φ W 903 1000 ∧ (φ 900 = none ∧ ∀ k, gl 900 k = none) ∧ ∃ (D : Dat) (d : Sl) (Q : Pks) (q : Sl), D.2.2 = ws ∧ Q.2 = l ∧ VR φ (slO 901 d) vd ∧ VR φ (slO 902 q) vq ∧ slWs 16 D d = true ∧ slQs Q q = true ∧ GlW gl 901 D.1 D.2.2 ∧ GlPk gl 902 Q.1 Q.2 := by
  have h0 : Lent glX glX (phi0 Tryz.prog.globals.size []) W 901 1000 := ⟨hr, glX_low, fun _ _ _ e => e, fun i i1 i2 => ⟨phi0_none (by have := tglob; omega) (by simp; omega), glX_no (by omega)⟩⟩
  have z0 : (phi0 Tryz.prog.globals.size []) 900 = none ∧ ∀ k, glX 900 k = none := ⟨phi0_none tglob (by simp), glX_no (by omega)⟩
  have s1 : ∃ gl φ, Lent glX gl φ W 902 1000 ∧ (φ 900 = none ∧ ∀ k, gl 900 k = none) ∧ ∃ (D : Dat) (d : Sl), D.2.2 = ws ∧ VR φ (slO 901 d) vd ∧ slWs 16 D d = true ∧ GlW gl 901 D.1 D.2.2 := by
    cases qd with
    | none =>
      obtain ⟨rfl, rfl⟩ := hd
      exact ⟨glX, _, h0.skip, z0, (0, 0, []), none, rfl, .nilSlice 0 0, rfl, fun i z e => by simp at e⟩
    | some x =>
      obtain ⟨a, len, cap⟩ := x
      obtain ⟨rfl, hat, hl, hws⟩ := hd
      obtain ⟨g1, g2, g3⟩ := h0.add (by omega) (by omega) hat (wV_low ws) (fun hne hc => hne (by
        have := hat.1
        rw [hc] at this
        have : ws.length = 0 := by omega
        rw [List.length_eq_zero_iff.1 this]; rfl)) (wV_in hws)
      refine ⟨_, _, g1, ⟨?_, fun k => ?_⟩, (a.off, 0, ws), some (a.off, len, cap), rfl, g3, ?_, wV_gl⟩
      · simp only [Phi.set, show (900 : Nat) ≠ 901 by omega, if_false]; exact z0.1
      · rw [glK_ne (by omega)]; exact z0.2 k
      · show (Nat.beq a.off a.off && Nat.beq (len * 16) ws.length && Nat.ble len cap) = true
        exact andI (andI (by simp) (by rw [hl]; simp)) (nbl hat.1)
  obtain ⟨gl, φ, h1, z1, D, d, e1, e2, e3, e4⟩ := s1
  cases qq with
  | none =>
    obtain ⟨rfl, rfl⟩ := hq
    exact ⟨gl, φ, h1.skip, z1, D, d, (0, []), none, e1, rfl, e2, .nilSlice 0 0, e3, rfl, e4, fun i p e => by simp at e⟩
  | some x =>
    obtain ⟨a, cap⟩ := x
    obtain ⟨rfl, hat, hin⟩ := hq
    obtain ⟨g1, g2, g3⟩ := h1.add (by omega) (by omega) hat (qV_low l) (fun hne hc => hne (by
      have := hat.1
      rw [hc] at this
      rw [List.length_eq_zero_iff.1 (Nat.le_zero.1 this)]; rfl)) (qV_in hin)
    obtain ⟨n1, n2⟩ := h1.no 902 (Nat.le_refl _) (by omega)
    refine ⟨_, _, g1, ⟨?_, fun k => ?_⟩, D, d, (a.off, l), some (a.off, l.length, cap), e1, rfl, e2.mono g2, g3, e3, ?_, e4.up (glK_ext n2), qV_gl⟩
    · simp only [Phi.set, show (900 : Nat) ≠ 902 by omega, if_false]; exact z1.1
    · rw [glK_ne (by omega)]; exact z1.2 k
    · show (Nat.beq a.off a.off && Nat.beq l.length l.length && Nat.ble l.length cap) = true
      exact andI (andI (by simp) (by simp)) (nbl hat.1)
theorem pgV_low {j : Nat} (h : j < 97) (p : Pg) : lowV 8 (pgV j p) = true := by
  cases p with
  | none => rfl
  | some q =>
    exact nbl (show 903 + j + 1 ≤ 1000 by omega)
theorem decDk_enc (k : DkS) : decDk.dec (decDk.enc k) = some k := by
  obtain ⟨c, p, d, q⟩ := k
  rcases p with _ | p <;> rcases d with _ | d <;> rcases q with _ | q <;> rfl
theorem deck_lr {φ : Phi} {c : Cfg} {p d q : Sl} {vp vd vq : Value} (hp : VR φ (slO 900 p) vp) (hd : VR φ (slO 901 d) vd) (hq : VR φ (slO 902 q) vq) : LR φ (decDk.enc ⟨c, p, d, q⟩) (#[.agg ⟨cfgL c ++ [vp, vd, vq]⟩] : Array Value).toList := by
  have h : LR φ (dkL ⟨c, p, d, q⟩) (cfgL c ++ [vp, vd, vq]) := by
    unfold dkL
    refine LR.append (LR.af_refl (by rfl)) (LR.cons hp (LR.cons hd (LR.cons hq (LR.nil _))))
  exact LR.cons (.agg _ _ h.1 h.2) (LR.nil _)
/-- What DeckPuts asks of what comes in. -/
def DeckIn (W : World) (v : Value) : Prop := ∃ (c : Cfg) (vp vd vq : Value) (qp : Option (Addr × Nat)) (ps : List Pg) (qd : Option (Addr × Nat × Nat)) (ws : List Int) (qq : Option (Addr × Nat)) (l : List Pk), v = .agg ⟨cfgL c ++ [vp, vd, vq]⟩ ∧ PsIn W vp qp ps ∧ BsIn W vd qd ws ∧ QsIn W vq qq l
theorem fn_memo1 {gl : Gl} {f : FuncId} (hgl : Low gl) (hm : MemoOK Tryz.prog gl f) : FnOK Tryz.prog gl f afW1 := FnOK.flat hgl tglob fun args σ v h => by
  unfold afW1 at h
  split at h
  · cases h
    refine ⟨rfl, rfl, fun w hw => ?_⟩
    obtain ⟨φ, hr⟩ := hw
    exact hm φ LS.start w hr
  · cases h
theorem deckPuts_calls {W : World} (hr : Rel Tryz.prog glX (phi0 Tryz.prog.globals.size []) LS.start W) {v : Value} (hin : DeckIn W v) : Calls Tryz.prog 3 #[v] W (fun e W' => e = .returned (.bool true) ∧ Below W.heap.size W W') := by
  obtain ⟨c, vp, vd, vq, qp, ps, qd, ws, qq, l, rfl, hp, hd, hq⟩ := hin
  have hws : ws.all wordG = true := by
    cases qd with
    | none => rw [hd.2]; rfl
    | some x => exact hd.2.2.2.2
  obtain ⟨gl, φ, h1, z1, D, d, Q, q, rfl, rfl, v1, v2, b1, b2, k1, k2⟩ := lend_dq hr hd hq
  have hW : ∀ {gl'}, Low gl' → (∀ g k v, gl g k = some v → gl' g k = some v) → FnOK Tryz.prog gl' 5 afW1 := fun hl hu => fn_memo1 hl (memo_mono (fun g k v e => hu _ _ _ (h1.up _ _ _ e)) memo31)
  cases qp with
  | none =>
    obtain ⟨rfl, rfl⟩ := hp
    have hK : GlK gl (0, 0, []) D Q := ⟨⟨fun i z e => h1.up _ _ _ (glX_F i z e), fun j p e => by simp at e, k1⟩, k2⟩
    exact calls_of (s_dp h1.low (hW h1.low fun _ _ _ e => e) hK) (decDk_enc ⟨c, none, d, q⟩) (dp_run rfl (andI (andI rfl b1) b2) hws) h1.rel (deck_lr (.nilSlice 0 0) v1 v2)
  | some x =>
    obtain ⟨a, cap⟩ := x
    obtain ⟨rfl, hat, hin⟩ := hp
    by_cases hn : 20 < ps.length
    · -- more than twenty: slices
      have h1' : Lent gl gl φ W 900 901 := ⟨h1.rel, h1.low, fun _ _ _ e => e, fun i i1 i2 => by
        have : i = 900 := by omega
        subst this; exact z1⟩
      obtain ⟨g1, g2, g3⟩ := h1'.add (by omega) (by omega) hat (cs := List.replicate ps.length (.chan (some 0))) (fun v hv => by rw [(List.mem_replicate.1 hv).2]; rfl) (fun _ hc => by have := hat.1; omega) (fun i v hv => by
        have hlt : i < ps.length := by simpa using (List.getElem?_eq_some_iff.1 hv).1
        rw [List.getElem?_replicate] at hv
        simp only [hlt, if_true] at hv
        cases hv
        obtain ⟨u, e1, e2⟩ := hin i _ (List.getElem?_eq_getElem hlt)
        refine ⟨u, e1, .tok 0 u ?_⟩
        cases hpg : ps[i] with
        | none => rw [hpg] at e2; have e2 : u = _ := e2; subst e2; trivial
        | some q => rw [hpg] at e2; obtain ⟨a', e3, _⟩ := e2; subst e3; trivial)
      have hT : GlT (glK gl 900 a.off (List.replicate ps.length (.chan (some 0)))) a.off ps.length := fun i hi => glK_at (by rw [List.getElem?_replicate]; simp [hi])
      refine calls_of (s_dpT g1.low (hW g1.low g1.up) hT) (x := ⟨c, (a.off, ps.length, cap), d, q⟩) ?_ ?_ g1.rel ?_
      · show (decDk.dec (decDk.enc ⟨c, some (a.off, ps.length, cap), d, q⟩)).bind _ = _
        rw [decDk_enc]; rfl
      · unfold ifT
        rw [run_br, show tvGd a.off ps.length (a.off, ps.length, cap) = true from andI (andI (andI (andI (by simp) (by simp)) (nbl hat.1)) (decide_eq_true hn)) (decide_eq_true (by have := hat.1; have := hat.2.1; omega))]
        rfl
      · exact deck_lr (p := some (a.off, ps.length, cap)) g3 (v1.mono g2) (v2.mono g2)
    · obtain ⟨us, hus, hu⟩ := list_of (Q := fun i u => W.cell? ⟨a.block, a.off + i, none⟩ = some u ∧ ∀ p, ps[i]? = some p → PgIn W u p) ps.length fun i hi => by
        obtain ⟨u, e1, e2⟩ := hin i _ (List.getElem?_eq_getElem hi)
        exact ⟨u, e1, fun p e => by rw [List.getElem?_eq_getElem hi] at e; cases e; exact e2⟩
      obtain ⟨gl', φ', g1, g2, g3, g4⟩ := lent_pgs glX W 1000 (by omega) ps us 0 gl φ h1 (by omega) hus fun i p u e1 e2 => (hu i u e2).2 p e1
      have h1' : Lent gl gl' φ' W 900 901 := ⟨g1.rel, g1.low, g1.up, fun i i1 i2 => by
        have : i = 900 := by omega
        subst this
        obtain ⟨a1, a2⟩ := g3 900 (by omega)
        exact ⟨a1.trans z1.1, fun k => (a2 k).trans (z1.2 k)⟩⟩
      have hcell : ∀ (i : Nat) v, (ps.mapIdx pgV)[i]? = some v → ∃ p, ps[i]? = some p ∧ v = pgV i p := fun i v hv => by
        rw [List.getElem?_mapIdx] at hv
        obtain ⟨p, e1, e2⟩ := Option.map_eq_some_iff.1 hv
        exact ⟨p, e1, e2.symm⟩
      obtain ⟨k3, k4, k5⟩ := h1'.add (by omega) (by omega) hat (cs := ps.mapIdx pgV) (fun v hv => by
        obtain ⟨i, hi⟩ := List.getElem?_of_mem hv
        obtain ⟨p, e1, rfl⟩ := hcell i v hi
        have := (List.getElem?_eq_some_iff.1 e1).1
        exact pgV_low (by omega) p) (fun hne hc => hne (by
        have := hat.1
        rw [hc] at this
        rw [List.length_eq_zero_iff.1 (Nat.le_zero.1 this)]; rfl)) (fun i v hv => by
        obtain ⟨p, e1, rfl⟩ := hcell i v hv
        have hi := (List.getElem?_eq_some_iff.1 e1).1
        have e2 : us[i]? = some (us[i]'(by omega)) := List.getElem?_eq_getElem (by omega)
        refine ⟨_, (hu i _ e2).1, ?_⟩
        have := (g4 i p _ e1 e2).1
        rwa [Nat.zero_add] at this)
      have hok : ps.all Pg.ok = true := List.all_eq_true.2 fun p hp => by
        obtain ⟨i, hi⟩ := List.getElem?_of_mem hp
        have hl := (List.getElem?_eq_some_iff.1 hi).1
        exact (g4 i p _ hi (List.getElem?_eq_getElem (show i < us.length by omega))).2.1
      have hK : GlK (glK gl' 900 a.off (ps.mapIdx pgV)) (a.off, 0, ps) D Q := ⟨⟨fun i z e => k3.up _ _ _ (h1.up _ _ _ (glX_F i z e)), fun j p e => by
        have hl : j < ps.length := (List.getElem?_eq_some_iff.1 e).1
        refine ⟨glK_at (by rw [List.getElem?_mapIdx, e]; rfl), fun q hq => ?_⟩
        have := (g4 j p _ e (List.getElem?_eq_getElem (show j < us.length by omega))).2.2 q hq
        rw [Nat.zero_add] at this
        exact this.up (glK_ext (h1'.no 900 (Nat.le_refl _) (by omega)).2), k1.up k3.up⟩, fun i p e => ⟨k3.up _ _ _ (k2 i p e).1, k3.up _ _ _ (k2 i p e).2⟩⟩
      have hsl : slPs (a.off, 0, ps) (some (a.off, ps.length, cap)) = true := andI (andI (andI (by simp) (by simp)) (nbl hat.1)) hok
      exact calls_of (s_dp k3.low (hW k3.low k3.up) hK) (decDk_enc ⟨c, some (a.off, ps.length, cap), d, q⟩) (dp_run (andI hsl (nbl (by show ps.length ≤ 20; omega))) (andI (andI hsl b1) b2) hws) k3.rel (deck_lr (p := some (a.off, ps.length, cap)) k5 ((v1.mono g2).mono k4) ((v2.mono g2).mono k4))
set_option maxRecDepth 100000 in
theorem open_deck {H : Type} {enc : TypeId × Value → H} {W : World} {rc : Reach} {base : Nat} {v : Value} {d : DataW H} {p : List MemPlace} (hv : Value.okWide Tryz.prog W rc base 28 v) (h : DataW.Trod enc Tryz.prog W 0 (fun _ => true) true 28 v d p) : DeckIn W v := by
  obtain ⟨cs, rfl, hcs⟩ := okWide_struct Tryz.underlying28 hv
  obtain ⟨fuel, h1⟩ := h
  obtain ⟨xs, n, _, _, hl, hlen, hf⟩ := DataW.trod_struct Tryz.underlying28 h1
  have h11 : Tryz.prog.cellsOf 28 = 11 := by kernel_rfl
  have e8 : Tryz.prog.cellsOf 23 = 8 := by kernel_rfl
  have eI : Tryz.prog.cellsOf 3 = 1 := by kernel_rfl
  have eP : Tryz.prog.cellsOf 24 = 1 := by kernel_rfl
  have eB : Tryz.prog.cellsOf 25 = 1 := by kernel_rfl
  have eQ : Tryz.prog.cellsOf 26 = 1 := by kernel_rfl
  have hlen : xs.length = 4 := hlen
  rw [h11] at hcs
  obtain ⟨l⟩ := cs
  obtain ⟨v0, v1, v2, v3, v4, v5, v6, v7, v8, v9, v10, rfl⟩ : ∃ v0 v1 v2 v3 v4 v5 v6 v7 v8 v9 v10, l = [v0, v1, v2, v3, v4, v5, v6, v7, v8, v9, v10] := by
    match l, hcs with
    | [v0, v1, v2, v3, v4, v5, v6, v7, v8, v9, v10], _ => exact ⟨v0, v1, v2, v3, v4, v5, v6, v7, v8, v9, v10, rfl⟩
  have f0 : DataW.trod enc Tryz.prog W 0 (fun _ => true) true n 23 (([v0, v1, v2, v3, v4, v5, v6, v7, v8, v9, v10].drop 0).take (Tryz.prog.cellsOf 23)) = xs[0]? := hf 0 _ rfl
  have f1 : DataW.trod enc Tryz.prog W 0 (fun _ => true) true n 24 (([v0, v1, v2, v3, v4, v5, v6, v7, v8, v9, v10].drop 8).take (Tryz.prog.cellsOf 24)) = xs[1]? := hf 1 _ rfl
  have f2 : DataW.trod enc Tryz.prog W 0 (fun _ => true) true n 25 (([v0, v1, v2, v3, v4, v5, v6, v7, v8, v9, v10].drop 9).take (Tryz.prog.cellsOf 25)) = xs[2]? := hf 2 _ rfl
  have f3 : DataW.trod enc Tryz.prog W 0 (fun _ => true) true n 26 (([v0, v1, v2, v3, v4, v5, v6, v7, v8, v9, v10].drop 10).take (Tryz.prog.cellsOf 26)) = xs[3]? := hf 3 _ rfl
  rw [e8, List.getElem?_eq_getElem (by omega)] at f0
  rw [eP, List.getElem?_eq_getElem (by omega)] at f1
  rw [eB, List.getElem?_eq_getElem (by omega)] at f2
  rw [eQ, List.getElem?_eq_getElem (by omega)] at f3
  obtain ⟨vp, qp, ps, g1, hp⟩ := open_ps f1
  obtain ⟨vd, qd, ws, g2, hd⟩ := open_bs f2
  obtain ⟨vq, qq, l, g3, hq⟩ := open_qs f3
  obtain ⟨ys, m, _, _, _, hyl, hg⟩ := DataW.trod_struct Tryz.underlying23 f0
  have hyl : ys.length = 8 := hyl
  have k : ∀ (i : Nat) (u : Value) (_ : i < 8) (_ : DataW.trod enc Tryz.prog W 0 (fun _ => true) true m 3 [u] = ys[i]?), ∃ z, u = .int .i64 z := fun i u hi hh => by
    rw [List.getElem?_eq_getElem (by omega)] at hh
    obtain ⟨z, e, _⟩ := trodI Tryz.underlying3 hh
    cases e
    exact ⟨z, rfl⟩
  have w0 : DataW.trod enc Tryz.prog W 0 (fun _ => true) true m 3 (((([v0, v1, v2, v3, v4, v5, v6, v7, v8, v9, v10].drop 0).take 8).drop 0).take (Tryz.prog.cellsOf 3)) = ys[0]? := hg 0 _ rfl
  have w1 : DataW.trod enc Tryz.prog W 0 (fun _ => true) true m 3 (((([v0, v1, v2, v3, v4, v5, v6, v7, v8, v9, v10].drop 0).take 8).drop 1).take (Tryz.prog.cellsOf 3)) = ys[1]? := hg 1 _ rfl
  have w2 : DataW.trod enc Tryz.prog W 0 (fun _ => true) true m 3 (((([v0, v1, v2, v3, v4, v5, v6, v7, v8, v9, v10].drop 0).take 8).drop 2).take (Tryz.prog.cellsOf 3)) = ys[2]? := hg 2 _ rfl
  have w3 : DataW.trod enc Tryz.prog W 0 (fun _ => true) true m 3 (((([v0, v1, v2, v3, v4, v5, v6, v7, v8, v9, v10].drop 0).take 8).drop 3).take (Tryz.prog.cellsOf 3)) = ys[3]? := hg 3 _ rfl
  have w4 : DataW.trod enc Tryz.prog W 0 (fun _ => true) true m 3 (((([v0, v1, v2, v3, v4, v5, v6, v7, v8, v9, v10].drop 0).take 8).drop 4).take (Tryz.prog.cellsOf 3)) = ys[4]? := hg 4 _ rfl
  have w5 : DataW.trod enc Tryz.prog W 0 (fun _ => true) true m 3 (((([v0, v1, v2, v3, v4, v5, v6, v7, v8, v9, v10].drop 0).take 8).drop 5).take (Tryz.prog.cellsOf 3)) = ys[5]? := hg 5 _ rfl
  have w6 : DataW.trod enc Tryz.prog W 0 (fun _ => true) true m 3 (((([v0, v1, v2, v3, v4, v5, v6, v7, v8, v9, v10].drop 0).take 8).drop 6).take (Tryz.prog.cellsOf 3)) = ys[6]? := hg 6 _ rfl
  have w7 : DataW.trod enc Tryz.prog W 0 (fun _ => true) true m 3 (((([v0, v1, v2, v3, v4, v5, v6, v7, v8, v9, v10].drop 0).take 8).drop 7).take (Tryz.prog.cellsOf 3)) = ys[7]? := hg 7 _ rfl
  rw [eI] at w0 w1 w2 w3 w4 w5 w6 w7
  obtain ⟨n0, rfl⟩ := k 0 v0 (by omega) w0
  obtain ⟨n1, rfl⟩ := k 1 v1 (by omega) w1
  obtain ⟨n2, rfl⟩ := k 2 v2 (by omega) w2
  obtain ⟨n3, rfl⟩ := k 3 v3 (by omega) w3
  obtain ⟨n4, rfl⟩ := k 4 v4 (by omega) w4
  obtain ⟨n5, rfl⟩ := k 5 v5 (by omega) w5
  obtain ⟨n6, rfl⟩ := k 6 v6 (by omega) w6
  obtain ⟨n7, rfl⟩ := k 7 v7 (by omega) w7
  cases g1; cases g2; cases g3
  exact ⟨⟨n0, n1, n2, n3, n4, n5, n6, n7⟩, _, _, _, qp, ps, qd, ws, qq, l, rfl, hp, hd, hq⟩
end Go.Proofs.YtpckfdopokmbkaaGreatDoor.Ev

namespace Go.Proofs.YtpckfdopokmbkaaGreatDoor.Ev
open Go
open Go.Proofs Go.RowKit
/-! No whole objects are looked at here. -/
end Go.Proofs.YtpckfdopokmbkaaGreatDoor.Ev
