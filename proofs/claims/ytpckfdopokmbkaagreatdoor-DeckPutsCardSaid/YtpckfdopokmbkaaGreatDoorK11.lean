/- The document's bytes of a deck. Where the forms stand as the program's text lays them. -/
import Derived.Test.YtpckfdopokmbkaaGreatDoorK10
noncomputable section
namespace Go.Proofs.YtpckfdopokmbkaaGreatDoor.Ev
open Go
open Go.Proofs Go.RowKit

/-! The document's deck put. -/
def hBy (g : Int → Bool) : Hd := hOr (hA noL (decN .i64 2) (fun _ x => ifT (g x) (by2 x)) byO) (hA noL (decN .i64 4) (fun _ x => ifT (g x) (by4 x)) byO)
theorem s_by {gl : Gl} (hgl : Low gl) : SubOK Tryz.prog gl 16 (hBy numG) := SubOK.or (s_bB2 hgl) (s_bB4 hgl)
/-- Images and guards that are not looked into. -/
structure RxD where
  im : List Int → ByteArray × Int
  g : Int → Bool
def hIr (X : RxD) (j : Nat) : Pg → Hd
  | none => hA noL decNil (fun _ _ => pure (X.im [])) ipO
  | some q => hA noL (decSl (903 + j)) (fun _ x => ifT (ipGd q.1 q.2.2 x) (X.im q.2.2)) ipO
def HIr (X : RxD) (j : Nat) (p : Pg) : Hs := hsOf [] [(17, hIr X j p), (16, hBy X.g)] []
def rxD : RxD := ⟨imF, numG⟩
theorem HIr_ok {gl : Gl} (hF : GlF gl) (hgl : Low gl) {j : Nat} (hj : j < 16) {p : Pg} (hp : ∀ q, p = some q → GlW gl (903 + j) q.1 q.2.2) : (HIr rxD j p).OK Tryz.prog gl := hsOf_ok fx0 (sxC (by
  cases p with
  | none => exact s_rpN hgl hF
  | some q => exact s_rpC hgl hF hj (hp q rfl)) (sxC (s_by hgl) sx0)) lx0
/-- Bytes put behind bytes, as the document does it. -/
def apN (s : By) (l : List Value) : DT By := do
  chk (s.n.ble s.c)
  chk (((s.n + l.length) * 1).ble 140737488355328 && ((s.n + l.length).ble 1099511627776))
  chk ((0 + s.n * 1).ble s.l.length)
  pure ⟨s.n + l.length, s.n + l.length, winL 0 (s.n * 1) s.l ++ l⟩
def apW (s : By) (k : Nat) (l : List Value) : DT By := do
  chk (s.n.ble s.c)
  chk (((s.n + k) * 1).ble 140737488355328 && ((s.n + k).ble 1099511627776))
  .br (k.beq 0) (pure s) (do
    chk ((0 + s.n * 1).ble s.l.length)
    chk (l.all single)
    pure ⟨s.n + k, s.n + k, winL 0 (s.n * 1) s.l ++ l⟩)
def apR (s : By) (t : ByteArray) : DT By := .br (t.data.toList.length.beq 0) (do
    chk (Nat.beq 0 (t.data.toList.length * 1))
    apW s t.data.toList.length []) (do
    chk (Nat.ble 1 t.data.toList.length)
    chk ((0 + t.data.toList.length * 1).ble (Lib.byteCells t.data.toList).length)
    chk ((winL 0 (t.data.toList.length * 1) (Lib.byteCells t.data.toList)).length.beq (t.data.toList.length * 1))
    apW s t.data.toList.length (winL 0 (t.data.toList.length * 1) (Lib.byteCells t.data.toList)))
/-- Where the loop over programs stands. -/
structure RgS where
  k : Nat
  b : By
  c : Cfg
  p : Nat × Nat × Nat
  d : Sl
  q : Sl
def RgS.dk (s : RgS) : DkS := ⟨s.c, some s.p, s.d, s.q⟩
def rgE (k : Nat) (s : RgS) : LSt := ([.int .i64 (k : Int), slB2 (Nat.beq k 0) s.b, pK 1001], ppR (Nat.beq k 0) s.b s.dk)
def rgT : LpT RgS := ⟨fun vs rows => match vs, rows with
  | [.int .i64 i, .slice (some a) m m', .pointer (some p)], [some (.row r), some (.row dk)] => cond (isBy r && isP a 1000 && isP p 1001 && decide (i = 0)) ((rowP 28 pDk dk).bind fun k => k.p.map fun p => ⟨0, ⟨m, m', r.cells⟩, k.c, p, k.d, k.q⟩) none
  | _, _ => none, fun s => rgE (min s.k 16) s, fun vs rows s h => by
  split at h
  case h_2 => cases h
  rename_i i a m m' p r dk
  obtain ⟨h1, h⟩ := condT h
  obtain ⟨⟨c, kp, kd, kq⟩, h2, h⟩ := Option.bind_eq_some_iff.1 h
  obtain ⟨pp, hk, h⟩ := Option.map_eq_some_iff.1 h
  have hk : kp = some pp := hk
  subst hk
  simp only [Bool.and_eq_true, decide_eq_true_eq] at h1
  obtain ⟨⟨⟨h1, h3⟩, h5⟩, h7⟩ := h1
  subst h; subst h7
  rw [isBy_eq h1, rowP_ok h2, isP_t h3, isP_t h5]
  rfl⟩
abbrev RgB := Bool × RgS
def rgStP (X : RxD) (po : Nat) (p : Option Pg) (k : Nat) (s : RgS) : DT (RgS ⊕ RgB) := .br (decide ((k : Int) < (s.p.2.1 : Int))) (do
    chk (decide (0 ≤ (k : Int)) && decide ((k : Int) < (s.p.2.1 : Int)) && s.p.2.1.ble s.p.2.2)
    match p with
    | none => .fail
    | some p => do
      chk (Nat.beq (s.p.1 + k) (po + k))
      let r ← (match p with
        | none => pure (X.im [])
        | some q => ifT (ipGd q.1 q.2.2 (q.1, q.2.2.length, q.2.1)) (X.im q.2.2))
      chk (X.g (r.1.size : Int))
      let b ← apN s.b (by2 (r.1.size : Int))
      let b ← apR b r.1
      chk (b.l.all (af 8) && true)
      pure (.inl { s with k := k + 1, b := b })) (do
  chk (s.b.l.all (af 8) && true)
  pure (.inr (Nat.beq k 0, s)))
def rgStep (X : RxD) (po : Nat) (ps : List Pg) (s : RgS) : DT (RgS ⊕ RgB) := rgStP X po ps[min s.k 16]? (min s.k 16) s
def rgW (b : RgB) : Out := (.exit 0, [pK 1001, slB2 b.1 b.2.b], ppR b.1 b.2.b b.2.dk)
set_option maxRecDepth 100000 in
theorem rg_round {gl : Gl} (_hgl : Low gl) {po : Nat} {ps : List Pg} (hP : GlPs gl po ps) (hn : ps.length ≤ 16) {X : RxD} (hX : ∀ k, k < 16 → ∀ p : Pg, (∀ q, p = some q → GlW gl (903 + k) q.1 q.2.2) → (HIr X k p).OK Tryz.prog gl) (s : RgS) : ∃ (sy : Sy) (H : Hs) (L G d : Nat) (op : List VStep) (cls : CR4 → List VStep), SyOK gl sy ∧ H.OK Tryz.prog gl ∧ roundV sy Tryz.prog gl (fun _ => none) H L G d 7 0 [6, 5, 1] (rgT.enc s) op (rndW Tryz.prog (1000 + 2) [6, 5, 1] [1, 5] cls) = (rgStep X po ps s).runK fun q => some (rawL (encQ rgT.enc rgW q)) := by
  show ∃ (sy : Sy) (H : Hs) (L G d : Nat) (op : List VStep) (cls : CR4 → List VStep), SyOK gl sy ∧ H.OK Tryz.prog gl ∧ roundV sy Tryz.prog gl (fun _ => none) H L G d 7 0 [6, 5, 1] (rgE (min s.k 16) s) op (rndW Tryz.prog (1000 + 2) [6, 5, 1] [1, 5] cls) = (rgStP X po ps[min s.k 16]? (min s.k 16) s).runK fun q => some (rawL (encQ rgT.enc rgW q))
  have hk : min s.k 16 < 17 := by omega
  generalize min s.k 16 = k at hk
  obtain ⟨k0, b, c, pp, d, q⟩ := s
  cases e : ps[k]? with
  | none =>
    refine ⟨syN, H0, 100, 40, 40, [], fun _ => [], syN_ok, H0_ok, ?_⟩
    clear e hP hn _hgl hX
    match k, hk with
    | 0, _ => (rcases d with _ | d <;> rcases q with _ | q <;> (show _ = _; kernel_rfl))
    | 1, _ => (rcases d with _ | d <;> rcases q with _ | q <;> (show _ = _; kernel_rfl))
    | 2, _ => (rcases d with _ | d <;> rcases q with _ | q <;> (show _ = _; kernel_rfl))
    | 3, _ => (rcases d with _ | d <;> rcases q with _ | q <;> (show _ = _; kernel_rfl))
    | 4, _ => (rcases d with _ | d <;> rcases q with _ | q <;> (show _ = _; kernel_rfl))
    | 5, _ => (rcases d with _ | d <;> rcases q with _ | q <;> (show _ = _; kernel_rfl))
    | 6, _ => (rcases d with _ | d <;> rcases q with _ | q <;> (show _ = _; kernel_rfl))
    | 7, _ => (rcases d with _ | d <;> rcases q with _ | q <;> (show _ = _; kernel_rfl))
    | 8, _ => (rcases d with _ | d <;> rcases q with _ | q <;> (show _ = _; kernel_rfl))
    | 9, _ => (rcases d with _ | d <;> rcases q with _ | q <;> (show _ = _; kernel_rfl))
    | 10, _ => (rcases d with _ | d <;> rcases q with _ | q <;> (show _ = _; kernel_rfl))
    | 11, _ => (rcases d with _ | d <;> rcases q with _ | q <;> (show _ = _; kernel_rfl))
    | 12, _ => (rcases d with _ | d <;> rcases q with _ | q <;> (show _ = _; kernel_rfl))
    | 13, _ => (rcases d with _ | d <;> rcases q with _ | q <;> (show _ = _; kernel_rfl))
    | 14, _ => (rcases d with _ | d <;> rcases q with _ | q <;> (show _ = _; kernel_rfl))
    | 15, _ => (rcases d with _ | d <;> rcases q with _ | q <;> (show _ = _; kernel_rfl))
    | 16, _ => (rcases d with _ | d <;> rcases q with _ | q <;> (show _ = _; kernel_rfl))
    | n + 17, h => exact absurd h (by omega)
  | some p =>
    have hk2 : k < 16 := by
      have := (List.getElem?_eq_some_iff.1 e).1
      omega
    obtain ⟨h1, h2⟩ := hP k p e
    refine ⟨syV 900 (po + k) (pgV k p), HIr X k p, 100, 40, 40, [], fun _ => [], syV_ok (by decide) h1, hX k hk2 p h2, ?_⟩
    clear e hP hn _hgl h1 h2 hk hX
    rcases p with _ | p
    · match k, hk2 with
      | 0, _ => (rcases d with _ | d <;> rcases q with _ | q <;> (show _ = _; kernel_rfl))
      | 1, _ => (rcases d with _ | d <;> rcases q with _ | q <;> (show _ = _; kernel_rfl))
      | 2, _ => (rcases d with _ | d <;> rcases q with _ | q <;> (show _ = _; kernel_rfl))
      | 3, _ => (rcases d with _ | d <;> rcases q with _ | q <;> (show _ = _; kernel_rfl))
      | 4, _ => (rcases d with _ | d <;> rcases q with _ | q <;> (show _ = _; kernel_rfl))
      | 5, _ => (rcases d with _ | d <;> rcases q with _ | q <;> (show _ = _; kernel_rfl))
      | 6, _ => (rcases d with _ | d <;> rcases q with _ | q <;> (show _ = _; kernel_rfl))
      | 7, _ => (rcases d with _ | d <;> rcases q with _ | q <;> (show _ = _; kernel_rfl))
      | 8, _ => (rcases d with _ | d <;> rcases q with _ | q <;> (show _ = _; kernel_rfl))
      | 9, _ => (rcases d with _ | d <;> rcases q with _ | q <;> (show _ = _; kernel_rfl))
      | 10, _ => (rcases d with _ | d <;> rcases q with _ | q <;> (show _ = _; kernel_rfl))
      | 11, _ => (rcases d with _ | d <;> rcases q with _ | q <;> (show _ = _; kernel_rfl))
      | 12, _ => (rcases d with _ | d <;> rcases q with _ | q <;> (show _ = _; kernel_rfl))
      | 13, _ => (rcases d with _ | d <;> rcases q with _ | q <;> (show _ = _; kernel_rfl))
      | 14, _ => (rcases d with _ | d <;> rcases q with _ | q <;> (show _ = _; kernel_rfl))
      | 15, _ => (rcases d with _ | d <;> rcases q with _ | q <;> (show _ = _; kernel_rfl))
      | n + 16, h => exact absurd h (by omega)
    · match k, hk2 with
      | 0, _ => (rcases d with _ | d <;> rcases q with _ | q <;> (show _ = _; kernel_rfl))
      | 1, _ => (rcases d with _ | d <;> rcases q with _ | q <;> (show _ = _; kernel_rfl))
      | 2, _ => (rcases d with _ | d <;> rcases q with _ | q <;> (show _ = _; kernel_rfl))
      | 3, _ => (rcases d with _ | d <;> rcases q with _ | q <;> (show _ = _; kernel_rfl))
      | 4, _ => (rcases d with _ | d <;> rcases q with _ | q <;> (show _ = _; kernel_rfl))
      | 5, _ => (rcases d with _ | d <;> rcases q with _ | q <;> (show _ = _; kernel_rfl))
      | 6, _ => (rcases d with _ | d <;> rcases q with _ | q <;> (show _ = _; kernel_rfl))
      | 7, _ => (rcases d with _ | d <;> rcases q with _ | q <;> (show _ = _; kernel_rfl))
      | 8, _ => (rcases d with _ | d <;> rcases q with _ | q <;> (show _ = _; kernel_rfl))
      | 9, _ => (rcases d with _ | d <;> rcases q with _ | q <;> (show _ = _; kernel_rfl))
      | 10, _ => (rcases d with _ | d <;> rcases q with _ | q <;> (show _ = _; kernel_rfl))
      | 11, _ => (rcases d with _ | d <;> rcases q with _ | q <;> (show _ = _; kernel_rfl))
      | 12, _ => (rcases d with _ | d <;> rcases q with _ | q <;> (show _ = _; kernel_rfl))
      | 13, _ => (rcases d with _ | d <;> rcases q with _ | q <;> (show _ = _; kernel_rfl))
      | 14, _ => (rcases d with _ | d <;> rcases q with _ | q <;> (show _ = _; kernel_rfl))
      | 15, _ => (rcases d with _ | d <;> rcases q with _ | q <;> (show _ = _; kernel_rfl))
      | n + 16, h => exact absurd h (by omega)
end Go.Proofs.YtpckfdopokmbkaaGreatDoor.Ev

namespace Go.Proofs.YtpckfdopokmbkaaGreatDoor.Ev
open Go
open Go.Proofs Go.RowKit

/-! The document's deck put: its programs, told; words. -/
theorem apN_run {s : By} {l : List Value} {k : Nat} (h : byOk s (k + l.length) = true) (hl : l.all (af 8) = true) : (apN s l).run = some (s.add l) ∧ byOk (s.add l) k = true := by
  obtain ⟨h1, h2, h3, h4⟩ := byOk_iff.1 h
  refine ⟨?_, byOk_add h hl⟩
  unfold apN
  simp only [run_bind, chk_run, nbl (show s.n ≤ s.c by omega), nbl (show (s.n + l.length) * 1 ≤ 140737488355328 by omega), nbl (show s.n + l.length ≤ 1099511627776 by omega), nbl (show 0 + s.n * 1 ≤ s.l.length by omega), Bool.and_self, cond_true, Option.bind_some, run_pure]
  rw [winL_all (by omega)]; rfl
theorem apW_run {s : By} {l : List Value} {k : Nat} (h : byOk s (k + l.length) = true) (hl : l.all (af 8) = true) (hs : l.all single = true) : (apW s l.length l).run = some (s.add l) := by
  obtain ⟨h1, h2, h3, h4⟩ := byOk_iff.1 h
  unfold apW
  simp only [run_bind, chk_run, nbl (show s.n ≤ s.c by omega), nbl (show (s.n + l.length) * 1 ≤ 140737488355328 by omega), nbl (show s.n + l.length ≤ 1099511627776 by omega), nbl (show 0 + s.n * 1 ≤ s.l.length by omega), Bool.and_self, cond_true, Option.bind_some, run_br, hs, run_pure]
  cases hz : Nat.beq l.length 0 with
  | true =>
    have := List.length_eq_zero_iff.1 (Nat.eq_of_beq_eq_true hz)
    subst this
    rw [cond_true, add_nil h]
  | false =>
    rw [cond_false, winL_all (by omega)]; rfl
theorem apR_run {s : By} {t : ByteArray} {k : Nat} (h : byOk s (k + t.size) = true) : (apR s t).run = some (s.add (stCl t)) := by
  have hl : t.data.toList.length = t.size := Array.length_toList
  have hc : Lib.byteCells t.data.toList = stCl t := by
    unfold stCl
    rw [List.take_of_length_le (by omega)]; rfl
  have hs := stCl_len t
  have hw : winL 0 (t.data.toList.length * 1) (Lib.byteCells t.data.toList) = stCl t := by rw [hc]; exact winL_all (by omega)
  have hu := stCl_u8 t
  have ha := apW_run (l := stCl t) (by rw [hs]; exact h) (isU8_af hu) (u8_single hu)
  rw [hs] at ha
  unfold apR
  rw [hw, hc, hl, run_br]
  cases hz : Nat.beq t.size 0 with
  | true =>
    have hz' := Nat.eq_of_beq_eq_true hz
    have e0 : Nat.beq 0 (t.size * 1) = true := by rw [hz']; rfl
    have : stCl t = [] := List.length_eq_zero_iff.1 (by omega)
    rw [this] at ha ⊢
    simp only [cond_true, run_bind, chk_run, e0, Option.bind_some]
    exact ha
  | false =>
    have hz' := Nat.ne_of_beq_eq_false hz
    have e0 : Nat.beq (stCl t).length (t.size * 1) = true := by rw [hs]; simp
    simp only [cond_false, run_bind, chk_run, nbl (show 1 ≤ t.size by omega), nbl (show 0 + t.size * 1 ≤ (stCl t).length by omega), e0, cond_true, Option.bind_some]
    exact ha
theorem numG_nat {n : Nat} (h : n ≤ 1000000) : numG (n : Int) = true := andI (decide_eq_true (by omega)) (decide_eq_true (by omega))
theorem rxD_g (x : Int) : rxD.g x = numG x := rfl
def rgG (po : Nat) (ps : List Pg) (s : RgS) : Bool := Nat.beq s.p.1 po && Nat.beq s.p.2.1 ps.length && Nat.ble ps.length s.p.2.2 && Nat.ble s.k ps.length && ps.all Pg.ok && Nat.ble ps.length 16 && byOk s.b (4200 * (ps.length - s.k))
def rgF (ps : List Pg) (s : RgS) : RgB := (Nat.beq ps.length 0, { s with k := ps.length, b := s.b.add (pgsB (ps.drop s.k)) })
def rgSp (po : Nat) (ps : List Pg) (s : RgS) : DT RgB := .br (rgG po ps s) (do let z ← bl (Nat.beq ps.length 0); pure (z, { s with k := ps.length, b := s.b.add (pgsB (ps.drop s.k)) })) .fail
theorem rgSp_run {po : Nat} {ps : List Pg} {s : RgS} {b : RgB} (h : (rgSp po ps s).run = some b) : rgG po ps s = true ∧ b = rgF ps s := by
  obtain ⟨h1, h2⟩ := condT (show cond (rgG po ps s) _ none = some b from h)
  refine ⟨h1, ?_⟩
  unfold rgF
  revert h2
  generalize Nat.beq ps.length 0 = z
  intro h2
  cases z <;> (cases h2; rfl)
def rgCall (X : RxD) (p : Pg) : DT (ByteArray × Int) := match p with
  | none => pure (X.im [])
  | some q => ifT (ipGd q.1 q.2.2 (q.1, q.2.2.length, q.2.1)) (X.im q.2.2)
theorem rg_one (X : RxD) (him : X.im = imF) {po k : Nat} {p : Pg} {s : RgS} (hk : k < s.p.2.1) (hc : s.p.2.1 ≤ s.p.2.2) (ho : s.p.1 = po) (hp : Pg.ok p = true) (hg : X.g ((imF p.ws).1.size : Int) = true) {m : Nat} (hb : byOk s.b (m + 4200) = true) :
    (rgStP X po (some p) k s).run = some (.inl { s with k := k + 1, b := s.b.add (pgB p) }) ∧ byOk (s.b.add (pgB p)) m = true := by
  have hd : decide ((k : Int) < (s.p.2.1 : Int)) = true := decide_eq_true (by omega)
  have e1 : (decide (0 ≤ (k : Int)) && true && s.p.2.1.ble s.p.2.2) = true := by rw [decide_eq_true (show 0 ≤ (k : Int) by omega), nbl hc]; rfl
  have e2 : Nat.beq (s.p.1 + k) (po + k) = true := by rw [ho]; simp
  have e3 : (rgCall X p).run = some (imF p.ws) := by
    unfold rgCall
    rw [him]
    cases p with
    | none => rfl
    | some q =>
      have hpk : (Nat.ble q.2.2.length q.2.1 && q.2.2.all wordG) = true := hp
      simp only [Bool.and_eq_true] at hpk
      have : ipGd q.1 q.2.2 (q.1, q.2.2.length, q.2.1) = true := by
        simp only [ipGd, Bool.and_eq_true]
        exact ⟨⟨⟨by simp, by simp⟩, hpk.1⟩, hpk.2⟩
      show (ifT _ _).run = _
      unfold ifT
      rw [run_br, this]; rfl
  have hs := imF_size p.ws
  have hw : IntKind.u32.wrap ((imF p.ws).1.size : Int) = ((imF p.ws).1.size : Int) := wrap_u32 (by omega) (by omega)
  have hb : byOk s.b (m + (imF p.ws).1.size + (by2 ((imF p.ws).1.size : Int)).length) = true := by
    rw [by2_len]
    exact byOk_le hb (by omega)
  obtain ⟨n1, n2⟩ := apN_run hb rfl
  have n3 := apR_run n2
  have n4 := byOk_add (l := stCl (imF p.ws).1) (k := m) (by rw [stCl_len]; exact n2) (isU8_af (stCl_u8 _))
  have hpb : (s.b.add (by2 ((imF p.ws).1.size : Int))).add (stCl (imF p.ws).1) = s.b.add (pgB p) := by rw [add_add]; unfold pgB; rw [hw]
  rw [hpb] at n3 n4
  refine ⟨?_, n4⟩
  unfold rgStP
  rw [run_br, hd, cond_true]
  simp only [run_bind, chk_run, e1, e2, cond_true, Option.bind_some]
  erw [e3]
  simp only [Option.bind_some, hg, cond_true, n1, n3, byOk_af n4, run_pure]
theorem rgSp_ok (po : Nat) (ps : List Pg) (s : RgS) (b : RgB) (h : (rgSp po ps s).run = some b) : ∃ m, itN (rgStep rxD po ps) m s = some b := by
  obtain ⟨h1, rfl⟩ := rgSp_run h
  refine it_of (fun s : RgS => rgG po ps s = true) (fun s => ps.length - s.k) (fun s : RgS => rgF ps s) ?_ _ s h1 (Nat.lt_succ_self _)
  intro s hg
  simp only [rgG, Bool.and_eq_true] at hg
  obtain ⟨⟨⟨⟨⟨⟨g1, g2⟩, g3⟩, g5⟩, g6⟩, g7⟩, g8⟩ := hg
  have g1' := Nat.eq_of_beq_eq_true g1
  have g2' := Nat.eq_of_beq_eq_true g2
  have g5' := Nat.le_of_ble_eq_true g5
  have g7' := Nat.le_of_ble_eq_true g7
  have hmin : min s.k 16 = s.k := by omega
  have e0 : rgStep rxD po ps s = rgStP rxD po ps[s.k]? s.k s := by
    show rgStP rxD po ps[min s.k 16]? (min s.k 16) s = _
    rw [hmin]
  rw [e0]
  have haf := byOk_af g8
  by_cases hk : s.k < ps.length
  · have hpk : Pg.ok ps[s.k] = true := List.all_eq_true.1 g6 _ (List.getElem_mem hk)
    have hs := imF_size (ps[s.k]).ws
    obtain ⟨er, n4⟩ := rg_one rxD rfl (po := po) (k := s.k) (p := ps[s.k]) (s := s) (by omega) (by have := Nat.le_of_ble_eq_true g3; omega) g1' hpk ((rxD_g _).trans (numG_nat (by omega))) (m := 4200 * (ps.length - (s.k + 1))) (byOk_le g8 (by omega))
    rw [← List.getElem?_eq_getElem hk] at er
    rw [er]
    refine ⟨?_, ?_, ?_⟩
    · simp only [rgG, Bool.and_eq_true]
      exact ⟨⟨⟨⟨⟨⟨g1, g2⟩, g3⟩, nbl (by omega)⟩, g6⟩, g7⟩, n4⟩
    · show ps.length - (s.k + 1) < ps.length - s.k
      omega
    · unfold rgF
      dsimp only
      rw [add_add, List.drop_eq_getElem_cons hk]; rfl
  · have hd : decide ((s.k : Int) < (s.p.2.1 : Int)) = false := decide_eq_false (by omega)
    have er : (rgStP rxD po ps[s.k]? s.k s).run = some (.inr (Nat.beq s.k 0, s)) := by
      unfold rgStP
      rw [run_br, hd, cond_false]
      simp only [run_bind, chk_run, haf, cond_true, Option.bind_some, run_pure]
    rw [er]
    have hkk : s.k = ps.length := by omega
    unfold rgF
    rw [List.drop_eq_nil_of_le (show ps.length ≤ s.k by omega), show pgsB [] = [] from rfl, add_nil g8, ← hkk]
theorem l_rg {gl : Gl} (hgl : Low gl) (hF : GlF gl) {po : Nat} {ps : List Pg} (hP : GlPs gl po ps) (hn : ps.length ≤ 16) : LpOK Tryz.prog gl 7 0 ⟨[6, 5, 1], [1, 5], hLp 2 rgT.dec (rgSp po ps) rgW⟩ := loop_sp (st := rgStep rxD po ps) goodT hgl tglob rgT.ok (by decide) (rgSp_ok po ps) fun s => rg_round hgl hP hn (fun k hk p hp => HIr_ok hF hgl hk hp) s
/-! Words. -/
structure WdS where
  j : Int
  i : Int
  b : By
  c : Cfg
  p : Nat × Nat × Nat
  d : Nat × Nat × Nat
  q : Sl
def WdS.dk (s : WdS) : DkS := ⟨s.c, some s.p, some s.d, s.q⟩
abbrev WdZ := Bool × WdS
def rdSl (z : Bool) (s : By) : Value := .slice (some ⟨cond z 1001 1002, 0, none⟩) s.n s.c
def rdR (z : Bool) (s : By) (k : DkS) : Rws := cond z [some (dkRow k), some (byRow s.l)] [some (dkRow k), none, some (byRow s.l)]
def wdT : LpT WdZ := ⟨fun vs rows => match vs, rows with
  | [.int .i64 j, .int .i64 i, .pointer (some p), .slice (some a) m m'], [some (.row dk), some (.row r)] => cond (isBy r && isP a 1001 && isP p 1000) ((rowP 28 pDk dk).bind fun k => match k.p, k.d with
    | some p, some d => some (true, ⟨j, i, ⟨m, m', r.cells⟩, k.c, p, d, k.q⟩)
    | _, _ => none) none
  | _, _ => none, fun x => ([.int .i64 x.2.j, .int .i64 x.2.i, pK 1000, rdSl x.1 x.2.b], rdR x.1 x.2.b x.2.dk), fun vs rows s h => by
  split at h
  case h_2 => cases h
  rename_i j i p a m m' dk r
  obtain ⟨h1, h⟩ := condT h
  obtain ⟨⟨c, kp, kd, kq⟩, h2, h⟩ := Option.bind_eq_some_iff.1 h
  simp only at h
  split at h
  case h_2 => cases h
  simp only [Bool.and_eq_true] at h1
  obtain ⟨⟨h1, h3⟩, h5⟩ := h1
  cases h
  rw [isBy_eq h1, rowP_ok h2, isP_t h3, isP_t h5]
  rfl⟩
def wdStep (off : Nat) (ws : List Int) (x : WdZ) : DT (WdZ ⊕ WdZ) := .br (decide (x.2.j < 16)) (do
    chk (decide (0 ≤ x.2.i) && decide (x.2.i < (x.2.d.2.1 : Int)) && x.2.d.2.1.ble x.2.d.2.2)
    chk (decide (0 ≤ x.2.j) && decide (x.2.j < 16))
    chk ((symW off ws).okI .u32 (x.2.d.1 + x.2.i.toNat * 16 + x.2.j.toNat * 1))
    let w := (symW off ws).int .u32 (x.2.d.1 + x.2.i.toNat * 16 + x.2.j.toNat * 1)
    chk (numG (IntKind.i64.wrap w))
    let b ← apN x.2.b (by4 (IntKind.i64.wrap w))
    chk (b.l.all (af 8) && true)
    pure (.inl (false, { x.2 with j := IntKind.i64.wrap (x.2.j + 1), b := b }))) (do
  chk (x.2.b.l.all (af 8) && true)
  pure (.inr x))
def wdG (off : Nat) (ws : List Int) (x : WdZ) : Bool := Nat.beq x.2.d.1 off && Nat.beq (x.2.d.2.1 * 16) ws.length && Nat.ble x.2.d.2.1 x.2.d.2.2 && decide (0 ≤ x.2.i) && decide (x.2.i < (x.2.d.2.1 : Int)) && decide (0 ≤ x.2.j) && decide (x.2.j ≤ 16) && byOk x.2.b (4 * (16 - x.2.j.toNat)) && ws.all wordG
def wdL (off : Nat) (ws : List Int) (s : WdS) : List Int := (skW (symW off ws) (s.d.1 + s.i.toNat * 16)).l0
def wdF (off : Nat) (ws : List Int) (x : WdZ) : WdZ := (cond (decide (x.2.j < 16)) false x.1, { x.2 with j := 16, b := x.2.b.add (wrdB ((wdL off ws x.2).drop x.2.j.toNat)) })
def wdSp (off : Nat) (ws : List Int) (x : WdZ) : DT WdZ := ifT (wdG off ws x && decide (x.2.j = 0)) (false, { x.2 with j := 16, b := x.2.b.add (wrdB (wdL off ws x.2)) })
theorem wdSp_ok (off : Nat) (ws : List Int) (x b : WdZ) (h : (wdSp off ws x).run = some b) : ∃ m, itN (wdStep off ws) m x = some b := by
  obtain ⟨h1, rfl⟩ := ifT_run h
  rw [Bool.and_eq_true, decide_eq_true_eq] at h1
  obtain ⟨h1, h2⟩ := h1
  have hF : (false, { x.2 with j := 16, b := x.2.b.add (wrdB (wdL off ws x.2)) }) = wdF off ws x := by
    unfold wdF
    rw [h2]; rfl
  rw [hF]
  refine it_of (fun x : WdZ => wdG off ws x = true) (fun x => 16 - x.2.j.toNat) (fun x : WdZ => wdF off ws x) ?_ _ x h1 (Nat.lt_succ_self _)
  rintro ⟨z, s⟩ hg
  simp only [wdG, Bool.and_eq_true, decide_eq_true_eq] at hg
  obtain ⟨⟨⟨⟨⟨⟨⟨⟨g1, g2⟩, g3⟩, g4⟩, g5⟩, g6⟩, g7⟩, g8⟩, g9⟩ := hg
  have g1' := Nat.eq_of_beq_eq_true g1
  have g2' := Nat.eq_of_beq_eq_true g2
  have hl : wdL off ws s = (ws.drop (s.i.toNat * 16)).take 16 := by unfold wdL; rw [g1', skW_l (by omega)]
  have hll : (wdL off ws s).length = 16 := rfl
  by_cases hi : s.j < 16
  · have hj : s.j.toNat < 16 := by omega
    have hwi : s.i.toNat * 16 + s.j.toNat < ws.length := by omega
    have e1 : (symW off ws).okI .u32 (s.d.1 + s.i.toNat * 16 + s.j.toNat * 1) = true := by
      have := symW_t (off := off) (zs := ws) hwi
      rwa [g1', show off + s.i.toNat * 16 + s.j.toNat * 1 = off + (s.i.toNat * 16 + s.j.toNat) * 1 by omega]
    have e2 : (symW off ws).int .u32 (s.d.1 + s.i.toNat * 16 + s.j.toNat * 1) = ws[s.i.toNat * 16 + s.j.toNat] := by
      have := wX_eq (off := off) (zs := ws) hwi
      unfold wX at this
      rw [Int.toNat_natCast] at this
      rwa [g1', show off + s.i.toNat * 16 + s.j.toNat * 1 = off + (s.i.toNat * 16 + s.j.toNat) * 1 by omega]
    have e3 : wordG ws[s.i.toNat * 16 + s.j.toNat] = true := List.all_eq_true.1 g9 _ (List.getElem_mem hwi)
    have e3' := e3
    simp only [wordG, Bool.and_eq_true, decide_eq_true_eq] at e3'
    have e4 : IntKind.i64.wrap ws[s.i.toNat * 16 + s.j.toNat] = ws[s.i.toNat * 16 + s.j.toNat] := wrap_id _ (by omega)
    have e5 : numG ws[s.i.toNat * 16 + s.j.toNat] = true := andI (decide_eq_true e3'.1) (decide_eq_true (by omega))
    have e6 : (decide (0 ≤ s.i) && decide (s.i < (s.d.2.1 : Int)) && s.d.2.1.ble s.d.2.2) = true := andI (andI (decide_eq_true g4) (decide_eq_true g5)) g3
    have hb : byOk s.b (4 * (16 - (s.j + 1).toNat) + (by4 ws[s.i.toNat * 16 + s.j.toNat]).length) = true := by
      show byOk s.b (4 * (16 - (s.j + 1).toNat) + 4) = true
      rw [show 4 * (16 - (s.j + 1).toNat) + 4 = 4 * (16 - s.j.toNat) by omega]; exact g8
    obtain ⟨a1, b1⟩ := apN_run hb rfl
    have e7 : IntKind.i64.wrap (s.j + 1) = s.j + 1 := wrap_id _ (by omega)
    have er : (wdStep off ws (z, s)).run = some (.inl (false, { s with j := s.j + 1, b := s.b.add (by4 ws[s.i.toNat * 16 + s.j.toNat]) })) := by
      unfold wdStep
      simp only [e2, e4, e7]
      rw [run_br, decide_eq_true hi, cond_true]
      simp only [run_bind, chk_run, e6, decide_eq_true g6, e1, e5, a1, byOk_af b1, Bool.and_self, cond_true, Option.bind_some, run_pure]
    rw [er]
    have hget : (wdL off ws s).drop s.j.toNat = ws[s.i.toNat * 16 + s.j.toNat] :: (wdL off ws s).drop (s.j.toNat + 1) := by
      rw [List.drop_eq_getElem_cons (by rw [hll]; exact hj)]
      congr 1
      have : ∀ (l : List Int) (h : s.j.toNat < l.length), l = (ws.drop (s.i.toNat * 16)).take 16 → l[s.j.toNat] = ws[s.i.toNat * 16 + s.j.toNat] := fun l h e => by
        subst e
        rw [List.getElem_take, List.getElem_drop]
      exact this _ _ hl
    refine ⟨?_, ?_, ?_⟩
    · simp only [wdG, Bool.and_eq_true, decide_eq_true_eq]
      exact ⟨⟨⟨⟨⟨⟨⟨⟨g1, g2⟩, g3⟩, g4⟩, g5⟩, by omega⟩, by omega⟩, b1⟩, g9⟩
    · show 16 - (s.j + 1).toNat < 16 - s.j.toNat
      omega
    · unfold wdF
      dsimp only
      rw [add_add, hget, decide_eq_true hi, show (s.j + 1).toNat = s.j.toNat + 1 by omega]
      have hz : (cond (decide (s.j + 1 < 16)) false false) = false := by cases decide (s.j + 1 < 16) <;> rfl
      rw [hz]
      rfl
  · have hj : s.j = 16 := by omega
    have er : (wdStep off ws (z, s)).run = some (.inr (z, s)) := by
      unfold wdStep
      rw [run_br, decide_eq_false hi, cond_false]
      simp only [run_bind, chk_run, byOk_af g8, cond_true, Option.bind_some, run_pure]
    rw [er]
    unfold wdF
    dsimp only
    rw [decide_eq_false hi, hj, List.drop_eq_nil_of_le (show (wdL off ws s).length ≤ (16 : Int).toNat from Nat.le_refl _), show wrdB [] = [] from rfl, add_nil g8, cond_false, ← hj]
def wdW (x : WdZ) : Out := (.exit 4, [pK 1000, rdSl x.1 x.2.b, .int .i64 x.2.i], rdR x.1 x.2.b x.2.dk)
def HBy : Hs := hsOf [] [(16, hBy numG)] []
theorem HBy_ok {gl : Gl} (hgl : Low gl) : HBy.OK Tryz.prog gl := hsOf_ok fx0 (sxC (s_by hgl) sx0) lx0
set_option maxRecDepth 100000 in
theorem l_wd {gl : Gl} (hgl : Low gl) {ws : List Int} {off : Nat} (hW : GlW gl 901 off ws) : LpOK Tryz.prog gl 7 2 ⟨[10, 9, 1, 5], [1, 5, 9], hLp 2 (wdT).dec (wdSp off ws) (wdW)⟩ := loop_sp (st := wdStep off ws) goodT hgl tglob (wdT).ok (by decide) (wdSp_ok off ws) fun s => match s with
  | (true, s) => ⟨syW 901 off ws [], HBy, 100, 40, 40, [], fun _ => [], syW_ok (by decide) hW, HBy_ok hgl, (by
  obtain ⟨j, i, b, c, p, d, q⟩ := s
  rcases q with _ | q <;> (show _ = _; kernel_rfl))⟩
  | (false, s) => ⟨syW 901 off ws [], HBy, 100, 40, 40, [], fun _ => [], syW_ok (by decide) hW, HBy_ok hgl, (by
  obtain ⟨j, i, b, c, p, d, q⟩ := s
  rcases q with _ | q <;> (show _ = _; kernel_rfl))⟩
end Go.Proofs.YtpckfdopokmbkaaGreatDoor.Ev

namespace Go.Proofs.YtpckfdopokmbkaaGreatDoor.Ev
open Go
open Go.Proofs Go.RowKit

/-! The document's deck put: its data, its picks. -/
def rdT : LpT DlZ := ⟨fun vs rows => match vs, rows with
  | [.int .i64 i, .pointer (some p), .slice (some a) m m'], [some (.row dk), some (.row r)] => cond (isBy r && isP a 1001 && isP p 1000) ((rowP 28 pDk dk).bind fun k => match k.p, k.d with
    | some p, some d => some (true, ⟨i, ⟨m, m', r.cells⟩, d.1, d.2.1, d.2.2, (d.2.1 : Int), k.c, p, d, k.q⟩)
    | _, _ => none) none
  | _, _ => none, fun x => ([.int .i64 x.2.i, pK 1000, rdSl x.1 x.2.b], rdR x.1 x.2.b x.2.dk), fun vs rows s h => by
  split at h
  case h_2 => cases h
  rename_i i p a m m' dk r
  obtain ⟨h1, h⟩ := condT h
  obtain ⟨⟨c, kp, kd, kq⟩, h2, h⟩ := Option.bind_eq_some_iff.1 h
  simp only at h
  split at h
  case h_2 => cases h
  simp only [Bool.and_eq_true] at h1
  obtain ⟨⟨h1, h3⟩, h5⟩ := h1
  cases h
  rw [isBy_eq h1, rowP_ok h2, isP_t h3, isP_t h5]
  rfl⟩
def DlS.wd (s : DlS) : WdS := ⟨0, s.i, s.b, s.c, s.p, s.d, s.q⟩
def rdStep (off : Nat) (ws : List Int) (x : DlZ) : DT (DlZ ⊕ DlB) := .br (decide (x.2.i < (x.2.d.2.1 : Int))) (do
    chA x.2.b
    let r ← wdSp off ws (true, x.2.wd)
    chA r.2.b
    chA r.2.b
    pure (.inl (false, { x.2 with i := IntKind.i64.wrap (x.2.i + 1), b := r.2.b }))) (do
  chA x.2.b
  pure (.inr x))
def rdG (off : Nat) (ws : List Int) (x : DlZ) : Bool := dlG off ws x && (Nat.beq x.2.o x.2.d.1 && Nat.beq x.2.n x.2.d.2.1 && Nat.beq x.2.cap x.2.d.2.2) && ws.all wordG
def rdSp (off : Nat) (ws : List Int) (x : DlZ) : DT DlB := .br (rdG off ws x) (let r := dlF off ws (x.2.n - x.2.i.toNat) x; do let z ← bl r.1; pure (z, { x.2 with i := x.2.i + ((x.2.n - x.2.i.toNat : Nat) : Int), b := r.2.b })) .fail
theorem rdSp_ok (off : Nat) (ws : List Int) (x : DlZ) (b : DlB) (h : (rdSp off ws x).run = some b) : ∃ m, itN (rdStep off ws) m x = some b := by
  obtain ⟨h1, h2⟩ := condT (show cond (rdG off ws x) _ none = some b from h)
  have hb : b = dlF off ws (x.2.n - x.2.i.toNat) x := by
    have e : dlF off ws (x.2.n - x.2.i.toNat) x = ((dlF off ws (x.2.n - x.2.i.toNat) x).1, { x.2 with i := x.2.i + ((x.2.n - x.2.i.toNat : Nat) : Int), b := (dlF off ws (x.2.n - x.2.i.toNat) x).2.b }) := by
      rw [← dlF_inv]
    rw [e]
    revert h2
    generalize dlF off ws (x.2.n - x.2.i.toNat) x = r
    obtain ⟨r1, r2⟩ := r
    intro h2
    cases r1 <;> (cases h2; rfl)
  subst hb
  refine it_of (fun x : DlZ => rdG off ws x = true) (fun x => x.2.n - x.2.i.toNat) (fun x : DlZ => dlF off ws (x.2.n - x.2.i.toNat) x) ?_ _ x h1 (Nat.lt_succ_self _)
  rintro ⟨z, s⟩ hg
  simp only [rdG, dlG, Bool.and_eq_true, decide_eq_true_eq] at hg
  obtain ⟨⟨⟨⟨⟨⟨⟨⟨⟨g1, g2⟩, g3⟩, g4⟩, g5⟩, g6⟩, g7⟩, g8⟩, ⟨k1, k2⟩, k3⟩, gw⟩ := hg
  have g1' := Nat.eq_of_beq_eq_true g1
  have g2' := Nat.eq_of_beq_eq_true g2
  have g7' := Nat.le_of_ble_eq_true g7
  have k1' := Nat.eq_of_beq_eq_true k1
  have k2' := Nat.eq_of_beq_eq_true k2
  have k3' := Nat.eq_of_beq_eq_true k3
  have hA := chA_run g8
  by_cases hi : s.i < (s.n : Int)
  · have hd : decide (s.i < (s.d.2.1 : Int)) = true := decide_eq_true (by omega)
    have h0 : byOk s.b (64 * (s.n - (s.i + 1).toNat) + (blkB off ws (s.o + s.i.toNat * 16)).length) = true := by
      have : (blkB off ws (s.o + s.i.toNat * 16)).length = 64 := by unfold blkB; rw [wrdB_len]; rfl
      rw [this, show 64 * (s.n - (s.i + 1).toNat) + 64 = 64 * (s.n - s.i.toNat) by omega]; exact g8
    have b1 := byOk_add h0 (isU8_af (wrdB_u8 _))
    have hw : (wdG off ws (true, s.wd) && decide ((true, s.wd).2.j = 0)) = true := by
      refine andI ?_ (decide_eq_true rfl)
      simp only [wdG, Bool.and_eq_true, decide_eq_true_eq]
      exact ⟨⟨⟨⟨⟨⟨⟨⟨by show Nat.beq s.d.1 off = true; rw [← k1']; exact g1, by show Nat.beq (s.d.2.1 * 16) ws.length = true; rw [← k2']; exact g2⟩, by show Nat.ble s.d.2.1 s.d.2.2 = true; rw [← k2', ← k3']; exact g3⟩, g5⟩, by show s.i < (s.d.2.1 : Int); omega⟩, by show (0 : Int) ≤ 0; omega⟩, by show (0 : Int) ≤ 16; omega⟩, byOk_le g8 (by show 4 * (16 - 0) ≤ _; omega)⟩, gw⟩
    have hbb : s.wd.b.add (wrdB (wdL off ws s.wd)) = s.b.add (blkB off ws (s.o + s.i.toNat * 16)) := by
      show s.b.add (wrdB (skW (symW off ws) (s.d.1 + s.i.toNat * 16)).l0) = _
      rw [← k1']; rfl
    have hr : (wdSp off ws (true, s.wd)).run = some (false, { s.wd with j := 16, b := s.b.add (blkB off ws (s.o + s.i.toNat * 16)) }) := by
      unfold wdSp ifT
      rw [run_br, hw, cond_true, ← hbb]; rfl
    have er : (rdStep off ws (z, s)).run = some (.inl (false, { s with i := IntKind.i64.wrap (s.i + 1), b := s.b.add (blkB off ws (s.o + s.i.toNat * 16)) })) := by
      unfold rdStep
      rw [run_br, hd, cond_true]
      simp only [run_bind, hA, hr, chA_run b1, Option.bind_some, run_pure]
    rw [er]
    rw [wrap_id (s.i + 1) (by omega)]
    refine ⟨?_, ?_, ?_⟩
    · simp only [rdG, dlG, Bool.and_eq_true, decide_eq_true_eq]
      exact ⟨⟨⟨⟨⟨⟨⟨⟨⟨g1, g2⟩, g3⟩, g4⟩, by omega⟩, by omega⟩, g7⟩, b1⟩, ⟨k1, k2⟩, k3⟩, gw⟩
    · show s.n - (s.i + 1).toNat < s.n - s.i.toNat
      omega
    · dsimp only
      rw [show s.n - s.i.toNat = (s.n - (s.i + 1).toNat) + 1 by omega]; rfl
  · have hd : decide (s.i < (s.d.2.1 : Int)) = false := decide_eq_false (by omega)
    have er : (rdStep off ws (z, s)).run = some (.inr (z, s)) := by
      unfold rdStep
      rw [run_br, hd, cond_false]
      simp only [run_bind, hA, Option.bind_some, run_pure]
    rw [er]
    show (z, s) = dlF off ws (s.n - s.i.toNat) (z, s)
    rw [show s.n - s.i.toNat = 0 by omega]; rfl
def rdW (b : DlB) : Out := (.exit 2, [pK 1000, rdSl b.1 b.2.b], rdR b.1 b.2.b b.2.dk)
def HWd (off : Nat) (ws : List Int) : Hs := H0.addL 7 2 ⟨[10, 9, 1, 5], [1, 5, 9], hLp 2 wdT.dec (wdSp off ws) wdW⟩
theorem HWd_ok {gl : Gl} (hgl : Low gl) {ws : List Int} {off : Nat} (hW : GlW gl 901 off ws) : (HWd off ws).OK Tryz.prog gl := Hs.addL_ok H0_ok (l_wd hgl hW)
set_option maxRecDepth 100000 in
theorem l_rd {gl : Gl} (hgl : Low gl) {ws : List Int} {off : Nat} (hW : GlW gl 901 off ws) : LpOK Tryz.prog gl 7 1 ⟨[9, 1, 5], [1, 5], hLp 2 (rdT).dec (rdSp off ws) (rdW)⟩ := loop_sp (st := rdStep off ws) goodT hgl tglob (rdT).ok (by decide) (rdSp_ok off ws) fun s => match s with
  | (true, s) => ⟨syG [], HWd off ws, 100, 40, 40, [], fun _ => [], syG_ok _, HWd_ok hgl hW, (by
  obtain ⟨i, b, o, n, cap, n', c, p, d, q⟩ := s
  rcases q with _ | q <;> (show _ = _; kernel_rfl))⟩
  | (false, s) => ⟨syG [], HWd off ws, 100, 40, 40, [], fun _ => [], syG_ok _, HWd_ok hgl hW, (by
  obtain ⟨i, b, o, n, cap, n', c, p, d, q⟩ := s
  rcases q with _ | q <;> (show _ = _; kernel_rfl))⟩
/-! Its picks. -/
structure RkS where
  i : Int
  b : By
  c : Cfg
  p : Nat × Nat × Nat
  d : Sl
  q : Nat × Nat × Nat
def RkS.dk (s : RkS) : DkS := ⟨s.c, some s.p, s.d, some s.q⟩
abbrev RkZ := Bool × RkS
def rkT : LpT RkZ := ⟨fun vs rows => match vs, rows with
  | [.int .i64 i, .pointer (some p), .slice (some a) m m'], [some (.row dk), some (.row r)] => cond (isBy r && isP a 1001 && isP p 1000) ((rowP 28 pDk dk).bind fun k => match k.p, k.q with
    | some p, some q => some (true, ⟨i, ⟨m, m', r.cells⟩, k.c, p, k.d, q⟩)
    | _, _ => none) none
  | _, _ => none, fun x => ([.int .i64 x.2.i, pK 1000, rdSl x.1 x.2.b], rdR x.1 x.2.b x.2.dk), fun vs rows s h => by
  split at h
  case h_2 => cases h
  rename_i i p a m m' dk r
  obtain ⟨h1, h⟩ := condT h
  obtain ⟨⟨c, kp, kd, kq⟩, h2, h⟩ := Option.bind_eq_some_iff.1 h
  simp only at h
  split at h
  case h_2 => cases h
  simp only [Bool.and_eq_true] at h1
  obtain ⟨⟨h1, h3⟩, h5⟩ := h1
  cases h
  rw [isBy_eq h1, rowP_ok h2, isP_t h3, isP_t h5]
  rfl⟩
/-- A pick's byte, as the document takes it. -/
def rkV (p : Pk) : Int := IntKind.u8.wrap (IntKind.i64.wrap (p.2 + IntKind.i64.wrap (128 * IntKind.i64.wrap (IntKind.u8.wrap (p.1 - 1)))))
def rkStep (off : Nat) (l : List Pk) (x : RkZ) : DT (RkZ ⊕ RkZ) :=
  let o := x.2.q.1 + x.2.i.toNat * 2
  let p := pkAt (symP off l) o
  .br (decide (x.2.i < (x.2.q.2.1 : Int))) (do
    chk (decide (0 ≤ x.2.i) && decide (x.2.i < (x.2.q.2.1 : Int)) && x.2.q.2.1.ble x.2.q.2.2)
    chk ((symP off l).okI .i64 (o + 1))
    chk (decide (0 ≤ x.2.i) && decide (x.2.i < (x.2.q.2.1 : Int)) && x.2.q.2.1.ble x.2.q.2.2)
    chk ((symP off l).okI .u8 o)
    let b ← apB x.2.b (.int .u8 (rkV p))
    qsD [rkV p, IntKind.i64.wrap (IntKind.u8.wrap (p.1 - 1))]
    chk ((symP off l).okI .u8 o)
    qsD [p.1]
    chk (x.2.q.1.beq x.2.q.1 && true && true)
    qnD [x.2.q.2.1, x.2.q.2.2]
    chk ((symP off l).okI .i64 (o + 1))
    qsD [p.2]
    chk (x.2.q.1.beq x.2.q.1 && true && true)
    qnD [x.2.q.2.1, x.2.q.2.2]
    chA b
    pure (.inl (false, { x.2 with i := IntKind.i64.wrap (x.2.i + 1), b := b }))) (do
  chA x.2.b
  pure (.inr x))
def rkG (off : Nat) (l : List Pk) (x : RkZ) : Bool := Nat.beq x.2.q.1 off && Nat.beq x.2.q.2.1 l.length && Nat.ble l.length x.2.q.2.2 && decide (0 ≤ x.2.i) && decide (x.2.i ≤ (l.length : Int)) && Nat.ble l.length 1048576 && byOk x.2.b (l.length - x.2.i.toNat) && l.all pkOk
def rkF (l : List Pk) (x : RkZ) : RkZ := (cond (decide (x.2.i < (l.length : Int))) false x.1, { x.2 with i := (l.length : Int), b := x.2.b.add ((l.drop x.2.i.toNat).map pkB) })
def rkSp (off : Nat) (l : List Pk) (x : RkZ) : DT RkZ := .br (rkG off l x) (do let z ← bl (rkF l x).1; pure (z, (rkF l x).2)) .fail
theorem rkV_eq {p : Pk} (h : pkOk p = true) : Value.int .u8 (rkV p) = pkB p := by
  obtain ⟨k, n⟩ := p
  simp only [pkOk, Bool.and_eq_true, Bool.or_eq_true, decide_eq_true_eq, beq_iff_eq] at h
  obtain ⟨⟨h1, h2⟩, h3⟩ := h
  unfold rkV pkB
  dsimp only
  rcases h1 with h1 | h1
  · subst h1
    have e : IntKind.i64.wrap (128 * IntKind.i64.wrap (IntKind.u8.wrap (1 - 1))) = 0 := by decide
    rw [e, wrap_id _ (by omega), Int.add_zero]; rfl
  · subst h1
    have e : IntKind.i64.wrap (128 * IntKind.i64.wrap (IntKind.u8.wrap (2 - 1))) = 128 := by decide
    rw [e, wrap_id _ (by omega), show IntKind.u8.wrap n = n from wrap_u8 h2 (by omega)]; rfl
theorem rkSp_ok (off : Nat) (l : List Pk) (x b : RkZ) (h : (rkSp off l x).run = some b) : ∃ m, itN (rkStep off l) m x = some b := by
  obtain ⟨h1, h2⟩ := condT (show cond (rkG off l x) _ none = some b from h)
  have hb : b = rkF l x := by
    revert h2
    generalize rkF l x = r
    obtain ⟨r1, r2⟩ := r
    intro h2
    cases r1 <;> (cases h2; rfl)
  subst hb
  refine it_of (fun x : RkZ => rkG off l x = true) (fun x => l.length - x.2.i.toNat) (fun x : RkZ => rkF l x) ?_ _ x h1 (Nat.lt_succ_self _)
  rintro ⟨z, s⟩ hg
  simp only [rkG, Bool.and_eq_true, decide_eq_true_eq] at hg
  obtain ⟨⟨⟨⟨⟨⟨⟨g1, g2⟩, g3⟩, g5⟩, g6⟩, g7⟩, g8⟩, g9⟩ := hg
  have g1' := Nat.eq_of_beq_eq_true g1
  have g2' := Nat.eq_of_beq_eq_true g2
  have g7' := Nat.le_of_ble_eq_true g7
  have hA := chA_run g8
  by_cases hi : s.i < (l.length : Int)
  · have hj : s.i.toNat < l.length := by omega
    obtain ⟨s1, s2⟩ := symP_at (off := off) hj
    rw [← g1'] at s1 s2
    simp only [Bool.and_eq_true, Bool.and_true] at s1
    have s1a : (symP s.q.1 l).okI .u8 (s.q.1 + s.i.toNat * 2) = true := s1.1
    have hd : decide (s.i < (s.q.2.1 : Int)) = true := decide_eq_true (by omega)
    have e1 : (decide (0 ≤ s.i) && true && s.q.2.1.ble s.q.2.2) = true := by rw [decide_eq_true g5, g2', g3]; rfl
    have h0 : byOk s.b (l.length - (s.i + 1).toNat + 1) = true := by
      rw [show l.length - (s.i + 1).toNat + 1 = l.length - s.i.toNat by omega]; exact g8
    have haf : af 8 (pkB l[s.i.toNat]) = true := by unfold pkB; cases (l[s.i.toNat]).1 == 2 <;> rfl
    have hpk : pkOk l[s.i.toNat] = true := List.all_eq_true.1 g9 _ (List.getElem_mem hj)
    obtain ⟨a1, b1⟩ := apB_run h0 haf
    have er : (rkStep off l (z, s)).run = some (.inl (false, { s with i := IntKind.i64.wrap (s.i + 1), b := s.b.add [pkB l[s.i.toNat]] })) := by
      unfold rkStep
      dsimp only
      rw [← g1'] 
      rw [s2, rkV_eq hpk, run_br, hd, cond_true]
      simp only [run_bind, chk_run, e1, s1a, s1.2, a1, qsD_run, qnD_run, Nat.beq_refl, Bool.and_self, chA_run b1, cond_true, Option.bind_some, run_pure]
    rw [er]
    rw [wrap_id (s.i + 1) (by omega)]
    refine ⟨?_, ?_, ?_⟩
    · simp only [rkG, Bool.and_eq_true, decide_eq_true_eq]
      exact ⟨⟨⟨⟨⟨⟨⟨g1, g2⟩, g3⟩, by omega⟩, by omega⟩, g7⟩, b1⟩, g9⟩
    · show l.length - (s.i + 1).toNat < l.length - s.i.toNat
      omega
    · unfold rkF
      dsimp only
      rw [add_add, List.drop_eq_getElem_cons hj, decide_eq_true hi, show (s.i + 1).toNat = s.i.toNat + 1 by omega]
      have hz : (cond (decide (s.i + 1 < (l.length : Int))) false false) = false := by cases decide (s.i + 1 < (l.length : Int)) <;> rfl
      rw [hz]; rfl
  · have hd : decide (s.i < (s.q.2.1 : Int)) = false := decide_eq_false (by omega)
    have er : (rkStep off l (z, s)).run = some (.inr (z, s)) := by
      unfold rkStep
      dsimp only
      rw [run_br, hd, cond_false]
      simp only [run_bind, hA, Option.bind_some, run_pure]
    rw [er]
    have hil : s.i = (l.length : Int) := by omega
    unfold rkF
    dsimp only
    rw [decide_eq_false hi, List.drop_eq_nil_of_le (by omega), List.map_nil, add_nil g8, cond_false, ← hil]
def rkW (x : RkZ) : Out := (.exit 6, [rdSl x.1 x.2.b], rdR x.1 x.2.b x.2.dk)
set_option maxRecDepth 100000 in
theorem l_rk {gl : Gl} (hgl : Low gl) {l : List Pk} {off : Nat} (hQ : GlPk gl 902 off l) : LpOK Tryz.prog gl 7 3 ⟨[11, 1, 5], [5], hLp 2 (rkT).dec (rkSp off l) (rkW)⟩ := loop_sp (st := rkStep off l) goodT hgl tglob (rkT).ok (by decide) (rkSp_ok off l) fun s => match s with
  | (true, s) => ⟨syP 902 off l, H0, 100, 40, 40, [], fun _ => [], syP_ok (by decide) hQ, H0_ok, (by
  obtain ⟨i, b, c, p, d, q⟩ := s
  rcases d with _ | d <;> (show _ = _; kernel_rfl))⟩
  | (false, s) => ⟨syP 902 off l, H0, 100, 40, 40, [], fun _ => [], syP_ok (by decide) hQ, H0_ok, (by
  obtain ⟨i, b, c, p, d, q⟩ := s
  rcases d with _ | d <;> (show _ = _; kernel_rfl))⟩
end Go.Proofs.YtpckfdopokmbkaaGreatDoor.Ev

namespace Go.Proofs.YtpckfdopokmbkaaGreatDoor.Ev
open Go
open Go.Proofs Go.RowKit

/-! The document's deck put, whole. -/
theorem s_mayR {gl : Gl} (hgl : Low gl) {P : Pgs} {D : Dat} {Q : Pks} (h : GlK gl P D Q) : SubOK Tryz.prog gl 15 (hA noL decDk (fun _ => mayD P D Q) fun b => (.normal, [.bool b], [])) := hA_weak (s_rdm hgl h) fun _ _ _ e => mayD_run e
def HRu0 (g : Int → Bool) (P : Pgs) (D : Dat) (Q : Pks) : Hs := hsOf [] [(15, hA noL decDk (fun _ => mayD P D Q) fun b => (.normal, [.bool b], [])), (16, hBy g)] []
def HRu (g : Int → Bool) (P : Pgs) (D : Dat) (Q : Pks) (k : DkS) : Hs := (((HRu0 g P D Q).addL 7 0 ⟨[6, 5, 1], [1, 5], hLp 2 rgT.dec (rgSp P.1 (P.2.2.take 16)) rgW⟩).addO k.d 7 1 ⟨[9, 1, 5], [1, 5], hLp 2 rdT.dec (rdSp D.1 D.2.2) rdW⟩).addO k.q 7 3 ⟨[11, 1, 5], [5], hLp 2 rkT.dec (rkSp Q.1 Q.2) rkW⟩
theorem HRu_ok {gl : Gl} (hgl : Low gl) {g : Int → Bool} (hg : SubOK Tryz.prog gl 16 (hBy g)) {P : Pgs} {D : Dat} {Q : Pks} (h : GlK gl P D Q) (k : DkS) : (HRu g P D Q k).OK Tryz.prog gl := by
  have h0 : (HRu0 g P D Q).OK Tryz.prog gl := hsOf_ok fx0 (sxC (s_mayR hgl h) (sxC hg sx0)) lx0
  have hc := h.PD.cut
  exact Hs.addO_ok (Hs.addO_ok (Hs.addL_ok h0 (l_rg hgl hc.F hc.P (by show (P.2.2.take 16).length ≤ 16; simp; omega))) (l_rd hgl h.PD.D)) (l_rk hgl h.Q)
def ruHd (c : Cfg) : By := ⟨12, 12, [v8 85, v8 68, v8 1, v8 c.cores, v8 c.sets, v8 c.ways, v8 c.logs, v8 c.backs, v8 c.nest, v8 c.tries] ++ by2 c.blocks⟩
def ruDat (D : Dat) (b : By) (c : Cfg) (p : Nat × Nat × Nat) (d q : Sl) : DT By := match d with
  | none => pure b
  | some d => do
    chA b
    let x ← rdSp D.1 D.2.2 (true, ⟨0, b, d.1, d.2.1, d.2.2, (d.2.1 : Int), c, p, d, q⟩)
    chA x.2.b
    pure x.2.b
def ruPks (Q : Pks) (b : By) (c : Cfg) (p : Nat × Nat × Nat) (d q : Sl) : DT By := match q with
  | none => pure b
  | some q => do
    chA b
    let x ← rkSp Q.1 Q.2 (true, ⟨0, b, c, p, d, q⟩)
    chA x.2.b
    pure x.2.b
def ruRest (g : Int → Bool) (D : Dat) (Q : Pks) (b : By) (c : Cfg) (p : Nat × Nat × Nat) (d q : Sl) : DT (ByteArray × Int) := do
  let b ← apB b (v8 (d.n : Int))
  let b ← ruDat D b c p d q
  chk (g (q.n : Int))
  let b ← apN b (by4 (q.n : Int))
  let b ← ruPks Q b c p d q
  let t ← cvS b
  pure (t, 0)
def ruPut (g : Int → Bool) (P : Pgs) (D : Dat) (Q : Pks) (k : DkS) : DT (ByteArray × Int) := do
  let m ← mayD P D Q k
  cond m (match k.p with
    | none => .fail
    | some p => do
      chk (g k.c.blocks)
      let r ← rgSp P.1 (P.2.2.take 16) ⟨0, ruHd k.c, k.c, p, k.d, k.q⟩
      chA r.2.b
      ruRest g D Q r.2.b k.c p k.d k.q) (pure (⟨#[]⟩, 2))
set_option maxRecDepth 100000 in
theorem s_ru0 {gl : Gl} (hgl : Low gl) {g : Int → Bool} (hg : SubOK Tryz.prog gl 16 (hBy g)) {P : Pgs} {D : Dat} {Q : Pks} (h : GlK gl P D Q) : SubOK Tryz.prog gl 7 (hA (noL) (decDk) (fun _ => ruPut g P D Q) (ipO)) := hA_sub hgl fun k x => ⟨syG [], HRu g P D Q x, noV, syG_ok _, HRu_ok hgl hg h x, (by
  obtain ⟨c, p, d, q⟩ := x
  rcases p with _ | p <;> rcases d with _ | d <;> rcases q with _ | q <;> (show _ = _; kernel_rfl))⟩
end Go.Proofs.YtpckfdopokmbkaaGreatDoor.Ev

namespace Go.Proofs.YtpckfdopokmbkaaGreatDoor.Ev
open Go
open Go.Proofs Go.RowKit

/-! The document's deck put, in closed form. -/
def rtC (P : Pgs) (D : Dat) (Q : Pks) (k : DkS) : DT (ByteArray × Int) := ifT (dkG P D Q k && D.2.2.all wordG) (dkF k.c P.2.2 D.2.2 k.d.n Q.2)
theorem rdat_run {D : Dat} {b : By} {c : Cfg} {p : Nat × Nat × Nat} {d q : Sl} {k : Nat} (hD : slWs 16 D d = true) (hW : D.2.2.all wordG = true) (hn : d.n ≤ 255) (hb : byOk b (k + 20000) = true) : (ruDat D b c p d q).run = some (b.add (wrdB D.2.2)) ∧ byOk (b.add (wrdB D.2.2)) k = true := by
  have hdl : d.n * 16 = D.2.2.length := by
    cases d with
    | none => rw [List.isEmpty_iff.1 hD]; rfl
    | some x =>
      have hD : (Nat.beq x.1 D.1 && Nat.beq (x.2.1 * 16) D.2.2.length && Nat.ble x.2.1 x.2.2) = true := hD
      simp only [Bool.and_eq_true] at hD
      exact Nat.eq_of_beq_eq_true hD.1.2
  have hw : (wrdB D.2.2).length = 64 * d.n := by rw [wrdB_len]; omega
  have b2 : byOk (b.add (wrdB D.2.2)) k = true := byOk_add (byOk_le hb (by rw [hw]; omega)) (isU8_af (wrdB_u8 _))
  refine ⟨?_, b2⟩
  cases d with
  | none =>
    have : D.2.2 = [] := List.isEmpty_iff.1 hD
    rw [this, show wrdB [] = [] from rfl, add_nil hb]; rfl
  | some y =>
    have hD : (Nat.beq y.1 D.1 && Nat.beq (y.2.1 * 16) D.2.2.length && Nat.ble y.2.1 y.2.2) = true := hD
    simp only [Bool.and_eq_true] at hD
    have hn : y.2.1 ≤ 255 := hn
    have hdl : y.2.1 * 16 = D.2.2.length := hdl
    have hbb : byOk b (64 * (y.2.1 - (0 : Int).toNat)) = true := byOk_le hb (by show 64 * (y.2.1 - 0) ≤ _; omega)
    have hg : rdG D.1 D.2.2 (true, ⟨0, b, y.1, y.2.1, y.2.2, (y.2.1 : Int), c, p, y, q⟩) = true := by
      simp only [rdG, dlG, Bool.and_eq_true, decide_eq_true_eq]
      exact ⟨⟨⟨⟨⟨⟨⟨⟨⟨hD.1.1, hD.1.2⟩, hD.2⟩, trivial⟩, by simp⟩, by simp⟩, nbl (by omega)⟩, hbb⟩, ⟨by simp, by simp⟩, by simp⟩, hW⟩
    have hf := dlF_b D.1 D.2.2 (y.2.1 - (0 : Int).toNat) 0 (true, ⟨0, b, y.1, y.2.1, y.2.2, (y.2.1 : Int), c, p, y, q⟩) rfl (Nat.eq_of_beq_eq_true hD.1.1) (by show (0 + (y.2.1 - 0)) * 16 ≤ _; omega) hbb
    have ht : (D.2.2.drop (0 * 16)).take ((y.2.1 - (0 : Int).toNat) * 16) = D.2.2 := by
      rw [show 0 * 16 = 0 from rfl, List.drop_zero]
      exact List.take_of_length_le (by show _ ≤ (y.2.1 - 0) * 16; omega)
    rw [ht] at hf
    have hs : (rdSp D.1 D.2.2 (true, ⟨0, b, y.1, y.2.1, y.2.2, (y.2.1 : Int), c, p, y, q⟩)).run.map (fun x => x.2.b) = some (b.add (wrdB D.2.2)) := by
      unfold rdSp
      rw [run_br, hg, cond_true]
      dsimp only
      rw [run_bind, bl_run]
      show some (dlF D.1 D.2.2 _ _).2.b = _
      rw [hf]
    obtain ⟨x, hx1, hx2⟩ := Option.map_eq_some_iff.1 hs
    show (do chA b; let x ← rdSp D.1 D.2.2 (true, ⟨0, b, y.1, y.2.1, y.2.2, (y.2.1 : Int), c, p, y, q⟩); chA x.2.b; pure x.2.b : DT By).run = _
    rw [run_bind, chA_run hb, Option.bind_some, run_bind, hx1, Option.bind_some, run_bind, hx2, chA_run b2, Option.bind_some, run_pure]
theorem rpks_run {Q : Pks} {b : By} {c : Cfg} {p : Nat × Nat × Nat} {d q : Sl} {k : Nat} (hQ : slQs Q q = true) (hk : Q.2.all pkOk = true) (hq : Q.2.length ≤ 65536) (hb : byOk b (k + 70000) = true) : (ruPks Q b c p d q).run = some (b.add (Q.2.map pkB)) ∧ byOk (b.add (Q.2.map pkB)) k = true := by
  have b2 : byOk (b.add (Q.2.map pkB)) k = true := byOk_add (byOk_le hb (by rw [List.length_map]; omega)) (isU8_af (pks_u8 _))
  refine ⟨?_, b2⟩
  cases q with
  | none =>
    have : Q.2 = [] := List.isEmpty_iff.1 hQ
    rw [this, show [].map pkB = [] from rfl, add_nil hb]; rfl
  | some y =>
    have hQ : (Nat.beq y.1 Q.1 && Nat.beq y.2.1 Q.2.length && Nat.ble Q.2.length y.2.2) = true := hQ
    simp only [Bool.and_eq_true] at hQ
    have hbb : byOk b (Q.2.length - (0 : Int).toNat) = true := byOk_le hb (by show Q.2.length - 0 ≤ _; omega)
    have hg : rkG Q.1 Q.2 (true, ⟨0, b, c, p, d, y⟩) = true := by
      simp only [rkG, Bool.and_eq_true, decide_eq_true_eq]
      exact ⟨⟨⟨⟨⟨⟨⟨hQ.1.1, hQ.1.2⟩, hQ.2⟩, by simp⟩, by simp⟩, nbl (by omega)⟩, hbb⟩, hk⟩
    have hs : (rkSp Q.1 Q.2 (true, ⟨0, b, c, p, d, y⟩)).run.map (fun x => x.2.b) = some (b.add (Q.2.map pkB)) := by
      unfold rkSp
      rw [run_br, hg, cond_true, run_bind, bl_run]
      show some (b.add ((Q.2.drop 0).map pkB)) = _
      rw [List.drop_zero]
    obtain ⟨x, hx1, hx2⟩ := Option.map_eq_some_iff.1 hs
    show (do chA b; let x ← rkSp Q.1 Q.2 (true, ⟨0, b, c, p, d, y⟩); chA x.2.b; pure x.2.b : DT By).run = _
    rw [run_bind, chA_run hb, Option.bind_some, run_bind, hx1, Option.bind_some, run_bind, hx2, chA_run b2, Option.bind_some, run_pure]
theorem rrest_run {g : Int → Bool} {D : Dat} {Q : Pks} {b : By} {c : Cfg} {p : Nat × Nat × Nat} {d q : Sl} (hg : g (q.n : Int) = true) (hD : slWs 16 D d = true) (hW : D.2.2.all wordG = true) (hQ : slQs Q q = true) (hk : Q.2.all pkOk = true) (hn : d.n ≤ 255) (hq : Q.2.length ≤ 65536) (hb : byOk b 200000 = true) (hu : isU8 b.l = true) (h1 : 1 ≤ b.n) :
    (ruRest g D Q b c p d q).run = some (strOf (b.l ++ ([v8 (d.n : Int)] ++ (wrdB D.2.2 ++ (by4 (IntKind.u32.wrap (Q.2.length : Int)) ++ Q.2.map pkB)))), 0) := by
  have hql := slQ_len hQ
  have hw : IntKind.u32.wrap (Q.2.length : Int) = (Q.2.length : Int) := wrap_u32 (by omega) (by omega)
  obtain ⟨a1, b1⟩ := apB_run (v := v8 (d.n : Int)) (k := 150000) (byOk_le hb (by omega)) rfl
  obtain ⟨a2, b2⟩ := rdat_run (c := c) (p := p) (q := q) (k := 100000) hD hW hn (byOk_le b1 (by omega))
  obtain ⟨a3, b3⟩ := apN_run (l := by4 (q.n : Int)) (k := 80000) (byOk_le b2 (by show 80000 + 4 ≤ _; omega)) rfl
  obtain ⟨a4, b4⟩ := rpks_run (c := c) (p := p) (d := d) (k := 0) hQ hk hq (byOk_le b3 (by omega))
  have hl : ((((b.add [v8 (d.n : Int)]).add (wrdB D.2.2)).add (by4 (q.n : Int))).add (Q.2.map pkB)).l = b.l ++ ([v8 (d.n : Int)] ++ (wrdB D.2.2 ++ (by4 (IntKind.u32.wrap (Q.2.length : Int)) ++ Q.2.map pkB))) := by
    rw [hql, hw]
    simp only [By.add, List.append_assoc]
  have hu4 : isU8 (b.l ++ ([v8 (d.n : Int)] ++ (wrdB D.2.2 ++ (by4 (IntKind.u32.wrap (Q.2.length : Int)) ++ Q.2.map pkB)))) = true := isU8_app hu (isU8_app rfl (isU8_app (wrdB_u8 _) (isU8_app rfl (pks_u8 _))))
  unfold ruRest
  rw [run_bind, a1, Option.bind_some, run_bind, a2, Option.bind_some, run_bind, chk_run, hg, cond_true, Option.bind_some, run_bind, a3, Option.bind_some, run_bind, a4, Option.bind_some, run_bind, cvS_run b4 (by rw [hl]; exact hu4) (by show 1 ≤ b.n + 1 + _ + _ + _; omega), hl]
  rfl
theorem rtC_run {g : Int → Bool} (hgg : ∀ x : Int, 0 ≤ x → x ≤ 1000000 → g x = true) {P : Pgs} {D : Dat} {Q : Pks} {k : DkS} {b : ByteArray × Int} (h : (rtC P D Q k).run = some b) : (ruPut g P D Q k).run = some b := by
  obtain ⟨h1, rfl⟩ := ifT_run h
  obtain ⟨c, p, d, q⟩ := k
  rw [Bool.and_eq_true] at h1
  obtain ⟨h1, hW⟩ := h1
  have hg := h1
  simp only [dkG, Bool.and_eq_true] at h1
  obtain ⟨⟨hP, hD⟩, hQ⟩ := h1
  unfold ruPut
  rw [run_bind]
  cases p with
  | none =>
    have e : (mayD P D Q ⟨c, none, d, q⟩).run = some false := by
      show (DT.br (dkG P D Q ⟨c, none, d, q⟩) (pure false) .fail : DT Bool).run = _
      rw [run_br, hg]; rfl
    have e2 := mayD_run e
    have e3 : (mayC P D Q ⟨c, none, d, q⟩).run = some (dkB c P.2.2 d.n Q.2) := by
      unfold mayC
      rw [run_br, hg, cond_true, bl_run]
    rw [e3] at e2
    have e4 : dkB c P.2.2 d.n Q.2 = false := by injection e2
    rw [e]
    show some ((⟨#[]⟩ : ByteArray), (2 : Int)) = some (dkF c P.2.2 D.2.2 d.n Q.2)
    unfold dkF
    rw [e4]; rfl
  | some p =>
    have e3 : (mayD P D Q ⟨c, some p, d, q⟩).run = some (dkB c P.2.2 d.n Q.2) := by
      show (mayC P D Q ⟨c, some p, d, q⟩).run = _
      unfold mayC
      rw [run_br, hg, cond_true, bl_run]
    rw [e3, Option.bind_some]
    cases hB : dkB c P.2.2 d.n Q.2 with
    | false =>
      show some ((⟨#[]⟩ : ByteArray), (2 : Int)) = some (dkF c P.2.2 D.2.2 d.n Q.2)
      unfold dkF
      rw [hB]; rfl
    | true =>
      have hB0 := hB
      simp only [dkB, chB, Bool.and_eq_true, decide_eq_true_eq] at hB
      obtain ⟨⟨⟨q1, q2⟩, q3⟩, ⟨⟨q4, q5⟩, q6⟩, q7⟩ := hB
      have hP' : (Nat.beq p.1 P.1 && Nat.beq p.2.1 P.2.2.length && Nat.ble P.2.2.length p.2.2 && P.2.2.all Pg.ok) = true := hP
      simp only [Bool.and_eq_true] at hP'
      obtain ⟨⟨⟨p1, p2⟩, p3⟩, p4⟩ := hP'
      obtain ⟨⟨_, _, _, _, _, _, hb1, hb2, _⟩, _⟩ := planOk_iff.1 q4
      have hc := planCores q4
      have hcut : P.2.2.take 16 = P.2.2 := cut_len q4 q5
      have hpl := Nat.eq_of_beq_eq_true p2
      have hhd : ruHd c = dkHd c := by
        have hw : IntKind.u32.wrap c.blocks = c.blocks := wrap_u32 (by omega) (by omega)
        unfold ruHd dkHd
        rw [hw]
      have hbb : byOk (dkHd c) (4200 * P.2.2.length) = true := byOk_iff.2 ⟨rfl, rfl, rfl, by show 12 + 4200 * P.2.2.length ≤ _; omega⟩
      have hgr : rgG P.1 P.2.2 ⟨0, dkHd c, c, p, d, q⟩ = true := by
        simp only [rgG, Bool.and_eq_true]
        exact ⟨⟨⟨⟨⟨⟨p1, p2⟩, p3⟩, nbl (Nat.zero_le _)⟩, p4⟩, nbl (by omega)⟩, hbb⟩
      have hs : ∃ z, (rgSp P.1 P.2.2 ⟨0, dkHd c, c, p, d, q⟩).run = some (z, ⟨P.2.2.length, (dkHd c).add (pgsB P.2.2), c, p, d, q⟩) := by
        refine ⟨Nat.beq P.2.2.length 0, ?_⟩
        unfold rgSp
        rw [run_br, hgr, cond_true, run_bind, bl_run]; rfl
      obtain ⟨z, hs⟩ := hs
      have hb2 : byOk ((dkHd c).add (pgsB P.2.2)) 200000 = true := byOk_add (byOk_iff.2 ⟨rfl, rfl, rfl, by
        have := pgsB_len P.2.2
        show 12 + (200000 + _) ≤ _
        omega⟩) (isU8_af (pgsB_u8 _))
      have hql := slQ_len hQ
      show (do chk (g c.blocks); let r ← rgSp P.1 (P.2.2.take 16) ⟨0, ruHd c, c, p, d, q⟩; chA r.2.b; ruRest g D Q r.2.b c p d q : DT (ByteArray × Int)).run = _
      rw [hcut, hhd, run_bind, chk_run, hgg _ (by omega) (by omega), cond_true, Option.bind_some, run_bind, hs, Option.bind_some, run_bind, chA_run hb2, Option.bind_some, rrest_run (hgg _ (by omega) (by omega)) hD hW hQ q3 q2 q1 hb2 (isU8_app rfl (pgsB_u8 _)) (by show 1 ≤ 12 + _; omega)]
      unfold dkF
      rw [hB0]
      show some (strOf (((dkHd c).l ++ pgsB P.2.2) ++ _), (0 : Int)) = some (strOf (dkBs c P.2.2 D.2.2 d.n Q.2), 0)
      rw [List.append_assoc]; rfl
theorem s_rt {gl : Gl} (hgl : Low gl) {P : Pgs} {D : Dat} {Q : Pks} (h : GlK gl P D Q) : SubOK Tryz.prog gl 7 (hA noL decDk (fun _ => rtC P D Q) ipO) := hA_weak (s_ru0 hgl (s_by hgl) h) fun _ _ _ e => rtC_run (fun x h0 h1 => andI (decide_eq_true h0) (decide_eq_true (by omega))) e
end Go.Proofs.YtpckfdopokmbkaaGreatDoor.Ev
