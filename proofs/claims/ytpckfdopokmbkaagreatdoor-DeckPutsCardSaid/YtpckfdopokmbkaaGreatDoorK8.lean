/- A deck's bytes: programs, data, picks. Where the forms stand as the program's text lays them. -/
import Derived.Test.YtpckfdopokmbkaaGreatDoorK7
noncomputable section
namespace Go.Proofs.YtpckfdopokmbkaaGreatDoor.Ev
open Go
open Go.Proofs Go.RowKit

/-! A deck put: its programs. -/
def hIp (j : Nat) : Pg → Hd
  | none => hA noL decNil (fun _ _ => pure (imF [])) ipO
  | some q => hA noL (decSl (903 + j)) (fun _ => ipC q.1 q.2.2) ipO
def HIp (j : Nat) (p : Pg) : Hs := hsOf [] [(14, hIp j p)] []
theorem HIp_ok {gl : Gl} (hF : GlF gl) (hgl : Low gl) {j : Nat} (hj : j < 16) {p : Pg} (hp : ∀ q, p = some q → GlW gl (903 + j) q.1 q.2.2) : (HIp j p).OK Tryz.prog gl := hsOf_ok fx0 (sxC (by
  cases p with
  | none => exact s_iputN hgl
  | some q => exact s_iputC hgl hF hj (hp q rfl)) sx0) lx0
def slB2 (z : Bool) (s : By) : Value := .slice (some ⟨cond z 1000 1002, 0, none⟩) s.n s.c
def ppR (z : Bool) (s : By) (k : DkS) : Rws := cond z [some (byRow s.l), some (dkRow k)] [none, some (dkRow k), some (byRow s.l)]
def stCl (t : ByteArray) : List Value := List.map (fun b => Value.int .u8 (b.toNat : Int)) (List.take t.size t.data.toList)
def apS (s : By) (t : ByteArray) : DT By := do
  chk (Nat.beq (stCl t).length (t.size * 1))
  chk (s.n.ble s.c)
  chk (((s.n + t.size) * 1).ble 140737488355328 && ((s.n + t.size).ble 1099511627776))
  .br (Nat.beq t.size 0) (pure s) (do
    chk ((0 + s.n * 1).ble s.l.length)
    chk ((stCl t).all single)
    pure ⟨s.n + t.size, s.n + t.size, winL 0 (s.n * 1) s.l ++ stCl t⟩)
/-- Where the loop over programs stands. -/
structure PpS where
  k : Nat
  b : By
  po : Nat
  pn : Nat
  pc : Nat
  n' : Int
  c : Cfg
  p : Nat × Nat × Nat
  d : Sl
  q : Sl
def PpS.dk (s : PpS) : DkS := ⟨s.c, some s.p, s.d, s.q⟩
def ppE (k : Nat) (s : PpS) : LSt := ([.int .i64 (k : Int), slB2 (Nat.beq k 0) s.b, wSl' 900 s.po s.pn s.pc, pK 1001, .int .i64 s.n', .string ⟨#[]⟩, .int .i64 0], ppR (Nat.beq k 0) s.b s.dk)
def ppT : LpT PpS := ⟨fun vs rows => match vs, rows with
  | [.int .i64 i, .slice (some a) m m', .slice (some b) pn pc, .pointer (some p), .int .i64 n', .string ⟨⟨[]⟩⟩, .int .i64 e], [some (.row r), some (.row dk)] => cond (isBy r && isP a 1000 && isSl b 900 && isP p 1001 && decide (e = 0) && decide (i = 0)) ((rowP 28 pDk dk).bind fun k => match k.p with
    | none => none
    | some p => some ⟨0, ⟨m, m', r.cells⟩, b.off, pn, pc, n', k.c, p, k.d, k.q⟩) none
  | _, _ => none, fun s => ppE (min s.k 16) s, fun vs rows s h => by
  split at h
  case h_2 => cases h
  rename_i i a m m' b pn pc p n' e r dk
  obtain ⟨h1, h⟩ := condT h
  obtain ⟨k, h2, h⟩ := Option.bind_eq_some_iff.1 h
  cases hk : k.p with
  | none => rw [hk] at h; cases h
  | some pp =>
    rw [hk] at h
    simp only [Bool.and_eq_true, decide_eq_true_eq] at h1
    obtain ⟨⟨⟨⟨⟨h1, h3⟩, h4⟩, h5⟩, h6⟩, h7⟩ := h1
    cases h
    subst h6; subst h7
    rw [isBy_eq h1, rowP_ok h2, isP_t h3, isP_t h5]
    conv => lhs; rw [isSl_t h4]
    obtain ⟨c, q1, q2, q3⟩ := k
    have hk : q1 = some pp := hk
    subst hk
    rfl⟩
abbrev PpB := Bool × Bool × PpS
def ppStP (po : Nat) (p : Option Pg) (k : Nat) (s : PpS) : DT (PpS ⊕ PpB) := .br (decide ((k : Int) < s.n')) (do
    chk (decide (0 ≤ (k : Int)) && decide ((k : Int) < (s.pn : Int)) && s.pn.ble s.pc)
    match p with
    | none => .fail
    | some p => do
      chk (Nat.beq (s.po + k) (po + k))
      let r ← (match p with
        | none => pure (imF [])
        | some q => ipC q.1 q.2.2 (q.1, q.2.2.length, q.2.1))
      .br (r.2 != 0) (do chk (s.b.l.all (af 8) && true); pure (.inr (true, Nat.beq k 0, s))) (do
        let b ← numB2 s.b (IntKind.u32.wrap (r.1.size : Int))
        let b ← apS b r.1
        chk (b.l.all (af 8) && true)
        pure (.inl { s with k := k + 1, b := b }))) (do
  chk (s.b.l.all (af 8) && true)
  pure (.inr (false, Nat.beq k 0, s)))
def ppStep (po : Nat) (ps : List Pg) (s : PpS) : DT (PpS ⊕ PpB) := ppStP po ps[min s.k 16]? (min s.k 16) s
def ppW (b : PpB) : Out := (cond b.1 .ret (.exit 2), [pK 1001, slB2 b.2.1 b.2.2.b, .string ⟨#[]⟩, .int .i64 (cond b.1 2 0)], ppR b.2.1 b.2.2.b b.2.2.dk)
set_option maxRecDepth 100000 in
theorem pp_round {gl : Gl} (hF : GlF gl) (hgl : Low gl) {po : Nat} {ps : List Pg} (hP : GlPs gl po ps) (hn : ps.length ≤ 16) (s : PpS) : ∃ (sy : Sy) (H : Hs) (L G d : Nat) (op : List VStep) (cls : CR4 → List VStep), SyOK gl sy ∧ H.OK Tryz.prog gl ∧ roundV sy Tryz.prog gl (fun _ => none) H L G d 6 1 [64, 7, 62, 1, 63, 2, 3] (ppT.enc s) op (rndW Tryz.prog (1000 + 2) [64, 7, 62, 1, 63, 2, 3] [1, 7, 2, 3] cls) = (ppStep po ps s).runK fun q => some (rawL (encQ ppT.enc ppW q)) := by
  show ∃ (sy : Sy) (H : Hs) (L G d : Nat) (op : List VStep) (cls : CR4 → List VStep), SyOK gl sy ∧ H.OK Tryz.prog gl ∧ roundV sy Tryz.prog gl (fun _ => none) H L G d 6 1 [64, 7, 62, 1, 63, 2, 3] (ppE (min s.k 16) s) op (rndW Tryz.prog (1000 + 2) [64, 7, 62, 1, 63, 2, 3] [1, 7, 2, 3] cls) = (ppStP po ps[min s.k 16]? (min s.k 16) s).runK fun q => some (rawL (encQ ppT.enc ppW q))
  have hk : min s.k 16 < 17 := by omega
  generalize min s.k 16 = k at hk
  obtain ⟨k0, b, o, n, nc, n', c, pp, d, q⟩ := s
  cases e : ps[k]? with
  | none =>
    refine ⟨syN, H0, 100, 40, 40, [], fun _ => [], syN_ok, H0_ok, ?_⟩
    clear e hP hn hF hgl
    match k, hk with
    | 0, _ => (rcases d with _ | d <;> rcases q with _ | q <;> (show _ = _; kernel_rfl))
    | 1, _ => (rcases d with _ | d <;> rcases q with _ | q <;> (show _ = _; kernel_rfl))
    | 2, _ => (rcases d with _ | d <;> rcases q with _ | q <;> (show _ = _; kernel_rfl))
    | 3, _ => (rcases d with _ | d <;> rcases q with _ | q <;> (show _ = _; kernel_rfl))
    | 4, _ => (rcases d with _ | d <;> rcases q with _ | q <;> (show _ = _; kernel_rfl))
    | 5, _ => (rcases d with _ | d <;> rcases q with _ | q <;> (show _ = _; kernel_rfl))
    | 6, _ => (rcases d with _ | d <;> rcases q with _ | q <;> (show _ = _; kernel_rfl))
    | 7, _ => (rcases d with _ | d <;> rcases q with _ | q <;> (show _ = _; kernel_rfl))
    | 8, _ => (rcases d with _ | d <;> rcases q with _ | q <;> (show _ = _; kernel_rfl))
    | 9, _ => (rcases d with _ | d <;> rcases q with _ | q <;> (show _ = _; kernel_rfl))
    | 10, _ => (rcases d with _ | d <;> rcases q with _ | q <;> (show _ = _; kernel_rfl))
    | 11, _ => (rcases d with _ | d <;> rcases q with _ | q <;> (show _ = _; kernel_rfl))
    | 12, _ => (rcases d with _ | d <;> rcases q with _ | q <;> (show _ = _; kernel_rfl))
    | 13, _ => (rcases d with _ | d <;> rcases q with _ | q <;> (show _ = _; kernel_rfl))
    | 14, _ => (rcases d with _ | d <;> rcases q with _ | q <;> (show _ = _; kernel_rfl))
    | 15, _ => (rcases d with _ | d <;> rcases q with _ | q <;> (show _ = _; kernel_rfl))
    | 16, _ => (rcases d with _ | d <;> rcases q with _ | q <;> (show _ = _; kernel_rfl))
    | n + 17, h => exact absurd h (by omega)
  | some p =>
    have hk2 : k < 16 := by
      have := (List.getElem?_eq_some_iff.1 e).1
      omega
    obtain ⟨h1, h2⟩ := hP k p e
    refine ⟨syV 900 (po + k) (pgV k p), HIp k p, 100, 40, 40, [], fun _ => [], syV_ok (by decide) h1, HIp_ok hF hgl hk2 h2, ?_⟩
    clear e hP hn hF hgl h1 h2 hk
    rcases p with _ | p
    · match k, hk2 with
      | 0, _ => (rcases d with _ | d <;> rcases q with _ | q <;> (show _ = _; kernel_rfl))
      | 1, _ => (rcases d with _ | d <;> rcases q with _ | q <;> (show _ = _; kernel_rfl))
      | 2, _ => (rcases d with _ | d <;> rcases q with _ | q <;> (show _ = _; kernel_rfl))
      | 3, _ => (rcases d with _ | d <;> rcases q with _ | q <;> (show _ = _; kernel_rfl))
      | 4, _ => (rcases d with _ | d <;> rcases q with _ | q <;> (show _ = _; kernel_rfl))
      | 5, _ => (rcases d with _ | d <;> rcases q with _ | q <;> (show _ = _; kernel_rfl))
      | 6, _ => (rcases d with _ | d <;> rcases q with _ | q <;> (show _ = _; kernel_rfl))
      | 7, _ => (rcases d with _ | d <;> rcases q with _ | q <;> (show _ = _; kernel_rfl))
      | 8, _ => (rcases d with _ | d <;> rcases q with _ | q <;> (show _ = _; kernel_rfl))
      | 9, _ => (rcases d with _ | d <;> rcases q with _ | q <;> (show _ = _; kernel_rfl))
      | 10, _ => (rcases d with _ | d <;> rcases q with _ | q <;> (show _ = _; kernel_rfl))
      | 11, _ => (rcases d with _ | d <;> rcases q with _ | q <;> (show _ = _; kernel_rfl))
      | 12, _ => (rcases d with _ | d <;> rcases q with _ | q <;> (show _ = _; kernel_rfl))
      | 13, _ => (rcases d with _ | d <;> rcases q with _ | q <;> (show _ = _; kernel_rfl))
      | 14, _ => (rcases d with _ | d <;> rcases q with _ | q <;> (show _ = _; kernel_rfl))
      | 15, _ => (rcases d with _ | d <;> rcases q with _ | q <;> (show _ = _; kernel_rfl))
      | n + 16, h => exact absurd h (by omega)
    · match k, hk2 with
      | 0, _ => (rcases d with _ | d <;> rcases q with _ | q <;> (show _ = _; kernel_rfl))
      | 1, _ => (rcases d with _ | d <;> rcases q with _ | q <;> (show _ = _; kernel_rfl))
      | 2, _ => (rcases d with _ | d <;> rcases q with _ | q <;> (show _ = _; kernel_rfl))
      | 3, _ => (rcases d with _ | d <;> rcases q with _ | q <;> (show _ = _; kernel_rfl))
      | 4, _ => (rcases d with _ | d <;> rcases q with _ | q <;> (show _ = _; kernel_rfl))
      | 5, _ => (rcases d with _ | d <;> rcases q with _ | q <;> (show _ = _; kernel_rfl))
      | 6, _ => (rcases d with _ | d <;> rcases q with _ | q <;> (show _ = _; kernel_rfl))
      | 7, _ => (rcases d with _ | d <;> rcases q with _ | q <;> (show _ = _; kernel_rfl))
      | 8, _ => (rcases d with _ | d <;> rcases q with _ | q <;> (show _ = _; kernel_rfl))
      | 9, _ => (rcases d with _ | d <;> rcases q with _ | q <;> (show _ = _; kernel_rfl))
      | 10, _ => (rcases d with _ | d <;> rcases q with _ | q <;> (show _ = _; kernel_rfl))
      | 11, _ => (rcases d with _ | d <;> rcases q with _ | q <;> (show _ = _; kernel_rfl))
      | 12, _ => (rcases d with _ | d <;> rcases q with _ | q <;> (show _ = _; kernel_rfl))
      | 13, _ => (rcases d with _ | d <;> rcases q with _ | q <;> (show _ = _; kernel_rfl))
      | 14, _ => (rcases d with _ | d <;> rcases q with _ | q <;> (show _ = _; kernel_rfl))
      | 15, _ => (rcases d with _ | d <;> rcases q with _ | q <;> (show _ = _; kernel_rfl))
      | n + 16, h => exact absurd h (by omega)
end Go.Proofs.YtpckfdopokmbkaaGreatDoor.Ev

namespace Go.Proofs.YtpckfdopokmbkaaGreatDoor.Ev
open Go
open Go.Proofs Go.RowKit

/-! A deck put: its programs, told. -/
theorem stCl_len (t : ByteArray) : (stCl t).length = t.size := by
  unfold stCl
  rw [List.length_map, List.length_take]
  show min t.size t.data.toList.length = t.size
  have : t.data.toList.length = t.size := Array.length_toList
  omega
theorem stCl_u8 (t : ByteArray) : isU8 (stCl t) = true := List.all_eq_true.2 fun v hv => by
  obtain ⟨b, _, rfl⟩ := List.mem_map.1 hv
  rfl
theorem u8_single {l : List Value} (h : isU8 l = true) : l.all single = true := List.all_eq_true.2 fun v hv => by
  obtain ⟨n, rfl⟩ := isB8_eq (List.all_eq_true.1 h v hv)
  rfl
theorem byOk_add {s : By} {l : List Value} {k : Nat} (h : byOk s (k + l.length) = true) (hl : l.all (af 8) = true) : byOk (s.add l) k = true := by
  obtain ⟨h1, h2, h3, h4⟩ := byOk_iff.1 h
  refine byOk_iff.2 ⟨?_, rfl, ?_, ?_⟩
  · simp [By.add, h1]
  · simp [By.add, h3, hl]
  · show s.n + l.length + k ≤ _; omega
theorem apS_run {s : By} {t : ByteArray} {k : Nat} (h : byOk s (k + t.size) = true) : (apS s t).run = some (s.add (stCl t)) ∧ byOk (s.add (stCl t)) k = true := by
  have hl := stCl_len t
  obtain ⟨h1, h2, h3, h4⟩ := byOk_iff.1 h
  refine ⟨?_, byOk_add (by rw [hl]; exact h) (isU8_af (stCl_u8 t))⟩
  have e0 : Nat.beq (stCl t).length (t.size * 1) = true := by rw [hl]; simp
  have e1 : s.n.ble s.c = true := nbl (by omega)
  have e2 : (((s.n + t.size) * 1).ble 140737488355328 && ((s.n + t.size).ble 1099511627776)) = true := andI (nbl (by omega)) (nbl (by omega))
  have e3 : (0 + s.n * 1).ble s.l.length = true := nbl (by omega)
  unfold apS
  simp only [run_bind, chk_run, e0, e1, e2, cond_true, Option.bind_some, run_br]
  cases hz : Nat.beq t.size 0 with
  | true =>
    have hz := Nat.eq_of_beq_eq_true hz
    rw [cond_true, run_pure]
    have : stCl t = [] := List.length_eq_zero_iff.1 (by omega)
    rw [this]
    obtain ⟨n, c, l⟩ := s
    have h2 : c = n := h2
    subst h2
    simp [By.add]
  | false =>
    rw [cond_false]
    simp only [e3, u8_single (stCl_u8 t), cond_true, Option.bind_some, run_pure]
    rw [winL_all (by omega), ← hl]
    unfold By.add
    rfl
theorem imF_size (zs : List Int) : (imF zs).1.size ≤ 4105 := by
  unfold imF
  cases h : decide (zs.length ≤ 1024) && okW zs with
  | false => exact Nat.zero_le _
  | true =>
    simp only [Bool.and_eq_true, decide_eq_true_eq] at h
    show (strOf _).size ≤ _
    rw [strOf_size (isU8_app (imB_u8 zs) rfl), List.length_append, imB_len]
    show 5 + 4 * zs.length + 4 ≤ _
    omega
/-- What is put of a program. -/
def pgB (p : Pg) : List Value := by2 (IntKind.u32.wrap ((imF p.ws).1.size : Int)) ++ stCl (imF p.ws).1
def ppF : List Pg → Bool → PpS → PpB
  | [], z, s => (false, z, s)
  | p :: l, z, s => cond ((imF p.ws).2 != 0) (true, z, s) (ppF l false { s with k := s.k + 1, b := s.b.add (pgB p) })
def ppG (po : Nat) (ps : List Pg) (s : PpS) : Bool := Nat.beq s.po po && Nat.beq s.pn ps.length && Nat.ble ps.length s.pc && decide (s.n' = (ps.length : Int)) && Nat.ble s.k ps.length && ps.all Pg.ok && Nat.ble ps.length 16 && byOk s.b (4200 * (ps.length - s.k))
theorem ppF_inv : ∀ (l : List Pg) (z : Bool) (s : PpS), (ppF l z s).2.2 = { s with k := (ppF l z s).2.2.k, b := (ppF l z s).2.2.b }
  | [], z, s => rfl
  | p :: l, z, s => by
    have ih := ppF_inv l false { s with k := s.k + 1, b := s.b.add (pgB p) }
    have e : ppF (p :: l) z s = cond ((imF p.ws).2 != 0) (true, z, s) (ppF l false { s with k := s.k + 1, b := s.b.add (pgB p) }) := rfl
    rw [e]
    cases (imF p.ws).2 != 0 with
    | true => rfl
    | false => exact ih
/-- Bools looked at; the rest of the state as it was. -/
def ppL (s : PpS) (r : PpB) : DT PpB := do let e ← bl r.1; let z ← bl r.2.1; pure (e, z, { s with k := r.2.2.k, b := r.2.2.b })
theorem ppL_run (l : List Pg) (z : Bool) (s : PpS) : (ppL s (ppF l z s)).run = some (ppF l z s) := by
  have h := ppF_inv l z s
  revert h
  generalize ppF l z s = r
  obtain ⟨e, z, t⟩ := r
  intro h
  have h : t = { s with k := t.k, b := t.b } := h
  unfold ppL
  rw [← h]
  cases e <;> cases z <;> rfl
def ppSp (po : Nat) (ps : List Pg) (s : PpS) : DT PpB := .br (ppG po ps s) (ppL s (ppF (ps.drop s.k) (Nat.beq s.k 0) s)) .fail
theorem ppSp_ok (po : Nat) (ps : List Pg) (s : PpS) (b : PpB) (h : (ppSp po ps s).run = some b) : ∃ m, itN (ppStep po ps) m s = some b := by
  obtain ⟨h1, h2⟩ := condT (show cond (ppG po ps s) (ppL s _).run none = some b from h)
  rw [ppL_run] at h2
  cases h2
  refine it_of (fun s : PpS => ppG po ps s = true) (fun s => ps.length - s.k) (fun s : PpS => ppF (ps.drop s.k) (Nat.beq s.k 0) s) ?_ _ s h1 (Nat.lt_succ_self _)
  intro s hg
  simp only [ppG, Bool.and_eq_true, decide_eq_true_eq] at hg
  obtain ⟨⟨⟨⟨⟨⟨⟨g1, g2⟩, g3⟩, g4⟩, g5⟩, g6⟩, g7⟩, g8⟩ := hg
  have g1' := Nat.eq_of_beq_eq_true g1
  have g2' := Nat.eq_of_beq_eq_true g2
  have g5' := Nat.le_of_ble_eq_true g5
  have g7' := Nat.le_of_ble_eq_true g7
  have hmin : min s.k 16 = s.k := by omega
  have e0 : ppStep po ps s = ppStP po ps[s.k]? s.k s := by
    show ppStP po ps[min s.k 16]? (min s.k 16) s = _
    rw [hmin]
  rw [e0]
  have haf := byOk_af g8
  by_cases hk : s.k < ps.length
  · have e1 : (decide (0 ≤ (s.k : Int)) && decide ((s.k : Int) < (s.pn : Int)) && s.pn.ble s.pc) = true := andI (andI (decide_eq_true (by omega)) (decide_eq_true (by omega))) (by rw [g2']; exact g3)
    have hpk : Pg.ok ps[s.k] = true := List.all_eq_true.1 g6 _ (List.getElem_mem hk)
    have e2 : Nat.beq (s.po + s.k) (po + s.k) = true := by rw [g1']; simp
    have e3 : (match ps[s.k] with
      | none => pure (imF [])
      | some q => ipC q.1 q.2.2 (q.1, q.2.2.length, q.2.1) : DT (ByteArray × Int)).run = some (imF (ps[s.k]).ws) := by
      cases hq : ps[s.k] with
      | none => rfl
      | some q =>
        rw [hq] at hpk
        have hpk : (Nat.ble q.2.2.length q.2.1 && q.2.2.all wordG) = true := hpk
        simp only [Bool.and_eq_true] at hpk
        have : ipGd q.1 q.2.2 (q.1, q.2.2.length, q.2.1) = true := by
          simp only [ipGd, Bool.and_eq_true]
          exact ⟨⟨⟨by simp, by simp⟩, hpk.1⟩, hpk.2⟩
        show (ifT _ _).run = _
        unfold ifT
        rw [run_br, this]; rfl
    have hs := imF_size (ps[s.k]).ws
    have hb : byOk s.b (4200 * (ps.length - (s.k + 1)) + (imF (ps[s.k]).ws).1.size + 2) = true := by
      obtain ⟨a, b, c, d⟩ := byOk_iff.1 g8
      exact byOk_iff.2 ⟨a, b, c, by omega⟩
    obtain ⟨n1, n2⟩ := numB2_run (x := IntKind.u32.wrap ((imF (ps[s.k]).ws).1.size : Int)) hb
    obtain ⟨n3, n4⟩ := apS_run n2
    have hpb : (s.b.add (by2 (IntKind.u32.wrap ((imF (ps[s.k]).ws).1.size : Int)))).add (stCl (imF (ps[s.k]).ws).1) = s.b.add (pgB ps[s.k]) := add_add ..
    rw [hpb] at n3 n4
    have er : (ppStP po ps[s.k]? s.k s).run = some (cond ((imF (ps[s.k]).ws).2 != 0) (.inr (true, Nat.beq s.k 0, s)) (.inl { s with k := s.k + 1, b := s.b.add (pgB ps[s.k]) })) := by
      rw [List.getElem?_eq_getElem hk]
      unfold ppStP
      rw [run_br, decide_eq_true (show (s.k : Int) < s.n' by omega), cond_true]
      simp only [run_bind, chk_run, e1, e2, cond_true, Option.bind_some]
      erw [e3]
      simp only [Option.bind_some, run_br]
      cases (imF (ps[s.k]).ws).2 != 0 with
      | true => simp only [cond_true, run_bind, chk_run, haf, Option.bind_some, run_pure]
      | false => simp only [cond_false, run_bind, n1, n3, chk_run, byOk_af n4, cond_true, Option.bind_some, run_pure]
    rw [er, List.drop_eq_getElem_cons hk]
    have ef : ppF (ps[s.k] :: ps.drop (s.k + 1)) (Nat.beq s.k 0) s = cond ((imF (ps[s.k]).ws).2 != 0) (true, Nat.beq s.k 0, s) (ppF (ps.drop (s.k + 1)) false { s with k := s.k + 1, b := s.b.add (pgB ps[s.k]) }) := rfl
    rw [ef]
    cases (imF (ps[s.k]).ws).2 != 0 with
    | true => rfl
    | false =>
      refine ⟨?_, ?_, rfl⟩
      · simp only [ppG, Bool.and_eq_true, decide_eq_true_eq]
        exact ⟨⟨⟨⟨⟨⟨⟨g1, g2⟩, g3⟩, g4⟩, nbl (by omega)⟩, g6⟩, g7⟩, n4⟩
      · show ps.length - (s.k + 1) < ps.length - s.k
        omega
  · have er : (ppStP po ps[s.k]? s.k s).run = some (.inr (false, Nat.beq s.k 0, s)) := by
      unfold ppStP
      rw [run_br, decide_eq_false (show ¬ (s.k : Int) < s.n' by omega), cond_false]
      simp only [run_bind, chk_run, haf, cond_true, Option.bind_some, run_pure]
    rw [er]
    rw [List.drop_eq_nil_of_le (by omega)]; rfl
theorem l_pp {gl : Gl} (hgl : Low gl) (hF : GlF gl) {po : Nat} {ps : List Pg} (hP : GlPs gl po ps) (hn : ps.length ≤ 16) : LpOK Tryz.prog gl 6 1 ⟨[64, 7, 62, 1, 63, 2, 3], [1, 7, 2, 3], hLp 2 ppT.dec (ppSp po ps) ppW⟩ := loop_sp (st := ppStep po ps) goodT hgl tglob ppT.ok (by decide) (ppSp_ok po ps) fun s => pp_round hF hgl hP hn s
end Go.Proofs.YtpckfdopokmbkaaGreatDoor.Ev

namespace Go.Proofs.YtpckfdopokmbkaaGreatDoor.Ev
open Go
open Go.Proofs Go.RowKit

/-! Numbers put behind bytes. -/
def by1L : Lay (List Value) := ⟨fun r => match r with
  | [some (.row b)] => cond (isBy b) (some b.cells) none
  | _ => none, fun l => [some (byRow l)], fun r s h => by
  split at h
  · obtain ⟨h1, h2⟩ := condT h
    cases h2
    rw [isBy_eq h1]
  · cases h⟩
def decNum (many : Int) : Dec (Nat × Nat × Int) := ⟨fun vs => match vs with
  | [.slice (some a) n c, .int .u32 x, .int .i64 m] => cond (isP a 1000 && decide (m = many)) (some (n, c, x)) none
  | _ => none, fun x => [.slice (some ⟨1000, 0, none⟩) x.1 x.2.1, .int .u32 x.2.2, .int .i64 many], fun vs x h => by
  split at h
  · obtain ⟨h1, h2⟩ := condT h
    cases h2
    simp only [Bool.and_eq_true, decide_eq_true_eq] at h1
    rw [isP_t h1.1, h1.2]
  · cases h⟩
def numO (b : By) : Out := (.normal, [.slice (some ⟨1001, 0, none⟩) b.n b.c], [none, some (byRow b.l)])
set_option maxRecDepth 100000 in
theorem s_num40 {gl : Gl} (hgl : Low gl)  : SubOK Tryz.prog gl 13 (hA (by1L) (decNum 4) (fun l x => (do let b ← numB4 ⟨x.1, x.2.1, l⟩ x.2.2; chk (b.l.all (af 8) && true); pure b)) (numO)) := hA_sub hgl fun k x => ⟨syG [], H0, noV, syG_ok _, H0_ok, by kernel_rfl⟩
def nuC (many : Nat) (f : Int → List Value) (l : List Value) (x : Nat × Nat × Int) : DT By := ifT (byOk ⟨x.1, x.2.1, l⟩ many) (By.add ⟨x.1, x.2.1, l⟩ (f x.2.2))
theorem s_num4 {gl : Gl} (hgl : Low gl) : SubOK Tryz.prog gl 13 (hA by1L (decNum 4) (nuC 4 by4) numO) := hA_weak (s_num40 hgl) fun l x b h => by
  obtain ⟨h1, rfl⟩ := ifT_run h
  obtain ⟨a1, b1⟩ := numB4_run (x := x.2.2) (k := 0) h1
  simp only [run_bind, a1, Option.bind_some, chk_run, byOk_af b1, cond_true, run_pure]
def HNum : Hs := hsOf [] [(13, hA by1L (decNum 4) (nuC 4 by4) numO)] []
theorem HNum_ok {gl : Gl} (hgl : Low gl) : HNum.OK Tryz.prog gl := hsOf_ok fx0 (sxC (s_num4 hgl) sx0) lx0
/-! A deck put: its data. -/
def numBL : List Int → By → DT By
  | [], s => pure s
  | x :: l, s => do
    chk (s.l.all (af 8) && true)
    let s ← nuC 4 by4 s.l (s.n, s.c, x)
    chk (s.l.all (af 8) && true)
    numBL l s
structure DlS where
  i : Int
  b : By
  o : Nat
  n : Nat
  cap : Nat
  n' : Int
  c : Cfg
  p : Nat × Nat × Nat
  d : Nat × Nat × Nat
  q : Sl
def DlS.dk (s : DlS) : DkS := ⟨s.c, some s.p, some s.d, s.q⟩
abbrev DlZ := Bool × DlS
def dlT : LpT DlZ := ⟨fun vs rows => match vs, rows with
  | [.int .i64 i, .slice (some a) m m', .slice (some b) n cap, .pointer (some p), .int .i64 n'], [some (.row r), some (.row dk)] => cond (isBy r && isP a 1000 && isSl b 901 && isP p 1001) ((rowP 28 pDk dk).bind fun k => match k.p, k.d with
    | some p, some d => some (true, ⟨i, ⟨m, m', r.cells⟩, b.off, n, cap, n', k.c, p, d, k.q⟩)
    | _, _ => none) none
  | _, _ => none, fun x => ([.int .i64 x.2.i, slB2 x.1 x.2.b, wSl' 901 x.2.o x.2.n x.2.cap, pK 1001, .int .i64 x.2.n'], ppR x.1 x.2.b x.2.dk), fun vs rows s h => by
  split at h
  case h_2 => cases h
  rename_i i a m m' b n cap p n' r dk
  obtain ⟨h1, h⟩ := condT h
  obtain ⟨⟨c, kp, kd, kq⟩, h2, h⟩ := Option.bind_eq_some_iff.1 h
  simp only at h
  split at h
  case h_2 => cases h
  simp only [Bool.and_eq_true] at h1
  obtain ⟨⟨⟨h1, h3⟩, h4⟩, h5⟩ := h1
  cases h
  rw [isBy_eq h1, rowP_ok h2, isP_t h3, isP_t h5]
  conv => lhs; rw [isSl_t h4]
  rfl⟩
abbrev DlB := Bool × DlS
def dlStep (off : Nat) (ws : List Int) (x : DlZ) : DT (DlZ ⊕ DlB) := .br (decide (x.2.i < x.2.n')) (do
    chk (decide (0 ≤ x.2.i) && decide (x.2.i < (x.2.n : Int)) && x.2.n.ble x.2.cap)
    chk (skOk (symW off ws) (x.2.o + x.2.i.toNat * 16))
    let b ← numBL (skW (symW off ws) (x.2.o + x.2.i.toNat * 16)).l0 x.2.b
    chk (b.l.all (af 8) && true)
    pure (.inl (false, { x.2 with i := IntKind.i64.wrap (x.2.i + 1), b := b }))) (do
  chk (x.2.b.l.all (af 8) && true)
  pure (.inr x))
def dlW (b : DlB) : Out := (.exit 4, [pK 1001, slB2 b.1 b.2.b], ppR b.1 b.2.b b.2.dk)
/-- Words of a block. -/
def blkB (off : Nat) (ws : List Int) (o : Nat) : List Value := wrdB (skW (symW off ws) o).l0
def dlF (off : Nat) (ws : List Int) : Nat → DlZ → DlB
  | 0, x => x
  | k + 1, x => dlF off ws k (false, { x.2 with i := x.2.i + 1, b := x.2.b.add (blkB off ws (x.2.o + x.2.i.toNat * 16)) })
def dlG (off : Nat) (ws : List Int) (x : DlZ) : Bool := Nat.beq x.2.o off && Nat.beq (x.2.n * 16) ws.length && Nat.ble x.2.n x.2.cap && decide (x.2.n' = (x.2.n : Int)) && decide (0 ≤ x.2.i) && decide (x.2.i ≤ (x.2.n : Int)) && Nat.ble x.2.n 1048576 && byOk x.2.b (64 * (x.2.n - x.2.i.toNat))
def dlSp (off : Nat) (ws : List Int) (x : DlZ) : DT DlB := .br (dlG off ws x) (let r := dlF off ws (x.2.n - x.2.i.toNat) x; do let z ← bl r.1; pure (z, { x.2 with i := x.2.i + ((x.2.n - x.2.i.toNat : Nat) : Int), b := r.2.b })) .fail
theorem numBL_run : ∀ (l : List Int) {s : By} {k : Nat}, byOk s (k + 4 * l.length) = true → (numBL l s).run = some (s.add (wrdB l)) ∧ byOk (s.add (wrdB l)) k = true
  | [], s, k, h => by
    obtain ⟨h1, h2, h3, h4⟩ := byOk_iff.1 h
    have e : s.add (wrdB []) = s := by
      obtain ⟨n, c, l⟩ := s
      have h2 : c = n := h2
      subst h2
      simp [By.add, wrdB]
    rw [e]
    exact ⟨rfl, byOk_iff.2 ⟨h1, h2, h3, by simpa using h4⟩⟩
  | x :: l, s, k, h => by
    have h0 : byOk s (k + 4 * l.length + 4) = true := by
      obtain ⟨h1, h2, h3, h4⟩ := byOk_iff.1 h
      exact byOk_iff.2 ⟨h1, h2, h3, by simp only [List.length_cons] at h4; omega⟩
    have h4 : byOk s 4 = true := by
      obtain ⟨h1, h2, h3, h4⟩ := byOk_iff.1 h0
      exact byOk_iff.2 ⟨h1, h2, h3, by omega⟩
    have b1 := (numB4_run (s := s) (x := x) h0).2
    obtain ⟨a2, b2⟩ := numBL_run l b1
    have e : (s.add (by4 x)).add (wrdB l) = s.add (wrdB (x :: l)) := add_add ..
    rw [e] at a2 b2
    refine ⟨?_, b2⟩
    have a1 : (nuC 4 by4 s.l (s.n, s.c, x)).run = some (s.add (by4 x)) := by
      show (ifT (byOk s 4) (s.add (by4 x))).run = _
      unfold ifT
      rw [h4]; rfl
    show (do chk (s.l.all (af 8) && true); let s ← nuC 4 by4 s.l (s.n, s.c, x); chk (s.l.all (af 8) && true); numBL l s : DT By).run = _
    rw [run_bind, chk_run, byOk_af h0, cond_true, Option.bind_some, run_bind, a1, Option.bind_some, run_bind, chk_run, byOk_af b1, cond_true, Option.bind_some]
    exact a2
theorem dlF_inv (off : Nat) (ws : List Int) : ∀ (k : Nat) (x : DlZ), (dlF off ws k x).2 = { x.2 with i := x.2.i + k, b := (dlF off ws k x).2.b }
  | 0, x => by
    show x.2 = { x.2 with i := x.2.i + ((0 : Nat) : Int), b := x.2.b }
    obtain ⟨z, s⟩ := x
    simp
  | k + 1, x => by
    have ih := dlF_inv off ws k (false, { x.2 with i := x.2.i + 1, b := x.2.b.add (blkB off ws (x.2.o + x.2.i.toNat * 16)) })
    have e : dlF off ws (k + 1) x = dlF off ws k (false, { x.2 with i := x.2.i + 1, b := x.2.b.add (blkB off ws (x.2.o + x.2.i.toNat * 16)) }) := rfl
    rw [e, ih]
    simp only [DlS.mk.injEq, and_true]
    omega
theorem dlSp_ok (off : Nat) (ws : List Int) (x : DlZ) (b : DlB) (h : (dlSp off ws x).run = some b) : ∃ m, itN (dlStep off ws) m x = some b := by
  obtain ⟨h1, h2⟩ := condT (show cond (dlG off ws x) _ none = some b from h)
  have hb : b = dlF off ws (x.2.n - x.2.i.toNat) x := by
    have e : dlF off ws (x.2.n - x.2.i.toNat) x = ((dlF off ws (x.2.n - x.2.i.toNat) x).1, { x.2 with i := x.2.i + ((x.2.n - x.2.i.toNat : Nat) : Int), b := (dlF off ws (x.2.n - x.2.i.toNat) x).2.b }) := by
      rw [← dlF_inv]
    rw [e]
    revert h2
    generalize dlF off ws (x.2.n - x.2.i.toNat) x = r
    obtain ⟨r1, r2⟩ := r
    intro h2
    cases r1 <;> (cases h2; rfl)
  subst hb
  refine it_of (fun x : DlZ => dlG off ws x = true) (fun x => x.2.n - x.2.i.toNat) (fun x : DlZ => dlF off ws (x.2.n - x.2.i.toNat) x) ?_ _ x h1 (Nat.lt_succ_self _)
  rintro ⟨z, s⟩ hg
  simp only [dlG, Bool.and_eq_true, decide_eq_true_eq] at hg
  obtain ⟨⟨⟨⟨⟨⟨⟨g1, g2⟩, g3⟩, g4⟩, g5⟩, g6⟩, g7⟩, g8⟩ := hg
  have g1' := Nat.eq_of_beq_eq_true g1
  have g2' := Nat.eq_of_beq_eq_true g2
  have g7' := Nat.le_of_ble_eq_true g7
  have haf := byOk_af g8
  by_cases hi : s.i < (s.n : Int)
  · have e1 : (decide (0 ≤ s.i) && decide (s.i < (s.n : Int)) && s.n.ble s.cap) = true := andI (andI (decide_eq_true g5) (decide_eq_true hi)) g3
    have e2 : skOk (symW off ws) (s.o + s.i.toNat * 16) = true := by rw [g1']; exact skOk_t (by omega)
    have h0 : byOk s.b (64 * (s.n - (s.i + 1).toNat) + 4 * (skW (symW off ws) (s.o + s.i.toNat * 16)).l0.length) = true := by
      show byOk s.b (64 * (s.n - (s.i + 1).toNat) + 4 * 16) = true
      rw [show 64 * (s.n - (s.i + 1).toNat) + 4 * 16 = 64 * (s.n - s.i.toNat) by omega]; exact g8
    obtain ⟨a1, b1⟩ := numBL_run _ h0
    have er : (dlStep off ws (z, s)).run = some (.inl (false, { s with i := IntKind.i64.wrap (s.i + 1), b := s.b.add (blkB off ws (s.o + s.i.toNat * 16)) })) := by
      unfold dlStep
      rw [run_br, decide_eq_true (show s.i < s.n' by rw [g4]; exact hi), cond_true]
      simp only [run_bind, chk_run, e1, e2, a1, byOk_af b1, cond_true, Option.bind_some, run_pure]
      rfl
    rw [er]
    rw [wrap_id (s.i + 1) (by omega)]
    refine ⟨?_, ?_, ?_⟩
    · simp only [dlG, Bool.and_eq_true, decide_eq_true_eq]
      exact ⟨⟨⟨⟨⟨⟨⟨g1, g2⟩, g3⟩, g4⟩, by omega⟩, by omega⟩, g7⟩, b1⟩
    · show s.n - (s.i + 1).toNat < s.n - s.i.toNat
      omega
    · dsimp only
      rw [show s.n - s.i.toNat = (s.n - (s.i + 1).toNat) + 1 by omega]; rfl
  · have er : (dlStep off ws (z, s)).run = some (.inr (z, s)) := by
      unfold dlStep
      rw [run_br, decide_eq_false (show ¬ s.i < s.n' by rw [g4]; exact hi), cond_false]
      simp only [run_bind, chk_run, haf, cond_true, Option.bind_some, run_pure]
    rw [er]
    show (z, s) = dlF off ws (s.n - s.i.toNat) (z, s)
    rw [show s.n - s.i.toNat = 0 by omega]; rfl
set_option maxRecDepth 100000 in
theorem l_dl {gl : Gl} (hgl : Low gl) {ws : List Int} {off : Nat} (hW : GlW gl 901 off ws) : LpOK Tryz.prog gl 6 2 ⟨[94, 7, 92, 1, 93], [1, 7], hLp 2 (dlT).dec (dlSp off ws) (dlW)⟩ := loop_sp (st := dlStep off ws) goodT hgl tglob (dlT).ok (by decide) (dlSp_ok off ws) fun s => match s with
  | (true, s) => ⟨syW 901 off ws [], HNum, 100, 40, 40, [], fun _ => [], syW_ok (by decide) hW, HNum_ok hgl, (by
  obtain ⟨i, b, o, n, cap, n', c, p, d, q⟩ := s
  rcases q with _ | q <;> (show _ = _; kernel_rfl))⟩
  | (false, s) => ⟨syW 901 off ws [], HNum, 100, 40, 40, [], fun _ => [], syW_ok (by decide) hW, HNum_ok hgl, (by
  obtain ⟨i, b, o, n, cap, n', c, p, d, q⟩ := s
  rcases q with _ | q <;> (show _ = _; kernel_rfl))⟩
end Go.Proofs.YtpckfdopokmbkaaGreatDoor.Ev

namespace Go.Proofs.YtpckfdopokmbkaaGreatDoor.Ev
open Go
open Go.Proofs Go.RowKit

/-! A deck put: its picks. -/
structure PqS where
  i : Int
  b : By
  o : Nat
  n : Nat
  cap : Nat
  n' : Int
abbrev PqZ := Bool × PqS
def pqT : LpT PqZ := ⟨fun vs rows => match vs, rows with
  | [.int .i64 i, .slice (some a) m m', .slice (some b) n cap, .int .i64 n'], [some (.row r)] => cond (isBy r && isP a 1000 && isSl b 902) (some (true, ⟨i, ⟨m, m', r.cells⟩, b.off, n, cap, n'⟩)) none
  | _, _ => none, fun x => ([.int .i64 x.2.i, slB x.1 x.2.b, wSl' 902 x.2.o x.2.n x.2.cap, .int .i64 x.2.n'], bysR x.1 x.2.b.l), fun vs rows s h => by
  split at h
  case h_2 => cases h
  rename_i i a m m' b n cap n' r
  obtain ⟨h1, h⟩ := condT h
  simp only [Bool.and_eq_true] at h1
  obtain ⟨⟨h1, h3⟩, h4⟩ := h1
  cases h
  rw [isBy_eq h1, isP_t h3]
  conv => lhs; rw [isSl_t h4]
  rfl⟩
def pkB (p : Pk) : Value := cond (p.1 == 2) (.int .u8 (IntKind.u8.wrap (IntKind.u8.wrap p.2 + 128))) (.int .u8 (IntKind.u8.wrap p.2))
def pqStep (off : Nat) (l : List Pk) (x : PqZ) : DT (PqZ ⊕ PqZ) := .br (decide (x.2.i < x.2.n')) (do
    chk (decide (0 ≤ x.2.i) && decide (x.2.i < (x.2.n : Int)) && x.2.n.ble x.2.cap)
    chk ((symP off l).okI .u8 (x.2.o + x.2.i.toNat * 2 + 0) && ((symP off l).okI .i64 (x.2.o + x.2.i.toNat * 2 + 1) && true))
    let p := pkAt (symP off l) (x.2.o + x.2.i.toNat * 2)
    let c ← bl (p.1 == 2)
    let b ← apB x.2.b (cond c (.int .u8 (IntKind.u8.wrap (IntKind.u8.wrap p.2 + 128))) (.int .u8 (IntKind.u8.wrap p.2)))
    chk (b.l.all (af 8) && true)
    pure (.inl (false, { x.2 with i := IntKind.i64.wrap (x.2.i + 1), b := b }))) (do
  chk (x.2.b.l.all (af 8) && true)
  pure (.inr x))
def pqG (off : Nat) (l : List Pk) (x : PqZ) : Bool := Nat.beq x.2.o off && Nat.beq x.2.n l.length && Nat.ble l.length x.2.cap && decide (x.2.n' = (l.length : Int)) && decide (0 ≤ x.2.i) && decide (x.2.i ≤ (l.length : Int)) && Nat.ble l.length 1048576 && byOk x.2.b (l.length - x.2.i.toNat)
def pqF : List Pk → PqZ → PqZ
  | [], x => x
  | p :: l, x => pqF l (false, { x.2 with i := x.2.i + 1, b := x.2.b.add [pkB p] })
def pqSp (off : Nat) (l : List Pk) (x : PqZ) : DT PqZ := .br (pqG off l x) (let r := pqF (l.drop x.2.i.toNat) x; do let z ← bl r.1; pure (z, r.2)) .fail
theorem pqSp_ok (off : Nat) (l : List Pk) (x b : PqZ) (h : (pqSp off l x).run = some b) : ∃ m, itN (pqStep off l) m x = some b := by
  obtain ⟨h1, h2⟩ := condT (show cond (pqG off l x) _ none = some b from h)
  have hb : b = pqF (l.drop x.2.i.toNat) x := by
    revert h2
    generalize pqF (l.drop x.2.i.toNat) x = r
    obtain ⟨r1, r2⟩ := r
    intro h2
    cases r1 <;> (cases h2; rfl)
  subst hb
  refine it_of (fun x : PqZ => pqG off l x = true) (fun x => l.length - x.2.i.toNat) (fun x : PqZ => pqF (l.drop x.2.i.toNat) x) ?_ _ x h1 (Nat.lt_succ_self _)
  rintro ⟨z, s⟩ hg
  simp only [pqG, Bool.and_eq_true, decide_eq_true_eq] at hg
  obtain ⟨⟨⟨⟨⟨⟨⟨g1, g2⟩, g3⟩, g4⟩, g5⟩, g6⟩, g7⟩, g8⟩ := hg
  have g1' := Nat.eq_of_beq_eq_true g1
  have g2' := Nat.eq_of_beq_eq_true g2
  have g7' := Nat.le_of_ble_eq_true g7
  by_cases hi : s.i < (l.length : Int)
  · have hj : s.i.toNat < l.length := by omega
    obtain ⟨s1, s2⟩ := symP_at (off := off) hj
    rw [← g1'] at s1 s2
    have e1 : (decide (0 ≤ s.i) && decide (s.i < (s.n : Int)) && s.n.ble s.cap) = true := andI (andI (decide_eq_true g5) (decide_eq_true (by omega))) (by rw [g2']; exact g3)
    have h0 : byOk s.b (l.length - (s.i + 1).toNat + 1) = true := by
      rw [show l.length - (s.i + 1).toNat + 1 = l.length - s.i.toNat by omega]; exact g8
    have haf : af 8 (pkB l[s.i.toNat]) = true := by unfold pkB; cases (l[s.i.toNat]).1 == 2 <;> rfl
    obtain ⟨a1, b1⟩ := apB_run h0 haf
    have er : (pqStep off l (z, s)).run = some (.inl (false, { s with i := IntKind.i64.wrap (s.i + 1), b := s.b.add [pkB l[s.i.toNat]] })) := by
      unfold pqStep
      rw [run_br, decide_eq_true (show s.i < s.n' by rw [g4]; exact hi), cond_true]
      simp only [run_bind, chk_run, e1, s1, cond_true, Option.bind_some, bl_run, ← g1', s2]
      rw [show (cond ((l[s.i.toNat]).1 == 2) (Value.int .u8 (IntKind.u8.wrap (IntKind.u8.wrap (l[s.i.toNat]).2 + 128))) (.int .u8 (IntKind.u8.wrap (l[s.i.toNat]).2))) = pkB l[s.i.toNat] from rfl, a1]
      simp only [Option.bind_some, byOk_af b1, cond_true, run_pure]
    rw [er]
    rw [wrap_id (s.i + 1) (by omega)]
    refine ⟨?_, ?_, ?_⟩
    · simp only [pqG, Bool.and_eq_true, decide_eq_true_eq]
      exact ⟨⟨⟨⟨⟨⟨⟨g1, g2⟩, g3⟩, g4⟩, by omega⟩, by omega⟩, g7⟩, b1⟩
    · show l.length - (s.i + 1).toNat < l.length - s.i.toNat
      omega
    · dsimp only
      rw [List.drop_eq_getElem_cons hj, show (s.i + 1).toNat = s.i.toNat + 1 by omega]; rfl
  · have er : (pqStep off l (z, s)).run = some (.inr (z, s)) := by
      unfold pqStep
      rw [run_br, decide_eq_false (show ¬ s.i < s.n' by rw [g4]; exact hi), cond_false]
      simp only [run_bind, chk_run, byOk_af g8, cond_true, Option.bind_some, run_pure]
    rw [er]
    show (z, s) = pqF (l.drop s.i.toNat) (z, s)
    rw [List.drop_eq_nil_of_le (by omega)]; rfl
def pqW (x : PqZ) : Out := (.exit 8, [slB x.1 x.2.b], bysR x.1 x.2.b.l)
set_option maxRecDepth 100000 in
theorem l_pq {gl : Gl} (hgl : Low gl) {l : List Pk} {off : Nat} (hQ : GlPk gl 902 off l) : LpOK Tryz.prog gl 6 4 ⟨[116, 7, 114, 115], [7], hLp 1 (pqT).dec (pqSp off l) (pqW)⟩ := loop_sp (st := pqStep off l) goodT hgl tglob (pqT).ok (by decide) (pqSp_ok off l) fun s => match s with
  | (true, s) => ⟨syP 902 off l, H0, 100, 40, 40, [], fun _ => [], syP_ok (by decide) hQ, H0_ok, by kernel_rfl⟩
  | (false, s) => ⟨syP 902 off l, H0, 100, 40, 40, [], fun _ => [], syP_ok (by decide) hQ, H0_ok, by kernel_rfl⟩
end Go.Proofs.YtpckfdopokmbkaaGreatDoor.Ev

namespace Go.Proofs.YtpckfdopokmbkaaGreatDoor.Ev
open Go
open Go.Proofs Go.RowKit

/-! A deck put, whole. -/
/-- A deck without programs may not be. -/
def mayD (P : Pgs) (D : Dat) (Q : Pks) (k : DkS) : DT Bool := match k.p with
  | none => .br (dkG P D Q k) (pure false) .fail
  | some _ => mayC P D Q k
theorem mayD_run {P : Pgs} {D : Dat} {Q : Pks} {k : DkS} {b : Bool} (h : (mayD P D Q k).run = some b) : (mayC P D Q k).run = some b := by
  obtain ⟨c, p, d, q⟩ := k
  cases p with
  | some _ => exact h
  | none =>
    obtain ⟨h1, h2⟩ := condT (show cond (dkG P D Q ⟨c, none, d, q⟩) _ none = some b from h)
    cases h2
    have hP : slPs P none = true := by
      simp only [dkG, Bool.and_eq_true] at h1
      exact h1.1.1
    have hz : P.2.2 = [] := List.isEmpty_iff.1 hP
    unfold mayC
    rw [run_br, h1, cond_true, bl_run]
    congr 1
    unfold dkB chB
    rw [hz]
    cases hp : planOk c with
    | false => simp
    | true =>
      have := planCores hp
      rw [decide_eq_false (show ¬ ((([] : List Pg).length : Int) = c.cores) by show ¬ ((0 : Int) = c.cores); omega)]
      simp
theorem s_mayD {gl : Gl} (hgl : Low gl) {P : Pgs} {D : Dat} {Q : Pks} (h : GlK gl P D Q) : SubOK Tryz.prog gl 12 (hA noL decDk (fun _ => mayD P D Q) myO) := hA_weak (s_may hgl h) fun _ _ _ e => mayD_run e
def HPt0 (P : Pgs) (D : Dat) (Q : Pks) : Hs := hsOf [] [(12, hA noL decDk (fun _ => mayD P D Q) myO), (13, hA by1L (decNum 4) (nuC 4 by4) numO)] []
def Hs.addO (H : Hs) (o : Sl) (f : FuncId) (n : Nat) (h : LoopH) : Hs := match o with
  | none => H
  | some _ => H.addL f n h
theorem Hs.addO_ok {gl : Gl} {H : Hs} (hH : H.OK Tryz.prog gl) {o : Sl} {f : FuncId} {n : Nat} {h : LoopH} (hl : LpOK Tryz.prog gl f n h) : (H.addO o f n h).OK Tryz.prog gl := by
  cases o with
  | none => exact hH
  | some _ => exact Hs.addL_ok hH hl
def HPt (P : Pgs) (D : Dat) (Q : Pks) (k : DkS) : Hs := (((HPt0 P D Q).addL 6 1 ⟨[64, 7, 62, 1, 63, 2, 3], [1, 7, 2, 3], hLp 2 ppT.dec (ppSp P.1 (P.2.2.take 16)) ppW⟩).addO k.d 6 2 ⟨[94, 7, 92, 1, 93], [1, 7], hLp 2 dlT.dec (dlSp D.1 D.2.2) dlW⟩).addO k.q 6 4 ⟨[116, 7, 114, 115], [7], hLp 1 pqT.dec (pqSp Q.1 Q.2) pqW⟩
theorem HPt_ok {gl : Gl} (hgl : Low gl) {P : Pgs} {D : Dat} {Q : Pks} (h : GlK gl P D Q) (k : DkS) : (HPt P D Q k).OK Tryz.prog gl := by
  have h0 : (HPt0 P D Q).OK Tryz.prog gl := hsOf_ok fx0 (sxC (s_mayD hgl h) (sxC (s_num4 hgl) sx0)) lx0
  have hc := h.PD.cut
  exact Hs.addO_ok (Hs.addO_ok (Hs.addL_ok h0 (l_pp hgl hc.F hc.P (by show (P.2.2.take 16).length ≤ 16; simp; omega))) (l_dl hgl h.PD.D)) (l_pq hgl h.Q)
def dkHd (c : Cfg) : By := ⟨12, 12, [v8 85, v8 68, v8 1, v8 c.cores, v8 c.sets, v8 c.ways, v8 c.logs, v8 c.backs, v8 c.nest, v8 c.tries] ++ by2 (IntKind.u32.wrap c.blocks)⟩
def chA (b : By) : DT Unit := chk (b.l.all (af 8) && true)
def dkDat (D : Dat) (b : By) (c : Cfg) (p : Nat × Nat × Nat) (d q : Sl) : DT By := match d with
  | none => pure b
  | some d => do
    chA b
    let x ← dlSp D.1 D.2.2 (true, ⟨0, b, d.1, d.2.1, d.2.2, (d.2.1 : Int), c, p, d, q⟩)
    chA x.2.b
    pure x.2.b
def dkPks (Q : Pks) (b : By) (q : Sl) : DT By := match q with
  | none => pure b
  | some q => do
    chA b
    let x ← pqSp Q.1 Q.2 (true, ⟨0, b, q.1, q.2.1, q.2.2, (q.2.1 : Int)⟩)
    chA x.2.b
    pure x.2.b
def dkRest (D : Dat) (Q : Pks) (b : By) (c : Cfg) (p : Nat × Nat × Nat) (d q : Sl) : DT (ByteArray × Int) := do
  let b ← apB b (v8 (d.n : Int))
  let b ← dkDat D b c p d q
  chA b
  let b ← nuC 4 by4 b.l (b.n, b.c, IntKind.u32.wrap (q.n : Int))
  chA b
  let b ← dkPks Q b q
  let t ← cvS b
  pure (t, 0)
def dkPut (P : Pgs) (D : Dat) (Q : Pks) (k : DkS) : DT (ByteArray × Int) := do
  let m ← mayD P D Q k
  cond m (match k.p with
    | none => .fail
    | some p => do
      let r ← ppSp P.1 (P.2.2.take 16) ⟨0, dkHd k.c, p.1, p.2.1, p.2.2, (p.2.1 : Int), k.c, p, k.d, k.q⟩
      chA r.2.2.b
      cond r.1 (pure (⟨#[]⟩, 2)) (dkRest D Q r.2.2.b k.c p k.d k.q)) (pure (⟨#[]⟩, 2))
set_option maxRecDepth 100000 in
theorem s_put0 {gl : Gl} (hgl : Low gl) {P : Pgs} {D : Dat} {Q : Pks} (h : GlK gl P D Q) : SubOK Tryz.prog gl 6 (hA (noL) (decDk) (fun _ => dkPut P D Q) (ipO)) := hA_sub hgl fun k x => ⟨syG [], HPt P D Q x, noV, syG_ok _, HPt_ok hgl h x, (by
  obtain ⟨c, p, d, q⟩ := x
  rcases p with _ | p <;> rcases d with _ | d <;> rcases q with _ | q <;> (show _ = _; kernel_rfl))⟩
end Go.Proofs.YtpckfdopokmbkaaGreatDoor.Ev

namespace Go.Proofs.YtpckfdopokmbkaaGreatDoor.Ev
open Go
open Go.Proofs Go.RowKit

/-! A deck put, in closed form. -/
theorem imF_ok {p : Pg} (h : pgOk p = true) : (imF p.ws).2 = 0 := by
  unfold pgOk cnRs at h
  unfold imF
  rw [h]; rfl
def pgsB : List Pg → List Value
  | [] => []
  | p :: l => pgB p ++ pgsB l
theorem add_nil {s : By} {k : Nat} (h : byOk s k = true) : s.add [] = s := by
  obtain ⟨h1, h2, h3, h4⟩ := byOk_iff.1 h
  obtain ⟨n, c, l⟩ := s
  have h2 : c = n := h2
  subst h2
  simp [By.add]
theorem by2_len (x : Int) : (by2 x).length = 2 := rfl
theorem pgB_len (p : Pg) : (pgB p).length ≤ 4107 := by
  unfold pgB
  rw [List.length_append, by2_len, stCl_len]
  have := imF_size p.ws
  omega
theorem pgB_u8 (p : Pg) : isU8 (pgB p) = true := isU8_app rfl (stCl_u8 _)
theorem pgsB_u8 : ∀ l, isU8 (pgsB l) = true
  | [] => rfl
  | p :: l => isU8_app (pgB_u8 p) (pgsB_u8 l)
theorem pgsB_len : ∀ l, (pgsB l).length ≤ 4107 * l.length
  | [] => by simp [pgsB]
  | p :: l => by
    have h1 := pgB_len p
    have h2 := pgsB_len l
    simp only [pgsB, List.length_append, List.length_cons]
    omega
theorem ppF_all : ∀ (l : List Pg) (z : Bool) (s : PpS), l.all pgOk = true → byOk s.b (4200 * l.length) = true → (ppF l z s).1 = false ∧ (ppF l z s).2.2.b = s.b.add (pgsB l)
  | [], z, s, _, hb => ⟨rfl, (add_nil hb).symm⟩
  | p :: l, z, s, h, hb => by
    have h' : (pgOk p && l.all pgOk) = true := h
    simp only [Bool.and_eq_true] at h'
    have e : ppF (p :: l) z s = cond ((imF p.ws).2 != 0) (true, z, s) (ppF l false { s with k := s.k + 1, b := s.b.add (pgB p) }) := rfl
    rw [e, imF_ok h'.1]
    have hb2 : byOk (s.b.add (pgB p)) (4200 * l.length) = true := byOk_add (by
      obtain ⟨a, b, c, d⟩ := byOk_iff.1 hb
      have := pgB_len p
      exact byOk_iff.2 ⟨a, b, c, by simp only [List.length_cons] at d; omega⟩) (isU8_af (pgB_u8 p))
    obtain ⟨h1, h2⟩ := ppF_all l false { s with k := s.k + 1, b := s.b.add (pgB p) } h'.2 hb2
    refine ⟨h1, ?_⟩
    show (ppF l false { s with k := s.k + 1, b := s.b.add (pgB p) }).2.2.b = _
    rw [h2]
    exact add_add ..
theorem pqF_b : ∀ (l : List Pk) (x : PqZ) , byOk x.2.b l.length = true → (pqF l x).2.b = x.2.b.add (l.map pkB)
  | [], x, hb => (add_nil hb).symm
  | p :: l, x, hb => by
    have haf : af 8 (pkB p) = true := by unfold pkB; cases p.1 == 2 <;> rfl
    have hb2 := (apB_run (s := x.2.b) (v := pkB p) (k := l.length) hb haf).2
    have ih := pqF_b l (false, { x.2 with i := x.2.i + 1, b := x.2.b.add [pkB p] }) hb2
    show (pqF l (false, { x.2 with i := x.2.i + 1, b := x.2.b.add [pkB p] })).2.b = _
    rw [ih]
    exact add_add ..
theorem wrdB_app : ∀ a b, wrdB (a ++ b) = wrdB a ++ wrdB b
  | [], b => rfl
  | x :: a, b => by simp only [List.cons_append, wrdB, wrdB_app a b, List.append_assoc]
theorem skW_l {off : Nat} {ws : List Int} {k : Nat} (h : k + 16 ≤ ws.length) : (skW (symW off ws) (off + k)).l0 = (ws.drop k).take 16 := by
  have e : ∀ j (hj : j < 16), (symW off ws).int .u32 (off + k + j) = ws[k + j]'(by omega) := fun j hj => by
    have := wX_eq (off := off) (zs := ws) (i := k + j) (by omega)
    unfold wX at this
    rwa [show off + ((k + j : Nat) : Int).toNat * 1 = off + k + j by rw [Int.toNat_natCast]; omega] at this
  apply List.ext_getElem
  · show 16 = _
    simp; omega
  · intro i h1 h2
    have hi : i < 16 := h1
    rw [List.getElem_take, List.getElem_drop]
    rw [← e i hi]
    match i, hi with
    | 0, _ => rfl
    | 1, _ => rfl
    | 2, _ => rfl
    | 3, _ => rfl
    | 4, _ => rfl
    | 5, _ => rfl
    | 6, _ => rfl
    | 7, _ => rfl
    | 8, _ => rfl
    | 9, _ => rfl
    | 10, _ => rfl
    | 11, _ => rfl
    | 12, _ => rfl
    | 13, _ => rfl
    | 14, _ => rfl
    | 15, _ => rfl
    | n + 16, hi => exact absurd hi (by omega)
theorem dlF_b (off : Nat) (ws : List Int) : ∀ (k i : Nat) (x : DlZ), x.2.i = (i : Int) → x.2.o = off → (i + k) * 16 ≤ ws.length → byOk x.2.b (64 * k) = true → (dlF off ws k x).2.b = x.2.b.add (wrdB ((ws.drop (i * 16)).take (k * 16)))
  | 0, i, x, _, _, _, hb => by
    have e : (ws.drop (i * 16)).take (0 * 16) = [] := by simp
    rw [e]
    exact (add_nil hb).symm
  | k + 1, i, x, hi, ho, hl, hb => by
    have e1 : blkB off ws (x.2.o + x.2.i.toNat * 16) = wrdB ((ws.drop (i * 16)).take 16) := by
      unfold blkB
      rw [ho, hi, Int.toNat_natCast, skW_l (by omega)]
    have hl16 : (wrdB ((ws.drop (i * 16)).take 16)).length = 64 := by
      rw [wrdB_len, List.length_take, List.length_drop]
      omega
    have hb2 : byOk (x.2.b.add (wrdB ((ws.drop (i * 16)).take 16))) (64 * k) = true := byOk_add (by rw [hl16, show 64 * k + 64 = 64 * (k + 1) by omega]; exact hb) (isU8_af (wrdB_u8 _))
    have ih := dlF_b off ws k (i + 1) (false, { x.2 with i := x.2.i + 1, b := x.2.b.add (wrdB ((ws.drop (i * 16)).take 16)) }) (by show x.2.i + 1 = _; omega) ho (by omega) hb2
    have e0 : dlF off ws (k + 1) x = dlF off ws k (false, { x.2 with i := x.2.i + 1, b := x.2.b.add (blkB off ws (x.2.o + x.2.i.toNat * 16)) }) := rfl
    rw [e0, e1, ih]
    have e2 : (ws.drop (i * 16)).take ((k + 1) * 16) = (ws.drop (i * 16)).take 16 ++ (ws.drop ((i + 1) * 16)).take (k * 16) := by
      rw [show (k + 1) * 16 = 16 + k * 16 by omega, List.take_add, List.drop_drop, show (i + 1) * 16 = i * 16 + 16 by omega]
    rw [e2, wrdB_app]
    exact add_add ..
/-- A deck's bytes. -/
def dkBs (c : Cfg) (ps : List Pg) (ws : List Int) (nd : Nat) (pks : List Pk) : List Value := (dkHd c).l ++ (pgsB ps ++ ([v8 (nd : Int)] ++ (wrdB ws ++ (by4 (IntKind.u32.wrap (pks.length : Int)) ++ pks.map pkB))))
def dkF (c : Cfg) (ps : List Pg) (ws : List Int) (nd : Nat) (pks : List Pk) : ByteArray × Int := cond (dkB c ps nd pks) (strOf (dkBs c ps ws nd pks), 0) (⟨#[]⟩, 2)
def ptC (P : Pgs) (D : Dat) (Q : Pks) (k : DkS) : DT (ByteArray × Int) := ifT (dkG P D Q k) (dkF k.c P.2.2 D.2.2 k.d.n Q.2)
theorem pks_u8 (l : List Pk) : isU8 (l.map pkB) = true := List.all_eq_true.2 fun v hv => by
  obtain ⟨p, _, rfl⟩ := List.mem_map.1 hv
  unfold pkB
  cases p.1 == 2 <;> rfl
theorem chA_run {b : By} {k : Nat} (h : byOk b k = true) : (chA b).run = some () := by unfold chA; rw [chk_run, byOk_af h]; rfl
theorem byOk_le {b : By} {k j : Nat} (h : byOk b k = true) (hj : j ≤ k) : byOk b j = true := by
  obtain ⟨h1, h2, h3, h4⟩ := byOk_iff.1 h
  exact byOk_iff.2 ⟨h1, h2, h3, by omega⟩
theorem nuC_run {s : By} {k : Nat} {x : Int} (h : byOk s (k + 4) = true) : (nuC 4 by4 s.l (s.n, s.c, x)).run = some (s.add (by4 x)) := by
  show (ifT (byOk s 4) (s.add (by4 x))).run = _
  unfold ifT
  rw [byOk_le h (by omega)]; rfl
theorem dat_run {D : Dat} {b : By} {c : Cfg} {p : Nat × Nat × Nat} {d q : Sl} {k : Nat} (hD : slWs 16 D d = true) (hn : d.n ≤ 255) (hb : byOk b (k + 20000) = true) : (dkDat D b c p d q).run = some (b.add (wrdB D.2.2)) ∧ byOk (b.add (wrdB D.2.2)) k = true := by
  have hdl : d.n * 16 = D.2.2.length := by
    cases d with
    | none => rw [List.isEmpty_iff.1 hD]; rfl
    | some x =>
      have hD : (Nat.beq x.1 D.1 && Nat.beq (x.2.1 * 16) D.2.2.length && Nat.ble x.2.1 x.2.2) = true := hD
      simp only [Bool.and_eq_true] at hD
      exact Nat.eq_of_beq_eq_true hD.1.2
  have hw : (wrdB D.2.2).length = 64 * d.n := by rw [wrdB_len]; omega
  have b2 : byOk (b.add (wrdB D.2.2)) k = true := byOk_add (byOk_le hb (by rw [hw]; omega)) (isU8_af (wrdB_u8 _))
  refine ⟨?_, b2⟩
  cases d with
  | none =>
    have : D.2.2 = [] := List.isEmpty_iff.1 hD
    rw [this, show wrdB [] = [] from rfl, add_nil hb]; rfl
  | some y =>
    have hD : (Nat.beq y.1 D.1 && Nat.beq (y.2.1 * 16) D.2.2.length && Nat.ble y.2.1 y.2.2) = true := hD
    simp only [Bool.and_eq_true] at hD
    have hn : y.2.1 ≤ 255 := hn
    have hdl : y.2.1 * 16 = D.2.2.length := hdl
    have hbb : byOk b (64 * (y.2.1 - (0 : Int).toNat)) = true := byOk_le hb (by show 64 * (y.2.1 - 0) ≤ _; omega)
    have hg : dlG D.1 D.2.2 (true, ⟨0, b, y.1, y.2.1, y.2.2, (y.2.1 : Int), c, p, y, q⟩) = true := by
      simp only [dlG, Bool.and_eq_true, decide_eq_true_eq]
      exact ⟨⟨⟨⟨⟨⟨⟨hD.1.1, hD.1.2⟩, hD.2⟩, trivial⟩, by simp⟩, by simp⟩, nbl (by omega)⟩, hbb⟩
    have hf := dlF_b D.1 D.2.2 (y.2.1 - (0 : Int).toNat) 0 (true, ⟨0, b, y.1, y.2.1, y.2.2, (y.2.1 : Int), c, p, y, q⟩) rfl (Nat.eq_of_beq_eq_true hD.1.1) (by show (0 + (y.2.1 - 0)) * 16 ≤ _; omega) hbb
    have ht : (D.2.2.drop (0 * 16)).take ((y.2.1 - (0 : Int).toNat) * 16) = D.2.2 := by
      rw [show 0 * 16 = 0 from rfl, List.drop_zero]
      exact List.take_of_length_le (by show _ ≤ (y.2.1 - 0) * 16; omega)
    rw [ht] at hf
    have hs : (dlSp D.1 D.2.2 (true, ⟨0, b, y.1, y.2.1, y.2.2, (y.2.1 : Int), c, p, y, q⟩)).run.map (fun x => x.2.b) = some (b.add (wrdB D.2.2)) := by
      unfold dlSp
      rw [run_br, hg, cond_true]
      dsimp only
      rw [run_bind, bl_run]
      show some (dlF D.1 D.2.2 _ _).2.b = _
      rw [hf]
    obtain ⟨x, hx1, hx2⟩ := Option.map_eq_some_iff.1 hs
    show (do chA b; let x ← dlSp D.1 D.2.2 (true, ⟨0, b, y.1, y.2.1, y.2.2, (y.2.1 : Int), c, p, y, q⟩); chA x.2.b; pure x.2.b : DT By).run = _
    rw [run_bind, chA_run hb, Option.bind_some, run_bind, hx1, Option.bind_some, run_bind, hx2, chA_run b2, Option.bind_some, run_pure]
theorem pks_run {Q : Pks} {b : By} {q : Sl} {k : Nat} (hQ : slQs Q q = true) (hq : Q.2.length ≤ 65536) (hb : byOk b (k + 70000) = true) : (dkPks Q b q).run = some (b.add (Q.2.map pkB)) ∧ byOk (b.add (Q.2.map pkB)) k = true := by
  have b2 : byOk (b.add (Q.2.map pkB)) k = true := byOk_add (byOk_le hb (by rw [List.length_map]; omega)) (isU8_af (pks_u8 _))
  refine ⟨?_, b2⟩
  cases q with
  | none =>
    have : Q.2 = [] := List.isEmpty_iff.1 hQ
    rw [this, show [].map pkB = [] from rfl, add_nil hb]; rfl
  | some y =>
    have hQ : (Nat.beq y.1 Q.1 && Nat.beq y.2.1 Q.2.length && Nat.ble Q.2.length y.2.2) = true := hQ
    simp only [Bool.and_eq_true] at hQ
    have hyl := Nat.eq_of_beq_eq_true hQ.1.2
    have hbb : byOk b (Q.2.length - (0 : Int).toNat) = true := byOk_le hb (by show Q.2.length - 0 ≤ _; omega)
    have hg : pqG Q.1 Q.2 (true, ⟨0, b, y.1, y.2.1, y.2.2, (y.2.1 : Int)⟩) = true := by
      simp only [pqG, Bool.and_eq_true, decide_eq_true_eq]
      exact ⟨⟨⟨⟨⟨⟨⟨hQ.1.1, hQ.1.2⟩, hQ.2⟩, by rw [hyl]⟩, by simp⟩, by simp⟩, nbl (by omega)⟩, hbb⟩
    have hf := pqF_b Q.2 (true, ⟨0, b, y.1, y.2.1, y.2.2, (y.2.1 : Int)⟩) hbb
    have hs : (pqSp Q.1 Q.2 (true, ⟨0, b, y.1, y.2.1, y.2.2, (y.2.1 : Int)⟩)).run.map (fun x => x.2.b) = some (b.add (Q.2.map pkB)) := by
      unfold pqSp
      rw [run_br, hg, cond_true]
      dsimp only
      rw [run_bind, bl_run]
      show some ((pqF (Q.2.drop 0) _).2.b) = _
      rw [List.drop_zero, hf]
    obtain ⟨x, hx1, hx2⟩ := Option.map_eq_some_iff.1 hs
    show (do chA b; let x ← pqSp Q.1 Q.2 (true, ⟨0, b, y.1, y.2.1, y.2.2, (y.2.1 : Int)⟩); chA x.2.b; pure x.2.b : DT By).run = _
    rw [run_bind, chA_run hb, Option.bind_some, run_bind, hx1, Option.bind_some, run_bind, hx2, chA_run b2, Option.bind_some, run_pure]
theorem rest_run {D : Dat} {Q : Pks} {b : By} {c : Cfg} {p : Nat × Nat × Nat} {d q : Sl} (hD : slWs 16 D d = true) (hQ : slQs Q q = true) (hn : d.n ≤ 255) (hq : Q.2.length ≤ 65536) (hb : byOk b 200000 = true) (hu : isU8 b.l = true) (h1 : 1 ≤ b.n) :
    (dkRest D Q b c p d q).run = some (strOf (b.l ++ ([v8 (d.n : Int)] ++ (wrdB D.2.2 ++ (by4 (IntKind.u32.wrap (Q.2.length : Int)) ++ Q.2.map pkB)))), 0) := by
  have hql := slQ_len hQ
  obtain ⟨a1, b1⟩ := apB_run (v := v8 (d.n : Int)) (k := 150000) (byOk_le hb (by omega)) rfl
  obtain ⟨a2, b2⟩ := dat_run (c := c) (p := p) (q := q) (k := 100000) hD hn (byOk_le b1 (by omega))
  obtain ⟨_, b3⟩ := numB4_run (x := IntKind.u32.wrap (q.n : Int)) (k := 80000) (byOk_le b2 (by omega))
  obtain ⟨a4, b4⟩ := pks_run (k := 0) hQ hq (byOk_le b3 (by omega))
  have hl : ((((b.add [v8 (d.n : Int)]).add (wrdB D.2.2)).add (by4 (IntKind.u32.wrap (q.n : Int)))).add (Q.2.map pkB)).l = b.l ++ ([v8 (d.n : Int)] ++ (wrdB D.2.2 ++ (by4 (IntKind.u32.wrap (Q.2.length : Int)) ++ Q.2.map pkB))) := by
    rw [hql]
    simp only [By.add, List.append_assoc]
  have hu4 : isU8 (b.l ++ ([v8 (d.n : Int)] ++ (wrdB D.2.2 ++ (by4 (IntKind.u32.wrap (Q.2.length : Int)) ++ Q.2.map pkB)))) = true := isU8_app hu (isU8_app rfl (isU8_app (wrdB_u8 _) (isU8_app rfl (pks_u8 _))))
  unfold dkRest
  rw [run_bind, a1, Option.bind_some, run_bind, a2, Option.bind_some, run_bind, chA_run b2, Option.bind_some, run_bind, nuC_run (byOk_le b2 (show 0 + 4 ≤ _ by omega)), Option.bind_some, run_bind, chA_run b3, Option.bind_some, run_bind, a4, Option.bind_some, run_bind, cvS_run b4 (by rw [hl]; exact hu4) (by show 1 ≤ b.n + 1 + _ + _ + _; omega), hl]
  rfl
theorem ptC_run {P : Pgs} {D : Dat} {Q : Pks} {k : DkS} {b : ByteArray × Int} (h : (ptC P D Q k).run = some b) : (dkPut P D Q k).run = some b := by
  obtain ⟨h1, rfl⟩ := ifT_run h
  obtain ⟨c, p, d, q⟩ := k
  have hg := h1
  simp only [dkG, Bool.and_eq_true] at h1
  obtain ⟨⟨hP, hD⟩, hQ⟩ := h1
  unfold dkPut
  rw [run_bind]
  cases p with
  | none =>
    have e : (mayD P D Q ⟨c, none, d, q⟩).run = some false := by
      show (DT.br (dkG P D Q ⟨c, none, d, q⟩) (pure false) .fail : DT Bool).run = _
      rw [run_br, hg]; rfl
    have e2 := mayD_run e
    have e3 : (mayC P D Q ⟨c, none, d, q⟩).run = some (dkB c P.2.2 d.n Q.2) := by
      unfold mayC
      rw [run_br, hg, cond_true, bl_run]
    rw [e3] at e2
    have e4 : dkB c P.2.2 d.n Q.2 = false := by injection e2
    rw [e]
    show some ((⟨#[]⟩ : ByteArray), (2 : Int)) = some (dkF c P.2.2 D.2.2 d.n Q.2)
    unfold dkF
    rw [e4]; rfl
  | some p =>
    have e3 : (mayD P D Q ⟨c, some p, d, q⟩).run = some (dkB c P.2.2 d.n Q.2) := by
      show (mayC P D Q ⟨c, some p, d, q⟩).run = _
      unfold mayC
      rw [run_br, hg, cond_true, bl_run]
    rw [e3, Option.bind_some]
    cases hB : dkB c P.2.2 d.n Q.2 with
    | false =>
      show some ((⟨#[]⟩ : ByteArray), (2 : Int)) = some (dkF c P.2.2 D.2.2 d.n Q.2)
      unfold dkF
      rw [hB]; rfl
    | true =>
      have hB0 := hB
      simp only [dkB, chB, Bool.and_eq_true, decide_eq_true_eq] at hB
      obtain ⟨⟨⟨q1, q2⟩, q3⟩, ⟨⟨q4, q5⟩, q6⟩, q7⟩ := hB
      have hP' : (Nat.beq p.1 P.1 && Nat.beq p.2.1 P.2.2.length && Nat.ble P.2.2.length p.2.2 && P.2.2.all Pg.ok) = true := hP
      simp only [Bool.and_eq_true] at hP'
      obtain ⟨⟨⟨p1, p2⟩, p3⟩, p4⟩ := hP'
      have hc := planCores q4
      have hcut : P.2.2.take 16 = P.2.2 := cut_len q4 q5
      have hpl := Nat.eq_of_beq_eq_true p2
      have hbb : byOk (dkHd c) (4200 * P.2.2.length) = true := byOk_iff.2 ⟨rfl, rfl, rfl, by show 12 + 4200 * P.2.2.length ≤ _; omega⟩
      have hgg : ppG P.1 P.2.2 ⟨0, dkHd c, p.1, p.2.1, p.2.2, (p.2.1 : Int), c, p, d, q⟩ = true := by
        simp only [ppG, Bool.and_eq_true, decide_eq_true_eq]
        exact ⟨⟨⟨⟨⟨⟨⟨p1, p2⟩, p3⟩, by rw [hpl]⟩, nbl (Nat.zero_le _)⟩, p4⟩, nbl (by omega)⟩, hbb⟩
      obtain ⟨f1, f2⟩ := ppF_all P.2.2 true ⟨0, dkHd c, p.1, p.2.1, p.2.2, (p.2.1 : Int), c, p, d, q⟩ q7 hbb
      have hs : (ppSp P.1 P.2.2 ⟨0, dkHd c, p.1, p.2.1, p.2.2, (p.2.1 : Int), c, p, d, q⟩).run = some (ppF P.2.2 true ⟨0, dkHd c, p.1, p.2.1, p.2.2, (p.2.1 : Int), c, p, d, q⟩) := by
        unfold ppSp
        rw [run_br, hgg, cond_true]
        exact ppL_run P.2.2 true _
      have hb2 : byOk ((dkHd c).add (pgsB P.2.2)) 200000 = true := byOk_add (byOk_iff.2 ⟨rfl, rfl, rfl, by
        have := pgsB_len P.2.2
        show 12 + (200000 + _) ≤ _
        omega⟩) (isU8_af (pgsB_u8 _))
      show (do let r ← ppSp P.1 (P.2.2.take 16) ⟨0, dkHd c, p.1, p.2.1, p.2.2, (p.2.1 : Int), c, p, d, q⟩; chA r.2.2.b; cond r.1 (pure (⟨#[]⟩, 2)) (dkRest D Q r.2.2.b c p d q) : DT (ByteArray × Int)).run = _
      rw [hcut, run_bind, hs, Option.bind_some, run_bind, f2, chA_run hb2, Option.bind_some, f1, cond_false, rest_run hD hQ q2 q1 hb2 (isU8_app rfl (pgsB_u8 _)) (by show 1 ≤ 12 + _; omega)]
      unfold dkF
      rw [hB0]
      show some (strOf (((dkHd c).l ++ pgsB P.2.2) ++ _), (0 : Int)) = some (strOf (dkBs c P.2.2 D.2.2 d.n Q.2), 0)
      rw [List.append_assoc]; rfl
theorem s_put {gl : Gl} (hgl : Low gl) {P : Pgs} {D : Dat} {Q : Pks} (h : GlK gl P D Q) : SubOK Tryz.prog gl 6 (hA noL decDk (fun _ => ptC P D Q) ipO) := hA_weak (s_put0 hgl h) fun _ _ _ e => ptC_run e
end Go.Proofs.YtpckfdopokmbkaaGreatDoor.Ev
