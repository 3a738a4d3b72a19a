/- The document's plans, memories, homes, logs, cores. Where the forms stand as the program's text lays them. -/
import Derived.Test.YtpckfdopokmbkaaGreatDoorK6
import Derived.Test.YtpckfdopokmbkaaGreatDoorK8
noncomputable section
namespace Go.Proofs.YtpckfdopokmbkaaGreatDoor.Ev
open Go
open Go.Proofs Go.RowKit

/-! The document's plans, memories. -/
def orD : List Bool → DT Bool → DT Bool
  | [], k => k
  | b :: l, k => .br b (pure false) (orD l k)
def anyD (k : DT Bool) : List Bool → DT Bool
  | [] => pure false
  | b :: l => .br b k (anyD k l)
def rMayT (c : Cfg) : DT Bool := orD [decide (c.cores < 1), decide (c.cores > 16), decide (c.blocks < 1), decide (c.blocks > 256), decide (c.logs < 1), decide (c.logs > 4), decide (c.backs < 1), decide (c.backs > 4), decide (c.nest < 1), decide (c.nest > 8), decide (c.tries < 0), decide (c.tries > 8)]
  (anyD (anyD (bl (decide (IntKind.i64.wrap (c.cores * c.logs) < c.blocks))) [1 == c.ways, 2 == c.ways, 4 == c.ways]) [1 == c.sets, 2 == c.sets, 4 == c.sets, 8 == c.sets, 16 == c.sets])
theorem orD_run : ∀ (l : List Bool) (k : DT Bool), (orD l k).run = cond (l.any id) (some false) k.run
  | [], k => rfl
  | b :: l, k => by
    show cond b _ (orD l k).run = cond (b || l.any id) _ _
    cases b with
    | true => rfl
    | false => exact orD_run l k
theorem anyD_run : ∀ (l : List Bool) (k : DT Bool), (anyD k l).run = cond (l.any id) k.run (some false)
  | [], k => rfl
  | b :: l, k => by
    show cond b k.run (anyD k l).run = cond (b || l.any id) _ _
    cases b with
    | true => rfl
    | false => exact anyD_run l k
theorem rMay_eq (c : Cfg) : (rMayT c).run = some (planOk c) := by
  have hb : (bl (decide (IntKind.i64.wrap (c.cores * c.logs) < c.blocks))).run = some (decide (IntKind.i64.wrap (c.cores * c.logs) < c.blocks)) := by cases decide (IntKind.i64.wrap (c.cores * c.logs) < c.blocks) <;> rfl
  unfold rMayT
  rw [orD_run, anyD_run, anyD_run, hb]
  by_cases h : 1 ≤ c.cores ∧ c.cores ≤ 16 ∧ 1 ≤ c.blocks ∧ c.blocks ≤ 256 ∧ 1 ≤ c.logs ∧ c.logs ≤ 4 ∧ 1 ≤ c.backs ∧ c.backs ≤ 4 ∧ 1 ≤ c.nest ∧ c.nest ≤ 8 ∧ 0 ≤ c.tries ∧ c.tries ≤ 8
  · obtain ⟨a1, a2, a3, a4, a5, a6, a7, a8, a9, a10, a11, a12⟩ := h
    have k1 : 1 * 1 ≤ c.cores * c.logs := Int.mul_le_mul a1 a5 (by omega) (by omega)
    have k2 : c.cores * c.logs ≤ 16 * 4 := Int.mul_le_mul a2 a6 (by omega) (by omega)
    have e0 : (List.any [decide (c.cores < 1), decide (c.cores > 16), decide (c.blocks < 1), decide (c.blocks > 256), decide (c.logs < 1), decide (c.logs > 4), decide (c.backs < 1), decide (c.backs > 4), decide (c.nest < 1), decide (c.nest > 8), decide (c.tries < 0), decide (c.tries > 8)] id) = false := by
      simp only [List.any_cons, List.any_nil, id, Bool.or_eq_false_iff, decide_eq_false_iff_not, and_true]
      omega
    rw [e0, cond_false, wrap_id (c.cores * c.logs) (by omega)]
    have hd : dataI c = c.blocks - c.cores * c.logs := by
      unfold dataI
      rw [wrap_id (c.cores * c.logs) (by omega), wrap_id _ (by omega)]
    have hs : (List.any [1 == c.sets, 2 == c.sets, 4 == c.sets, 8 == c.sets, 16 == c.sets] id) = true ↔ (1 ≤ c.sets ∧ c.sets ≤ 16 ∧ pw2 c.sets = true) := by
      constructor
      · intro h
        simp only [List.any_cons, List.any_nil, id, Bool.or_eq_true, beq_iff_eq, Bool.or_false] at h
        rcases h with h | h | h | h | h <;> (rw [← h]; decide)
      · rintro ⟨h1, h2, h3⟩
        have : c.sets = 1 ∨ c.sets = 2 ∨ c.sets = 3 ∨ c.sets = 4 ∨ c.sets = 5 ∨ c.sets = 6 ∨ c.sets = 7 ∨ c.sets = 8 ∨ c.sets = 9 ∨ c.sets = 10 ∨ c.sets = 11 ∨ c.sets = 12 ∨ c.sets = 13 ∨ c.sets = 14 ∨ c.sets = 15 ∨ c.sets = 16 := by omega
        rcases this with h | h | h | h | h | h | h | h | h | h | h | h | h | h | h | h <;> (rw [h] at h3 ⊢; first | rfl | exact absurd h3 (by decide))
    have hw : (List.any [1 == c.ways, 2 == c.ways, 4 == c.ways] id) = true ↔ (1 ≤ c.ways ∧ c.ways ≤ 4 ∧ pw2 c.ways = true) := by
      constructor
      · intro h
        simp only [List.any_cons, List.any_nil, id, Bool.or_eq_true, beq_iff_eq, Bool.or_false] at h
        rcases h with h | h | h <;> (rw [← h]; decide)
      · rintro ⟨h1, h2, h3⟩
        have : c.ways = 1 ∨ c.ways = 2 ∨ c.ways = 3 ∨ c.ways = 4 := by omega
        rcases this with h | h | h | h <;> (rw [h] at h3 ⊢; first | rfl | exact absurd h3 (by decide))
    have key : planOk c = ((List.any [1 == c.sets, 2 == c.sets, 4 == c.sets, 8 == c.sets, 16 == c.sets] id) && ((List.any [1 == c.ways, 2 == c.ways, 4 == c.ways] id) && decide (c.cores * c.logs < c.blocks))) := by
      rw [Bool.eq_iff_iff, planOk_iff]
      simp only [Bool.and_eq_true, decide_eq_true_eq, hs, hw, hd]
      constructor
      · rintro ⟨⟨_, _, s1, s2, w1, w2, _⟩, s3, w3, h⟩
        exact ⟨⟨s1, s2, s3⟩, ⟨w1, w2, w3⟩, by omega⟩
      · rintro ⟨⟨s1, s2, s3⟩, ⟨w1, w2, w3⟩, h⟩
        exact ⟨⟨a1, a2, s1, s2, w1, w2, a3, a4, a5, a6, a7, a8, a9, a10, a11, a12⟩, s3, w3, by omega⟩
    rw [key]
    cases (List.any [1 == c.sets, 2 == c.sets, 4 == c.sets, 8 == c.sets, 16 == c.sets] id) <;> cases (List.any [1 == c.ways, 2 == c.ways, 4 == c.ways] id) <;> rfl
  · have e0 : (List.any [decide (c.cores < 1), decide (c.cores > 16), decide (c.blocks < 1), decide (c.blocks > 256), decide (c.logs < 1), decide (c.logs > 4), decide (c.backs < 1), decide (c.backs > 4), decide (c.nest < 1), decide (c.nest > 8), decide (c.tries < 0), decide (c.tries > 8)] id) = true := by
      simp only [List.any_cons, List.any_nil, id, Bool.or_eq_true, decide_eq_true_eq]
      omega
    rw [e0, cond_true]
    have : planOk c = false := by
      cases hp : planOk c with
      | false => rfl
      | true =>
        obtain ⟨⟨h1, h2, _, _, _, _, h3, h4, h5, h6, h7, h8, h9, h10, h11, h12⟩, _⟩ := planOk_iff.1 hp
        exact absurd ⟨h1, h2, h3, h4, h5, h6, h7, h8, h9, h10, h11, h12⟩ h
    rw [this]
set_option maxRecDepth 100000 in
theorem s_rMay0 {gl : Gl} (hgl : Low gl)  : SubOK Tryz.prog gl 43 (hA (noL) (decC) (fun _ c => rMayT c) (fun b => (.normal, [.bool b], []))) := hA_sub hgl fun k x => ⟨syG [], H0, noV, syG_ok _, H0_ok, by kernel_rfl⟩
def pSlA (i : Nat) : Par (Nat × Nat) := ⟨fun l => match l with
  | .slice (some a) n c :: r => cond (Nat.beq a.block i && Nat.beq a.off 0 && a.spot.isNone) (some ((n, c), r)) none
  | _ => none, fun x r => .slice (some ⟨i, 0, none⟩) x.1 x.2 :: r, fun l a r h => by
  split at h
  · rename_i a n c _
    obtain ⟨h1, h2⟩ := condT h
    cases h2
    simp only [Bool.and_eq_true, Option.isNone_iff_eq_none] at h1
    obtain ⟨⟨k1, k2⟩, k3⟩ := h1
    have k1 := Nat.eq_of_beq_eq_true k1
    have k2 := Nat.eq_of_beq_eq_true k2
    obtain ⟨b, o, s⟩ := a
    simp only at k1 k2 k3
    rw [k1, k2, k3]
  · cases h⟩
def isP4 (a : Addr) : Bool := Nat.beq a.block 1000 && Nat.beq a.off 0 && a.spot.isNone
theorem isP4_t {a : Addr} (h : isP4 a = true) : a = ⟨1000, 0, none⟩ := by
  obtain ⟨k, o, s⟩ := a
  simp only [isP4, Bool.and_eq_true, Option.isNone_iff_eq_none] at h
  rw [show k = 1000 from Nat.eq_of_beq_eq_true h.1.1, show o = 0 from Nat.eq_of_beq_eq_true h.1.2, show s = none from h.2]
def isU32 (b : LBlk) : Bool := isRow 45 b
theorem isU32_eq {b : LBlk} (h : isU32 b = true) : LObj.row b = rowT 45 b.cells := isRow_eq h
def W16.l1 (r : W16) : List Int := [r.a0, r.a1, r.a2, r.a3, r.a4, r.a5, r.a6, r.a7, r.a8, r.a9, r.a10, r.a11, r.a12, r.a13, r.a14, r.a15]
def m4R (n c : Nat) (cs : List Value) : Rws := [some (rowT 156 [.slice (some ⟨1001, 0, none⟩) n c]), some (.row ⟨cs, 45, (0, 0), 0, false, false⟩)]
/-- Words written one behind the other. -/
def sbL (n c : Nat) (i : Int) : Nat → List Int → List Value → DT (List Value)
  | _, [], cs => pure cs
  | j, x :: l, cs => do
    chk (decide (0 ≤ IntKind.i64.wrap (i + (j : Int))) && decide (IntKind.i64.wrap (i + (j : Int)) < (n : Int)) && n.ble c)
    chk ((0 + (IntKind.i64.wrap (i + (j : Int))).toNat * 1 + [Value.int .u32 x].length).ble cs.length && true && true)
    qsD [x]
    qnD [n, c]
    sbL n c i (j + 1) l (splice cs (0 + (IntKind.i64.wrap (i + (j : Int))).toNat * 1) [.int .u32 x])
structure M4 where
  n : Nat
  c : Nat
  cs : List Value
def sbT (m : M4) (x : Int × W16) : DT (Int × M4) :=
  let i := IntKind.i64.wrap (IntKind.i64.wrap (16 * x.1) + 0)
  let no : DT (Int × M4) := do chk (m.cs.all (af 8) && true); pure (5, m)
  .br (decide (x.1 < 0)) no (.br (decide (x.1 ≥ IntKind.i64.wrap ((m.n : Int).tdiv 16))) no (.br (decide (i < 0)) no (do
    let cs ← sbL m.n m.c i 0 x.2.l1 m.cs
    chk (cs.all (af 8) && true)
    pure (0, { m with cs := cs }))))
def pM4 : Par (Nat × Nat) := pSlA 1001
def m4L : Lay M4 := ⟨fun r => match r with
  | [some (.row b), some (.row w)] => cond (isU32 w) ((rowP 156 pM4 b).map fun x => ⟨x.1, x.2, w.cells⟩) none
  | _ => none, fun m => m4R m.n m.c m.cs, fun r s h => by
  split at h
  · obtain ⟨h1, h⟩ := condT h
    obtain ⟨x, h2, rfl⟩ := Option.map_eq_some_iff.1 h
    rw [rowP_ok h2, isU32_eq h1]; rfl
  · cases h⟩
def decBk4 : Dec (Int × W16) := ⟨fun vs => match vs with
  | .pointer (some a) :: r => cond (isP4 a) (decBk.dec r) none
  | _ => none, fun x => pK 1000 :: decBk.enc x, fun vs x h => by
  split at h
  · obtain ⟨h1, h2⟩ := condT h
    rw [isP4_t h1, ← decBk.ok _ _ h2]
  · cases h⟩
set_option maxRecDepth 100000 in
theorem s_sb0 {gl : Gl} (hgl : Low gl)  : SubOK Tryz.prog gl 46 (hA (m4L) (decBk4) (sbT) (fun b => (.normal, [.int .i64 b.1], m4R b.2.n b.2.c b.2.cs))) := hA_sub hgl fun k x => ⟨syG [], H0, noV, syG_ok _, H0_ok, by kernel_rfl⟩
end Go.Proofs.YtpckfdopokmbkaaGreatDoor.Ev

namespace Go.Proofs.YtpckfdopokmbkaaGreatDoor.Ev
open Go
open Go.Proofs Go.RowKit
structure HoS where
  i : Int
  c : Cfg
  c2 : Cfg
  m : M4
  n1 : Nat
  k1 : Nat
  e1 : List Value
  n2 : Nat
  k2 : Nat
  e2 : List Value
def hoRow (c : Cfg) (sl1 sl2 : Value) : LObj := rowT 163 (cfgL c ++ [pK 1002, sl1, sl2, .slice none 0 0])
def m4Q (i : Nat) (m : M4) : LObj := rowT 156 [.slice (some ⟨i, 0, none⟩) m.n m.c]
def w4Q (m : M4) : LObj := rowT 45 m.cs
def hoR (z : Bool) (s : HoS) : Rws := cond z [some (hoRow s.c (.slice none 0 0) (.slice none 0 0)), some (cfgRow s.c2), some (m4Q 1003 s.m), some (w4Q s.m)]
  [some (hoRow s.c (.slice (some ⟨1004, 0, none⟩) s.n1 s.k1) (.slice (some ⟨1005, 0, none⟩) s.n2 s.k2)), some (cfgRow s.c2), some (m4Q 1003 s.m), some (w4Q s.m), some (.row ⟨s.e1, 134, (0, 0), 2, false, false⟩), some (.row ⟨s.e2, 165, (0, 0), 29, false, false⟩)]
abbrev HoZ := Bool × HoS
def job0 : List Value := [.bool false, .int .u8 0, .int .i64 0, .int .i64 0, .int .i64 0, .int .u64 0, .int .u8 0, .bool false, .bool false, .int .u32 0, .int .u32 0, .int .u32 0, .int .u32 0, .int .u32 0, .int .u32 0, .int .u32 0, .int .u32 0, .int .u32 0, .int .u32 0, .int .u32 0, .int .u32 0, .int .u32 0, .int .u32 0, .int .u32 0, .int .u32 0, .int .u32 0, .bool false, .bool false, .int .u64 0]
def ent0 : List Value := [.int .i64 (-1), .int .u32 0]
def pHo : Par (Cfg × Unit × Unit × Unit × Unit) := pCfg.s ((pP 1002).s (pNil.s (pNil.s pNil)))
def hoT : LpT HoZ := ⟨fun vs rows => match vs, rows with
  | [.int .i64 i, .pointer (some p), .pointer (some q)], [some (.row b0), some (.row b1), some (.row b2), some (.row w)] => cond (isP4 p && (Nat.beq q.block 1001 && Nat.beq q.off 0 && q.spot.isNone) && isU32 w) ((rowP 163 pHo b0).bind fun x => (rowP 23 pCfg b1).bind fun y => (rowP 156 (pSlA 1003) b2).map fun u =>
    (true, ⟨i, x.1, y, ⟨u.1, u.2, w.cells⟩, 0, 0, [], 0, 0, []⟩)) none
  | _, _ => none, fun x => ([.int .i64 x.2.i, pK 1000, pK 1001], hoR x.1 x.2), fun vs rows s h => by
  split at h
  case h_2 => cases h
  rename_i i p q b0 b1 b2 w
  obtain ⟨h1, h⟩ := condT h
  obtain ⟨x, h2, h⟩ := Option.bind_eq_some_iff.1 h
  obtain ⟨y, h3, h⟩ := Option.bind_eq_some_iff.1 h
  obtain ⟨u, h4, h⟩ := Option.map_eq_some_iff.1 h
  subst h
  simp only [Bool.and_eq_true] at h1
  obtain ⟨⟨h1, ⟨h5, h6⟩, h7⟩, h8⟩ := h1
  obtain ⟨qb, qo, qs⟩ := q
  rw [rowP_ok h2, rowP_ok h3, rowP_ok h4, isP4_t h1, isU32_eq h8, show qb = 1001 from Nat.eq_of_beq_eq_true h5, show qo = 0 from Nat.eq_of_beq_eq_true h6, show qs = none from Option.isNone_iff_eq_none.1 h7]
  rfl⟩
abbrev HoB := Cfg × M4
def hoStep (x : HoZ) : DT (HoZ ⊕ HoB) := .br (decide (x.2.i < dataI x.2.c2)) (cond x.1 (do
    chk (x.2.m.cs.all (af 8) && true)
    pure (.inl (false, { x.2 with i := IntKind.i64.wrap (x.2.i + 1), n1 := 1, k1 := 1, e1 := ent0, n2 := 1, k2 := 1, e2 := job0 }))) (do
    chk (x.2.n1.ble x.2.k1)
    chk (((x.2.n1 + 1) * 16).ble 140737488355328 && ((x.2.n1 + 1).ble 1099511627776))
    chk ((0 + x.2.n1 * 2).ble x.2.e1.length)
    chk (x.2.n2.ble x.2.k2)
    chk (((x.2.n2 + 1) * 136).ble 140737488355328 && ((x.2.n2 + 1).ble 1099511627776))
    chk ((0 + x.2.n2 * 29).ble x.2.e2.length)
    chk (x.2.m.cs.all (af 8) && ((winL 0 (x.2.n1 * 2) x.2.e1 ++ ent0).all (af 8) && ((winL 0 (x.2.n2 * 29) x.2.e2 ++ job0).all (af 8) && true)))
    pure (.inl (false, { x.2 with i := IntKind.i64.wrap (x.2.i + 1), n1 := x.2.n1 + 1, k1 := x.2.n1 + 1, e1 := winL 0 (x.2.n1 * 2) x.2.e1 ++ ent0, n2 := x.2.n2 + 1, k2 := x.2.n2 + 1, e2 := winL 0 (x.2.n2 * 29) x.2.e2 ++ job0 })))) (do
  chk (x.2.m.cs.all (af 8) && true)
  pure (.inr (x.2.c2, x.2.m)))
def hoG (x : HoZ) : Bool := x.2.m.cs.all (af 8) && decide (0 ≤ x.2.i) && decide (x.2.i ≤ 256) && decide (dataI x.2.c2 ≤ 256) && Nat.beq x.2.e1.length (x.2.n1 * 2) && Nat.beq x.2.k1 x.2.n1 && x.2.e1.all (af 8) && Nat.beq x.2.e2.length (x.2.n2 * 29) && Nat.beq x.2.k2 x.2.n2 && x.2.e2.all (af 8) && Nat.ble x.2.n1 256 && Nat.ble x.2.n2 256 && cond x.1 true (decide ((x.2.n1 : Int) ≤ x.2.i) && decide ((x.2.n2 : Int) ≤ x.2.i))
def hoSp (x : HoZ) : DT HoB := ifT (hoG x) (x.2.c2, x.2.m)
theorem hoSp_ok (x : HoZ) (b : HoB) (h : (hoSp x).run = some b) : ∃ m, itN hoStep m x = some b := by
  obtain ⟨h1, rfl⟩ := ifT_run h
  refine it_of (fun x : HoZ => hoG x = true) (fun x => (256 - x.2.i).toNat) (fun x : HoZ => (x.2.c2, x.2.m)) ?_ _ x h1 (Nat.lt_succ_self _)
  rintro ⟨z, s⟩ hg
  simp only [hoG, Bool.and_eq_true, decide_eq_true_eq] at hg
  obtain ⟨⟨⟨⟨⟨⟨⟨⟨⟨⟨⟨⟨g1, g2⟩, g3⟩, g4⟩, g5⟩, g6⟩, g7⟩, g8⟩, g9⟩, g10⟩, g11⟩, g12⟩, g13⟩ := hg
  have g5' := Nat.eq_of_beq_eq_true g5
  have g6' := Nat.eq_of_beq_eq_true g6
  have g8' := Nat.eq_of_beq_eq_true g8
  have g9' := Nat.eq_of_beq_eq_true g9
  have g11' := Nat.le_of_ble_eq_true g11
  have g12' := Nat.le_of_ble_eq_true g12
  have haf : (s.m.cs.all (af 8) && true) = true := by rw [g1]; rfl
  by_cases hi : s.i < dataI s.c2
  · have e5 : IntKind.i64.wrap (s.i + 1) = s.i + 1 := wrap_id _ (by omega)
    cases z with
    | true =>
      have er : (hoStep (true, s)).run = some (.inl (false, { s with i := s.i + 1, n1 := 1, k1 := 1, e1 := ent0, n2 := 1, k2 := 1, e2 := job0 })) := by
        unfold hoStep
        rw [run_br, decide_eq_true hi, cond_true, e5]
        simp only [cond_true, run_bind, chk_run, haf, Option.bind_some, run_pure]
      rw [er]
      refine ⟨?_, ?_, rfl⟩
      · simp only [hoG, Bool.and_eq_true, decide_eq_true_eq]
        exact ⟨⟨⟨⟨⟨⟨⟨⟨⟨⟨⟨⟨g1, by omega⟩, by omega⟩, g4⟩, rfl⟩, rfl⟩, rfl⟩, rfl⟩, rfl⟩, rfl⟩, rfl⟩, rfl⟩, by simp only [cond_false, Bool.and_eq_true, decide_eq_true_eq]; omega⟩
      · show (256 - (s.i + 1)).toNat < (256 - s.i).toNat
        omega
    | false =>
      simp only [cond_false, Bool.and_eq_true, decide_eq_true_eq] at g13
      have a1 : winL 0 (s.n1 * 2) s.e1 = s.e1 := winL_all g5'
      have a2 : winL 0 (s.n2 * 29) s.e2 = s.e2 := winL_all g8'
      have b1 : s.n1.ble s.k1 = true := nbl (by omega)
      have b2 : (((s.n1 + 1) * 16).ble 140737488355328 && ((s.n1 + 1).ble 1099511627776)) = true := andI (nbl (by omega)) (nbl (by omega))
      have b3 : (0 + s.n1 * 2).ble s.e1.length = true := nbl (by omega)
      have b4 : s.n2.ble s.k2 = true := nbl (by omega)
      have b5 : (((s.n2 + 1) * 136).ble 140737488355328 && ((s.n2 + 1).ble 1099511627776)) = true := andI (nbl (by omega)) (nbl (by omega))
      have b6 : (0 + s.n2 * 29).ble s.e2.length = true := nbl (by omega)
      have c1 : (s.e1 ++ ent0).all (af 8) = true := by rw [List.all_append, g7]; rfl
      have c2 : (s.e2 ++ job0).all (af 8) = true := by rw [List.all_append, g10]; rfl
      have er : (hoStep (false, s)).run = some (.inl (false, { s with i := s.i + 1, n1 := s.n1 + 1, k1 := s.n1 + 1, e1 := s.e1 ++ ent0, n2 := s.n2 + 1, k2 := s.n2 + 1, e2 := s.e2 ++ job0 })) := by
        unfold hoStep
        rw [run_br, decide_eq_true hi, cond_true, e5]
        simp only [cond_false, run_bind, chk_run, a1, a2, b1, b2, b3, b4, b5, b6, g1, c1, c2, Bool.and_self, cond_true, Option.bind_some, run_pure]
      rw [er]
      have hd := g4
      refine ⟨?_, ?_, rfl⟩
      · simp only [hoG, Bool.and_eq_true, decide_eq_true_eq]
        refine ⟨⟨⟨⟨⟨⟨⟨⟨⟨⟨⟨⟨g1, by omega⟩, by omega⟩, g4⟩, ?_⟩, by simp⟩, c1⟩, ?_⟩, by simp⟩, c2⟩, nbl (by omega)⟩, nbl (by omega)⟩, by simp only [cond_false, Bool.and_eq_true, decide_eq_true_eq]; omega⟩
        · show Nat.beq (s.e1 ++ ent0).length ((s.n1 + 1) * 2) = true
          rw [List.length_append, g5', show s.n1 * 2 + ent0.length = (s.n1 + 1) * 2 by show s.n1 * 2 + 2 = _; omega]; simp
        · show Nat.beq (s.e2 ++ job0).length ((s.n2 + 1) * 29) = true
          rw [List.length_append, g8', show s.n2 * 29 + job0.length = (s.n2 + 1) * 29 by show s.n2 * 29 + 29 = _; omega]; simp
      · show (256 - (s.i + 1)).toNat < (256 - s.i).toNat
        omega
  · have er : (hoStep (z, s)).run = some (.inr (s.c2, s.m)) := by
      unfold hoStep
      rw [run_br, decide_eq_false hi, cond_false]
      simp only [run_bind, chk_run, haf, cond_true, Option.bind_some, run_pure]
    rw [er]
def hoW (b : HoB) : Out := (.exit 0, [pK 1000], [none, some (cfgRow b.1), some (m4Q 1003 b.2), some (w4Q b.2)])
def clD (k : Nat) (r : CR4) : List VStep := match r.1 with
  | .normal => []
  | _ => [.drp k]
set_option maxRecDepth 100000 in
theorem l_ho {gl : Gl} (hgl : Low gl)  : LpOK Tryz.prog gl 48 0 ⟨[6, 5, 2], [5], hLp 4 (hoT).dec (hoSp) (hoW)⟩ := loop_sp (st := hoStep) goodT hgl tglob (hoT).ok (by decide) (hoSp_ok) fun s => match s with
  | (true, s) => ⟨syG [], H0, 100, 40, 40, [], clD 1000, syG_ok _, H0_ok, by kernel_rfl⟩
  | (false, s) => ⟨syG [], H0, 100, 40, 40, [], clD 1000, syG_ok _, H0_ok, by kernel_rfl⟩
def decHo : Dec Cfg := ⟨fun vs => match vs with
  | [.agg ⟨[.int .i64 a0, .int .i64 a1, .int .i64 a2, .int .i64 a3, .int .i64 a4, .int .i64 a5, .int .i64 a6, .int .i64 a7]⟩, .pointer (some p)] => cond (isP4 p) (some ⟨a0, a1, a2, a3, a4, a5, a6, a7⟩) none
  | _ => none, fun c => [cfgV c, pK 1000], fun vs x h => by
  split at h
  · obtain ⟨h1, h2⟩ := condT h
    cases h2
    rw [isP4_t h1]; rfl
  · cases h⟩
def HHo : Hs := hsOf [] [] [(48, [(0, ⟨[6, 5, 2], [5], hLp 4 hoT.dec hoSp hoW⟩)])]
theorem HHo_ok {gl : Gl} (hgl : Low gl) : HHo.OK Tryz.prog gl := hsOf_ok fx0 sx0 (by
  intro p hp q hq
  simp only [List.mem_singleton] at hp; subst hp
  simp only [List.mem_singleton] at hq; subst hq
  exact l_ho hgl)
def hoNew (m : M4) (c : Cfg) : DT M4 := do
  chk (m.cs.all (af 8) && true)
  let r ← hoSp (true, ⟨0, c, c, m, 0, 0, [], 0, 0, []⟩)
  chk (r.2.cs.all (af 8) && true)
  chk (r.2.cs.all (af 8) && true)
  pure r.2
set_option maxRecDepth 100000 in
theorem s_ho0 {gl : Gl} (hgl : Low gl)  : SubOK Tryz.prog gl 48 (hA (m4L) (decHo) (hoNew) (fun m => (.normal, [pK 1002], m4R m.n m.c m.cs ++ [none]))) := hA_sub hgl fun k x => ⟨syG [], HHo, noV, syG_ok _, HHo_ok hgl, by kernel_rfl⟩
end Go.Proofs.YtpckfdopokmbkaaGreatDoor.Ev

namespace Go.Proofs.YtpckfdopokmbkaaGreatDoor.Ev
open Go
open Go.Proofs Go.RowKit

/-! Homes, plans in closed form; the document's cores. -/
theorem s_rMay {gl : Gl} (hgl : Low gl) : SubOK Tryz.prog gl 43 (hA noL decC (fun _ c => bl (planOk c)) fun b => (.normal, [.bool b], [])) := hA_weak (s_rMay0 hgl) fun _ c b h => by
  rw [bl_run] at h
  cases h
  exact rMay_eq c
theorem plan_data {c : Cfg} (h : planOk c = true) : dataI c ≤ 256 := by
  obtain ⟨_, h2, _⟩ := data_bd h
  omega
def hoC (m : M4) (c : Cfg) : DT M4 := ifT (planOk c && m.cs.all (af 8)) m
theorem s_ho {gl : Gl} (hgl : Low gl) : SubOK Tryz.prog gl 48 (hA m4L decHo hoC fun m => (.normal, [pK 1002], m4R m.n m.c m.cs ++ [none])) := hA_weak (s_ho0 hgl) fun m c b h => by
  obtain ⟨h1, h2⟩ := ifT_run h
  rw [h2]
  simp only [Bool.and_eq_true] at h1
  have haf : (m.cs.all (af 8) && true) = true := by rw [h1.2]; rfl
  have hg : hoG (true, ⟨0, c, c, m, 0, 0, [], 0, 0, []⟩) = true := by
    simp only [hoG, Bool.and_eq_true, decide_eq_true_eq]
    exact ⟨⟨⟨⟨⟨⟨⟨⟨⟨⟨⟨⟨h1.2, by simp⟩, by simp⟩, plan_data h1.1⟩, rfl⟩, rfl⟩, rfl⟩, rfl⟩, rfl⟩, rfl⟩, rfl⟩, rfl⟩, rfl⟩
  unfold hoNew
  simp only [run_bind, chk_run, haf, cond_true, Option.bind_some]
  unfold hoSp ifT
  rw [run_br, hg]
  simp only [cond_true, run_pure]
  show (some (c, m)).bind _ = _
  simp only [Option.bind_some, haf, cond_true]
def HRt : Hs := hsOf [(29, afTk wordG tkE (fun x => (tkS x).op) (fun x => (tkS x).a) (fun x => (tkS x).b) (fun x => (tkS x).c) (fun x => (tkS x).n))] [] []
theorem fn_rtk {gl : Gl} (hF : GlF gl) (hgl : Low gl) : FnOK Tryz.prog gl 29 (afTk wordG tkE (fun x => (tkS x).op) (fun x => (tkS x).a) (fun x => (tkS x).b) (fun x => (tkS x).c) (fun x => (tkS x).n)) := fnWeak (fn_rtake hF hgl) fun args σ v h => by
  unfold afTk at h
  split at h
  · rename_i x
    simp only [Option.some.injEq, Prod.mk.injEq] at h
    obtain ⟨h1, rfl⟩ := h
    unfold afTake
    simp only [takeC_eq]
    unfold wordG at h1
    rw [h1]
  · cases h
theorem HRt_ok {gl : Gl} (hF : GlF gl) (hgl : Low gl) : HRt.OK Tryz.prog gl := hsOf_ok (fxC (fn_rtk hF hgl) fx0) sx0 fun _ h => nomatch h
def HRc : Hs := hsOf [] [(43, hA noL decC (fun _ c => ifT (planOk c) true) fun b => (.normal, [.bool b], []))] []
theorem HRc_ok {gl : Gl} (hgl : Low gl) : HRc.OK Tryz.prog gl := hsOf_ok fx0 (sxC (hA_weak (s_rMay hgl) fun _ c b h => by obtain ⟨h1, rfl⟩ := ifT_run h; rw [bl_run, h1]) sx0) fun _ h => nomatch h
def mkD (n : Int) (z : Nat) : DT Unit := do
  chk (decide (0 ≤ n) && decide (0 ≤ n))
  chk (n.toNat.ble n.toNat && n.toNat.ble 1099511627776 && (z * n.toNat).ble 140737488355328 && true && true)
theorem mkD_run {n : Int} {z : Nat} (h : 0 ≤ n) (h2 : n ≤ 1000) (hz : z ≤ 1000) : (mkD n z).run = some () := by
  have hm : z * n.toNat ≤ 1000 * 1000 := Nat.mul_le_mul hz (by omega)
  unfold mkD
  rw [run_bind, chk_run, decide_eq_true h, chk_run, nbl (Nat.le_refl _), nbl (show n.toNat ≤ 1099511627776 by omega), nbl (show z * n.toNat ≤ 140737488355328 by omega)]
  rfl
def rnT (x : Cfg × Int) : DT Bool := do
  chk (planOk x.1)
  .br (decide (x.2 < 0)) (pure false) (.br (decide (x.2 ≥ x.1.cores)) (pure false) (do
    chk (planOk x.1)
    mkD (IntKind.i64.wrap (x.1.sets * x.1.ways)) 80
    mkD x.1.sets 1
    qsD (x.1.sets :: x.1.ways :: x.1.sets :: x.1.l)
    mkD (dataI x.1) 68
    qsD (x.1.backs :: x.1.backs :: x.1.l)
    mkD (dataI x.1) 1
    mkD (dataI x.1) 1
    qsD (x.1.nest :: x.1.nest :: x.1.nest :: (x.1.l ++ x.1.l ++ x.1.l ++ x.1.l ++ x.1.l ++ x.1.l))
    pure true))
set_option maxRecDepth 100000 in
theorem s_rn0 {gl : Gl} (hgl : Low gl)  : SubOK Tryz.prog gl 64 (hA (noL) (decCi) (fun _ x => rnT x) (fun b => cond b (.normal, [.tuple #[pK 1000, .int .i64 0]], [none]) (.normal, [.tuple #[.pointer none, .int .i64 5]], []))) := hA_sub hgl fun k x => ⟨syG [], HRc, plD, syG_ok _, HRc_ok hgl, by kernel_rfl⟩
def idOk (x : Cfg × Int) : Bool := planOk x.1 && (decide (0 ≤ x.2) && decide (x.2 < x.1.cores))
def rnW (b : Bool) : Out := cond b (.normal, [.tuple #[pK 1000, .int .i64 0]], [none]) (.normal, [.tuple #[.pointer none, .int .i64 5]], [])
theorem s_rn {gl : Gl} (hgl : Low gl) : SubOK Tryz.prog gl 64 (hA noL decCi (fun _ x => ifT (idOk x) true) rnW) := hA_weak (s_rn0 hgl) fun _ x b h => by
    obtain ⟨h1, rfl⟩ := ifT_run h
    obtain ⟨c, i⟩ := x
    simp only [idOk, Bool.and_eq_true, decide_eq_true_eq] at h1
    obtain ⟨h1, h2, h3⟩ := h1
    obtain ⟨⟨b1, b2, b3, b4, b5, b6, b7, b8, _⟩, _⟩ := planOk_iff.1 h1
    obtain ⟨d1, d2, _⟩ := data_bd h1
    have m1 : 1 * 1 ≤ c.sets * c.ways := Int.mul_le_mul b3 b5 (by omega) (by omega)
    have m2 : c.sets * c.ways ≤ 16 * 4 := Int.mul_le_mul b4 b6 (by omega) (by omega)
    have w1 : (mkD (IntKind.i64.wrap (c.sets * c.ways)) 80).run = some () := by rw [wrap_id _ (by omega)]; exact mkD_run (by omega) (by omega) (by omega)
    have w2 : (mkD c.sets 1).run = some () := mkD_run (by omega) (by omega) (by omega)
    have w3 : (mkD (dataI c) 68).run = some () := mkD_run (by omega) (by omega) (by omega)
    have w4 : (mkD (dataI c) 1).run = some () := mkD_run (by omega) (by omega) (by omega)
    unfold rnT
    simp only [run_bind, chk_run, h1, cond_true, Option.bind_some, run_br, decide_eq_false (show ¬ i < 0 by omega), decide_eq_false (show ¬ i ≥ c.cores by omega), cond_false, w1, w2, w3, w4, qsD_run, run_pure]
def decLg4 : Dec (Cfg × Int) := ⟨fun vs => match vs with
  | [.agg ⟨[.int .i64 a0, .int .i64 a1, .int .i64 a2, .int .i64 a3, .int .i64 a4, .int .i64 a5, .int .i64 a6, .int .i64 a7]⟩, .pointer (some p), .int .i64 id] => cond (isP4 p) (some (⟨a0, a1, a2, a3, a4, a5, a6, a7⟩, id)) none
  | _ => none, fun x => [cfgV x.1, pK 1000, .int .i64 x.2], fun vs x h => by
  split at h
  · obtain ⟨h1, h2⟩ := condT h
    cases h2
    rw [isP4_t h1]; rfl
  · cases h⟩
def rlT (m : M4) (x : Cfg × Int) : DT ((Bool × Int) × M4) :=
  let no (e : Int) : DT ((Bool × Int) × M4) := do chk (m.cs.all (af 8) && true); pure ((false, e), m)
  do
  chk (planOk x.1)
  .br (decide (x.2 < 0)) (no 5) (.br (decide (x.2 ≥ x.1.cores)) (no 5) (do
    qsD (x.1.logs :: x.1.logs :: x.1.logs :: x.1.logs :: x.1.l)
    .br ((m.n : Int) != IntKind.i64.wrap (16 * x.1.blocks)) (do
      qsD [x.1.blocks, (m.n : Int)]
      qnD [m.n, m.c]
      no 2) (do
      qsD [x.1.blocks, (m.n : Int)]
      qnD [m.n, m.c]
      chk (m.cs.all (af 8) && true)
      pure ((true, 0), m))))
set_option maxRecDepth 100000 in
theorem s_rl0 {gl : Gl} (hgl : Low gl)  : SubOK Tryz.prog gl 65 (hA (m4L) (decLg4) (rlT) (fun b => cond b.1.1 (.normal, [.tuple #[pK 1002, .int .i64 0]], m4R b.2.n b.2.c b.2.cs ++ [none]) (.normal, [.tuple #[.pointer none, .int .i64 b.1.2]], m4R b.2.n b.2.c b.2.cs))) := hA_sub hgl fun k x => ⟨syG [], HRc, plD, syG_ok _, HRc_ok hgl, by kernel_rfl⟩
def rlW (b : (Bool × Int) × M4) : Out := cond b.1.1 (.normal, [.tuple #[pK 1002, .int .i64 0]], m4R b.2.n b.2.c b.2.cs ++ [none]) (.normal, [.tuple #[.pointer none, .int .i64 b.1.2]], m4R b.2.n b.2.c b.2.cs)
def rlG (m : M4) (x : Cfg × Int) : Bool := idOk x && decide ((m.n : Int) = 16 * x.1.blocks) && m.cs.all (af 8)
theorem s_rl {gl : Gl} (hgl : Low gl) : SubOK Tryz.prog gl 65 (hA m4L decLg4 (fun m x => ifT (rlG m x) ((true, 0), m)) rlW) := hA_weak (s_rl0 hgl) fun m x b h => by
  obtain ⟨h1, rfl⟩ := ifT_run h
  obtain ⟨c, i⟩ := x
  simp only [rlG, idOk, Bool.and_eq_true, decide_eq_true_eq] at h1
  obtain ⟨⟨⟨h1, h2, h3⟩, h4⟩, h5⟩ := h1
  obtain ⟨⟨_, _, _, _, _, _, b7, b8, _⟩, _⟩ := planOk_iff.1 h1
  have hb : ((m.n : Int) != IntKind.i64.wrap (16 * c.blocks)) = false := by rw [wrap_id _ (by omega), h4]; exact bneI_self _
  unfold rlT
  simp only [run_bind, chk_run, h1, cond_true, Option.bind_some, run_br, decide_eq_false (show ¬ i < 0 by omega), decide_eq_false (show ¬ i ≥ c.cores by omega), cond_false, qsD_run, qnD_run, hb, h5, Bool.and_self, run_pure]
end Go.Proofs.YtpckfdopokmbkaaGreatDoor.Ev

namespace Go.Proofs.YtpckfdopokmbkaaGreatDoor.Ev
open Go
open Go.Proofs Go.RowKit

/-! The document's core made anew: whether. -/
structure RnS where
  i : Int
  id : Int
  c : Cfg
  off : Nat
  n : Nat
  cap : Nat
  m : M4
  r : W16
  a : Int
  ct : Int
  hl : Bool
  fl : Int
  id2 : Int
  c2 : Cfg
  k : Nat
  kc : Nat
  cs : List Value
def pRn : Par (Cfg × Int × Unit × Unit × W16 × Int × Unit × Unit × Int × Bool × Int) := pCfg.s (pi64.s (pNil.s ((pP 1001).s (pW16.s (pi64.s (pNP.s (pNP.s (pi64.s (pB.s pu32)))))))))
def rnRow (s : RnS) (sl : Value) : LObj := rowT 169 (cfgL s.c ++ (.int .i64 s.id2 :: sl :: pK 1001 :: (w16L s.r ++ [.int .i64 s.a, .pointer none, .pointer none, .int .i64 s.ct, .bool s.hl, .int .u32 s.fl])))
def rnV (b : Nat) (s : RnS) : List Value := [.int .i64 s.i, pK 1000, wSl' b s.off s.n s.cap, .int .i64 s.id, pK 1001, pK 1002, .pointer none, .int .i64 0]
def rnR (z : Bool) (s : RnS) : Rws := cond z [some (rnRow s (.slice none 0 0)), some (m4Q 1003 s.m), some (cfgRow s.c2), some (w4Q s.m)]
  [some (rnRow s (.slice (some ⟨1004, 0, none⟩) s.k s.kc)), some (m4Q 1003 s.m), some (cfgRow s.c2), some (w4Q s.m), some (codeRow s.cs 5)]
def rnD (vs : List Value) (rows : Rws) (b : Nat) : Option (Bool × RnS) := match vs, rows with
  | [.int .i64 i, .pointer (some p), .slice (some a) n cap, .int .i64 id, .pointer (some p1), .pointer (some p2), .pointer none, .int .i64 e], [some (.row b0), some (.row b1), some (.row b2), some (.row w)] => cond (isP p 1000 && isSl a b && isP p1 1001 && isP p2 1002 && decide (e = 0) && isU32 w) ((rowP 169 pRn b0).bind fun x => (rowP 156 (pSlA 1003) b1).bind fun u => (rowP 23 pCfg b2).map fun y =>
    (true, ⟨i, id, x.1, a.off, n, cap, ⟨u.1, u.2, w.cells⟩, x.2.2.2.2.1, x.2.2.2.2.2.1, x.2.2.2.2.2.2.2.2.1, x.2.2.2.2.2.2.2.2.2.1, x.2.2.2.2.2.2.2.2.2.2, x.2.1, y, 0, 0, []⟩)) none
  | _, _ => none
def rnLp (b : Nat) : LpT (Bool × RnS) := ⟨fun vs rows => rnD vs rows b, fun s => (rnV b s.2, rnR s.1 s.2), fun vs rows s h => by
  unfold rnD at h
  split at h
  case h_2 => cases h
  rename_i i p a n cap id p1 p2 e b0 b1 b2 w
  obtain ⟨h1, h⟩ := condT h
  obtain ⟨x, h2, h⟩ := Option.bind_eq_some_iff.1 h
  obtain ⟨u, h9, h⟩ := Option.bind_eq_some_iff.1 h
  obtain ⟨y, h3, h⟩ := Option.map_eq_some_iff.1 h
  simp only [Bool.and_eq_true, decide_eq_true_eq] at h1
  obtain ⟨⟨⟨⟨⟨h1, h4⟩, h5⟩, h6⟩, h7⟩, h8⟩ := h1
  subst h
  subst h7
  rw [rowP_ok h2, rowP_ok h3, rowP_ok h9, isP_t h1, isP_t h5, isP_t h6, isU32_eq h8]
  conv => lhs; rw [isSl_t h4]
  rfl⟩
abbrev RnB := Bool × Bool × RnS
def rnAp (s : RnS) (w : CodeS) : DT RnS := do
  chk (s.k.ble s.kc)
  chk (((s.k + 1) * 40).ble 140737488355328 && ((s.k + 1).ble 1099511627776))
  chk ((0 + s.k * 5).ble s.cs.length)
  qsD [w.op, w.a, w.b, w.c, w.n]
  qnD [s.k, s.kc]
  chk (s.m.cs.all (af 8) && ((winL 0 (s.k * 5) s.cs ++ cdL w).all (af 8) && true))
  pure { s with k := s.k + 1, kc := s.k + 1, cs := winL 0 (s.k * 5) s.cs ++ cdL w }
def rnX (x : Bool × RnS) : DT Unit := cond x.1 (chk (x.2.m.cs.all (af 8) && true)) (chk (x.2.m.cs.all (af 8) && (x.2.cs.all (af 8) && true)))
def rnStep (off' : Nat) (zs : List Int) (x : Bool × RnS) : DT ((Bool × RnS) ⊕ RnB) := .br (decide (x.2.i < (x.2.n : Int))) (do
    chk (decide (0 ≤ x.2.i) && decide (x.2.i < (x.2.n : Int)) && x.2.n.ble x.2.cap)
    chk ((symW off' zs).okI .u32 (x.2.off + x.2.i.toNat * 1))
    let w := (symW off' zs).int .u32 (x.2.off + x.2.i.toNat * 1)
    chk (wordG w)
    .br (tkE w != 0) (do rnX x; pure (.inr (true, x))) (do
      let s ← cond x.1 (do qsD [(tkS w).op, (tkS w).a, (tkS w).b, (tkS w).c, (tkS w).n]; chk (x.2.m.cs.all (af 8) && true); pure { x.2 with k := 1, kc := 1, cs := cdL (tkS w) }) (rnAp x.2 (tkS w))
      pure (.inl (false, { s with i := IntKind.i64.wrap (x.2.i + 1) })))) (do
  rnX x
  pure (.inr (false, x)))
def rnWL (b : RnB) : Out := cond b.1 (.ret, [pK 1000, .int .i64 b.2.2.id, pK 1001, pK 1002, .pointer none, .int .i64 2], rnR b.2.1 b.2.2) (.exit 0, [pK 1000, .int .i64 b.2.2.id, pK 1001, pK 1002, .pointer none, .int .i64 0], rnR b.2.1 b.2.2)
def rnF (z : Bool) (s : RnS) : List Int → RnB
  | [] => (false, z, s)
  | x :: l => cond (tkE x != 0) (true, z, s) (rnF false { s with i := s.i + 1, k := s.k + 1, kc := s.k + 1, cs := s.cs ++ cdL (tkS x) } l)
def rnOk (s : RnS) (k : Nat) : Bool := Nat.beq s.cs.length (s.k * 5) && Nat.beq s.kc s.k && s.cs.all (af 8) && Nat.ble (s.k + k) 1000000
theorem rnOk_iff {s : RnS} {k : Nat} : rnOk s k = true ↔ s.cs.length = s.k * 5 ∧ s.kc = s.k ∧ s.cs.all (af 8) = true ∧ s.k + k ≤ 1000000 := by
  unfold rnOk
  simp only [Bool.and_eq_true, and_assoc]
  refine ⟨fun ⟨a, b, c, d⟩ => ⟨Nat.eq_of_beq_eq_true a, Nat.eq_of_beq_eq_true b, c, Nat.le_of_ble_eq_true d⟩, fun ⟨a, b, c, d⟩ => ⟨by rw [a]; simp, by rw [b]; simp, c, nbl d⟩⟩
def rnZ (z : Bool) (s : RnS) : Bool := cond z (Nat.beq s.k 0 && Nat.beq s.kc 0 && s.cs.isEmpty) true
def rnG (off' : Nat) (zs : List Int) (x : Bool × RnS) : Bool := Nat.beq x.2.off off' && Nat.beq x.2.n zs.length && Nat.ble zs.length x.2.cap && x.2.m.cs.all (af 8) && zs.all wordG && decide (0 ≤ x.2.i) && decide (x.2.i ≤ (zs.length : Int)) && rnOk x.2 (zs.length - x.2.i.toNat) && Nat.ble zs.length 1048576 && rnZ x.1 x.2
def rnSp (off' : Nat) (zs : List Int) (x : Bool × RnS) : DT RnB := .br (rnG off' zs x) (spl2 (rnF x.1 x.2 (zs.drop x.2.i.toNat))) .fail
theorem rnX_run {x : Bool × RnS} (h1 : x.2.m.cs.all (af 8) = true) (h2 : x.2.cs.all (af 8) = true) : (rnX x).run = some () := by
  unfold rnX
  cases x.1 with
  | true => rw [cond_true, h1]; rfl
  | false => rw [cond_false, h1, h2]; rfl
theorem rnSp_ok (off' : Nat) (zs : List Int) (x : Bool × RnS) (b : RnB) (h : (rnSp off' zs x).run = some b) : ∃ m, itN (rnStep off' zs) m x = some b := by
  obtain ⟨h1, h2⟩ := condT (show cond (rnG off' zs x) (spl2 _).run none = some b from h)
  rw [spl2_run] at h2
  cases h2
  refine it_of (fun x : Bool × RnS => rnG off' zs x = true) (fun x => zs.length - x.2.i.toNat) (fun x : Bool × RnS => rnF x.1 x.2 (zs.drop x.2.i.toNat)) ?_ _ x h1 (Nat.lt_succ_self _)
  rintro ⟨z, s⟩ hg
  simp only [rnG, Bool.and_eq_true, decide_eq_true_eq] at hg
  obtain ⟨⟨⟨⟨⟨⟨⟨⟨⟨g1, g2⟩, g3⟩, gn⟩, g4⟩, g5⟩, g6⟩, g7⟩, g8⟩, g9⟩ := hg
  have g1 := Nat.eq_of_beq_eq_true g1
  have g2 := Nat.eq_of_beq_eq_true g2
  have g3' := Nat.le_of_ble_eq_true g3
  have g8' := Nat.le_of_ble_eq_true g8
  subst g1
  obtain ⟨o1, o2, o3, o4⟩ := rnOk_iff.1 g7
  have hzz : (rnX (z, s)).run = some () := rnX_run gn o3
  by_cases hi : s.i < (zs.length : Int)
  · obtain ⟨j, hj0⟩ : ∃ j : Nat, s.i = (j : Int) := ⟨s.i.toNat, by omega⟩
    have hj : j < zs.length := by omega
    have e1 : (symW s.off zs).okI .u32 (s.off + s.i.toNat * 1) = true := by rw [hj0]; exact symW_t hj
    have e2 : (symW s.off zs).int .u32 (s.off + s.i.toNat * 1) = zs[j] := by rw [hj0]; exact wX_eq hj
    have e3 : wordG zs[j] = true := List.all_eq_true.1 g4 _ (List.getElem_mem hj)
    have e4 : (decide (0 ≤ s.i) && decide (s.i < (s.n : Int)) && s.n.ble s.cap) = true := andI (andI (decide_eq_true g5) (decide_eq_true (by rw [g2]; exact hi))) (by rw [g2]; exact g3)
    have e0 : s.i.toNat = j := by omega
    have hd : decide (s.i < (s.n : Int)) = true := decide_eq_true (by rw [g2]; exact hi)
    have e4 : (decide (0 ≤ s.i) && true && s.n.ble s.cap) = true := by rw [hd] at e4; exact e4
    dsimp only
    rw [e0, List.drop_eq_getElem_cons hj]
    cases ht : tkE zs[j] != 0 with
    | true =>
      have er : (rnStep s.off zs (z, s)).run = some (.inr (true, z, s)) := by
        unfold rnStep
        simp only [e2, ht]
        rw [run_br]
        rw [show decide ((z, s).2.i < ((z, s).2.n : Int)) = true from hd, cond_true]
        simp only [run_bind, chk_run, e4, e1, e3, cond_true, Option.bind_some, run_br, hzz, run_pure]
      rw [er]
      show (true, z, s) = cond (tkE zs[j] != 0) _ _
      rw [ht]; rfl
    | false =>
      have er : (rnStep s.off zs (z, s)).run = some (.inl (false, { s with i := IntKind.i64.wrap (s.i + 1), k := s.k + 1, kc := s.k + 1, cs := s.cs ++ cdL (tkS zs[j]) })) := by
        unfold rnStep
        simp only [e2, ht]
        rw [run_br]
        rw [show decide ((z, s).2.i < ((z, s).2.n : Int)) = true from hd, cond_true]
        simp only [run_bind, chk_run, e4, e1, e3, cond_true, cond_false, Option.bind_some, run_br]
        cases z with
        | true =>
          simp only [rnZ, cond_true, Bool.and_eq_true, List.isEmpty_iff] at g9
          obtain ⟨⟨z1, z2⟩, z3⟩ := g9
          have z1 := Nat.eq_of_beq_eq_true z1
          simp only [cond_true, run_bind, qsD_run, Option.bind_some, run_pure, z1, z3, List.nil_append, chk_run, gn, Bool.and_self]
        | false =>
          have a1 : s.k.ble s.kc = true := nbl (by omega)
          have a2 : (((s.k + 1) * 40).ble 140737488355328 && ((s.k + 1).ble 1099511627776)) = true := andI (nbl (by omega)) (nbl (by omega))
          have a3 : (0 + s.k * 5).ble s.cs.length = true := nbl (by omega)
          have a4 : winL 0 (s.k * 5) s.cs = s.cs := winL_all (by omega)
          have a5 : (s.m.cs.all (af 8) && ((s.cs ++ cdL (tkS zs[j])).all (af 8) && true)) = true := by rw [List.all_append, o3, gn]; rfl
          simp only [cond_false, rnAp, run_bind, chk_run, a1, a2, a3, a4, a5, qsD_run, qnD_run, cond_true, Option.bind_some, run_pure]
      rw [er]
      have e5 : IntKind.i64.wrap (s.i + 1) = s.i + 1 := wrap_id _ (by omega)
      rw [e5]
      refine ⟨?_, ?_, ?_⟩
      · simp only [rnG, Bool.and_eq_true, decide_eq_true_eq]
        refine ⟨⟨⟨⟨⟨⟨⟨⟨⟨by simp, by rw [g2]; simp⟩, g3⟩, gn⟩, g4⟩, by omega⟩, by omega⟩, rnOk_iff.2 ⟨?_, rfl, ?_, ?_⟩⟩, g8⟩, rfl⟩
        · show (s.cs ++ cdL (tkS zs[j])).length = (s.k + 1) * 5
          rw [List.length_append, o1]
          show s.k * 5 + 5 = _
          omega
        · show (s.cs ++ cdL (tkS zs[j])).all (af 8) = true
          rw [List.all_append, o3]; rfl
        · show s.k + 1 + (zs.length - (s.i + 1).toNat) ≤ _
          omega
      · show zs.length - (s.i + 1).toNat < zs.length - j
        omega
      · show rnF false _ (zs.drop (s.i + 1).toNat) = cond (tkE zs[j] != 0) _ (rnF false _ _)
        rw [ht, show (s.i + 1).toNat = j + 1 by omega]; rfl
  · have er : (rnStep s.off zs (z, s)).run = some (.inr (false, z, s)) := by
      unfold rnStep
      simp only
      rw [decide_eq_false (show ¬ s.i < (s.n : Int) by rw [g2]; exact hi), run_br, cond_false]
      simp only [run_bind, hzz, Option.bind_some, run_pure]
    rw [er]
    show (false, z, s) = rnF z s (zs.drop s.i.toNat)
    rw [List.drop_eq_nil_of_le (by omega)]; rfl
set_option maxRecDepth 100000 in
theorem l_rn {gl : Gl} (hgl : Low gl) (hF : GlF gl) {j : Nat} (hj : j < 16) {zs : List Int} {off : Nat} (hW : GlW gl (903 + j) off zs) : LpOK Tryz.prog gl 49 0 ⟨[11, 10, 2, 1, 3, 4, 8, 9], [10, 1, 3, 4, 8, 9], hLp 4 (rnLp (903 + j)).dec (rnSp off zs) (rnWL)⟩ := loop_sp (st := rnStep off zs) goodT hgl tglob (rnLp (903 + j)).ok (by decide) (rnSp_ok off zs) fun s => match s with
  | (true, s) => ⟨syW (903 + j) off zs [], HRt, 100, 40, 40, [], fun _ => [], syW_ok (by omega) hW, HRt_ok hF hgl, (by match j, hj with
  | 0, _ => (show _ = _; kernel_rfl)
  | 1, _ => (show _ = _; kernel_rfl)
  | 2, _ => (show _ = _; kernel_rfl)
  | 3, _ => (show _ = _; kernel_rfl)
  | 4, _ => (show _ = _; kernel_rfl)
  | 5, _ => (show _ = _; kernel_rfl)
  | 6, _ => (show _ = _; kernel_rfl)
  | 7, _ => (show _ = _; kernel_rfl)
  | 8, _ => (show _ = _; kernel_rfl)
  | 9, _ => (show _ = _; kernel_rfl)
  | 10, _ => (show _ = _; kernel_rfl)
  | 11, _ => (show _ = _; kernel_rfl)
  | 12, _ => (show _ = _; kernel_rfl)
  | 13, _ => (show _ = _; kernel_rfl)
  | 14, _ => (show _ = _; kernel_rfl)
  | 15, _ => (show _ = _; kernel_rfl)
  | n + 16, h => exact absurd h (by omega))⟩
  | (false, s) => ⟨syW (903 + j) off zs [], HRt, 100, 40, 40, [], fun _ => [], syW_ok (by omega) hW, HRt_ok hF hgl, (by match j, hj with
  | 0, _ => (show _ = _; kernel_rfl)
  | 1, _ => (show _ = _; kernel_rfl)
  | 2, _ => (show _ = _; kernel_rfl)
  | 3, _ => (show _ = _; kernel_rfl)
  | 4, _ => (show _ = _; kernel_rfl)
  | 5, _ => (show _ = _; kernel_rfl)
  | 6, _ => (show _ = _; kernel_rfl)
  | 7, _ => (show _ = _; kernel_rfl)
  | 8, _ => (show _ = _; kernel_rfl)
  | 9, _ => (show _ = _; kernel_rfl)
  | 10, _ => (show _ = _; kernel_rfl)
  | 11, _ => (show _ = _; kernel_rfl)
  | 12, _ => (show _ = _; kernel_rfl)
  | 13, _ => (show _ = _; kernel_rfl)
  | 14, _ => (show _ = _; kernel_rfl)
  | 15, _ => (show _ = _; kernel_rfl)
  | n + 16, h => exact absurd h (by omega))⟩
def HRn : Hs := hsOf [] [(43, hA noL decC (fun _ c => ifT (planOk c) true) fun b => (.normal, [.bool b], [])), (64, hA noL decCi (fun _ x => ifT (idOk x) true) rnW), (65, hA m4L decLg4 (fun m x => ifT (rlG m x) ((true, 0), m)) rlW)] []
theorem HRn_ok {gl : Gl} (hgl : Low gl) : HRn.OK Tryz.prog gl := hsOf_ok fx0 (sxC (hA_weak (s_rMay hgl) fun _ c b h => by obtain ⟨h1, rfl⟩ := ifT_run h; rw [bl_run, h1]) (sxC (s_rn hgl) (sxC (s_rl hgl) sx0))) fun _ h => nomatch h
def HRnJ (b off : Nat) (zs : List Int) : Hs := HRn.addL 49 0 ⟨[11, 10, 2, 1, 3, 4, 8, 9], [10, 1, 3, 4, 8, 9], hLp 4 (rnLp b).dec (rnSp off zs) rnWL⟩
theorem HRnJ_ok {gl : Gl} (hF : GlF gl) (hgl : Low gl) {j : Nat} (hj : j < 16) {zs : List Int} {off : Nat} (hW : GlW gl (903 + j) off zs) : (HRnJ (903 + j) off zs).OK Tryz.prog gl := Hs.addL_ok (HRn_ok hgl) (l_rn hgl hF hj hW)
def rn0 (m : M4) (x : Cfg × Int × Nat × Nat × Nat) : Bool × RnS := (true, ⟨0, x.2.1, x.1, x.2.2.1, x.2.2.2.1, x.2.2.2.2, m, w0, 0, 0, false, 0, x.2.1, x.1, 0, 0, []⟩)
def m4C (m : M4) : DT Unit := chk (m.cs.all (af 8) && true)
def rnFin (m : M4) (c : Cfg) (id : Int) : DT (Bool × M4) := do
  chk (idOk (c, id))
  m4C m
  chk (rlG m (c, id))
  m4C m
  m4C m
  pure (true, m)
def rnEnd (r : RnB) : DT (Bool × M4) := do
  rnX r.2
  cond r.1 (do m4C r.2.2.m; pure (false, r.2.2.m)) (rnFin r.2.2.m r.2.2.c2 r.2.2.id)
def rnPre (c : Cfg) (n : Option Nat) (m : M4) (k : DT (Bool × M4)) : DT (Bool × M4) := do
  chk (planOk c)
  let q : DT Unit := match n with
    | some n => qsD ((n : Int) :: c.l)
    | none => qsD c.l
  let k2 : DT (Bool × M4) := .br ((m.n : Int) != IntKind.i64.wrap (16 * c.blocks)) (do qsD [c.blocks, (m.n : Int)]; qnD [m.n, m.c]; q; m4C m; pure (false, m)) (do
    qsD [c.blocks, (m.n : Int)]
    qnD [m.n, m.c]
    q
    k)
  match n with
  | some n => .br (decide ((n : Int) > 1024)) (do q; m4C m; pure (false, m)) k2
  | none => k2
def rnNew (off' : Nat) (zs : List Int) (m : M4) (x : Cfg × Int × Nat × Nat × Nat) : DT (Bool × M4) := rnPre x.1 (some x.2.2.2.1) m (do
  m4C m
  let r ← rnSp off' zs (rn0 m x)
  rnEnd r)
def rcO (b : Bool × M4) : Out := cond b.1 (.normal, [.tuple #[pK 1002, .int .i64 0]], m4R b.2.n b.2.c b.2.cs ++ [none]) (.normal, [.tuple #[.pointer none, .int .i64 2]], m4R b.2.n b.2.c b.2.cs)
set_option maxRecDepth 100000 in
theorem s_rnj {gl : Gl} (hgl : Low gl) (hF : GlF gl) {j : Nat} (hj : j < 16) {zs : List Int} {off : Nat} (hW : GlW gl (903 + j) off zs) : SubOK Tryz.prog gl 49 (hA (m4L) (decCn (903 + j)) (rnNew off zs) (rcO)) := hA_sub hgl fun k x => ⟨syG [], HRnJ (903 + j) off zs, plD, syG_ok _, HRnJ_ok hF hgl hj hW, (by match j, hj with
  | 0, _ => (show _ = _; kernel_rfl)
  | 1, _ => (show _ = _; kernel_rfl)
  | 2, _ => (show _ = _; kernel_rfl)
  | 3, _ => (show _ = _; kernel_rfl)
  | 4, _ => (show _ = _; kernel_rfl)
  | 5, _ => (show _ = _; kernel_rfl)
  | 6, _ => (show _ = _; kernel_rfl)
  | 7, _ => (show _ = _; kernel_rfl)
  | 8, _ => (show _ = _; kernel_rfl)
  | 9, _ => (show _ = _; kernel_rfl)
  | 10, _ => (show _ = _; kernel_rfl)
  | 11, _ => (show _ = _; kernel_rfl)
  | 12, _ => (show _ = _; kernel_rfl)
  | 13, _ => (show _ = _; kernel_rfl)
  | 14, _ => (show _ = _; kernel_rfl)
  | 15, _ => (show _ = _; kernel_rfl)
  | n + 16, h => exact absurd h (by omega))⟩
set_option maxRecDepth 100000 in
theorem s_rnn0 {gl : Gl} (hgl : Low gl)  : SubOK Tryz.prog gl 49 (hA (m4L) (decCnN) (fun m x => rnPre x.1 none m (rnFin m x.1 x.2)) (rcO)) := hA_sub hgl fun k x => ⟨syG [], HRn, plD, syG_ok _, HRn_ok hgl, by kernel_rfl⟩
end Go.Proofs.YtpckfdopokmbkaaGreatDoor.Ev

namespace Go.Proofs.YtpckfdopokmbkaaGreatDoor.Ev
open Go
open Go.Proofs Go.RowKit

/-! The document's core, in closed form. -/
theorem rnF_inv : ∀ (zs : List Int) (z : Bool) (s : RnS), (rnF z s zs).1 = (!okW zs) ∧ (rnF z s zs).2.2.m = s.m ∧ (rnF z s zs).2.2.c2 = s.c2 ∧ (rnF z s zs).2.2.id = s.id ∧ (s.cs.all (af 8) = true → (rnF z s zs).2.2.cs.all (af 8) = true)
  | [], z, s => ⟨rfl, rfl, rfl, rfl, fun h => h⟩
  | x :: l, z, s => by
    have ih := rnF_inv l false { s with i := s.i + 1, k := s.k + 1, kc := s.k + 1, cs := s.cs ++ cdL (tkS x) }
    have e : rnF z s (x :: l) = cond (tkE x != 0) (true, z, s) (rnF false { s with i := s.i + 1, k := s.k + 1, kc := s.k + 1, cs := s.cs ++ cdL (tkS x) } l) := rfl
    have eo : okW (x :: l) = ((tkE x == 0) && okW l) := rfl
    rw [e, eo]
    cases hx : tkE x == 0 with
    | false =>
      have hb : (tkE x != 0) = true := by unfold bne; rw [hx]; rfl
      rw [hb]
      exact ⟨rfl, rfl, rfl, rfl, fun h => h⟩
    | true =>
      have hb : (tkE x != 0) = false := by unfold bne; rw [hx]; rfl
      rw [hb, cond_false, Bool.true_and]
      obtain ⟨h1, h2, h3, h4, h5⟩ := ih
      exact ⟨h1, h2, h3, h4, fun h => h5 (by show (s.cs ++ cdL (tkS x)).all (af 8) = true; rw [List.all_append, h]; rfl)⟩
def rcGd (m : M4) (c : Cfg) (id : Int) (zs : List Int) : Bool := idOk (c, id) && decide ((m.n : Int) = 16 * c.blocks) && m.cs.all (af 8) && zs.all wordG
def rcC (m : M4) (c : Cfg) (id : Int) (zs : List Int) : DT (Bool × M4) := .br (rcGd m c id zs) (do let b ← bl (cnRs zs); pure (b, m)) .fail
theorem rnFin_run {m : M4} {c : Cfg} {id : Int} (h : idOk (c, id) = true) (h2 : (m.n : Int) = 16 * c.blocks) (h3 : m.cs.all (af 8) = true) : (rnFin m c id).run = some (true, m) := by
  have hm : (m4C m).run = some () := by unfold m4C; rw [h3]; rfl
  have hg : rlG m (c, id) = true := by unfold rlG; rw [h, decide_eq_true h2, h3]; rfl
  unfold rnFin
  simp only [run_bind, chk_run, h, hm, hg, cond_true, Option.bind_some, run_pure]
theorem wrapB {c : Cfg} {m : M4} (hp : planOk c = true) (h2 : (m.n : Int) = 16 * c.blocks) : ((m.n : Int) != IntKind.i64.wrap (16 * c.blocks)) = false := by
  obtain ⟨⟨_, _, _, _, _, _, b7, b8, _⟩, _⟩ := planOk_iff.1 hp
  rw [wrap_id _ (by omega), h2]; exact bneI_self _
theorem rcC_run {off : Nat} {zs : List Int} {m : M4} {x : Cfg × Int × Nat × Nat × Nat} {b : Bool × M4} (h : (DT.br (cnSl off zs x.2.2) (rcC m x.1 x.2.1 zs) .fail).run = some b) : (rnNew off zs m x).run = some b := by
  obtain ⟨h0, h⟩ := condT (show cond (cnSl off zs x.2.2) (rcC m x.1 x.2.1 zs).run none = some b from h)
  obtain ⟨h1, h2⟩ := condT (show cond (rcGd m x.1 x.2.1 zs) _ none = some b from h)
  obtain ⟨c, id, o, n, cap⟩ := x
  simp only [rcGd, cnSl, Bool.and_eq_true, decide_eq_true_eq] at h0 h1
  obtain ⟨⟨g1, g2⟩, g3⟩ := h0
  obtain ⟨⟨⟨p1, p2⟩, p3⟩, p4⟩ := h1
  have hp : planOk c = true := by unfold idOk at p1; rw [Bool.and_eq_true] at p1; exact p1.1
  have g1 := Nat.eq_of_beq_eq_true g1
  have g2 := Nat.eq_of_beq_eq_true g2
  subst g1; subst g2
  have hm : (m4C m).run = some () := by unfold m4C; rw [p3]; rfl
  have eR : (do let b ← bl (cnRs zs); pure (b, m) : DT (Bool × M4)).run = some (cnRs zs, m) := by cases cnRs zs <;> rfl
  have h2 : (do let b ← bl (cnRs zs); pure (b, m) : DT (Bool × M4)).run = some b := h2
  rw [eR] at h2
  cases h2
  unfold cnRs rnNew rnPre
  simp only [run_bind, chk_run, hp, cond_true, Option.bind_some, run_br]
  by_cases hn : zs.length ≤ 1024
  · rw [decide_eq_false (show ¬ (zs.length : Int) > 1024 by omega), decide_eq_true hn, cond_false, wrapB hp p2, cond_false, Bool.true_and]
    have hg : rnG o zs (rn0 m (c, id, o, zs.length, cap)) = true := by
      simp only [rnG, rn0, Bool.and_eq_true]
      refine ⟨⟨⟨⟨⟨⟨⟨⟨⟨by simp, by simp⟩, g3⟩, p3⟩, p4⟩, by simp⟩, by simp⟩, rnOk_iff.2 ⟨rfl, rfl, rfl, ?_⟩⟩, nbl (by omega)⟩, rfl⟩
      show 0 + (zs.length - (0 : Int).toNat) ≤ _
      omega
    have hsp : (rnSp o zs (rn0 m (c, id, o, zs.length, cap))).run = some (rnF true (rn0 m (c, id, o, zs.length, cap)).2 zs) := by
      unfold rnSp
      rw [run_br, hg, cond_true, spl2_run]; rfl
    simp only [qsD_run, qnD_run, Option.bind_some, hm, hsp]
    obtain ⟨f1, f2, f3, f4, f5⟩ := rnF_inv zs true (rn0 m (c, id, o, zs.length, cap)).2
    have f5 := f5 rfl
    generalize rnF true (rn0 m (c, id, o, zs.length, cap)).2 zs = r at f1 f2 f3 f4 f5
    obtain ⟨r1, r2, r3⟩ := r
    have q1 : r1 = !okW zs := f1
    have q2 : r3.m = m := f2
    have q3 : r3.c2 = c := f3
    have q4 : r3.id = id := f4
    have q5 : r3.cs.all (af 8) = true := f5
    clear f1 f2 f3 f4 f5
    subst q1
    unfold rnEnd
    have e1 : (rnX (r2, r3)).run = some () := rnX_run (by rw [q2]; exact p3) q5
    simp only [run_bind, e1, Option.bind_some]
    cases hk : okW zs with
    | true => simp only [Bool.not_true, cond_false, q2, q3, q4, rnFin_run p1 p2 p3]
    | false => simp only [Bool.not_false, cond_true, run_bind, q2, hm, Option.bind_some, run_pure]
  · rw [decide_eq_true (show (zs.length : Int) > 1024 by omega), decide_eq_false hn, cond_true]
    simp only [qsD_run, hm, Option.bind_some, run_pure, Bool.false_and]
theorem s_rc {gl : Gl} (hgl : Low gl) (hF : GlF gl) {j : Nat} (hj : j < 16) {zs : List Int} {off : Nat} (hW : GlW gl (903 + j) off zs) : SubOK Tryz.prog gl 49 (hA m4L (decCn (903 + j)) (fun m x => .br (cnSl off zs x.2.2) (rcC m x.1 x.2.1 zs) .fail) rcO) := hA_weak (s_rnj hgl hF hj hW) fun _ _ _ h => rcC_run h
theorem s_rcN {gl : Gl} (hgl : Low gl) : SubOK Tryz.prog gl 49 (hA m4L decCnN (fun m x => rcC m x.1 x.2 []) rcO) := hA_weak (s_rnn0 hgl) fun m x b h => by
  obtain ⟨h1, h2⟩ := condT (show cond (rcGd m x.1 x.2 []) _ none = some b from h)
  obtain ⟨c, id⟩ := x
  cases h2
  simp only [rcGd, Bool.and_eq_true, decide_eq_true_eq] at h1
  obtain ⟨⟨⟨p1, p2⟩, p3⟩, _⟩ := h1
  have hp : planOk c = true := by unfold idOk at p1; rw [Bool.and_eq_true] at p1; exact p1.1
  unfold rnPre
  simp only [run_bind, chk_run, hp, cond_true, Option.bind_some, run_br, wrapB hp p2, cond_false, qsD_run, qnD_run, rnFin_run p1 p2 p3]
end Go.Proofs.YtpckfdopokmbkaaGreatDoor.Ev
