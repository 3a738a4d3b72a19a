/- Functions and loops told by states; bytes; images; cores made anew. Where the forms stand as the program's text lays them. -/
import Derived.Test.YtpckfdopokmbkaaGreatDoorEv8
import Derived.Test.YtpckfdopokmbkaaGreatDoorK3
import Derived.Test.YtpckfdopokmbkaaGreatDoorK5
noncomputable section
namespace Go.Proofs.YtpckfdopokmbkaaGreatDoor.Ev
open Go
open Go.Proofs Go.RowKit

/-! Functions and loops, told. -/
def hAd {S A : Type} (L : Lay S) (D : Dec A) (vs : List Value) (r : Rws) : Option (S × A) := (L.p r).bind fun k => (D.dec vs).map fun x => (k, x)
def hA {S A B : Type} (L : Lay S) (D : Dec A) (sp : S → A → DT B) (w : B → Out) : Hd := hS (hAd L D) (fun q => sp q.1 q.2) w
theorem hA_sub {gl : Gl} (hgl : Low gl) {f : FuncId} {S A B : Type} {L : Lay S} {D : Dec A} {sp : S → A → DT B} {w : B → Out}
    (h : ∀ k x, ∃ (sy : Sy) (H : Hs) (pl : PlanV), SyOK gl sy ∧ H.OK Tryz.prog gl ∧ callW sy Tryz.prog gl (fun _ => none) H 100 40 40 f (D.enc x) (L.t k) pl = (sp k x).runK fun b => some (rawO (w b))) : SubOK Tryz.prog gl f (hA L D sp w) :=
  sub_sp goodT hgl tglob fun vs rows q hq => by
    obtain ⟨k, h3, h4⟩ := Option.bind_eq_some_iff.1 hq
    obtain ⟨x, h5, rfl⟩ := Option.map_eq_some_iff.1 h4
    obtain ⟨sy, H, pl, h1, h2, h3'⟩ := h k x
    exact ⟨sy, H, 100, 40, 40, pl, h1, h2, by rw [D.ok _ _ h5, L.ok _ _ h3]; exact h3'⟩
/-- No rows. -/
def noL : Lay Unit := ⟨fun r => match r with
  | [] => some ()
  | _ => none, fun _ => [], fun r s h => by
  split at h
  · rfl
  · cases h⟩
/-- A loop's beginning: how it is read, how it is laid. -/
structure LpT (S : Type) where
  dec : List Value → Rws → Option S
  enc : S → LSt
  ok : ∀ vs rows s, dec vs rows = some s → (vs, rows) = enc s
/-- What a loop comes to: by one step. -/
theorem it_of {S B : Type} {st : S → DT (S ⊕ B)} (inv : S → Prop) (μ : S → Nat) (F : S → B) (h : ∀ s, inv s → match (st s).run with
    | some (.inl s') => inv s' ∧ μ s' < μ s ∧ F s' = F s
    | some (.inr b) => b = F s
    | none => False) : ∀ (n : Nat) s, inv s → μ s < n → ∃ m, itN st m s = some (F s)
  | 0, _, _, h => absurd h (Nat.not_lt_zero _)
  | n + 1, s, hs, hm => by
    have h1 := h s hs
    cases e : (st s).run with
    | none => rw [e] at h1; exact h1.elim
    | some q =>
      rw [e] at h1
      cases q with
      | inl s' =>
        obtain ⟨g1, g2, g3⟩ := h1
        obtain ⟨m, hm⟩ := it_of inv μ F h n s' g1 (by omega)
        refine ⟨m + 1, ?_⟩
        show (st s).run.bind _ = _
        rw [e, ← g3]; exact hm
      | inr b =>
        refine ⟨1, ?_⟩
        show (st s).run.bind _ = _
        rw [e, ← show b = F s from h1]; rfl
/-- What holds at the beginning is asked, what it comes to is given. -/
def ifT {B : Type} (g : Bool) (b : B) : DT B := .br g (.ret b) .fail
theorem ifT_run {B : Type} {g : Bool} {b c : B} (h : (ifT g b).run = some c) : g = true ∧ c = b := by
  cases g with
  | true => cases h; exact ⟨rfl, rfl⟩
  | false => cases h
end Go.Proofs.YtpckfdopokmbkaaGreatDoor.Ev

namespace Go.Proofs.YtpckfdopokmbkaaGreatDoor.Ev
open Go
open Go.Proofs Go.RowKit

/-! Bytes: sums, values. -/
abbrev BsS := Int × Int × ByteArray × Int
def bsT : LpT BsS := ⟨fun vs rows => match vs, rows with
  | [.int .i64 i, .string s, .int .u32 n, .int .i64 m], [] => some (i, n, s, m)
  | _, _ => none, fun x => ([.int .i64 x.1, .string x.2.2.1, .int .u32 x.2.1, .int .i64 x.2.2.2], []), fun vs rows s h => by
  split at h
  · cases h; rfl
  · cases h⟩
def bsStep (c : Int → DT (BsS ⊕ Int) → DT (BsS ⊕ Int)) (g : Int → Int → Int → Int) (x : BsS) : DT (BsS ⊕ Int) := .br (decide (x.1 < x.2.2.2)) (.br (decide (0 ≤ x.1) && decide (x.1 < (x.2.2.1.size : Int))) (c x.1 (.ret (.inl (IntKind.i64.wrap (x.1 + 1), g x.1 x.2.1 (byteAt x.2.2.1 x.1), x.2.2.1, x.2.2.2)))) .fail) (.ret (.inr x.2.1))
def bsF (g : Int → Int → Int → Int) (s : ByteArray) : Nat → Nat → Int → Int
  | 0, _, n => n
  | k + 1, i, n => bsF g s k (i + 1) (g i n (byteAt s i))
def bsG (x : BsS) : Bool := decide (0 ≤ x.1) && decide (x.1 ≤ x.2.2.2) && decide (x.2.2.2 ≤ (x.2.2.1.size : Int)) && decide ((x.2.2.1.size : Int) ≤ 1152921504606846975)
def bsSp (g : Int → Int → Int → Int) (x : BsS) : DT Int := ifT (bsG x) (bsF g x.2.2.1 (x.2.2.2 - x.1).toNat x.1.toNat x.2.1)
theorem bsSp_ok {c : Int → DT (BsS ⊕ Int) → DT (BsS ⊕ Int)} (hc : ∀ i t, 0 ≤ i → i < 1152921504606846975 → (c i t).run = t.run) (g : Int → Int → Int → Int) (x : BsS) (b : Int) (h : (bsSp g x).run = some b) : ∃ m, itN (bsStep c g) m x = some b := by
  obtain ⟨h1, rfl⟩ := ifT_run h
  refine it_of (fun x : BsS => bsG x = true) (fun x => (x.2.2.2 - x.1).toNat) (fun x : BsS => bsF g x.2.2.1 (x.2.2.2 - x.1).toNat x.1.toNat x.2.1) ?_ _ x h1 (Nat.lt_succ_self _)
  rintro ⟨i, n, s, m⟩ hg
  simp only [bsG, Bool.and_eq_true, decide_eq_true_eq] at hg
  obtain ⟨⟨⟨g1, g2⟩, g3⟩, g4⟩ := hg
  by_cases hi : i < m
  · have e0 : (bsStep c g (i, n, s, m)).run = some (.inl (IntKind.i64.wrap (i + 1), g i n (byteAt s i), s, m)) := by
      unfold bsStep
      simp only
      rw [decide_eq_true hi, decide_eq_true g1, decide_eq_true (show i < (s.size : Int) by omega)]
      exact hc i _ g1 (by omega)
    rw [e0]
    show _ ∧ _ ∧ _
    have e : IntKind.i64.wrap (i + 1) = i + 1 := wrap_id _ (by omega)
    refine ⟨?_, ?_, ?_⟩
    · simp only [bsG, e, Bool.and_eq_true, decide_eq_true_eq]; omega
    · simp only [e]; omega
    · simp only [e]
      rw [show (m - i).toNat = (m - (i + 1)).toNat + 1 by omega]
      show _ = bsF g s _ (i.toNat + 1) (g (i.toNat : Int) n (byteAt s (i.toNat : Int)))
      rw [show ((i.toNat : Nat) : Int) = i by omega, show (i + 1).toNat = i.toNat + 1 by omega]
  · have e0 : (bsStep c g (i, n, s, m)).run = some (.inr n) := by
      unfold bsStep
      simp only
      rw [decide_eq_false hi]; rfl
    rw [e0]
    show n = _
    rw [show (m - i).toNat = 0 by omega]; rfl
def gSum (_ n b : Int) : Int := IntKind.u32.wrap (IntKind.u32.wrap (n * 31) + IntKind.u32.wrap b)
set_option maxRecDepth 100000 in
theorem l_sum {gl : Gl} (hgl : Low gl)  : LpOK Tryz.prog gl 26 0 ⟨[7, 0, 3, 6], [3], hLp 0 (bsT).dec (bsSp gSum) (fun b => (.exit 0, [.int .u32 b], []))⟩ := loop_sp (st := bsStep (fun _ t => t) gSum) goodT hgl tglob (bsT).ok (by decide) (bsSp_ok (fun _ _ _ _ => rfl) gSum) fun s => ⟨syG [], H0, 100, 40, 40, [], fun _ => [], syG_ok _, H0_ok, by kernel_rfl⟩
def HSum : Hs := hsOf [] [] [(26, [(0, ⟨[7, 0, 3, 6], [3], hLp 0 bsT.dec (bsSp gSum) fun b => (.exit 0, [.int .u32 b], [])⟩)])]
theorem lx0 {gl : Gl} : ∀ p ∈ ([] : List (FuncId × List (Nat × LoopH))), ∀ q ∈ p.2, LpOK Tryz.prog gl p.1 q.1 q.2 := fun _ h => nomatch h
theorem lxC {gl : Gl} {f : FuncId} {n : Nat} {h : LoopH} (hl : LpOK Tryz.prog gl f n h) {l : List (FuncId × List (Nat × LoopH))} (hs : ∀ p ∈ l, ∀ q ∈ p.2, LpOK Tryz.prog gl p.1 q.1 q.2) : ∀ p ∈ (f, [(n, h)]) :: l, ∀ q ∈ p.2, LpOK Tryz.prog gl p.1 q.1 q.2 := fun p hp q hq => by
  rcases List.mem_cons.1 hp with rfl | hp
  · rcases List.mem_cons.1 hq with rfl | hq
    · exact hl
    · cases hq
  · exact hs p hp q hq
theorem HSum_ok {gl : Gl} (hgl : Low gl) : HSum.OK Tryz.prog gl := hsOf_ok fx0 sx0 (lxC (l_sum hgl) lx0)
def decS : Dec ByteArray := ⟨fun vs => match vs with
  | [.string s] => some s
  | _ => none, fun s => [.string s], fun vs a h => by
  split at h
  · cases h; rfl
  · cases h⟩
set_option maxRecDepth 100000 in
theorem s_sum {gl : Gl} (hgl : Low gl)  : SubOK Tryz.prog gl 26 (hA (noL) (decS) (fun _ s => bsSp gSum (0, 1, s, (s.size : Int))) (fun b => (.normal, [.int .u32 b], []))) := hA_sub hgl fun k x => ⟨syG [], HSum, noV, syG_ok _, HSum_ok hgl, by kernel_rfl⟩
end Go.Proofs.YtpckfdopokmbkaaGreatDoor.Ev

namespace Go.Proofs.YtpckfdopokmbkaaGreatDoor.Ev
open Go
open Go.Proofs Go.RowKit

/-! Bytes put behind bytes; a program's image. -/
abbrev byRow (cs : List Value) : LObj := .row ⟨cs, 5, (0, 0), 1, false, false⟩
abbrev v8 (n : Int) : Value := .int .u8 (IntKind.u8.wrap n)
/-- Bytes: how many, how much room, their cells. -/
structure By where
  n : Nat
  c : Nat
  l : List Value
def apB (s : By) (v : Value) : DT By := do
  chk (s.n.ble s.c)
  chk (((s.n + 1) * 1).ble 140737488355328 && ((s.n + 1).ble 1099511627776))
  chk ((0 + s.n * 1).ble s.l.length)
  pure ⟨s.n + 1, s.n + 1, winL 0 (s.n * 1) s.l ++ [v]⟩
def numB2 (s : By) (x : Int) : DT By := do let s ← apB s (v8 (x.fdiv 1)); apB s (v8 (x.fdiv 256))
def numB4 (s : By) (x : Int) : DT By := do let s ← numB2 s x; let s ← apB s (v8 (x.fdiv 65536)); apB s (v8 (x.fdiv 16777216))
def bysR (z : Bool) (cs : List Value) : Rws := cond z [some (byRow cs)] [none, some (byRow cs)]
def slB (z : Bool) (s : By) : Value := .slice (some ⟨cond z 1000 1001, 0, none⟩) s.n s.c
def Htk : Hs := hsOf [(25, afTk wordG tkE (fun x => (tkS x).op) (fun x => (tkS x).a) (fun x => (tkS x).b) (fun x => (tkS x).c) (fun x => (tkS x).n))] [] []
theorem Htk_ok {gl : Gl} (hF : GlF gl) (hgl : Low gl) : Htk.OK Tryz.prog gl := hsOf_ok (fxC (fn_tk hF hgl) fx0) sx0 fun _ h => nomatch h
/-- Where the loop over words stands: bytes; place; the row of words. -/
abbrev IpS := Bool × By × Int × Nat × Nat × Nat × Int
def isSl (a : Addr) (b : Nat) : Bool := Nat.beq a.block b && a.spot.isNone
theorem isSl_t {a : Addr} {b : Nat} (h : isSl a b = true) : a = ⟨b, a.off, none⟩ := by
  obtain ⟨k, o, s⟩ := a
  simp only [isSl, Bool.and_eq_true, Option.isNone_iff_eq_none] at h
  rw [show k = b from Nat.eq_of_beq_eq_true h.1, show s = none from h.2]
def isBy (b : LBlk) : Bool := Nat.beq b.elem 5 && Nat.beq b.fz.1 0 && Nat.beq b.fz.2 0 && Nat.beq b.esz 1 && !b.ro && !b.tail
theorem isBy_eq {b : LBlk} (h : isBy b = true) : LObj.row b = byRow b.cells := by
  obtain ⟨cs, e, ⟨f1, f2⟩, z, ro, tl⟩ := b
  unfold isBy at h
  simp only [Bool.and_eq_true, Bool.not_eq_true'] at h
  obtain ⟨⟨⟨⟨⟨h1, h2⟩, h3⟩, h4⟩, h5⟩, h6⟩ := h
  rw [show e = 5 from Nat.eq_of_beq_eq_true h1, show f1 = 0 from Nat.eq_of_beq_eq_true h2, show f2 = 0 from Nat.eq_of_beq_eq_true h3, show z = 1 from Nat.eq_of_beq_eq_true h4, h5, h6]
abbrev wSl' (b off n cap : Nat) : Value := .slice (some ⟨b, off, none⟩) n cap
def ipT (b : Nat) : LpT IpS := ⟨fun vs rows => match vs, rows with
  | [.int .i64 i, .slice (some p) m m', .slice (some a) n cap, .int .i64 n', .string ⟨⟨[]⟩⟩, .int .i64 e], [some (.row r)] => cond (isBy r && isSl p 1000 && Nat.beq p.off 0 && isSl a b && decide (e = 0)) (some (true, ⟨m, m', r.cells⟩, i, a.off, n, cap, n')) none
  | _, _ => none, fun x => ([.int .i64 x.2.2.1, slB x.1 x.2.1, wSl' b x.2.2.2.1 x.2.2.2.2.1 x.2.2.2.2.2.1, .int .i64 x.2.2.2.2.2.2, .string ⟨#[]⟩, .int .i64 0], bysR x.1 x.2.1.l), fun vs rows s h => by
  split at h
  case h_2 => cases h
  rename_i i p m m' a n cap n' e r
  obtain ⟨h1, h0⟩ := condT h
  clear h
  simp only [Bool.and_eq_true, decide_eq_true_eq] at h1
  obtain ⟨⟨⟨⟨h1, h2⟩, h3⟩, h5⟩, h8⟩ := h1
  cases h0
  have h3 := Nat.eq_of_beq_eq_true h3
  subst h8
  rw [isBy_eq h1, isSl_t h2, h3]
  conv => lhs; rw [isSl_t h5]
  rfl⟩
/-- How it ends: by a word that is none; bytes. -/
abbrev IpB := Bool × Bool × By
def ipStep (off' : Nat) (zs : List Int) (x : IpS) : DT (IpS ⊕ IpB) := .br (decide (x.2.2.1 < x.2.2.2.2.2.2)) (do
    chk (decide (0 ≤ x.2.2.1) && decide (x.2.2.1 < (x.2.2.2.2.1 : Int)) && x.2.2.2.2.1.ble x.2.2.2.2.2.1)
    chk ((symW off' zs).okI .u32 (x.2.2.2.1 + x.2.2.1.toNat * 1))
    let w := (symW off' zs).int .u32 (x.2.2.2.1 + x.2.2.1.toNat * 1)
    chk (wordG w)
    .br (tkE w != 0) (do chk (x.2.1.l.all (af 8) && true); pure (.inr (true, x.1, x.2.1))) (do
      let s ← numB4 x.2.1 w
      chk (s.l.all (af 8) && true)
      pure (.inl (false, s, IntKind.i64.wrap (x.2.2.1 + 1), x.2.2.2)))) (do
  chk (x.2.1.l.all (af 8) && true)
  pure (.inr (false, x.1, x.2.1)))
def by4 (x : Int) : List Value := [v8 (x.fdiv 1), v8 (x.fdiv 256), v8 (x.fdiv 65536), v8 (x.fdiv 16777216)]
def by2 (x : Int) : List Value := [v8 (x.fdiv 1), v8 (x.fdiv 256)]
def By.add (s : By) (l : List Value) : By := ⟨s.n + l.length, s.n + l.length, s.l ++ l⟩
def ipF (z : Bool) (s : By) : List Int → IpB
  | [] => (false, z, s)
  | x :: l => cond (tkE x != 0) (true, z, s) (ipF false (s.add (by4 x)) l)
def byOk (s : By) (k : Nat) : Bool := Nat.beq s.l.length s.n && Nat.beq s.c s.n && s.l.all (af 8) && Nat.ble (s.n + k) 1000000000000
theorem byOk_iff {s : By} {k : Nat} : byOk s k = true ↔ s.l.length = s.n ∧ s.c = s.n ∧ s.l.all (af 8) = true ∧ s.n + k ≤ 1000000000000 := by
  unfold byOk
  simp only [Bool.and_eq_true, and_assoc]
  refine ⟨fun ⟨a, b, c, d⟩ => ⟨Nat.eq_of_beq_eq_true a, Nat.eq_of_beq_eq_true b, c, Nat.le_of_ble_eq_true d⟩, fun ⟨a, b, c, d⟩ => ⟨by rw [a]; simp, by rw [b]; simp, c, nbl d⟩⟩
theorem byOk_af {s : By} {k : Nat} (h : byOk s k = true) : (s.l.all (af 8) && true) = true := by rw [(byOk_iff.1 h).2.2.1]; rfl
theorem apB_run {s : By} {v : Value} {k : Nat} (h : byOk s (k + 1) = true) (hv : af 8 v = true) : (apB s v).run = some (s.add [v]) ∧ byOk (s.add [v]) k = true := by
  obtain ⟨h1, h0, h2, h3⟩ := byOk_iff.1 h
  have e1 : s.n.ble s.c = true := nbl (by omega)
  have e2 : (((s.n + 1) * 1).ble 140737488355328 && ((s.n + 1).ble 1099511627776)) = true := andI (nbl (by omega)) (nbl (by omega))
  have e3 : (0 + s.n * 1).ble s.l.length = true := nbl (by omega)
  refine ⟨?_, byOk_iff.2 ⟨?_, rfl, ?_, ?_⟩⟩
  · unfold apB
    simp only [run_bind, chk_run, e1, e2, e3, cond_true, Option.bind_some, run_pure]
    rw [winL_all (by omega)]; rfl
  · simp [By.add, h1]
  · simp [By.add, h2, hv]
  · show s.n + 1 + k ≤ _; omega
theorem add_add (s : By) (a b : List Value) : (s.add a).add b = s.add (a ++ b) := by simp [By.add, Nat.add_assoc]
theorem numB2_run {s : By} {x : Int} {k : Nat} (h : byOk s (k + 2) = true) : (numB2 s x).run = some (s.add (by2 x)) ∧ byOk (s.add (by2 x)) k = true := by
  obtain ⟨a1, b1⟩ := apB_run (v := v8 (x.fdiv 1)) h rfl
  obtain ⟨a2, b2⟩ := apB_run (v := v8 (x.fdiv 256)) b1 rfl
  rw [add_add] at a2 b2
  refine ⟨?_, b2⟩
  unfold numB2
  simp only [run_bind, a1, Option.bind_some]
  exact a2
theorem numB4_run {s : By} {x : Int} {k : Nat} (h : byOk s (k + 4) = true) : (numB4 s x).run = some (s.add (by4 x)) ∧ byOk (s.add (by4 x)) k = true := by
  obtain ⟨a1, b1⟩ := numB2_run (x := x) (k := k + 2) h
  obtain ⟨a2, b2⟩ := apB_run (v := v8 (x.fdiv 65536)) b1 rfl
  rw [add_add] at a2 b2
  obtain ⟨a3, b3⟩ := apB_run (v := v8 (x.fdiv 16777216)) b2 rfl
  rw [add_add] at a3 b3
  refine ⟨?_, b3⟩
  unfold numB4
  simp only [run_bind, a1, a2, Option.bind_some]
  exact a3
def ipG (off' : Nat) (zs : List Int) (x : IpS) : Bool := Nat.beq x.2.2.2.1 off' && Nat.beq x.2.2.2.2.1 zs.length && Nat.ble zs.length x.2.2.2.2.2.1 && decide (x.2.2.2.2.2.2 = (zs.length : Int)) && zs.all wordG && decide (0 ≤ x.2.2.1) && decide (x.2.2.1 ≤ (zs.length : Int)) && byOk x.2.1 (4 * (zs.length - x.2.2.1.toNat)) && Nat.ble zs.length 1048576
def spl2 {C : Type} (r : Bool × Bool × C) : DT (Bool × Bool × C) := do let e ← bl r.1; let z ← bl r.2.1; pure (e, z, r.2.2)
theorem spl2_run {C : Type} (r : Bool × Bool × C) : (spl2 r).run = some r := by
  obtain ⟨a, b, c⟩ := r
  cases a <;> cases b <;> rfl
def ipSp (off' : Nat) (zs : List Int) (x : IpS) : DT IpB := .br (ipG off' zs x) (spl2 (ipF x.1 x.2.1 (zs.drop x.2.2.1.toNat))) .fail
theorem ipSp_ok (off' : Nat) (zs : List Int) (x : IpS) (b : IpB) (h : (ipSp off' zs x).run = some b) : ∃ m, itN (ipStep off' zs) m x = some b := by
  obtain ⟨h1, h2⟩ := condT (show cond (ipG off' zs x) (spl2 _).run none = some b from h)
  rw [spl2_run] at h2
  cases h2
  refine it_of (fun x : IpS => ipG off' zs x = true) (fun x => zs.length - x.2.2.1.toNat) (fun x : IpS => ipF x.1 x.2.1 (zs.drop x.2.2.1.toNat)) ?_ _ x h1 (Nat.lt_succ_self _)
  rintro ⟨z, s, i, off, n, cap, n'⟩ hg
  have hg0 := hg
  simp only [ipG, Bool.and_eq_true, decide_eq_true_eq] at hg
  obtain ⟨⟨⟨⟨⟨⟨⟨⟨g1, g2⟩, g3⟩, gn⟩, g4⟩, g5⟩, g6⟩, g7⟩, g8⟩ := hg
  have g1 := Nat.eq_of_beq_eq_true g1
  have g2 := Nat.eq_of_beq_eq_true g2
  have g3' := Nat.le_of_ble_eq_true g3
  have g8' := Nat.le_of_ble_eq_true g8
  subst g1; subst g2; subst gn
  have haf := byOk_af g7
  by_cases hi : i < (zs.length : Int)
  · obtain ⟨j, rfl⟩ : ∃ j : Nat, i = (j : Int) := ⟨i.toNat, by omega⟩
    have hj : j < zs.length := by omega
    rw [Int.toNat_natCast] at g7 ⊢
    have e1 : (symW off zs).okI .u32 (off + (j : Int).toNat * 1) = true := symW_t hj
    have e2 : (symW off zs).int .u32 (off + (j : Int).toNat * 1) = zs[j] := wX_eq hj
    have e3 : wordG zs[j] = true := List.all_eq_true.1 g4 _ (List.getElem_mem hj)
    have e4 : (decide (0 ≤ (j : Int)) && decide ((j : Int) < (zs.length : Int)) && zs.length.ble cap) = true := andI (andI (decide_eq_true g5) (decide_eq_true hi)) g3
    have e4' := e4
    rw [decide_eq_true hi] at e4'
    rw [List.drop_eq_getElem_cons hj]
    cases ht : tkE zs[j] != 0 with
    | true =>
      have er : (ipStep off zs (z, s, (j : Int), off, zs.length, cap, (zs.length : Int))).run = some (.inr (true, z, s)) := by
        unfold ipStep
        simp only [e2, ht]
        rw [decide_eq_true hi]
        rw [run_br, cond_true]
        simp only [run_bind, chk_run, e4', e1, e3, cond_true, Option.bind_some, run_br, haf, run_pure]
      rw [er]
      show (true, z, s) = cond (tkE zs[j] != 0) _ _
      rw [ht]; rfl
    | false =>
      obtain ⟨a1, b1⟩ := numB4_run (s := s) (x := zs[j]) (k := 4 * (zs.length - (j + 1))) (by rw [show 4 * (zs.length - (j + 1)) + 4 = 4 * (zs.length - j) by omega]; exact g7)
      have haf1 := byOk_af b1
      have er : (ipStep off zs (z, s, (j : Int), off, zs.length, cap, (zs.length : Int))).run = some (.inl (false, s.add (by4 zs[j]), IntKind.i64.wrap ((j : Int) + 1), off, zs.length, cap, (zs.length : Int))) := by
        unfold ipStep
        simp only [e2, ht]
        rw [decide_eq_true hi]
        rw [run_br, cond_true]
        simp only [run_bind, chk_run, e4', e1, e3, cond_true, cond_false, Option.bind_some, run_br, a1, haf1, run_pure]
      rw [er]
      have e5 : IntKind.i64.wrap ((j : Int) + 1) = ((j + 1 : Nat) : Int) := by rw [wrap_id _ (by omega)]; omega
      rw [e5]
      refine ⟨?_, ?_, ?_⟩
      · simp only [ipG, Bool.and_eq_true, decide_eq_true_eq]
        refine ⟨⟨⟨⟨⟨⟨⟨⟨by simp, by simp⟩, g3⟩, trivial⟩, g4⟩, by omega⟩, by omega⟩, by rw [Int.toNat_natCast]; exact b1⟩, g8⟩
      · show zs.length - ((j + 1 : Nat) : Int).toNat < zs.length - ((j : Nat) : Int).toNat
        omega
      · show ipF false _ (zs.drop ((j + 1 : Nat) : Int).toNat) = cond (tkE zs[j] != 0) _ (ipF false _ _)
        rw [ht, Int.toNat_natCast]; rfl
  · have er : (ipStep off zs (z, s, i, off, zs.length, cap, (zs.length : Int))).run = some (.inr (false, z, s)) := by
      unfold ipStep
      simp only
      rw [decide_eq_false hi]
      rw [run_br, cond_false]
      simp only [run_bind, chk_run, haf, cond_true, Option.bind_some, run_pure]
    rw [er]
    show (false, z, s) = ipF z s (zs.drop i.toNat)
    rw [List.drop_eq_nil_of_le (by omega)]; rfl
def ipW (b : IpB) : Out := cond b.1 (.ret, [slB b.2.1 b.2.2, .string ⟨#[]⟩, .int .i64 2], bysR b.2.1 b.2.2.l) (.exit 0, [slB b.2.1 b.2.2, .string ⟨#[]⟩, .int .i64 0], bysR b.2.1 b.2.2.l)
set_option maxRecDepth 100000 in
theorem l_ip {gl : Gl} (hgl : Low gl) (hF : GlF gl) {j : Nat} (hj : j < 16) {zs : List Int} {off : Nat} (hW : GlW gl (903 + j) off zs) : LpOK Tryz.prog gl 14 0 ⟨[20, 4, 18, 19, 2, 3], [4, 2, 3], hLp 1 (ipT (903 + j)).dec (ipSp off zs) (ipW)⟩ := loop_sp (st := ipStep off zs) goodT hgl tglob (ipT (903 + j)).ok (by decide) (ipSp_ok off zs) fun s => match s with
  | (true, s) => ⟨syW (903 + j) off zs [], Htk, 100, 40, 40, [], fun _ => [], syW_ok (by omega) hW, Htk_ok hF hgl, (by match j, hj with
  | 0, _ => (show _ = _; kernel_rfl)
  | 1, _ => (show _ = _; kernel_rfl)
  | 2, _ => (show _ = _; kernel_rfl)
  | 3, _ => (show _ = _; kernel_rfl)
  | 4, _ => (show _ = _; kernel_rfl)
  | 5, _ => (show _ = _; kernel_rfl)
  | 6, _ => (show _ = _; kernel_rfl)
  | 7, _ => (show _ = _; kernel_rfl)
  | 8, _ => (show _ = _; kernel_rfl)
  | 9, _ => (show _ = _; kernel_rfl)
  | 10, _ => (show _ = _; kernel_rfl)
  | 11, _ => (show _ = _; kernel_rfl)
  | 12, _ => (show _ = _; kernel_rfl)
  | 13, _ => (show _ = _; kernel_rfl)
  | 14, _ => (show _ = _; kernel_rfl)
  | 15, _ => (show _ = _; kernel_rfl)
  | n + 16, h => exact absurd h (by omega))⟩
  | (false, s) => ⟨syW (903 + j) off zs [], Htk, 100, 40, 40, [], fun _ => [], syW_ok (by omega) hW, Htk_ok hF hgl, (by match j, hj with
  | 0, _ => (show _ = _; kernel_rfl)
  | 1, _ => (show _ = _; kernel_rfl)
  | 2, _ => (show _ = _; kernel_rfl)
  | 3, _ => (show _ = _; kernel_rfl)
  | 4, _ => (show _ = _; kernel_rfl)
  | 5, _ => (show _ = _; kernel_rfl)
  | 6, _ => (show _ = _; kernel_rfl)
  | 7, _ => (show _ = _; kernel_rfl)
  | 8, _ => (show _ = _; kernel_rfl)
  | 9, _ => (show _ = _; kernel_rfl)
  | 10, _ => (show _ = _; kernel_rfl)
  | 11, _ => (show _ = _; kernel_rfl)
  | 12, _ => (show _ = _; kernel_rfl)
  | 13, _ => (show _ = _; kernel_rfl)
  | 14, _ => (show _ = _; kernel_rfl)
  | 15, _ => (show _ = _; kernel_rfl)
  | n + 16, h => exact absurd h (by omega))⟩
end Go.Proofs.YtpckfdopokmbkaaGreatDoor.Ev

namespace Go.Proofs.YtpckfdopokmbkaaGreatDoor.Ev
open Go
open Go.Proofs Go.RowKit

/-! A program's image, whole. -/
def decSl (b : Nat) : Dec (Nat × Nat × Nat) := ⟨fun vs => match vs with
  | [.slice (some a) n cap] => cond (isSl a b) (some (a.off, n, cap)) none
  | _ => none, fun x => [wSl' b x.1 x.2.1 x.2.2], fun vs x h => by
  split at h
  · obtain ⟨h1, h2⟩ := condT h
    cases h2
    conv => lhs; rw [isSl_t h1]
  · cases h⟩
def decNil : Dec Unit := ⟨fun vs => match vs with
  | [.slice none 0 0] => some ()
  | _ => none, fun _ => [.slice none 0 0], fun vs x h => by
  split at h
  · rfl
  · cases h⟩
/-- Bytes as a string. -/
def cvS (s : By) : DT ByteArray := do
  chk (Nat.ble 1 s.n && Nat.ble 1 s.c && Nat.beq s.n s.l.length && (bytesL s.l).isSome)
  pure (strOf s.l)
def ipBs (n : Int) : By := ⟨5, 5, [v8 85, v8 84, v8 1] ++ by2 (IntKind.u32.wrap n)⟩
def afSum : Hd := hA noL decS (fun _ s => bsSp gSum (0, 1, s, (s.size : Int))) fun b => (.normal, [.int .u32 b], [])
def HPut (b off : Nat) (zs : List Int) : Hs := hsOf [] [(26, afSum)] [(14, [(0, ⟨[20, 4, 18, 19, 2, 3], [4, 2, 3], hLp 1 (ipT b).dec (ipSp off zs) ipW⟩)])]
theorem HPut_ok {gl : Gl} (hF : GlF gl) (hgl : Low gl) {j : Nat} (hj : j < 16) {zs : List Int} {off : Nat} (hW : GlW gl (903 + j) off zs) : (HPut (903 + j) off zs).OK Tryz.prog gl := hsOf_ok fx0 (sxC (s_sum hgl) sx0) (lxC (l_ip hgl hF hj hW) lx0)
def ipEnd (r : IpB) : DT (ByteArray × Int) := do
 chk (r.2.2.l.all (af 8) && true)
 cond r.1 (pure (⟨#[]⟩, 2)) (do
  let t ← cvS r.2.2
  let c ← bsSp gSum (0, 1, t, (t.size : Int))
  let s ← numB4 r.2.2 c
  let u ← cvS s
  pure (u, 0))
def ipPut (off' : Nat) (zs : List Int) (x : Nat × Nat × Nat) : DT (ByteArray × Int) := .br (decide ((x.2.1 : Int) > 1024)) (pure (⟨#[]⟩, 2)) (do
  let r ← ipSp off' zs (true, ipBs x.2.1, 0, x.1, x.2.1, x.2.2, (x.2.1 : Int))
  ipEnd r)
def ipO (b : ByteArray × Int) : Out := (.normal, [.tuple #[.string b.1, .int .i64 b.2]], [])
set_option maxRecDepth 100000 in
theorem s_iput {gl : Gl} (hgl : Low gl) (hF : GlF gl) {j : Nat} (hj : j < 16) {zs : List Int} {off : Nat} (hW : GlW gl (903 + j) off zs) : SubOK Tryz.prog gl 14 (hA (noL) (decSl (903 + j)) (fun _ => ipPut off zs) (ipO)) := hA_sub hgl fun k x => ⟨syG [], HPut (903 + j) off zs, noV, syG_ok _, HPut_ok hF hgl hj hW, (by match j, hj with
  | 0, _ => (show _ = _; kernel_rfl)
  | 1, _ => (show _ = _; kernel_rfl)
  | 2, _ => (show _ = _; kernel_rfl)
  | 3, _ => (show _ = _; kernel_rfl)
  | 4, _ => (show _ = _; kernel_rfl)
  | 5, _ => (show _ = _; kernel_rfl)
  | 6, _ => (show _ = _; kernel_rfl)
  | 7, _ => (show _ = _; kernel_rfl)
  | 8, _ => (show _ = _; kernel_rfl)
  | 9, _ => (show _ = _; kernel_rfl)
  | 10, _ => (show _ = _; kernel_rfl)
  | 11, _ => (show _ = _; kernel_rfl)
  | 12, _ => (show _ = _; kernel_rfl)
  | 13, _ => (show _ = _; kernel_rfl)
  | 14, _ => (show _ = _; kernel_rfl)
  | 15, _ => (show _ = _; kernel_rfl)
  | n + 16, h => exact absurd h (by omega))⟩
end Go.Proofs.YtpckfdopokmbkaaGreatDoor.Ev

namespace Go.Proofs.YtpckfdopokmbkaaGreatDoor.Ev
open Go
open Go.Proofs Go.RowKit

/-! A core made anew, of which just is known whether it is made. -/
structure CnS where
  i : Int
  id : Int
  n' : Int
  c : Cfg
  off : Nat
  n : Nat
  cap : Nat
  m : Rws
  r : W16
  a : Int
  ct : Int
  hl : Bool
  fl : Int
  id2 : Int
  c2 : Cfg
  k : Nat
  kc : Nat
  cs : List Value
def pCn : Par (Cfg × Int × Unit × W16 × Int × Unit × Unit × Int × Bool × Int) := pCfg.s (pi64.s (pNil.s (pW16.s (pi64.s (pNP.s (pNP.s (pi64.s (pB.s pu32))))))))
def isP (a : Addr) (b : Nat) : Bool := Nat.beq a.block b && Nat.beq a.off 0 && a.spot.isNone
theorem isP_t {a : Addr} {b : Nat} (h : isP a b = true) : a = ⟨b, 0, none⟩ := by
  obtain ⟨k, o, s⟩ := a
  simp only [isP, Bool.and_eq_true, Option.isNone_iff_eq_none] at h
  rw [show k = b from Nat.eq_of_beq_eq_true h.1.1, show o = 0 from Nat.eq_of_beq_eq_true h.1.2, show s = none from h.2]
def cnV (b : Nat) (s : CnS) : List Value := [.int .i64 s.i, pK 1000, wSl' b s.off s.n s.cap, .int .i64 s.id, pK 1001, pK 1002, .int .i64 s.n', .pointer none, .int .i64 0]
def cnR (z : Bool) (s : CnS) : Rws := cond z [some (coreRow s.c s.id2 (.slice none 0 0) s.r s.a (.pointer none) (.pointer none) s.ct s.hl s.fl), some (.box (.raw s.m) []), some (cfgRow s.c2)]
  [some (coreRow s.c s.id2 (.slice (some ⟨1003, 0, none⟩) s.k s.kc) s.r s.a (.pointer none) (.pointer none) s.ct s.hl s.fl), some (.box (.raw s.m) []), some (cfgRow s.c2), some (codeRow s.cs 5)]
def cnD (vs : List Value) (rows : Rws) (b : Nat) : Option (Bool × CnS) := match vs, rows with
  | [.int .i64 i, .pointer (some p), .slice (some a) n cap, .int .i64 id, .pointer (some p1), .pointer (some p2), .int .i64 n', .pointer none, .int .i64 e], [some (.row b0), some (.box (.raw m) []), some (.row b2)] => cond (isP p 1000 && isSl a b && isP p1 1001 && isP p2 1002 && decide (e = 0)) ((rowP 147 pCn b0).bind fun x => (rowP 23 pCfg b2).map fun y =>
    (true, ⟨i, id, n', x.1, a.off, n, cap, m, x.2.2.2.1, x.2.2.2.2.1, x.2.2.2.2.2.2.2.1, x.2.2.2.2.2.2.2.2.1, x.2.2.2.2.2.2.2.2.2, x.2.1, y, 0, 0, []⟩)) none
  | _, _ => none
def cnT (b : Nat) : LpT (Bool × CnS) := ⟨fun vs rows => cnD vs rows b, fun s => (cnV b s.2, cnR s.1 s.2), fun vs rows s h => by
  unfold cnD at h
  split at h
  case h_2 => cases h
  rename_i i p a n cap id p1 p2 n' e b0 m b2
  obtain ⟨h1, h⟩ := condT h
  obtain ⟨x, h2, h⟩ := Option.bind_eq_some_iff.1 h
  obtain ⟨y, h3, h⟩ := Option.map_eq_some_iff.1 h
  simp only [Bool.and_eq_true, decide_eq_true_eq] at h1
  obtain ⟨⟨⟨⟨h1, h4⟩, h5⟩, h6⟩, h7⟩ := h1
  subst h
  subst h7
  rw [rowP_ok h2, rowP_ok h3, isP_t h1, isP_t h5, isP_t h6]
  conv => lhs; rw [isSl_t h4]
  rfl⟩
/-- Whether a word was none; what there is. -/
abbrev CnB := Bool × Bool × CnS
def apC (s : CnS) (w : CodeS) : DT CnS := do
  chk (s.k.ble s.kc)
  chk (((s.k + 1) * 40).ble 140737488355328 && ((s.k + 1).ble 1099511627776))
  chk ((0 + s.k * 5).ble s.cs.length)
  qsD [w.op, w.a, w.b, w.c, w.n]
  qnD [s.k, s.kc]
  chk ((winL 0 (s.k * 5) s.cs ++ cdL w).all (af 8) && true)
  pure { s with k := s.k + 1, kc := s.k + 1, cs := winL 0 (s.k * 5) s.cs ++ cdL w }
def cnStep (off' : Nat) (zs : List Int) (x : Bool × CnS) : DT ((Bool × CnS) ⊕ CnB) := .br (decide (x.2.i < x.2.n')) (do
    chk (decide (0 ≤ x.2.i) && decide (x.2.i < (x.2.n : Int)) && x.2.n.ble x.2.cap)
    chk ((symW off' zs).okI .u32 (x.2.off + x.2.i.toNat * 1))
    let w := (symW off' zs).int .u32 (x.2.off + x.2.i.toNat * 1)
    chk (wordG w)
    .br (tkE w != 0) (do cond x.1 (pure ()) (chk (x.2.cs.all (af 8) && true)); pure (.inr (true, x))) (do
      let s ← cond x.1 (do qsD [(tkS w).op, (tkS w).a, (tkS w).b, (tkS w).c, (tkS w).n]; pure { x.2 with k := 1, kc := 1, cs := cdL (tkS w) }) (apC x.2 (tkS w))
      pure (.inl (false, { s with i := IntKind.i64.wrap (x.2.i + 1) })))) (do
  cond x.1 (pure ()) (chk (x.2.cs.all (af 8) && true))
  pure (.inr (false, x)))
def cnW (b : CnB) : Out := cond b.1 (.ret, [pK 1000, .int .i64 b.2.2.id, pK 1001, pK 1002, .pointer none, .int .i64 2], cnR b.2.1 b.2.2) (.exit 0, [pK 1000, .int .i64 b.2.2.id, pK 1001, pK 1002, .pointer none, .int .i64 0], cnR b.2.1 b.2.2)
def cnF (z : Bool) (s : CnS) : List Int → CnB
  | [] => (false, z, s)
  | x :: l => cond (tkE x != 0) (true, z, s) (cnF false { s with i := s.i + 1, k := s.k + 1, kc := s.k + 1, cs := s.cs ++ cdL (tkS x) } l)
def cnOk (s : CnS) (k : Nat) : Bool := Nat.beq s.cs.length (s.k * 5) && Nat.beq s.kc s.k && s.cs.all (af 8) && Nat.ble (s.k + k) 1000000
theorem cnOk_iff {s : CnS} {k : Nat} : cnOk s k = true ↔ s.cs.length = s.k * 5 ∧ s.kc = s.k ∧ s.cs.all (af 8) = true ∧ s.k + k ≤ 1000000 := by
  unfold cnOk
  simp only [Bool.and_eq_true, and_assoc]
  refine ⟨fun ⟨a, b, c, d⟩ => ⟨Nat.eq_of_beq_eq_true a, Nat.eq_of_beq_eq_true b, c, Nat.le_of_ble_eq_true d⟩, fun ⟨a, b, c, d⟩ => ⟨by rw [a]; simp, by rw [b]; simp, c, nbl d⟩⟩
def cnZ (z : Bool) (s : CnS) : Bool := cond z (Nat.beq s.k 0 && Nat.beq s.kc 0 && s.cs.isEmpty) true
def cnG (off' : Nat) (zs : List Int) (x : Bool × CnS) : Bool := Nat.beq x.2.off off' && Nat.beq x.2.n zs.length && Nat.ble zs.length x.2.cap && decide (x.2.n' = (zs.length : Int)) && zs.all wordG && decide (0 ≤ x.2.i) && decide (x.2.i ≤ (zs.length : Int)) && cnOk x.2 (zs.length - x.2.i.toNat) && Nat.ble zs.length 1048576 && cnZ x.1 x.2
def cnSp (off' : Nat) (zs : List Int) (x : Bool × CnS) : DT CnB := .br (cnG off' zs x) (spl2 (cnF x.1 x.2 (zs.drop x.2.i.toNat))) .fail
theorem cnSp_ok (off' : Nat) (zs : List Int) (x : Bool × CnS) (b : CnB) (h : (cnSp off' zs x).run = some b) : ∃ m, itN (cnStep off' zs) m x = some b := by
  obtain ⟨h1, h2⟩ := condT (show cond (cnG off' zs x) (spl2 _).run none = some b from h)
  rw [spl2_run] at h2
  cases h2
  refine it_of (fun x : Bool × CnS => cnG off' zs x = true) (fun x => zs.length - x.2.i.toNat) (fun x : Bool × CnS => cnF x.1 x.2 (zs.drop x.2.i.toNat)) ?_ _ x h1 (Nat.lt_succ_self _)
  rintro ⟨z, s⟩ hg
  simp only [cnG, Bool.and_eq_true, decide_eq_true_eq] at hg
  obtain ⟨⟨⟨⟨⟨⟨⟨⟨⟨g1, g2⟩, g3⟩, gn⟩, g4⟩, g5⟩, g6⟩, g7⟩, g8⟩, g9⟩ := hg
  have g1 := Nat.eq_of_beq_eq_true g1
  have g2 := Nat.eq_of_beq_eq_true g2
  have g3' := Nat.le_of_ble_eq_true g3
  have g8' := Nat.le_of_ble_eq_true g8
  subst g1
  obtain ⟨o1, o2, o3, o4⟩ := cnOk_iff.1 g7
  have haf : (s.cs.all (af 8) && true) = true := by rw [o3]; rfl
  have hzz : (cond z (pure ()) (chk (s.cs.all (af 8) && true)) : DT Unit).run = some () := by
    cases z with
    | true => rfl
    | false => rw [haf]; rfl
  by_cases hi : s.i < (zs.length : Int)
  · obtain ⟨j, hj0⟩ : ∃ j : Nat, s.i = (j : Int) := ⟨s.i.toNat, by omega⟩
    have hj : j < zs.length := by omega
    have e1 : (symW s.off zs).okI .u32 (s.off + s.i.toNat * 1) = true := by rw [hj0]; exact symW_t hj
    have e2 : (symW s.off zs).int .u32 (s.off + s.i.toNat * 1) = zs[j] := by rw [hj0]; exact wX_eq hj
    have e3 : wordG zs[j] = true := List.all_eq_true.1 g4 _ (List.getElem_mem hj)
    have e4 : (decide (0 ≤ s.i) && decide (s.i < (s.n : Int)) && s.n.ble s.cap) = true := andI (andI (decide_eq_true g5) (decide_eq_true (by rw [g2]; exact hi))) (by rw [g2]; exact g3)
    have e0 : s.i.toNat = j := by omega
    have hd : decide (s.i < s.n') = true := decide_eq_true (by rw [gn]; exact hi)
    dsimp only
    rw [e0, List.drop_eq_getElem_cons hj]
    cases ht : tkE zs[j] != 0 with
    | true =>
      have er : (cnStep s.off zs (z, s)).run = some (.inr (true, z, s)) := by
        unfold cnStep
        simp only [e2, ht]
        rw [hd, run_br, cond_true]
        simp only [run_bind, chk_run, e4, e1, e3, cond_true, Option.bind_some, run_br, hzz, run_pure]
      rw [er]
      show (true, z, s) = cond (tkE zs[j] != 0) _ _
      rw [ht]; rfl
    | false =>
      have er : (cnStep s.off zs (z, s)).run = some (.inl (false, { s with i := IntKind.i64.wrap (s.i + 1), k := s.k + 1, kc := s.k + 1, cs := s.cs ++ cdL (tkS zs[j]) })) := by
        unfold cnStep
        simp only [e2, ht]
        rw [hd, run_br, cond_true]
        simp only [run_bind, chk_run, e4, e1, e3, cond_true, cond_false, Option.bind_some, run_br]
        cases z with
        | true =>
          simp only [cnZ, cond_true, Bool.and_eq_true, List.isEmpty_iff] at g9
          obtain ⟨⟨z1, z2⟩, z3⟩ := g9
          have z1 := Nat.eq_of_beq_eq_true z1
          simp only [cond_true, run_bind, qsD_run, Option.bind_some, run_pure, z1, z3, List.nil_append]
        | false =>
          have a1 : s.k.ble s.kc = true := nbl (by omega)
          have a2 : (((s.k + 1) * 40).ble 140737488355328 && ((s.k + 1).ble 1099511627776)) = true := andI (nbl (by omega)) (nbl (by omega))
          have a3 : (0 + s.k * 5).ble s.cs.length = true := nbl (by omega)
          have a4 : winL 0 (s.k * 5) s.cs = s.cs := winL_all (by omega)
          have a5 : ((s.cs ++ cdL (tkS zs[j])).all (af 8) && true) = true := by rw [List.all_append, o3]; rfl
          simp only [cond_false, apC, run_bind, chk_run, a1, a2, a3, a4, a5, qsD_run, qnD_run, cond_true, Option.bind_some, run_pure]
      rw [er]
      have e5 : IntKind.i64.wrap (s.i + 1) = s.i + 1 := wrap_id _ (by omega)
      rw [e5]
      refine ⟨?_, ?_, ?_⟩
      · simp only [cnG, Bool.and_eq_true, decide_eq_true_eq]
        refine ⟨⟨⟨⟨⟨⟨⟨⟨⟨by simp, by rw [g2]; simp⟩, g3⟩, gn⟩, g4⟩, by omega⟩, by omega⟩, cnOk_iff.2 ⟨?_, rfl, ?_, ?_⟩⟩, g8⟩, rfl⟩
        · show (s.cs ++ cdL (tkS zs[j])).length = (s.k + 1) * 5
          rw [List.length_append, o1]
          show s.k * 5 + 5 = _
          omega
        · show (s.cs ++ cdL (tkS zs[j])).all (af 8) = true
          rw [List.all_append, o3]; rfl
        · show s.k + 1 + (zs.length - (s.i + 1).toNat) ≤ _
          omega
      · show zs.length - (s.i + 1).toNat < zs.length - j
        omega
      · show cnF false _ (zs.drop (s.i + 1).toNat) = cond (tkE zs[j] != 0) _ (cnF false _ _)
        rw [ht, show (s.i + 1).toNat = j + 1 by omega]; rfl
  · have er : (cnStep s.off zs (z, s)).run = some (.inr (false, z, s)) := by
      unfold cnStep
      simp only
      rw [decide_eq_false (show ¬ s.i < s.n' by rw [gn]; exact hi), run_br, cond_false]
      simp only [run_bind, hzz, Option.bind_some, run_pure]
    rw [er]
    show (false, z, s) = cnF z s (zs.drop s.i.toNat)
    rw [List.drop_eq_nil_of_le (by omega)]; rfl
set_option maxRecDepth 100000 in
theorem l_cn {gl : Gl} (hgl : Low gl) (hF : GlF gl) {j : Nat} (hj : j < 16) {zs : List Int} {off : Nat} (hW : GlW gl (903 + j) off zs) : LpOK Tryz.prog gl 39 0 ⟨[39, 10, 37, 1, 3, 4, 38, 8, 9], [10, 1, 3, 4, 8, 9], hLp 3 (cnT (903 + j)).dec (cnSp off zs) (cnW)⟩ := loop_sp (st := cnStep off zs) goodT hgl tglob (cnT (903 + j)).ok (by decide) (cnSp_ok off zs) fun s => match s with
  | (true, s) => ⟨syW (903 + j) off zs [], Htk, 100, 40, 40, [], fun _ => [], syW_ok (by omega) hW, Htk_ok hF hgl, (by match j, hj with
  | 0, _ => (show _ = _; kernel_rfl)
  | 1, _ => (show _ = _; kernel_rfl)
  | 2, _ => (show _ = _; kernel_rfl)
  | 3, _ => (show _ = _; kernel_rfl)
  | 4, _ => (show _ = _; kernel_rfl)
  | 5, _ => (show _ = _; kernel_rfl)
  | 6, _ => (show _ = _; kernel_rfl)
  | 7, _ => (show _ = _; kernel_rfl)
  | 8, _ => (show _ = _; kernel_rfl)
  | 9, _ => (show _ = _; kernel_rfl)
  | 10, _ => (show _ = _; kernel_rfl)
  | 11, _ => (show _ = _; kernel_rfl)
  | 12, _ => (show _ = _; kernel_rfl)
  | 13, _ => (show _ = _; kernel_rfl)
  | 14, _ => (show _ = _; kernel_rfl)
  | 15, _ => (show _ = _; kernel_rfl)
  | n + 16, h => exact absurd h (by omega))⟩
  | (false, s) => ⟨syW (903 + j) off zs [], Htk, 100, 40, 40, [], fun _ => [], syW_ok (by omega) hW, Htk_ok hF hgl, (by match j, hj with
  | 0, _ => (show _ = _; kernel_rfl)
  | 1, _ => (show _ = _; kernel_rfl)
  | 2, _ => (show _ = _; kernel_rfl)
  | 3, _ => (show _ = _; kernel_rfl)
  | 4, _ => (show _ = _; kernel_rfl)
  | 5, _ => (show _ = _; kernel_rfl)
  | 6, _ => (show _ = _; kernel_rfl)
  | 7, _ => (show _ = _; kernel_rfl)
  | 8, _ => (show _ = _; kernel_rfl)
  | 9, _ => (show _ = _; kernel_rfl)
  | 10, _ => (show _ = _; kernel_rfl)
  | 11, _ => (show _ = _; kernel_rfl)
  | 12, _ => (show _ = _; kernel_rfl)
  | 13, _ => (show _ = _; kernel_rfl)
  | 14, _ => (show _ = _; kernel_rfl)
  | 15, _ => (show _ = _; kernel_rfl)
  | n + 16, h => exact absurd h (by omega))⟩
end Go.Proofs.YtpckfdopokmbkaaGreatDoor.Ev

namespace Go.Proofs.YtpckfdopokmbkaaGreatDoor.Ev
open Go
open Go.Proofs Go.RowKit

/-! A core made anew: whether. -/
abbrev ggL (r : Rws) (x : Cfg × Int) : Bool := planOk x.1 && (isMemN r x.1.blocks && (decide (0 ≤ x.2) && decide (x.2 < x.1.cores)))
def HCnN : Hs := hsOf [(20, afC ttC fun c => .int .i64 (mayE c))] [(54, hdM dec0 (fun r _ => isMem r) (fun r _ => .int .i64 ((mOf r).n : Int)) fun r _ => r), (59, hdN decCi nrOk (fun _ => 0) (fun x => nearN x.1 x.2)), (60, hdNM decLg ggL (fun _ _ => 0) fun _ x => lgN x.1 x.2)] []
theorem HCnN_ok {gl : Gl} (hgl : Low gl) : HCnN.OK Tryz.prog gl := hsOf_ok (fxC (fn_pMay hgl) fx0) (sxC (sub_mBlk hgl) (sxC (sub_nrNew hgl) (sxC (sub_lgNew hgl) sx0))) fun _ h => nomatch h
def Hs.addL (H : Hs) (f : FuncId) (n : Nat) (h : LoopH) : Hs := { H with hl := fun g m => cond (Nat.beq g f && Nat.beq m n) (some h) (H.hl g m) }
theorem Hs.addL_ok {gl : Gl} {H : Hs} (hH : H.OK Tryz.prog gl) {f : FuncId} {n : Nat} {h : LoopH} (hl : LpOK Tryz.prog gl f n h) : (H.addL f n h).OK Tryz.prog gl := by
  refine ⟨hH.mf, hH.hf, fun g m h' fn body x e => ?_⟩
  simp only [Hs.addL, Bool.cond_eq_ite] at e
  split at e
  · rename_i hc
    simp only [Bool.and_eq_true] at hc
    cases e
    rw [Nat.eq_of_beq_eq_true hc.1, Nat.eq_of_beq_eq_true hc.2]
    exact hl fn body x
  · exact hH.hl g m h' fn body x e
abbrev plD : PlanV := ⟨[], fun v => match v with
  | .tuple ⟨[.pointer (some a), _]⟩ => [.drp a.block]
  | _ => []⟩
def HCnJ (b off : Nat) (zs : List Int) : Hs := HCnN.addL 39 0 ⟨[39, 10, 37, 1, 3, 4, 38, 8, 9], [10, 1, 3, 4, 8, 9], hLp 3 (cnT b).dec (cnSp off zs) cnW⟩
def decCn (b : Nat) : Dec (Cfg × Int × Nat × Nat × Nat) := ⟨fun vs => match vs with
  | [.agg ⟨[.int .i64 a0, .int .i64 a1, .int .i64 a2, .int .i64 a3, .int .i64 a4, .int .i64 a5, .int .i64 a6, .int .i64 a7]⟩, .int .i64 id, .slice (some a) n cap, .pointer (some p)] => cond (isSl a b && isP p 1000) (some (⟨a0, a1, a2, a3, a4, a5, a6, a7⟩, id, a.off, n, cap)) none
  | _ => none, fun x => [cfgV x.1, .int .i64 x.2.1, wSl' b x.2.2.1 x.2.2.2.1 x.2.2.2.2, pK 1000], fun vs x h => by
  split at h
  · rename_i a n cap p
    obtain ⟨h1, h2⟩ := condT h
    cases h2
    simp only [Bool.and_eq_true] at h1
    rw [isP_t h1.2]
    conv => lhs; rw [isSl_t h1.1]
    rfl
  · cases h⟩
def mrL : Lay Rws := ⟨fun r => match r with
  | [some (.box (.raw m) [])] => some m
  | _ => none, fun m => [some (.box (.raw m) [])], fun r s h => by
  split at h
  · cases h; rfl
  · cases h⟩
def cn0 (m : Rws) (x : Cfg × Int × Nat × Nat × Nat) : Bool × CnS := (true, ⟨0, x.2.1, (x.2.2.2.1 : Int), x.1, x.2.2.1, x.2.2.2.1, x.2.2.2.2, m, w0, 0, 0, false, 0, x.2.1, x.1, 0, 0, []⟩)
abbrev Cfg.l0 (c : Cfg) : List Int := [c.cores, c.sets, c.ways, c.blocks, c.logs, c.backs, c.nest, c.tries]
def cnEnd (r : CnB) : DT (Bool × Rws) := do
  cond r.2.1 (pure ()) (chk (r.2.2.cs.all (af 8) && true))
  cond r.1 (pure (false, r.2.2.m)) (do
    chk (nrOk (r.2.2.c2, r.2.2.id))
    chk (ggL r.2.2.m (r.2.2.c2, r.2.2.id))
    pure (true, r.2.2.m))
def cnNew (off' : Nat) (zs : List Int) (m : Rws) (x : Cfg × Int × Nat × Nat × Nat) : DT (Bool × Rws) := .br (mayE x.1 != 0) (do qsD x.1.l0; pure (false, m)) (.br (decide ((x.2.2.2.1 : Int) > 1024)) (do qsD ((x.2.2.2.1 : Int) :: x.1.l0); pure (false, m)) (do
  chk (isMem m)
  .br (((mOf m).n : Int) != x.1.blocks) (do qsD (x.1.blocks :: x.1.blocks :: (x.2.2.2.1 : Int) :: x.1.l0); pure (false, m)) (do
    qsD (x.1.blocks :: x.1.blocks :: (x.2.2.2.1 : Int) :: x.1.l0)
    let r ← cnSp off' zs (cn0 m x)
    cnEnd r)))
def cnO (b : Bool × Rws) : Out := cond b.1 (.normal, [.tuple #[pK 1001, .int .i64 0]], [some (.box (.raw b.2) []), none]) (.normal, [.tuple #[.pointer none, .int .i64 2]], [some (.box (.raw b.2) [])])
theorem HCnJ_ok {gl : Gl} (hF : GlF gl) (hgl : Low gl) {j : Nat} (hj : j < 16) {zs : List Int} {off : Nat} (hW : GlW gl (903 + j) off zs) : (HCnJ (903 + j) off zs).OK Tryz.prog gl := Hs.addL_ok (HCnN_ok hgl) (l_cn hgl hF hj hW)
set_option maxRecDepth 100000 in
theorem s_cn {gl : Gl} (hgl : Low gl) (hF : GlF gl) {j : Nat} (hj : j < 16) {zs : List Int} {off : Nat} (hW : GlW gl (903 + j) off zs) : SubOK Tryz.prog gl 39 (hA (mrL) (decCn (903 + j)) (cnNew off zs) (cnO)) := hA_sub hgl fun k x => ⟨syG [], HCnJ (903 + j) off zs, plD, syG_ok _, HCnJ_ok hF hgl hj hW, (by match j, hj with
  | 0, _ => (show _ = _; kernel_rfl)
  | 1, _ => (show _ = _; kernel_rfl)
  | 2, _ => (show _ = _; kernel_rfl)
  | 3, _ => (show _ = _; kernel_rfl)
  | 4, _ => (show _ = _; kernel_rfl)
  | 5, _ => (show _ = _; kernel_rfl)
  | 6, _ => (show _ = _; kernel_rfl)
  | 7, _ => (show _ = _; kernel_rfl)
  | 8, _ => (show _ = _; kernel_rfl)
  | 9, _ => (show _ = _; kernel_rfl)
  | 10, _ => (show _ = _; kernel_rfl)
  | 11, _ => (show _ = _; kernel_rfl)
  | 12, _ => (show _ = _; kernel_rfl)
  | 13, _ => (show _ = _; kernel_rfl)
  | 14, _ => (show _ = _; kernel_rfl)
  | 15, _ => (show _ = _; kernel_rfl)
  | n + 16, h => exact absurd h (by omega))⟩
end Go.Proofs.YtpckfdopokmbkaaGreatDoor.Ev

namespace Go.Proofs.YtpckfdopokmbkaaGreatDoor.Ev
open Go
open Go.Proofs Go.RowKit

/-! Images and cores, in closed form. -/
theorem hA_weak {gl : Gl} {f : FuncId} {S A B : Type} {L : Lay S} {D : Dec A} {sp sp' : S → A → DT B} {w : B → Out} (hs : SubOK Tryz.prog gl f (hA L D sp w)) (h : ∀ k x b, (sp' k x).run = some b → (sp k x).run = some b) : SubOK Tryz.prog gl f (hA L D sp' w) := by
  intro vs rows t e v rows' h1 h2
  obtain ⟨q, b, h3, h4, h5⟩ := hS_run (show hS _ _ _ vs rows = some t from h1) h2
  refine hs vs rows ((sp q.1 q.2).map w) e v rows' ?_ ?_
  · show (hAd L D vs rows).map _ = _
    rw [h3]; rfl
  · rw [DT.run_map, h _ _ _ h4, ← h5]; rfl
/-- One or the other. -/
def hOr (h k : Hd) : Hd := fun vs rows => match h vs rows with
  | some t => some t
  | none => k vs rows
theorem SubOK.or {gl : Gl} {f : FuncId} {h k : Hd} (h1 : SubOK Tryz.prog gl f h) (h2 : SubOK Tryz.prog gl f k) : SubOK Tryz.prog gl f (hOr h k) := by
  intro vs rows t e v rows' e1 e2
  unfold hOr at e1
  cases he : h vs rows with
  | some u => rw [he] at e1; cases e1; exact h1 vs rows _ e v rows' he e2
  | none => rw [he] at e1; exact h2 vs rows t e v rows' e1 e2
def okW (zs : List Int) : Bool := zs.all fun x => tkE x == 0
def wrdB : List Int → List Value
  | [] => []
  | x :: l => by4 x ++ wrdB l
theorem ipF_eq : ∀ (zs : List Int) (z : Bool) (s : By), (ipF z s zs).1 = !okW zs ∧ (okW zs = true → ∃ z', ipF z s zs = (false, z', s.add (wrdB zs)) ∨ (zs = [] ∧ ipF z s zs = (false, z', s)))
  | [], z, s => ⟨rfl, fun _ => ⟨z, .inr ⟨rfl, rfl⟩⟩⟩
  | x :: l, z, s => by
    obtain ⟨h1, h2⟩ := ipF_eq l false (s.add (by4 x))
    show (cond (tkE x != 0) _ _ : IpB).1 = !((tkE x == 0) && okW l) ∧ _
    cases hx : tkE x == 0 with
    | false =>
      have : (tkE x != 0) = true := by unfold bne; rw [hx]; rfl
      refine ⟨by rw [this]; rfl, fun h => ?_⟩
      have : ((tkE x == 0) && okW l) = true := h
      rw [hx] at this; cases this
    | true =>
      have hb : (tkE x != 0) = false := by unfold bne; rw [hx]; rfl
      refine ⟨by rw [hb]; exact h1, fun h => ?_⟩
      have hl : ((tkE x == 0) && okW l) = true := h
      rw [hx, Bool.true_and] at hl
      obtain ⟨z', h3⟩ := h2 hl
      show ∃ z', (cond (tkE x != 0) _ (ipF false (s.add (by4 x)) l) : IpB) = _ ∨ _
      rw [hb, cond_false]
      rcases h3 with h3 | ⟨rfl, h3⟩
      · exact ⟨z', .inl (by rw [h3, add_add]; rfl)⟩
      · exact ⟨z', .inl (by rw [h3]; rfl)⟩
theorem ipF_af : ∀ (zs : List Int) (z : Bool) (s : By), s.l.all (af 8) = true → (ipF z s zs).2.2.l.all (af 8) = true
  | [], z, s, h => h
  | x :: l, z, s, h => by
    show (cond (tkE x != 0) (true, z, s) (ipF false (s.add (by4 x)) l) : IpB).2.2.l.all (af 8) = true
    cases tkE x != 0 with
    | true => exact h
    | false => exact ipF_af l false _ (by show (s.l ++ by4 x).all (af 8) = true; rw [List.all_append, h]; rfl)
theorem by4_len (x : Int) : (by4 x).length = 4 := rfl
theorem wrdB_len : ∀ zs, (wrdB zs).length = 4 * zs.length
  | [] => rfl
  | x :: l => by simp only [wrdB, List.length_append, by4_len, wrdB_len l, List.length_cons]; omega
/-- All bytes. -/
def isB8 : Value → Bool
  | .int .u8 _ => true
  | _ => false
theorem isB8_eq {v : Value} (h : isB8 v = true) : ∃ n, v = .int .u8 n := by
  unfold isB8 at h
  split at h
  · exact ⟨_, rfl⟩
  · cases h
def isU8 (l : List Value) : Bool := l.all isB8
theorem isU8_af {l : List Value} (h : isU8 l = true) : l.all (af 8) = true := List.all_eq_true.2 fun v hv => by
  obtain ⟨n, rfl⟩ := isB8_eq (List.all_eq_true.1 h v hv)
  rfl
theorem isU8_app {a b : List Value} (ha : isU8 a = true) (hb : isU8 b = true) : isU8 (a ++ b) = true := by unfold isU8 at *; rw [List.all_append, ha, hb]; rfl
theorem bytesL_some : ∀ {l : List Value}, isU8 l = true → ∃ bs, bytesL l = some bs ∧ bs.length = l.length
  | [], _ => ⟨[], rfl, rfl⟩
  | v :: l, h => by
    have h' : (isB8 v && isU8 l) = true := h
    simp only [Bool.and_eq_true] at h'
    obtain ⟨bs, h1, h2⟩ := bytesL_some h'.2
    obtain ⟨n, rfl⟩ := isB8_eq h'.1
    exact ⟨_ :: bs, by unfold bytesL; rw [h1]; rfl, by simp [h2]⟩
theorem wrdB_u8 : ∀ zs, isU8 (wrdB zs) = true
  | [] => rfl
  | _x :: l => isU8_app rfl (wrdB_u8 l)
theorem strOf_size {l : List Value} (h : isU8 l = true) : (strOf l).size = l.length := by
  obtain ⟨bs, h1, h2⟩ := bytesL_some h
  unfold strOf
  rw [h1]
  show bs.toArray.size = _
  simp [h2]
theorem cvS_run {s : By} {k : Nat} (h : byOk s k = true) (hu : isU8 s.l = true) (h1 : 1 ≤ s.n) : (cvS s).run = some (strOf s.l) := by
  obtain ⟨a, b, c, d⟩ := byOk_iff.1 h
  obtain ⟨bs, e1, _⟩ := bytesL_some hu
  unfold cvS
  simp only [run_bind, chk_run]
  have : (Nat.ble 1 s.n && Nat.ble 1 s.c && Nat.beq s.n s.l.length && (bytesL s.l).isSome) = true := by
    rw [nbl h1, nbl (by omega), a, e1]; simp
  rw [this]; rfl
def sumB (l : List Value) : Int := bsF gSum (strOf l) (strOf l).size 0 1
theorem bsSum_run {s : ByteArray} (h : s.size ≤ 1152921504606846975) : (bsSp gSum (0, 1, s, (s.size : Int))).run = some (bsF gSum s s.size 0 1) := by
  unfold bsSp ifT
  show cond (bsG _) _ none = _
  have : bsG (0, 1, s, (s.size : Int)) = true := by
    simp only [bsG, Bool.and_eq_true, decide_eq_true_eq]; omega
  rw [this]
  show some (bsF gSum s ((s.size : Int) - 0).toNat (0 : Int).toNat 1) = _
  rw [show ((s.size : Int) - 0).toNat = s.size by omega]; rfl
/-- A program's image without its sum. -/
def imB (zs : List Int) : List Value := [v8 85, v8 84, v8 1] ++ by2 (IntKind.u32.wrap (zs.length : Int)) ++ wrdB zs
def imF (zs : List Int) : ByteArray × Int := cond (decide (zs.length ≤ 1024) && okW zs) (strOf (imB zs ++ by4 (sumB (imB zs))), 0) (⟨#[]⟩, 2)
theorem imB_len (zs : List Int) : (imB zs).length = 5 + 4 * zs.length := by
  unfold imB
  rw [List.length_append, wrdB_len]; rfl
theorem imB_u8 (zs : List Int) : isU8 (imB zs) = true := isU8_app rfl (wrdB_u8 zs)
theorem ipEnd_run {z : Bool} {zs : List Int} (hn : zs.length ≤ 1024) : (ipEnd (false, z, ⟨5 + 4 * zs.length, 5 + 4 * zs.length, imB zs⟩)).run = some (strOf (imB zs ++ by4 (sumB (imB zs))), 0) := by
  have hu := imB_u8 zs
  have hl := imB_len zs
  have hb : byOk ⟨5 + 4 * zs.length, 5 + 4 * zs.length, imB zs⟩ (0 + 4) = true := byOk_iff.2 ⟨hl, rfl, isU8_af hu, by show 5 + 4 * zs.length + (0 + 4) ≤ _; omega⟩
  have hs := strOf_size hu
  obtain ⟨a1, b1⟩ := numB4_run (x := sumB (imB zs)) hb
  have hu2 : isU8 (imB zs ++ by4 (sumB (imB zs))) = true := isU8_app hu rfl
  unfold ipEnd
  have haf : ((imB zs).all (af 8) && true) = true := by rw [isU8_af hu]; rfl
  simp only [run_bind, chk_run, haf, cond_true, Option.bind_some, cond_false, cvS_run hb hu (show 1 ≤ 5 + 4 * zs.length by omega), bsSum_run (s := strOf (imB zs)) (by rw [hs]; omega)]
  rw [show bsF gSum (strOf (imB zs)) (strOf (imB zs)).size 0 1 = sumB (imB zs) from rfl, a1]
  simp only [Option.bind_some, cvS_run b1 hu2 (show 1 ≤ 5 + 4 * zs.length + 4 by omega), run_pure]
  rfl
def ipGd (off : Nat) (zs : List Int) (x : Nat × Nat × Nat) : Bool := Nat.beq x.1 off && Nat.beq x.2.1 zs.length && Nat.ble zs.length x.2.2 && zs.all wordG
def ipC (off : Nat) (zs : List Int) (x : Nat × Nat × Nat) : DT (ByteArray × Int) := ifT (ipGd off zs x) (imF zs)
theorem ipC_run {off : Nat} {zs : List Int} {x : Nat × Nat × Nat} {b : ByteArray × Int} (h : (ipC off zs x).run = some b) : (ipPut off zs x).run = some b := by
  obtain ⟨h1, rfl⟩ := ifT_run h
  obtain ⟨o, n, cap⟩ := x
  simp only [ipGd, Bool.and_eq_true] at h1
  obtain ⟨⟨⟨g1, g2⟩, g3⟩, g4⟩ := h1
  have g1 := Nat.eq_of_beq_eq_true g1
  have g2 := Nat.eq_of_beq_eq_true g2
  subst g1; subst g2
  unfold ipPut imF
  simp only [run_br]
  by_cases hn : zs.length ≤ 1024
  · rw [decide_eq_false (show ¬ (zs.length : Int) > 1024 by omega), decide_eq_true hn, cond_false, Bool.true_and]
    have hg : ipG o zs (true, ipBs (zs.length : Int), 0, o, zs.length, cap, (zs.length : Int)) = true := by
      simp only [ipG, Bool.and_eq_true, decide_eq_true_eq]
      refine ⟨⟨⟨⟨⟨⟨⟨⟨by simp, by simp⟩, g3⟩, trivial⟩, g4⟩, by omega⟩, by omega⟩, byOk_iff.2 ⟨rfl, rfl, rfl, ?_⟩⟩, nbl (by omega)⟩
      show 5 + 4 * (zs.length - (0 : Int).toNat) ≤ _
      omega
    have hsp : (ipSp o zs (true, ipBs (zs.length : Int), 0, o, zs.length, cap, (zs.length : Int))).run = some (ipF true (ipBs (zs.length : Int)) zs) := by
      unfold ipSp
      rw [run_br, hg, cond_true, spl2_run]; rfl
    rw [run_bind, hsp, Option.bind_some]
    obtain ⟨f1, f2⟩ := ipF_eq zs true (ipBs (zs.length : Int))
    cases hk : okW zs with
    | true =>
      obtain ⟨z', f3⟩ := f2 hk
      have e : ipF true (ipBs (zs.length : Int)) zs = (false, z', ⟨5 + 4 * zs.length, 5 + 4 * zs.length, imB zs⟩) := by
        rcases f3 with f3 | ⟨rfl, f3⟩
        · rw [f3]
          show (false, z', By.mk (5 + (wrdB zs).length) (5 + (wrdB zs).length) _) = _
          rw [wrdB_len]; rfl
        · rw [f3]; rfl
      rw [e, ipEnd_run hn]; rfl
    | false =>
      rw [hk] at f1
      have f4 := ipF_af zs true (ipBs (zs.length : Int)) rfl
      generalize ipF true (ipBs (zs.length : Int)) zs = r at f1 f4
      obtain ⟨r1, r2, r3⟩ := r
      have f1 : r1 = true := f1
      subst f1
      have f4 : r3.l.all (af 8) = true := f4
      unfold ipEnd
      simp only [run_bind, chk_run, f4, Bool.and_self, cond_true, Option.bind_some, run_pure]; rfl
  · rw [decide_eq_true (show (zs.length : Int) > 1024 by omega), decide_eq_false hn]; rfl

theorem s_iputC {gl : Gl} (hgl : Low gl) (hF : GlF gl) {j : Nat} (hj : j < 16) {zs : List Int} {off : Nat} (hW : GlW gl (903 + j) off zs) : SubOK Tryz.prog gl 14 (hA noL (decSl (903 + j)) (fun _ => ipC off zs) ipO) := hA_weak (s_iput hgl hF hj hW) fun _ _ _ h => ipC_run h
def HPutN : Hs := hsOf [] [(26, afSum)] []
theorem HPutN_ok {gl : Gl} (hgl : Low gl) : HPutN.OK Tryz.prog gl := hsOf_ok fx0 (sxC (s_sum hgl) sx0) fun _ h => nomatch h
set_option maxRecDepth 100000 in
theorem s_iputN0 {gl : Gl} (hgl : Low gl)  : SubOK Tryz.prog gl 14 (hA (noL) (decNil) (fun _ _ => ipEnd (false, true, ipBs 0)) (ipO)) := hA_sub hgl fun k x => ⟨syG [], HPutN, noV, syG_ok _, HPutN_ok hgl, by kernel_rfl⟩
theorem s_iputN {gl : Gl} (hgl : Low gl) : SubOK Tryz.prog gl 14 (hA noL decNil (fun _ _ => pure (imF [])) ipO) := hA_weak (s_iputN0 hgl) fun _ _ b h => by
  rw [← h]
  exact ipEnd_run (zs := []) (z := true) (by decide)
/-! Cores. -/
theorem cnF_inv : ∀ (zs : List Int) (z : Bool) (s : CnS), (cnF z s zs).1 = (!okW zs) ∧ (cnF z s zs).2.2.m = s.m ∧ (cnF z s zs).2.2.c2 = s.c2 ∧ (cnF z s zs).2.2.id = s.id ∧ (s.cs.all (af 8) = true → (cnF z s zs).2.2.cs.all (af 8) = true)
  | [], z, s => ⟨rfl, rfl, rfl, rfl, fun h => h⟩
  | x :: l, z, s => by
    have ih := cnF_inv l false { s with i := s.i + 1, k := s.k + 1, kc := s.k + 1, cs := s.cs ++ cdL (tkS x) }
    have e : cnF z s (x :: l) = cond (tkE x != 0) (true, z, s) (cnF false { s with i := s.i + 1, k := s.k + 1, kc := s.k + 1, cs := s.cs ++ cdL (tkS x) } l) := rfl
    have eo : okW (x :: l) = ((tkE x == 0) && okW l) := rfl
    rw [e, eo]
    cases hx : tkE x == 0 with
    | false =>
      have hb : (tkE x != 0) = true := by unfold bne; rw [hx]; rfl
      rw [hb]
      exact ⟨rfl, rfl, rfl, rfl, fun h => h⟩
    | true =>
      have hb : (tkE x != 0) = false := by unfold bne; rw [hx]; rfl
      rw [hb, cond_false, Bool.true_and]
      obtain ⟨h1, h2, h3, h4, h5⟩ := ih
      exact ⟨h1, h2, h3, h4, fun h => h5 (by show (s.cs ++ cdL (tkS x)).all (af 8) = true; rw [List.all_append, h]; rfl)⟩
def cnGd (m : Rws) (c : Cfg) (id : Int) (zs : List Int) : Bool := planOk c && isMemN m c.blocks && (decide (0 ≤ id) && decide (id < c.cores)) && zs.all wordG
def cnRs (zs : List Int) : Bool := decide (zs.length ≤ 1024) && okW zs
def cnC (m : Rws) (c : Cfg) (id : Int) (zs : List Int) : DT (Bool × Rws) := .br (cnGd m c id zs) (do let b ← bl (cnRs zs); pure (b, m)) .fail
def cnSl (off : Nat) (zs : List Int) (x : Nat × Nat × Nat) : Bool := Nat.beq x.1 off && Nat.beq x.2.1 zs.length && Nat.ble zs.length x.2.2
theorem cnC_run {off : Nat} {zs : List Int} {m : Rws} {x : Cfg × Int × Nat × Nat × Nat} {b : Bool × Rws} (h : (DT.br (cnSl off zs x.2.2) (cnC m x.1 x.2.1 zs) .fail).run = some b) : (cnNew off zs m x).run = some b := by
  obtain ⟨h0, h⟩ := condT (show cond (cnSl off zs x.2.2) (cnC m x.1 x.2.1 zs).run none = some b from h)
  obtain ⟨h1, h2⟩ := condT (show cond (cnGd m x.1 x.2.1 zs) _ none = some b from h)
  obtain ⟨c, id, o, n, cap⟩ := x
  simp only [cnGd, cnSl, isMemN, Bool.and_eq_true] at h0 h1
  obtain ⟨⟨g1, g2⟩, g3⟩ := h0
  obtain ⟨⟨⟨p1, p2, p3⟩, p4, p5⟩, p6⟩ := h1
  have g1 := Nat.eq_of_beq_eq_true g1
  have g2 := Nat.eq_of_beq_eq_true g2
  subst g1; subst g2
  have em : mayE c = 0 := mayE_t p1
  have eb : (((mOf m).n : Int) != c.blocks) = false := by rw [eq_of_beq p3]; exact bneI_self _
  unfold cnNew
  simp only [run_br]
  rw [em]
  show cond ((0 : Int) != 0) _ _ = _
  rw [show ((0 : Int) != 0) = false from rfl, cond_false]
  have eR : (do let b ← bl (cnRs zs); pure (b, m) : DT (Bool × Rws)).run = some (cnRs zs, m) := by cases cnRs zs <;> rfl
  have h2 : (do let b ← bl (cnRs zs); pure (b, m) : DT (Bool × Rws)).run = some b := h2
  rw [eR] at h2
  cases h2
  unfold cnRs
  by_cases hn : zs.length ≤ 1024
  · rw [decide_eq_false (show ¬ (zs.length : Int) > 1024 by omega), decide_eq_true hn, cond_false, Bool.true_and]
    have hg : cnG o zs (cn0 m (c, id, o, zs.length, cap)) = true := by
      simp only [cnG, cn0, Bool.and_eq_true, decide_eq_true_eq]
      refine ⟨⟨⟨⟨⟨⟨⟨⟨⟨by simp, by simp⟩, g3⟩, trivial⟩, p6⟩, by simp⟩, by simp⟩, cnOk_iff.2 ⟨rfl, rfl, rfl, ?_⟩⟩, nbl (by omega)⟩, rfl⟩
      show 0 + (zs.length - (0 : Int).toNat) ≤ _
      omega
    have hsp : (cnSp o zs (cn0 m (c, id, o, zs.length, cap))).run = some (cnF true (cn0 m (c, id, o, zs.length, cap)).2 zs) := by
      unfold cnSp
      rw [run_br, hg, cond_true, spl2_run]; rfl
    simp only [run_bind, chk_run, p2, cond_true, Option.bind_some, run_br, eb, cond_false, qsD_run, hsp]
    obtain ⟨f1, f2, f3, f4, f5⟩ := cnF_inv zs true (cn0 m (c, id, o, zs.length, cap)).2
    have f5 := f5 rfl
    generalize cnF true (cn0 m (c, id, o, zs.length, cap)).2 zs = r at f1 f2 f3 f4 f5
    obtain ⟨r1, r2, r3⟩ := r
    have q1 : r1 = !okW zs := f1
    have q2 : r3.m = m := f2
    have q3 : r3.c2 = c := f3
    have q4 : r3.id = id := f4
    have q5 : (r3.cs.all (af 8) && true) = true := by rw [show r3.cs.all (af 8) = true from f5]; rfl
    clear f1 f2 f3 f4 f5
    subst q1
    unfold cnEnd
    have e1 : (cond r2 (pure ()) (chk (r3.cs.all (af 8) && true)) : DT Unit).run = some () := by
      cases r2 with
      | true => rfl
      | false => rw [q5]; rfl
    have e2 : nrOk (c, id) = true := andI p1 (andI p4 p5)
    have e3 : ggL m (c, id) = true := andI p1 (andI (andI p2 p3) (andI p4 p5))
    simp only [run_bind, e1, Option.bind_some]
    cases hk : okW zs with
    | true => simp only [Bool.not_true, cond_false, run_bind, chk_run, q2, q3, q4, e2, e3, cond_true, Option.bind_some, run_pure]
    | false => simp only [Bool.not_false, cond_true, run_pure, q2]
  · rw [decide_eq_true (show (zs.length : Int) > 1024 by omega), decide_eq_false hn, cond_true, run_bind, qsD_run]; rfl
theorem s_cnC {gl : Gl} (hgl : Low gl) (hF : GlF gl) {j : Nat} (hj : j < 16) {zs : List Int} {off : Nat} (hW : GlW gl (903 + j) off zs) : SubOK Tryz.prog gl 39 (hA mrL (decCn (903 + j)) (fun m x => .br (cnSl off zs x.2.2) (cnC m x.1 x.2.1 zs) .fail) cnO) := hA_weak (s_cn hgl hF hj hW) fun _ _ _ h => cnC_run h
def decCnN : Dec (Cfg × Int) := ⟨fun vs => match vs with
  | [.agg ⟨[.int .i64 a0, .int .i64 a1, .int .i64 a2, .int .i64 a3, .int .i64 a4, .int .i64 a5, .int .i64 a6, .int .i64 a7]⟩, .int .i64 id, .slice none 0 0, .pointer (some p)] => cond (isP p 1000) (some (⟨a0, a1, a2, a3, a4, a5, a6, a7⟩, id)) none
  | _ => none, fun x => [cfgV x.1, .int .i64 x.2, .slice none 0 0, pK 1000], fun vs x h => by
  split at h
  · obtain ⟨h1, h2⟩ := condT h
    cases h2
    rw [isP_t h1]
    rfl
  · cases h⟩
def cnNewN (m : Rws) (x : Cfg × Int) : DT (Bool × Rws) := .br (mayE x.1 != 0) (do qsD x.1.l0; pure (false, m)) (do
  chk (isMem m)
  .br (((mOf m).n : Int) != x.1.blocks) (do qsD (x.1.blocks :: x.1.blocks :: x.1.l0); pure (false, m)) (do
    qsD (x.1.blocks :: x.1.blocks :: x.1.l0)
    chk (nrOk (x.1, x.2))
    chk (ggL m (x.1, x.2))
    pure (true, m)))
set_option maxRecDepth 100000 in
theorem s_cnN0 {gl : Gl} (hgl : Low gl)  : SubOK Tryz.prog gl 39 (hA (mrL) (decCnN) (cnNewN) (cnO)) := hA_sub hgl fun k x => ⟨syG [], HCnN, plD, syG_ok _, HCnN_ok hgl, by kernel_rfl⟩
theorem s_cnN {gl : Gl} (hgl : Low gl) : SubOK Tryz.prog gl 39 (hA mrL decCnN (fun m x => cnC m x.1 x.2 []) cnO) := hA_weak (s_cnN0 hgl) fun m x b h => by
  obtain ⟨h1, h2⟩ := condT (show cond (cnGd m x.1 x.2 []) _ none = some b from h)
  obtain ⟨c, id⟩ := x
  cases h2
  simp only [cnGd, isMemN, Bool.and_eq_true] at h1
  obtain ⟨⟨⟨p1, p2, p3⟩, p4, p5⟩, _⟩ := h1
  have em : mayE c = 0 := mayE_t p1
  have eb : (((mOf m).n : Int) != c.blocks) = false := by rw [eq_of_beq p3]; exact bneI_self _
  have e2 : nrOk (c, id) = true := andI p1 (andI p4 p5)
  have e3 : ggL m (c, id) = true := andI p1 (andI (andI p2 p3) (andI p4 p5))
  unfold cnNewN
  simp only [run_br]
  rw [em, show ((0 : Int) != 0) = false from rfl, cond_false]
  simp only [run_bind, chk_run, p2, cond_true, Option.bind_some, run_br, eb, cond_false, qsD_run, e2, e3, run_pure]
end Go.Proofs.YtpckfdopokmbkaaGreatDoor.Ev
