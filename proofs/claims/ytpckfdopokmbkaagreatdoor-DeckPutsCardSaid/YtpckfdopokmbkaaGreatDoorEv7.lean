/- An evaluator of closed calls, with its proof: part 7: calls and loops whose numbers are not known. No condition. -/
import Derived.Test.YtpckfdopokmbkaaGreatDoorEv6
noncomputable section
namespace Go.Proofs.YtpckfdopokmbkaaGreatDoor.Ev
open Go
open Go.RowKit

/-! ### Parts of a program that are answered by functions of what they are handed: calls and loops -/
inductive DT (α : Type) where
  | ret (a : α)
  | br (b : Bool) (x y : DT α)
  | fail
def DT.run {α : Type} : DT α → Option α
  | .ret a => some a
  | .br b x y => cond b x.run y.run
  | .fail => none
def DT.runK {α R : Type} (k : α → Option R) : DT α → Option R
  | .ret a => k a
  | .br b x y => cond b (x.runK k) (y.runK k)
  | .fail => none
theorem DT.runK_ok {α R : Type} : ∀ t : DT α, KI (R := R) t.run (fun k => t.runK k)
  | .ret a => fun _ _ h => ⟨a, rfl, h⟩
  | .br b x y => fun k r h => by
    cases b with
    | true => exact DT.runK_ok x k r h
    | false => exact DT.runK_ok y k r h
  | .fail => fun _ _ h => by cases h

abbrev Out := Ex × List Value × List (Option LObj)
/-- What answers: values and rows; the end, values and rows, by cases. -/
abbrev Hd := List Value → List (Option LObj) → Option (DT Out)
structure LoopH where
  live : List Nat
  out : List Nat
  run : Hd

noncomputable section
variable {P : Program} {gl : Gl} {ext : Ext} {φ φ1 : Phi} {σ σ1 : LS} {w w1 : World} {N : Nat}

def embF (P : Program) (h : Hd) (args : List Value) (σ : LS) : Option (Option (Ex × List Value × LS)) :=
  (entryG P args σ).bind fun q => (h q.2.2.1 q.2.2.2).map fun t => cond q.1 (t.run.bind fun o => (backG P q.2.1 σ o.2.1 o.2.2).bind fun b => cond b.1 (some (o.1, b.2.1, b.2.2)) none) none
def embK {R : Type} (P : Program) (h : Hd) (args : List Value) (σ : LS) (fb : Option R) (k : Ex × List Value × LS → Option R) : Option R := match entryG P args σ with
  | none => fb
  | some q => (match h q.2.2.1 q.2.2.2 with
    | none => fb
    | some t => cond q.1 (t.runK fun o => (backG P q.2.1 σ o.2.1 o.2.2).bind fun b => cond b.1 (k (o.1, b.2.1, b.2.2)) none) none)

/-- How the slots of a list stand. -/
structure LiveR (φ : Phi) (N : Nat) (ts : List Nat) (vs : List Value) (a : Act) : Prop where
  size : a.tmps.size = N
  len : ts.length = vs.length
  get : ∀ (i : Nat) t v, ts[i]? = some t → vs[i]? = some v → ∃ v', a.tmps[t]? = some v' ∧ VR φ v v'

/-- What is said of a function that answers a call. -/
def SubOK (P : Program) (gl : Gl) (f : FuncId) (h : Hd) : Prop := ∀ vs rows t e v rows', h vs rows = some t → t.run = some (e, [v], rows') → ∀ φ w (args' : Array Value), Rel P gl φ (rowsOf rows) w → LR φ vs args'.toList →
  Calls P f args' w (fun e w1 => ∃ v' φ1, e = .returned v' ∧ Tr P gl φ (rowsOf rows) w φ1 (rowsOf rows') w1 ∧ VR φ1 v v')
/-- What is said of a function that answers a loop. -/
def LoopOK (P : Program) (gl : Gl) (N : Nat) (x : Code) (h : LoopH) : Prop := ∀ vs rows t e vs' rows', h.run vs rows = some t → t.run = some (e, vs', rows') → ∀ (Q : Exit → Act → World → Prop) φ w (a : Act), Rel P gl φ (rowsOf rows) w → LiveR φ N h.live vs a → a.defers = [] →
  (∀ φ1 a1 w1, Tr P gl φ (rowsOf rows) w φ1 (rowsOf rows') w1 → LiveR φ1 N h.out vs' a1 → a1.defers = [] → Q e.to a1 w1) → (Code.loop x).wpIn (fw none) 0 P Q a w

theorem embF_spec {h : Hd} {args : List Value} {r : Option (Ex × List Value × LS)} (he : embF P h args σ = some r) {e : Ex} {vs2 : List Value} {σ2 : LS} (hr : r = some (e, vs2, σ2)) :
    ∃ ids vs rows t vs' rows', entryG P args σ = some (true, ids, vs, rows) ∧ h vs rows = some t ∧ t.run = some (e, vs', rows') ∧ backG P ids σ vs' rows' = some (true, vs2, σ2) := by
  subst hr
  unfold embF at he
  obtain ⟨⟨c, ids, vs, rows⟩, h1, h2⟩ := Option.bind_eq_some_iff.1 he
  obtain ⟨t, h3, h4⟩ := Option.map_eq_some_iff.1 h2
  simp only at h3 h4
  obtain ⟨c1, h5⟩ := condT h4
  subst c1
  obtain ⟨⟨e', vs', rows'⟩, h6, h7⟩ := Option.bind_eq_some_iff.1 h5
  obtain ⟨⟨d, u, σ3⟩, h8, h9⟩ := Option.bind_eq_some_iff.1 h7
  simp only at h8 h9
  obtain ⟨c2, h10⟩ := condT h9
  subst c2
  cases h10
  exact ⟨ids, vs, rows, t, vs', rows', h1, h3, h6, h8⟩

theorem renL_len {f : Value → Option Value} {l m : List Value} (h : renL f l = some m) : m.length = l.length := (renL_spec h).1

theorem sub_call (hgl : ∀ g k v, gl g k = some v → g < 1000 ∧ lowV 8 v = true) (hn : P.globals.size ≤ 900) {f : FuncId} {h : Hd} (hs : SubOK P gl f h) {args : List Value} {e : Ex} {v : Value} {σ2 : LS} (he : embF P h args σ = some (some (e, [v], σ2)))
    {args' : Array Value} (hr : Rel P gl φ σ w) (hl : LR φ args args'.toList) : Calls P f args' w (fun e w1 => ∃ v' φ1, e = .returned v' ∧ Tr P gl φ σ w φ1 σ2 w1 ∧ VR φ1 v v') := by
  obtain ⟨ids, vs, rows, t, vs', rows', h1, h2, h3, h4⟩ := embF_spec he rfl
  obtain ⟨hE, hv⟩ := entryG_spec h1
  have hrc := hr.entry hgl hn hE
  have hlc : LR (phiC φ ids) vs args'.toList := renL_LR rn_ok hv hl
  have hl1 : vs'.length = 1 := by
    unfold backG at h4
    rw [Bool.cond_eq_ite] at h4
    split at h4
    · obtain ⟨u, hu, h5⟩ := Option.bind_eq_some_iff.1 h4
      obtain ⟨q, _, h6⟩ := Option.map_eq_some_iff.1 h5
      simp only [Prod.mk.injEq] at h6
      have := renL_len hu
      rw [h6.2.1] at this
      simpa using this.symm
    · cases h4
  obtain ⟨v0, rfl⟩ : ∃ v0, vs' = [v0] := by
    match vs', hl1 with
    | [v0], _ => exact ⟨v0, rfl⟩
  refine Calls.mono (hs vs rows t e v0 rows' h2 h3 (phiC φ ids) w args' hrc hlc) ?_
  rintro e' w1 ⟨v', φ1, rfl, ht, hvr⟩
  obtain ⟨t2, hren⟩ := Tr.back hgl hn hr hE ht h4
  refine ⟨v', _, rfl, t2, ?_⟩
  have hR : LR _ [v] [v'] := renL_LR (bk_ok hr hE ht) hren (LR.cons hvr (LR.nil _))
  exact hR.2 0 v v' rfl rfl

def slotsL (s : Slots) : List Nat → Option (List Value)
  | [] => some []
  | t :: l => (s.get t).bind fun v => (slotsL s l).map fun m => v :: m
def putL (N : Nat) : List Nat → List Value → Slots → Option Slots
  | t :: ts, v :: vs, s => (putS N s (some t) v).bind fun s1 => putL N ts vs s1
  | [], [], s => some s
  | _, _, _ => none
theorem slotsL_spec {s : Slots} : ∀ {l : List Nat} {m : List Value}, slotsL s l = some m → l.length = m.length ∧ ∀ (i : Nat) t v, l[i]? = some t → m[i]? = some v → s.get t = some v
  | [], m, h => by cases h; exact ⟨rfl, by simp⟩
  | t :: l, m, h => by
    simp only [slotsL, Option.bind_eq_some_iff, Option.map_eq_some_iff] at h
    obtain ⟨v, hv, m', hm, rfl⟩ := h
    obtain ⟨h1, h2⟩ := slotsL_spec hm
    refine ⟨by simp [h1], fun i t' v' g1 g2 => ?_⟩
    cases i with
    | zero => simp at g1 g2; subst g1; subst g2; exact hv
    | succ i => exact h2 i t' v' (by simpa using g1) (by simpa using g2)
theorem putL_get : ∀ {ts : List Nat} {vs : List Value} {s s1 : Slots}, putL N ts vs s = some s1 → ts.length = vs.length ∧ ∀ t v, s1.get t = some v → (∃ i : Nat, ts[i]? = some t ∧ vs[i]? = some v) ∨ s.get t = some v
  | [], [], s, s1, h => by cases h; exact ⟨rfl, fun t v hv => .inr hv⟩
  | [], _ :: _, _, _, h => by cases h
  | _ :: _, [], _, _, h => by cases h
  | t0 :: ts, v0 :: vs, s, s1, h => by
    simp only [putL, Option.bind_eq_some_iff] at h
    obtain ⟨s2, h1, h2⟩ := h
    obtain ⟨e, h3⟩ := putL_get h2
    refine ⟨by simp [e], fun t v hv => ?_⟩
    rcases h3 t v hv with ⟨i, g1, g2⟩ | g
    · exact .inl ⟨i + 1, by simpa using g1, by simpa using g2⟩
    · simp only [putS, Bool.cond_eq_ite] at h1
      split at h1
      · rename_i hc
        simp only [Bool.and_eq_true] at hc
        cases h1
        rw [PT.get_put _ _ _ _ _ (show t0 < most from Nat.le_of_ble_eq_true hc.2)] at g
        by_cases e0 : t0 = t
        · subst e0
          rw [if_pos rfl] at g
          cases g
          exact .inl ⟨0, rfl, rfl⟩
        · rw [if_neg e0] at g
          exact .inr g
      · cases h1

def loopHF (E : Env) (h : LoopH) : CodeF := fun s σ ms => match ms with
  | [] => (slotsL s h.live).bind fun args => (match embF E.P h.run args σ with
    | some r => r.bind fun o => (putL E.N h.out o.2.1 .nil).map fun s1 => (o.1, s1, o.2.2, [])
    | none => none)
  | _ :: _ => none

theorem loopH_sound (hgl : ∀ g k v, gl g k = some v → g < 1000 ∧ lowV 8 v = true) (hn : P.globals.size ≤ 900) {x : Code} {h : LoopH} (hl : LoopOK P gl N x h) (call : CallF) : CodeOK P gl N none (loopHF ⟨P, gl, ext, call, N⟩ h) (.loop x) := by
  intro lo Q φ σ σ1 w s s1 ms ms1 a e hr hs hm ho hh hQ
  have ho : lo = none := ho
  subst ho
  unfold loopHF at hh
  cases ms with
  | cons m ms => cases hh
  | nil =>
    simp only at hh
    obtain ⟨args, h1, h2⟩ := Option.bind_eq_some_iff.1 hh
    have hd : a.defers = [] := by
      cases hdf : a.defers with
      | nil => rfl
      | cons d ds => rw [hdf] at hm; exact hm.elim
    split at h2
    · rename_i r hemb
      obtain ⟨⟨e2, vs2, σ2⟩, h3, h4⟩ := Option.bind_eq_some_iff.1 h2
      obtain ⟨s2, h5, h6⟩ := Option.map_eq_some_iff.1 h4
      cases h6
      obtain ⟨ids, vs, rows, t, vs', rows', g1, g2, g3, g4⟩ := embF_spec hemb h3
      obtain ⟨hE, hv⟩ := entryG_spec g1
      have hrc := hr.entry hgl hn hE
      obtain ⟨k1, k2⟩ := slotsL_spec h1
      obtain ⟨k3, k4⟩ := renL_spec hv
      have hlive : LiveR (phiC φ ids) N h.live vs a := ⟨hs.size, by omega, fun i t v q1 q2 => by
        have hi : i < args.length := by
          have := (List.getElem?_eq_some_iff.1 q2).1
          omega
        obtain ⟨v', p1, p2⟩ := hs.get t _ (k2 i t _ q1 (List.getElem?_eq_getElem hi))
        exact ⟨v', p1, renV_sound rn_ok 8 _ v v' (k4 i _ v (List.getElem?_eq_getElem hi) q2) p2⟩⟩
      refine hl vs rows t _ vs' rows' g2 g3 Q (phiC φ ids) w a hrc hlive hd fun φ1 a1 w1 ht ha hd1 => ?_
      obtain ⟨t2, hren⟩ := Tr.back hgl hn hr hE ht g4
      refine hQ _ a1 w1 t2 ⟨ha.size, fun t v hv => ?_⟩ (by rw [hd1]; trivial)
      obtain ⟨z1, z2⟩ := putL_get h5
      rcases z2 t v hv with ⟨i, q1, q2⟩ | q
      · obtain ⟨y1, y2⟩ := renL_spec hren
        have hi : i < vs'.length := by
          have := (List.getElem?_eq_some_iff.1 q2).1
          simp only at this
          omega
        obtain ⟨v', p1, p2⟩ := ha.get i t _ q1 (List.getElem?_eq_getElem hi)
        exact ⟨v', p1, renV_sound (bk_ok hr hE ht) 8 _ v v' (y2 i _ v (List.getElem?_eq_getElem hi) q2) p2⟩
      · rw [PT.get_nil] at q; cases q
    · cases h2

/-! Code, its loops numbered. -/
def nl : Code → Nat
  | .seq x y => nl x + nl y
  | .cond _ x y => nl x + nl y
  | .block _ x => nl x
  | .loop x => nl x + 1
  | .scope x => nl x
  | _ => 0
def loopsOf : Code → List Code
  | .seq x y => loopsOf x ++ loopsOf y
  | .cond _ x y => loopsOf x ++ loopsOf y
  | .block _ x => loopsOf x
  | .loop x => x :: loopsOf x
  | .scope x => loopsOf x
  | _ => []
theorem loopsOf_length (c : Code) : (loopsOf c).length = nl c := by
  induction c with
  | seq x y ihx ihy => simp only [loopsOf, nl, List.length_append, ihx, ihy]
  | cond c x y ihx ihy => simp only [loopsOf, nl, List.length_append, ihx, ihy]
  | block id x ih => exact ih
  | loop x ih => simp only [loopsOf, nl, List.length_cons, ih]
  | scope x ih => exact ih
  | _ => rfl
abbrev Hl := Nat → Option LoopH
def codeS (E : Env) (L : Nat) (ro : Option Nat) (again : Code → Code → CodeF) (hl : Hl) : Code → Nat → CodeF
  | .seq x y, n => evSeq (codeS E L ro again hl x n) (codeS E L ro again hl y (n + nl x))
  | .cond c x y, n => evCondE E c (codeS E L ro again hl x n) (codeS E L ro again hl y (n + nl x))
  | .block id x, n => evBlock id (codeS E L ro again hl x n)
  | .loop x, n => (match hl n with
    | some h => loopHF E h
    | none => iterL (codeS E L ro again hl x (n + 1)) L)
  | .scope x, n => evScope again x (codeS E L ro again hl x n)
  | c, _ => codeF E L ro again c

variable {ro : Option Nat}
theorem CodeOK.seq {f g : CodeF} {x y : Code} (hx : CodeOK P gl N ro f x) (hy : CodeOK P gl N ro g y) : CodeOK P gl N ro (evSeq f g) (.seq x y) := by
  intro lo Q φ σ σ1 w s s1 ms ms1 a e hr hs hm ho h hQ
  simp only [evSeq, Option.bind_eq_some_iff] at h
  obtain ⟨⟨e2, s2, σ2, ms2⟩, h1, h2⟩ := h
  refine wpIn_seq (hx lo _ φ σ σ2 w s s2 ms ms2 a e2 hr hs hm ho h1 fun φ1 a1 w1 t hs1 hd1 => ?_)
  cases e2 with
  | normal => exact hy lo Q φ1 σ2 σ1 w1 s2 s1 ms2 ms1 a1 e t.rel hs1 hd1 (ho.mono t.le) h2 fun φ2 a2 w2 t2 hs2 hd2 => hQ φ2 a2 w2 (t.trans t2) hs2 hd2
  | exit id => cases h2; exact hQ φ1 a1 w1 t hs1 hd1
  | goto l => cases h2; exact hQ φ1 a1 w1 t hs1 hd1
  | ret => cases h2; exact hQ φ1 a1 w1 t hs1 hd1
theorem CodeOK.cond {f g : CodeF} {c : Operand} {x y : Code} {call : CallF} (hx : CodeOK P gl N ro f x) (hy : CodeOK P gl N ro g y) : CodeOK P gl N ro (evCondE ⟨P, gl, ext, call, N⟩ c f g) (.cond c x y) := by
  intro lo Q φ σ σ1 w s s1 ms ms1 a e hr hs hm ho h hQ
  simp only [evCondE, evCond, Option.bind_eq_some_iff] at h
  obtain ⟨b, ⟨v, hv, hb⟩, h⟩ := h
  have h0 := og_sound hr hs hv
  unfold boolOf at hb
  split at hb
  · rename_i b'
    cases hb
    generalize hev : a.eval c = v' at h0
    cases h0
    refine wpIn_cond hev ?_
    cases b with
    | true => exact hx lo Q φ σ σ1 w s s1 ms ms1 a e hr hs hm ho h hQ
    | false => exact hy lo Q φ σ σ1 w s s1 ms ms1 a e hr hs hm ho h hQ
  · cases hb
theorem CodeOK.block {f : CodeF} {id : Nat} {x : Code} (ih : CodeOK P gl N ro f x) : CodeOK P gl N ro (evBlock id f) (.block id x) := by
  intro lo Q φ σ σ1 w s s1 ms ms1 a e hr hs hm ho h hQ
  simp only [evBlock, Option.bind_eq_some_iff] at h
  obtain ⟨⟨e2, s2, σ2, ms2⟩, h1, h2⟩ := h
  refine wpIn_block (ih lo _ φ σ σ2 w s s2 ms ms2 a e2 hr hs hm ho h1 fun φ1 a1 w1 t hs1 hd1 => ?_)
  cases e2 with
  | normal => cases h2; exact hQ φ1 a1 w1 t hs1 hd1
  | exit id' =>
    simp only at h2
    show if id' = id then _ else _
    rw [Bool.cond_eq_ite] at h2
    split at h2
    · rename_i he
      cases h2
      rw [if_pos (Nat.eq_of_beq_eq_true he)]; exact hQ φ1 a1 w1 t hs1 hd1
    · rename_i he
      cases h2
      rw [if_neg (fun e => he (by subst e; simp))]; exact hQ φ1 a1 w1 t hs1 hd1
  | goto l => cases h2; exact hQ φ1 a1 w1 t hs1 hd1
  | ret => cases h2; exact hQ φ1 a1 w1 t hs1 hd1
theorem CodeOK.scope {f : CodeF} {again : Code → Code → CodeF} (ha : ∀ body rest, SOK P gl N ro (again body rest) body rest) {x : Code} (ih : CodeOK P gl N ro f x) : CodeOK P gl N ro (evScope again x f) (.scope x) := by
  intro lo Q φ σ σ1 w s s1 ms ms1 a e hr hs hm ho h hQ
  simp only [evScope, Option.bind_eq_some_iff] at h
  obtain ⟨⟨e2, s2, σ2, ms2⟩, h1, h2⟩ := h
  refine wp_scope_any (ih lo _ φ σ σ2 w s s2 ms ms2 a e2 hr hs hm ho h1 fun φ1 a1 w1 t hs1 hd1 => ?_)
  cases e2 with
  | normal => cases h2; exact hQ φ1 a1 w1 t hs1 hd1
  | exit id' => cases h2; exact hQ φ1 a1 w1 t hs1 hd1
  | goto l =>
    simp only at h2
    show match findLabel x l with | some r2 => swp P lo x r2 Q a1 w1 | none => Q (.goto l) a1 w1
    split at h2
    · rename_i rest hf
      rw [hf]
      exact ha x rest lo Q φ1 σ2 σ1 w1 s2 s1 ms2 ms1 a1 e t.rel hs1 hd1 (ho.mono t.le) h2 fun φ2 a2 w2 t2 hs2 hd2 => hQ φ2 a2 w2 (t.trans t2) hs2 hd2
    · rename_i hf
      rw [hf]; cases h2; exact hQ φ1 a1 w1 t hs1 hd1
  | ret => cases h2; exact hQ φ1 a1 w1 t hs1 hd1
theorem SOK.scope {f : CodeF} {again : Code → Code → CodeF} (ha : ∀ body rest, SOK P gl N ro (again body rest) body rest) {body rest : Code} (ih : CodeOK P gl N ro f rest) : SOK P gl N ro (evScope again body f) body rest := by
  intro lo Q φ σ σ1 w s s1 ms ms1 a e hr hs hm ho h hQ
  simp only [evScope, Option.bind_eq_some_iff] at h
  obtain ⟨⟨e2, s2, σ2, ms2⟩, h1, h2⟩ := h
  refine swp_rule (ih lo _ φ σ σ2 w s s2 ms ms2 a e2 hr hs hm ho h1 fun φ1 a1 w1 t hs1 hd1 => ?_)
  cases e2 with
  | normal => cases h2; exact hQ φ1 a1 w1 t hs1 hd1
  | exit id' => cases h2; exact hQ φ1 a1 w1 t hs1 hd1
  | goto l =>
    simp only at h2
    show match findLabel body l with | some r2 => swp P lo body r2 Q a1 w1 | none => Q (.goto l) a1 w1
    split at h2
    · rename_i r2 hf
      rw [hf]
      exact ha body r2 lo Q φ1 σ2 σ1 w1 s2 s1 ms2 ms1 a1 e t.rel hs1 hd1 (ho.mono t.le) h2 fun φ2 a2 w2 t2 hs2 hd2 => hQ φ2 a2 w2 (t.trans t2) hs2 hd2
    · rename_i hf
      rw [hf]; cases h2; exact hQ φ1 a1 w1 t hs1 hd1
  | ret => cases h2; exact hQ φ1 a1 w1 t hs1 hd1

/-- The loops' answers are right, from a number on. -/
def HlOK (P : Program) (gl : Gl) (N : Nat) (hl : Hl) (c : Code) (n : Nat) : Prop := ∀ (m : Nat) h x, hl (n + m) = some h → (loopsOf c)[m]? = some x → LoopOK P gl N x h
theorem HlOK.left {hl : Hl} {x y : Code} {n : Nat} (h : ∀ (m : Nat) h z, hl (n + m) = some h → (loopsOf x ++ loopsOf y)[m]? = some z → LoopOK P gl N z h) : HlOK P gl N hl x n := fun m g z h1 h2 =>
  h m g z h1 (by rw [List.getElem?_append_left (List.getElem?_eq_some_iff.1 h2).1]; exact h2)
theorem HlOK.right {hl : Hl} {x y : Code} {n : Nat} (h : ∀ (m : Nat) h z, hl (n + m) = some h → (loopsOf x ++ loopsOf y)[m]? = some z → LoopOK P gl N z h) : HlOK P gl N hl y (n + nl x) := fun m g z h1 h2 =>
  h (nl x + m) g z (by rw [← Nat.add_assoc]; exact h1) (by rw [List.getElem?_append_right (by rw [loopsOf_length]; omega), loopsOf_length, Nat.add_sub_cancel_left]; exact h2)

theorem codeS_sound (hG : Good P ext) (hgl : ∀ g k v, gl g k = some v → g < 1000 ∧ lowV 8 v = true) (hn : P.globals.size ≤ 900) {call : CallF} (hc : CallOK P gl call) (hd : DrawOK P gl ext call N) (L : Nat) {again : Code → Code → CodeF}
    (ha : ∀ body rest, SOK P gl N none (again body rest) body rest) (hl : Hl) : ∀ (c : Code) (n : Nat), HlOK P gl N hl c n → CodeOK P gl N none (codeS ⟨P, gl, ext, call, N⟩ L none again hl c n) c := by
  intro c
  have leaf : ∀ c, CodeOK P gl N none (codeF ⟨P, gl, ext, call, N⟩ L none again c) c := fun c => by
    rw [codeF_eq]
    exact evCode_sound hG hc hd L ha c
  induction c with
  | seq x y ihx ihy => intro n hv; exact (ihx n (HlOK.left hv)).seq (ihy (n + nl x) (HlOK.right hv))
  | cond c x y ihx ihy => intro n hv; exact (ihx n (HlOK.left hv)).cond (ihy (n + nl x) (HlOK.right hv))
  | block id x ih => intro n hv; exact (ih n hv).block
  | scope x ih => intro n hv; exact CodeOK.scope ha (ih n hv)
  | loop x ih =>
    intro n hv
    show CodeOK P gl N none (match hl n with | some h => loopHF ⟨P, gl, ext, call, N⟩ h | none => iterL (codeS ⟨P, gl, ext, call, N⟩ L none again hl x (n + 1)) L) (.loop x)
    cases hx : hl n with
    | some h => exact loopH_sound hgl hn (hv 0 h x hx rfl) call
    | none => exact loop_sound (ih (n + 1) fun m h z h1 h2 => hv (m + 1) h z (by rw [← h1]; congr 1; omega) (by simpa [loopsOf] using h2)) L
  | _ => intro n _; exact leaf _

def noHl : Hl := fun _ => none
/-- The rest of a scope's body, from a label on. -/
def againS (E : Env) (L : Nat) : Nat → Code → Code → CodeF
  | 0, _, _ => evNone
  | n + 1, body, rest => evScope (againS E L n) body (codeS E L none (againS E L n) noHl rest 0)
theorem againS_sound (hG : Good P ext) (hgl : ∀ g k v, gl g k = some v → g < 1000 ∧ lowV 8 v = true) (hn : P.globals.size ≤ 900) {call : CallF} (hc : CallOK P gl call) (hd : DrawOK P gl ext call N) (L : Nat) : ∀ (n : Nat) body rest, SOK P gl N none (againS ⟨P, gl, ext, call, N⟩ L n body rest) body rest
  | 0, body, rest => by intro lo Q φ σ σ1 w s s1 ms ms1 a e hr hs hm ho h hQ; cases h
  | n + 1, body, rest => SOK.scope (againS_sound hG hgl hn hc hd L n) (codeS_sound hG hgl hn hc hd L (againS_sound hG hgl hn hc hd L n) noHl rest 0 fun m h x h1 => by cases h1)

theorem codeS_soundR {ro : Option Nat} (hG : Good P ext) {call : CallF} (hc : CallOK P gl call) (hd : DrawOK P gl ext call N) (L : Nat) {again : Code → Code → CodeF}
    (ha : ∀ body rest, SOK P gl N ro (again body rest) body rest) : ∀ (c : Code) (n : Nat), CodeOK P gl N ro (codeS ⟨P, gl, ext, call, N⟩ L ro again noHl c n) c := by
  intro c
  have leaf : ∀ c, CodeOK P gl N ro (codeF ⟨P, gl, ext, call, N⟩ L ro again c) c := fun c => by
    rw [codeF_eq]
    exact evCode_sound hG hc hd L ha c
  induction c with
  | seq x y ihx ihy => intro n; exact (ihx n).seq (ihy (n + nl x))
  | cond c x y ihx ihy => intro n; exact (ihx n).cond (ihy (n + nl x))
  | block id x ih => intro n; exact (ih n).block
  | scope x ih => intro n; exact CodeOK.scope ha (ih n)
  | loop x ih => intro n; exact loop_sound (ih (n + 1)) L
  | _ => intro n; exact leaf _
def againR (E : Env) (L : Nat) (ro : Option Nat) : Nat → Code → Code → CodeF
  | 0, _, _ => evNone
  | n + 1, body, rest => evScope (againR E L ro n) body (codeS E L ro (againR E L ro n) noHl rest 0)
theorem againR_sound {ro : Option Nat} (hG : Good P ext) {call : CallF} (hc : CallOK P gl call) (hd : DrawOK P gl ext call N) (L : Nat) : ∀ (n : Nat) body rest, SOK P gl N ro (againR ⟨P, gl, ext, call, N⟩ L ro n body rest) body rest
  | 0, body, rest => by intro lo Q φ σ σ1 w s s1 ms ms1 a e hr hs hm ho h hQ; cases h
  | n + 1, body, rest => SOK.scope (againR_sound hG hc hd L n) (codeS_soundR hG hc hd L (againR_sound hG hc hd L n) rest 0)

/-- One round of a loop over a function. -/
def roundS (P : Program) (gl : Gl) (ext : Ext) (L G : Nat) (call : CallF) (i : Nat) (args : List Value) (σ : LS) : Option (Value × LS) :=
  match σ.heap.get i with
  | some (.loop r) => cond (Nat.ble (i + 1) most && Nat.beq args.length r.ps.length && r.ps.all (fun t => Nat.ble (t + 1) r.n && Nat.ble (t + 1) most))
    ((codeS ⟨P, gl, ext, call, r.n⟩ L (some i) (againR ⟨P, gl, ext, call, r.n⟩ L (some i) G) noHl r.assign 0 (putPs r.ps args r.tmps) σ []).bind fun q => (match q.1 with
      | .normal => (match q.2.2.1.heap.get i with
        | some (.loop r1) => cond (isReady r1.st)
          ((codeS ⟨P, gl, ext, call, r.n⟩ L (some i) (againR ⟨P, gl, ext, call, r.n⟩ L (some i) G) noHl r.body 0 q.2.1 (q.2.2.1.upd i (some (.loop { r1 with st := .busy }))) q.2.2.2).bind fun q2 =>
            (match q2.2.2.1.heap.get i with
            | some (.loop r3) => some (.bool (jumpOf q2.1).isNone, q2.2.2.1.upd i (some (.loop { r3 with st := cond (jumpOf q2.1).isNone .ready .done, pend := jumpOf q2.1 })))
            | _ => none)) none
        | _ => none)
      | _ => none)) none
  | _ => none
theorem roundS_sound (hG : Good P ext) {call : CallF} (hc : CallOK P gl call) (hd : ∀ N, DrawOK P gl ext call N) (L G : Nat) {i : Nat} {args : List Value} {σ σ1 : LS} {v : Value} (h : roundS P gl ext L G call i args σ = some (v, σ1))
    {φ : Phi} {w : World} {args' : Array Value} (hr : Rel P gl φ σ w) (hl : LR φ args args'.toList) : TC P φ (.rd i) args' w (fun e w1 => ∃ v' φ1, e = .returned v' ∧ Tr P gl φ σ w φ1 σ1 w1 ∧ VR φ1 v v') := by
  intro r hi
  unfold roundS at h
  split at h
  case h_2 => cases h
  rename_i lp hg
  obtain ⟨hck, h⟩ := condT h
  simp only [Bool.and_eq_true] at hck
  obtain ⟨⟨c1, c2⟩, c3⟩ := hck
  have c1 := Nat.le_of_ble_eq_true c1
  have c2 := Nat.eq_of_beq_eq_true c2
  obtain ⟨⟨e, s1, σ2, ms2⟩, hev, h⟩ := Option.bind_eq_some_iff.1 h
  cases e with
  | exit id => cases h
  | goto l => cases h
  | ret => cases h
  | normal =>
  simp only at h
  split at h
  case h_2 => cases h
  rename_i lp1 hg1
  obtain ⟨hrd, h⟩ := condT h
  obtain ⟨⟨e2, s3, σ3, ms3⟩, hev2, h⟩ := Option.bind_eq_some_iff.1 h
  simp only at h
  split at h
  case h_2 => cases h
  rename_i lp3 hg3
  cases h
  obtain ⟨cap, f, t', d, g1, g2, g3⟩ := loop_at hr hg hi
  have hy := run_yield (P := P) (args := args') g1 (by have := hl.1; simp at this ⊢; omega)
  obtain ⟨q1, q2⟩ := putPs_sound lp.ps args args'.toList lp.tmps t' c3 hl g2 g3
  refine ⟨f, _, _, _, hy, roundIn_of_wpIn trivial ?_⟩
  have hfold : ((({ state := lp.st, pending := lp.pend, fn := f, tmps := t', params := lp.ps.toArray, assign := lp.assign, body := lp.body, defers := d } : Loop).params.zip args').foldl (fun tmps (t, a) => tmps.setIfInBounds t a) t') =
      (lp.ps.zip args'.toList).foldl (fun tmps (t, a) => tmps.setIfInBounds t a) t' := by
    rw [← Array.foldl_toList]; simp
  refine codeS_soundR (ro := some i) hG hc (hd _) L (againR_sound hG hc (hd _) L G) lp.assign 0 (some r.blk) _ φ σ σ2 w _ s1 [] ms2 _ _ hr ⟨?_, ?_⟩ trivial ⟨r, hi, rfl⟩ hev ?_
  · show Array.size (Array.foldl _ _ _) = _
    rw [hfold]; exact q1
  · intro t u ht
    obtain ⟨u', k1, k2⟩ := q2 t u ht
    refine ⟨u', ?_, k2⟩
    show (Array.foldl _ _ _)[t]? = _
    rw [hfold]; exact k1
  intro φ1 a1 w1 t1 hs1 hd1
  have hi1 := t1.le _ _ hi
  obtain ⟨cap1, f1, tt1, d1, k1, k2, k3⟩ := loop_at t1.rel hg1 hi1
  have hready : lp1.st = .ready := by
    cases hst : lp1.st <;> rw [hst] at hrd <;> first | rfl | (exact absurd hrd (by decide))
  show ∃ w₂, (Instr.beginRound r.blk).run P w1 = .ok () w₂ ∧ _
  refine ⟨_, run_beginRound (P := P) k1 hready, ?_⟩
  have t2 := Tr.turn t1.rel c1 hg1 rfl hi1 (o' := .loop { lp1 with st := .busy }) (x := .loop { state := .busy, pending := lp1.pend, fn := f1, tmps := tt1, params := lp1.ps.toArray, assign := lp1.assign, body := lp1.body, defers := d1 })
    ⟨cap1, f1, tt1, d1, rfl, k2, k3⟩
  have hfin : ∀ φ2 a2 w2, Tr P gl φ1 (σ2.upd i (some (.loop { lp1 with st := .busy }))) { w1 with heap := w1.heap.setIfInBounds r.blk (.loop { state := .busy, pending := lp1.pend, fn := f1, tmps := tt1, params := lp1.ps.toArray, assign := lp1.assign, body := lp1.body, defers := d1 }) } φ2 σ3 w2 →
      SlR2 φ2 lp.n s3 a2 → DR φ2 ms3 a2.defers → roundPost P r.blk (fun e w1 => ∃ v' φ1, e = .returned v' ∧ Tr P gl φ σ w φ1 (σ3.upd i (some (.loop { lp3 with st := cond (jumpOf e2).isNone .ready .done, pend := jumpOf e2 }))) w1 ∧ VR φ1 (.bool (jumpOf e2).isNone) v') e2.to a2 w2 := by
    intro φ2 a2 w2 t3 hs3 hd3
    have hi2 := t3.le _ _ hi1
    obtain ⟨cap2, f2, tt2, d2, m1, m2, m3⟩ := loop_at t3.rel hg3 hi2
    have fin : ∀ jump, jump = jumpOf e2 → ∃ v w', (Instr.endRound r.blk jump).run P w2 = .ok v w' ∧ ∃ v' φ1, Ending.returned v = .returned v' ∧ Tr P gl φ σ w φ1 (σ3.upd i (some (.loop { lp3 with st := cond (jumpOf e2).isNone .ready .done, pend := jumpOf e2 }))) w' ∧ VR φ1 (.bool (jumpOf e2).isNone) v' := by
      rintro jump rfl
      refine ⟨_, _, run_endRound (P := P) (jumpOf e2) m1, _, φ2, rfl, ?_, .bool _⟩
      refine ((t1.trans t2).trans t3).trans (Tr.turn t3.rel c1 hg3 rfl hi2 ⟨cap2, f2, tt2, d2, ?_, m2, m3⟩)
      cases (jumpOf e2).isNone <;> rfl
    cases e2 with
    | normal => exact fin none rfl
    | exit id => exact fin (some (.exit id)) rfl
    | goto l => exact fin (some (.goto l)) rfl
    | ret => exact fin (some .ret) rfl
  exact codeS_soundR (ro := some i) hG hc (hd _) L (againR_sound hG hc (hd _) L G) lp.body 0 (some r.blk) _ φ1 _ σ3 _ s1 s3 ms2 ms3 a1 e2 t2.rel hs1 hd1 ⟨r, hi1, rfl⟩ hev2 hfin

/-! Functions. -/
def bodyS (P : Program) (gl : Gl) (ext : Ext) (call : CallF) (N L G : Nat) (hl : Hl) (fn : Func) (body : Code) (args : List Value) (σ : LS) : Option (Value × LS) :=
  (codeS ⟨P, gl, ext, call, N⟩ L none (againS ⟨P, gl, ext, call, N⟩ L G) hl body 0 (argsS 0 args .nil) σ []).bind fun r => exitF P gl fn.results.toList r.2.1 r.2.2.1 r.2.2.2 r.1
def funS (P : Program) (gl : Gl) (ext : Ext) (L G : Nat) (hl : Hl) (call : CallF) (f : FuncId) (args : List Value) (σ : LS) : Option (Value × LS) :=
  (P.funcs.toList[f]?).bind fun fn => (match fn.body with
    | none => none
    | some body => cond (Nat.ble args.length most && Nat.ble args.length fn.ntmps) (bodyS P gl ext call fn.ntmps L G hl fn body args σ) none)

theorem funS_sound (hG : Good P ext) (hgl : ∀ g k v, gl g k = some v → g < 1000 ∧ lowV 8 v = true) (hn : P.globals.size ≤ 900) {call : CallF} (hc : CallOK P gl call) (L G : Nat) {hl : Hl} {f : FuncId}
    (hh : ∀ (n : Nat) h fn body x, hl n = some h → P.funcs[f]? = some fn → fn.body = some body → (loopsOf body)[n]? = some x → LoopOK P gl fn.ntmps x h) {args : List Value} {v : Value} (h : funS P gl ext L G hl call f args σ = some (v, σ1))
    {args' : Array Value} (hr : Rel P gl φ σ w) (hl' : LR φ args args'.toList) : Calls P f args' w (fun e w1 => ∃ v' φ1, e = .returned v' ∧ Tr P gl φ σ w φ1 σ1 w1 ∧ VR φ1 v v') := by
  unfold funS at h
  obtain ⟨fn, hfn, h2⟩ := Option.bind_eq_some_iff.1 h
  split at h2
  · cases h2
  · rename_i body hb
    obtain ⟨hc0, h3⟩ := condT h2
    simp only [Bool.and_eq_true] at hc0
    have hlen := Nat.le_of_ble_eq_true hc0.1
    have hlen2 := Nat.le_of_ble_eq_true hc0.2
    unfold bodyS at h3
    obtain ⟨⟨e, s1, σ2, ms⟩, he, h4⟩ := Option.bind_eq_some_iff.1 h3
    simp only at h4
    have hf2 : P.funcs[f]? = some fn := by simpa using hfn
    have hsz : args'.size = args.length := by have := hl'.1; simpa using this.symm
    refine callsIn_wide.1 (callsIn_of_wp_marks (n := 0) hf2 hb trivial ?_)
    have hcode := codeS_sound (N := fn.ntmps) hG hgl hn hc (drawOK hG hc) L (againS_sound hG hgl hn hc (drawOK hG hc) L G) hl body 0 (fun m h x h1 h2 => hh m h fn body x (by rw [Nat.zero_add] at h1; exact h1) hf2 hb h2)
    refine hcode none _ φ σ σ2 w _ s1 [] ms _ e hr ?_ trivial rfl he ?_
    · refine ⟨by simp [hsz]; omega, fun t u ht => ?_⟩
      rw [argsS_get _ _ _ _ (by omega), PT.get_nil] at ht
      split at ht
      · rename_i hc
        obtain ⟨u', g1, g2⟩ := hl'.get (by simpa using ht)
        refine ⟨u', ?_, g2⟩
        rw [Array.getElem?_append_left (by omega), ← Array.getElem?_toList]; exact g1
      · cases ht
    · intro φ1 a1 w1 t hs1 hdf
      have key : ∀ σ3 l, shut ms σ2 = some σ3 → resL P gl s1 σ3 fn.results.toList = some l → LeavesInM Fence.wide 0 P fn a1.tmps (fun e w1 => ∃ v' φ1, e = .returned v' ∧ Tr P gl φ σ w φ1 σ3 w1 ∧ VR φ1 (pack l) v') a1.defers .returning w1 := by
        intro σ3 l hsh hl
        refine shut_sound t.rel hdf hsh fun w2 t2 => ?_
        obtain ⟨m', e1, e2⟩ := resL_sound t2.rel hs1 hl
        refine ⟨_, ?_, _, φ1, rfl, t.trans t2, pack_sound e2⟩
        have : results fn a1.tmps = (do
          let vs ← fn.results.mapM (resF a1)
          pure (if h : vs.size = 1 then vs[0] else .tuple vs)) := rfl
        rw [this, Array.mapM_eq_mapM_toList]
        simp [e1]
      cases e with
      | normal =>
        simp only [exitF, endF, Option.bind_eq_some_iff, Option.map_eq_some_iff] at h4
        obtain ⟨σ3, hsh, l, hl2, h5⟩ := h4
        cases h5
        exact key _ _ hsh hl2
      | ret =>
        simp only [exitF, endF, Option.bind_eq_some_iff, Option.map_eq_some_iff] at h4
        obtain ⟨σ3, hsh, l, hl2, h5⟩ := h4
        cases h5
        exact key _ _ hsh hl2
      | exit id => cases h4
      | goto l => cases h4

/-- Answers: of flat calls, of calls, of loops. -/
structure Hs where
  mf : Asm
  hf : FuncId → Option Hd
  hl : FuncId → Hl
structure Hs.OK (P : Program) (gl : Gl) (H : Hs) : Prop where
  mf : AsmOK P gl H.mf
  hf : ∀ f h, H.hf f = some h → SubOK P gl f h
  hl : ∀ f (n : Nat) h fn body x, H.hl f n = some h → P.funcs[f]? = some fn → fn.body = some body → (loopsOf body)[n]? = some x → LoopOK P gl fn.ntmps x h

def oneV : Ex × List Value × LS → Option (Value × LS)
  | (_, [v], σ) => some (v, σ)
  | _ => none
def callS (P : Program) (gl : Gl) (ext : Ext) (H : Hs) (L G : Nat) : Nat → CallF
  | 0, _, _, _ => none
  | d + 1, t, args, σ => (match H.mf t args σ with
    | some (c, v) => cond c (some (v, σ)) none
    | none => (match t with
      | .fn f => (match H.hf f with
        | some h => (match embF P h args σ with
          | some r => r.bind oneV
          | none => funS P gl ext L G (H.hl f) (callS P gl ext H L G d) f args σ)
        | none => funS P gl ext L G (H.hl f) (callS P gl ext H L G d) f args σ)
      | .rd i => roundS P gl ext L G (callS P gl ext H L G d) i args σ))

theorem callS_ok (hG : Good P ext) (hgl : ∀ g k v, gl g k = some v → g < 1000 ∧ lowV 8 v = true) (hn : P.globals.size ≤ 900) {H : Hs} (hH : H.OK P gl) (L G : Nat) : ∀ n, CallOK P gl (callS P gl ext H L G n)
  | 0 => by intro t args σ v σ1 h; cases h
  | n + 1 => by
    have ih := callS_ok hG hgl hn hH L G n
    intro t args σ v σ1 h φ w args' hr hl
    simp only [callS] at h
    split at h
    · rename_i c v0 hk
      obtain ⟨hc, h⟩ := condT h
      cases h
      obtain ⟨f, rfl, hf⟩ := hH.mf t args σ c v hk hc
      refine Calls.mono (hf φ w args' hr hl) ?_
      rintro e w1 ⟨v', rfl, hv, hb⟩
      exact ⟨v', φ, rfl, Tr.of_below hr hb, hv⟩
    · cases t with
      | fn f =>
        simp only at h
        have hfun : funS P gl ext L G (H.hl f) (callS P gl ext H L G n) f args σ = some (v, σ1) → TC P φ (.fn f) args' w (fun e w1 => ∃ v' φ1, e = .returned v' ∧ Tr P gl φ σ w φ1 σ1 w1 ∧ VR φ1 v v') := fun h =>
          funS_sound hG hgl hn ih L G (fun n h fn body x => hH.hl f n h fn body x) h hr hl
        split at h
        · rename_i g hg
          split at h
          · rename_i r he
            obtain ⟨⟨e, vs, σ2⟩, h1, h2⟩ := Option.bind_eq_some_iff.1 h
            subst h1
            unfold oneV at h2
            split at h2
            · rename_i e' u σ3 heq
              cases heq
              cases h2
              exact sub_call hgl hn (hH.hf f g hg) he hr hl
            · cases h2
          · exact hfun h
        · exact hfun h
      | rd i =>
        simp only at h
        exact roundS_sound hG ih (fun N => drawOK hG ih) L G h hr hl
end
end Go.Proofs.YtpckfdopokmbkaaGreatDoor.Ev

namespace Go.Proofs.YtpckfdopokmbkaaGreatDoor.Ev
open Go
open Go.RowKit

/-! ### The same evaluator behind continuations -/
noncomputable section
variable {R : Type}

def CkI (call : CallF) (ck : CallK R) : Prop := ∀ t args σ, KI (call t args σ) (ck t args σ)

def stQS' (sy : Sy) : StK R := fun E _ o s σ k => Env.rec (motive := fun _ => Option R) (fun P gl _ _ N => exQS sy o.op P gl σ s o.type fun v => (stEnd N o.dst s v σ).bind k) E
def stCS' : StK R := fun E ck o s σ k => Env.rec (motive := fun _ => Option R) (fun P gl ext _ _ => exCS o.op P gl ext σ s fun r => stCRK E ck o s σ k r) E
def stNS' : StK R := fun E _ o s σ k => Env.rec (motive := fun _ => Option R) (fun P _ _ _ N => exNS P s o.op fun q => cond (room σ) ((stEnd N o.dst s (q.2 σ.next) (σ.add q.1)).bind k) none) E
def stCatS (sy : Sy) : Cat → StK R
  | .quiet => stQS' sy
  | .new => stNS'
  | .chain => stCS'
def stepS (sy : Sy) (E : Env) (ck : CallK R) (ops : List Oper) (o : Oper) (s : Slots) (σ : LS) (k : Slots × LS → Option R) : Option R :=
  (wantL ops s o).bind fun b => cond b (stCatS sy (Env.rec (motive := fun _ => Cat) (fun P _ _ _ _ => catD o.op P) E) E ck o s σ k) ((stEnd E.N o.dst s undef σ).bind k)

theorem stCRK_ok {E : Env} {ck : CallK R} (hc : CkI E.call ck) (o : Oper) (s : Slots) (σ : LS) (r : CR) : KI (stCR E o s σ r) (fun k => stCRK E ck o s σ k r) := by
  intro k x h
  cases r with
  | val v σ1 => exact KI.opt _ k x h
  | enter f args =>
    obtain ⟨⟨v, σ1⟩, h1, h2⟩ := hc f args σ _ x h
    rw [normD_eq] at h2
    obtain ⟨q, h3, h4⟩ := Option.bind_eq_some_iff.1 h2
    refine ⟨q, ?_, h4⟩
    show (E.call f args σ).bind _ = _
    rw [h1]; exact h3
theorem stCatS_ok {sy : Sy} {E : Env} (hsy : SyOK E.gl sy) {ck : CallK R} (hc : CkI E.call ck) (o : Oper) (s : Slots) (σ : LS) (c : Cat) : KI (stCat c E o s σ) (stCatS sy c E ck o s σ) := by
  intro k x h
  obtain ⟨P, gl, ext, call, N⟩ := E
  have hsy : SyOK gl sy := hsy
  cases c with
  | quiet =>
    obtain ⟨v, h1, h2⟩ := exQS_ok hsy o.op s o.type _ x h
    obtain ⟨q, h3, h4⟩ := Option.bind_eq_some_iff.1 h2
    refine ⟨q, ?_, h4⟩
    show (exQD o.op P gl σ s o.type).bind _ = _
    rw [h1]; exact h3
  | new =>
    obtain ⟨r, h1, h2⟩ := exNS_ok s o.op _ x h
    obtain ⟨hc, h2⟩ := condT h2
    obtain ⟨q, h3, h4⟩ := Option.bind_eq_some_iff.1 h2
    refine ⟨q, ?_, h4⟩
    show ((exN P s o.op).bind fun (b, mk) => cond (room σ) (stEnd N o.dst s (mk σ.next) (σ.add b)) none) = _
    rw [h1, Option.bind_some, hc]; exact h3
  | chain =>
    obtain ⟨r, h1, h2⟩ := exCS_ok o.op s _ x h
    obtain ⟨q, h3, h4⟩ := stCRK_ok (E := ⟨P, gl, ext, call, N⟩) hc o s σ r k x h2
    refine ⟨q, ?_, h4⟩
    show (exCD o.op P gl ext σ s).bind _ = _
    rw [h1]; exact h3
theorem stepS_ok {sy : Sy} {E : Env} (hsy : SyOK E.gl sy) {ck : CallK R} (hc : CkI E.call ck) (ops : List Oper) (o : Oper) (s : Slots) (σ : LS) : KI (stepF E ops o s σ) (stepS sy E ck ops o s σ) := by
  intro k x h
  unfold stepS at h
  obtain ⟨b, h1, h2⟩ := Option.bind_eq_some_iff.1 h
  cases b with
  | false =>
    obtain ⟨q, h3, h4⟩ := Option.bind_eq_some_iff.1 h2
    exact ⟨q, by unfold stepF; rw [h1]; exact h3, h4⟩
  | true =>
    obtain ⟨q, h3, h4⟩ := stCatS_ok hsy hc o s σ _ k x h2
    exact ⟨q, by unfold stepF; rw [h1]; exact h3, h4⟩
def runS (sy : Sy) (E : Env) (ck : CallK R) (ops : List Oper) : List Oper → Slots → LS → (Slots × LS → Option R) → Option R
  | [], s, σ, k => k (s, σ)
  | o :: rest, s, σ, k => stepS sy E ck ops o s σ fun r => runS sy E ck ops rest r.1 r.2 k
theorem runS_ok {sy : Sy} {E : Env} (hsy : SyOK E.gl sy) {ck : CallK R} (hc : CkI E.call ck) (ops : List Oper) : ∀ (l : List Oper) (s : Slots) (σ : LS), KI (runF E ops l s σ) (runS sy E ck ops l s σ)
  | [], s, σ => KI.ret _
  | o :: rest, s, σ => fun k x h => by
    simp only [runS] at h
    obtain ⟨⟨s1, σ1⟩, h1, h2⟩ := stepS_ok hsy hc ops o s σ _ x h
    obtain ⟨q, h3, h4⟩ := runS_ok hsy hc ops rest s1 σ1 k x h2
    exact ⟨q, by simp only [runF, h1, Option.bind_some]; exact h3, h4⟩

/-! Regions that draw. -/
def sdQS' (sy : Sy) : SdK R := fun E _ base i o oi d k => Env.rec (motive := fun _ => Option R) (fun P gl _ _ N => (fun sr =>
      exQS sy o.op P gl (layR base oi.bef d.laid d.rows d.σ) sr o.type fun v => (putS N d.s o.dst v).bind fun s1 =>
      k { d with s := s1, seen := cond (memFree o.op) d.seen ((o, oi, i, sr, d.rows, v) :: d.seen) }) (restr d.s o.op.operands.toList)) E
def sdCS' : SdK R := fun E ck base _ o oi d k => Env.rec (motive := fun _ => Option R) (fun P gl ext _ _ => exCS o.op P gl ext (layR base oi.bef d.laid d.rows d.σ) (restr d.s o.op.operands.toList) fun r => sdCRK E ck o d (d.laid ||| oi.bef) (layR base oi.bef d.laid d.rows d.σ) k r) E
def sdNS' : SdK R := fun E _ base i o _ d k => Env.rec (motive := fun _ => Option R) (fun P _ _ _ N => exNS P (restr d.s o.op.operands.toList) o.op fun q => (putS N d.s o.dst (q.2 (base + i))).bind fun s1 => k { d with s := s1, rows := (i, q.1) :: d.rows }) E
def sdCatS (sy : Sy) : Cat → SdK R
  | .quiet => sdQS' sy
  | .new => sdNS'
  | .chain => sdCS'
def stepDS (sy : Sy) (E : Env) (ck : CallK R) (ops : List Oper) (base i : Nat) (o : Oper) (oi : OI) (d : DS) (k : DS → Option R) : Option R :=
  (wantL ops d.s o).bind fun b => cond b (sdCatS sy oi.cat E ck base i o oi d k) ((sdSkip E.N o oi d).bind k)
theorem sdCRK_ok {E : Env} {ck : CallK R} (hc : CkI E.call ck) (o : Oper) (d : DS) (laid : Nat) (σ0 : LS) (r : CR) : KI (sdCR E o d laid σ0 r) (fun k => sdCRK E ck o d laid σ0 k r) := by
  intro k x h
  cases r with
  | val v σ1 => exact KI.opt _ k x h
  | enter f args =>
    obtain ⟨⟨v, σ1⟩, h1, h2⟩ := hc f args σ0 _ x h
    rw [normD_eq] at h2
    obtain ⟨q, h3, h4⟩ := Option.bind_eq_some_iff.1 h2
    refine ⟨q, ?_, h4⟩
    show (E.call f args σ0).bind _ = _
    rw [h1]; exact h3
theorem stepDS_ok {sy : Sy} {E : Env} (hsy : SyOK E.gl sy) {ck : CallK R} (hc : CkI E.call ck) (ops : List Oper) (base i : Nat) (o : Oper) (oi : OI) (d : DS) : KI (stepDF E ops base i o oi d) (stepDS sy E ck ops base i o oi d) := by
  intro k x h
  unfold stepDS at h
  obtain ⟨b, h1, h2⟩ := Option.bind_eq_some_iff.1 h
  cases b with
  | false =>
    obtain ⟨q, h3, h4⟩ := Option.bind_eq_some_iff.1 h2
    exact ⟨q, by unfold stepDF; rw [h1]; exact h3, h4⟩
  | true =>
    have key : KI (sdCat oi.cat E base i o oi d) (sdCatS sy oi.cat E ck base i o oi d) := by
      clear h h1 h2
      intro k x h
      obtain ⟨P, gl, ext, call, N⟩ := E
      have hsy : SyOK gl sy := hsy
      cases hcat : oi.cat with
      | quiet =>
        rw [hcat] at h
        obtain ⟨v, h1, h2⟩ := exQS_ok hsy o.op _ o.type _ x h
        obtain ⟨s1, h3, h4⟩ := Option.bind_eq_some_iff.1 h2
        refine ⟨_, ?_, h4⟩
        show (exQD o.op P gl _ _ o.type).bind _ = _
        rw [h1]
        show (putS N d.s o.dst v).map _ = _
        rw [h3]; rfl
      | new =>
        rw [hcat] at h
        obtain ⟨r, h1, h2⟩ := exNS_ok _ o.op _ x h
        obtain ⟨s1, h3, h4⟩ := Option.bind_eq_some_iff.1 h2
        refine ⟨_, ?_, h4⟩
        show ((exN P (restr d.s o.op.operands.toList) o.op).bind fun (b, mk) => (putS N d.s o.dst (mk (base + i))).map fun s1 => { d with s := s1, rows := (i, b) :: d.rows }) = _
        rw [h1]
        show (putS N d.s o.dst _).map _ = _
        rw [h3]; rfl
      | chain =>
        rw [hcat] at h
        obtain ⟨r, h1, h2⟩ := exCS_ok o.op _ _ x h
        obtain ⟨q, h3, h4⟩ := sdCRK_ok (E := ⟨P, gl, ext, call, N⟩) hc o d _ _ r k x h2
        refine ⟨q, ?_, h4⟩
        show (exCD o.op P gl ext _ _).bind _ = _
        rw [h1]; exact h3
    obtain ⟨q, h3, h4⟩ := key k x h2
    exact ⟨q, by unfold stepDF; rw [h1]; exact h3, h4⟩
def runDS (sy : Sy) (E : Env) (ck : CallK R) (ops : List Oper) (base : Nat) : Nat → List Oper → List OI → DS → (DS → Option R) → Option R
  | i, o :: os, oi :: ois, d, k => stepDS sy E ck ops base i o oi d fun d1 => runDS sy E ck ops base (i + 1) os ois d1 k
  | _, _, _, d, k => k d
theorem runDS_ok {sy : Sy} {E : Env} (hsy : SyOK E.gl sy) {ck : CallK R} (hc : CkI E.call ck) (ops : List Oper) (base : Nat) : ∀ (os : List Oper) (i : Nat) (ois : List OI) (d : DS), KI (runDF E ops base i os ois d) (runDS sy E ck ops base i os ois d)
  | [], i, ois, d => by cases ois <;> exact KI.ret _
  | o :: os, i, [], d => KI.ret _
  | o :: os, i, oi :: ois, d => fun k x h => by
    simp only [runDS] at h
    obtain ⟨d1, h1, h2⟩ := stepDS_ok hsy hc ops base i o oi d _ x h
    obtain ⟨q, h3, h4⟩ := runDS_ok hsy hc ops base os (i + 1) ois d1 k x h2
    exact ⟨q, by simp only [runDF, h1, Option.bind_some]; exact h3, h4⟩

def winS (lo hi : Nat) (f : LS × Nat → Option R → Option R) : Nat → List (LS × Nat) → Option R → Option R
  | _, [], k => k
  | m, q :: l, k => cond (Nat.ble lo m && Nat.ble m hi) (f q (winS lo hi f (m + 1) l k)) (winS lo hi f (m + 1) l k)
theorem winS_ok {lo hi : Nat} {f : LS × Nat → Option R → Option R} {g : LS × Nat → Bool} (hf : ∀ q k r, f q k = some r → g q = true ∧ k = some r) : ∀ (m : Nat) (l : List (LS × Nat)) (k : Option R) (r : R), winS lo hi f m l k = some r → winAll lo hi g m l = true ∧ k = some r
  | _, [], k, r, h => ⟨rfl, h⟩
  | m, q :: l, k, r, h => by
    simp only [winS] at h
    simp only [winAll]
    cases hb : (Nat.ble lo m && Nat.ble m hi) with
    | true =>
      rw [hb] at h
      obtain ⟨h1, h2⟩ := hf q _ r h
      obtain ⟨h3, h4⟩ := winS_ok hf (m + 1) l k r h2
      exact ⟨by rw [cond_true, h1, h3]; rfl, h4⟩
    | false =>
      rw [hb] at h
      obtain ⟨h3, h4⟩ := winS_ok hf (m + 1) l k r h
      exact ⟨by rw [cond_false, h3]; rfl, h4⟩
def okS (sy : Sy) (E : Env) (base : Nat) (ois : List OI) (states : List (LS × Nat)) : List (Oper × OI × Nat × Slots × List (Nat × LObj) × Value) → Option R → Option R
  | [], k => k
  | (o, oi, i, s, rows, v) :: l, k => winS (countL (fun c _ => oi.bef.testBit c) 0 ois) (countL (fun _ c => !(c.bef.testBit i)) 0 ois)
      (fun q k => Env.rec (motive := fun _ => Option R) (fun P gl _ _ _ => exQS sy o.op P gl (layR base oi.bef q.2 rows q.1) s o.type fun u => veqK 8 u v k) E) 0 states (okS sy E base ois states l k)
theorem okS_ok {sy : Sy} (E : Env) (hsy : SyOK E.gl sy) (base : Nat) (ois : List OI) (states : List (LS × Nat)) : ∀ (l : List (Oper × OI × Nat × Slots × List (Nat × LObj) × Value)) (k : Option R) (r : R), okS sy E base ois states l k = some r → okF E base ois states l = true ∧ k = some r
  | [], k, r, h => ⟨rfl, h⟩
  | (o, oi, i, s, rows, v) :: l, k, r, h => by
    simp only [okS] at h
    obtain ⟨h1, h2⟩ := winS_ok (g := fun q => sameV v (Env.rec (motive := fun _ => Option Value) (fun P gl _ _ _ => exQD o.op P gl (layR base oi.bef q.2 rows q.1) s o.type) E)) (fun q k r hq => by
      obtain ⟨P, gl, ext, call, N⟩ := E
      have hsy : SyOK gl sy := hsy
      obtain ⟨u, g1, g2⟩ := exQS_ok hsy o.op s o.type _ r hq
      rw [veqK_eq] at g2
      obtain ⟨g3, g4⟩ := condT g2
      refine ⟨?_, g4⟩
      show sameV v (exQD o.op P gl _ s o.type) = true
      rw [g1]; exact g3) _ _ _ r h
    obtain ⟨h3, h4⟩ := okS_ok E hsy base ois states l k r h2
    exact ⟨by simp only [okF]; rw [h1, h3]; rfl, h4⟩
def drawS (sy : Sy) (E : Env) (ck : CallK R) (ops : List Oper) (s : Slots) (σ : LS) (k : Slots × LS → Option R) : Option R :=
  (fun ois => cond (chkAll 0 ois && edgesAll 0 ops && Nat.ble (σ.next + ops.length) most) (
    (fun base σ0 => runDS sy E ck ops base 0 ops ois ⟨s, σ0, 0, [(σ0, 0)], [], []⟩ fun d =>
      okS sy E base ois d.hist.reverse d.seen (k (d.s, layAll base d.laid d.rows d.σ))) σ.next { σ with next := σ.next + ops.length }) none) (Env.rec (motive := fun _ => List OI) (fun P _ _ _ _ => infos P ops) E)
theorem drawS_ok {sy : Sy} {E : Env} (hsy : SyOK E.gl sy) {ck : CallK R} (hc : CkI E.call ck) (ops : List Oper) (s : Slots) (σ : LS) : KI (drawF E ops s σ) (drawS sy E ck ops s σ) := by
  intro k x h
  unfold drawS at h
  obtain ⟨h1, h2⟩ := condT h
  obtain ⟨d, h3, h4⟩ := runDS_ok hsy hc ops _ ops 0 _ _ _ x h2
  obtain ⟨h5, h6⟩ := okS_ok E hsy _ _ _ _ _ x h4
  refine ⟨_, ?_, h6⟩
  unfold drawF
  simp only [h1, cond_true, h3, Option.bind_some, h5]

/-! Code. -/
def evRegionS (sy : Sy) (E : Env) (ck : CallK R) (ops : List Oper) (draw : Bool) : CodeK R := fun s σ ms k => cond draw (drawS sy E ck ops s σ fun r => k (.normal, r.1, r.2, ms)) (runS sy E ck ops ops s σ fun r => k (.normal, r.1, r.2, ms))
def KF (f : CodeF) (fk : CodeK R) : Prop := ∀ s σ ms, KI (f s σ ms) (fk s σ ms)
theorem evRegionS_ok {sy : Sy} {E : Env} (hsy : SyOK E.gl sy) {ck : CallK R} (hc : CkI E.call ck) (ops : List Oper) (draw : Bool) : KF (evRegion E ops draw) (evRegionS sy E ck ops draw) := by
  intro s σ ms k x h
  unfold evRegionS at h
  unfold evRegion
  cases draw with
  | true =>
    obtain ⟨⟨s1, σ1⟩, h1, h2⟩ := drawS_ok hsy hc ops s σ (fun r => k (.normal, r.1, r.2, ms)) x h
    exact ⟨(.normal, s1, σ1, ms), by rw [cond_true, h1]; rfl, h2⟩
  | false =>
    obtain ⟨⟨s1, σ1⟩, h1, h2⟩ := runS_ok hsy hc ops ops s σ (fun r => k (.normal, r.1, r.2, ms)) x h
    exact ⟨(.normal, s1, σ1, ms), by rw [cond_false, h1]; rfl, h2⟩
theorem evSeqK_ok {f g : CodeF} {fk gk : CodeK R} (hf : KF f fk) (hg : KF g gk) : KF (evSeq f g) (evSeqK fk gk) := by
  intro s σ ms k x h
  unfold evSeqK at h
  obtain ⟨⟨e, s1, σ1, ms1⟩, h1, h2⟩ := hf s σ ms _ x h
  unfold evSeq
  rw [h1, Option.bind_some]
  cases e with
  | normal => exact hg s1 σ1 ms1 k x h2
  | _ => exact ⟨_, rfl, h2⟩
theorem evCondEK_ok (E : Env) (c : Operand) {f g : CodeF} {fk gk : CodeK R} (hf : KF f fk) (hg : KF g gk) : KF (evCondE E c f g) (evCondEK E c fk gk) := by
  intro s σ ms k x h
  obtain ⟨P, gl, ext, call, N⟩ := E
  obtain ⟨b, h1, h2⟩ := Option.bind_eq_some_iff.1 (show ((og P s c).bind boolOf).bind (fun b => cond b (fk s σ ms k) (gk s σ ms k)) = some x from h)
  show ∃ a, ((og P s c).bind boolOf).bind (fun b => cond b (f s σ ms) (g s σ ms)) = some a ∧ _
  rw [h1, Option.bind_some]
  cases b with
  | true => exact hf s σ ms k x h2
  | false => exact hg s σ ms k x h2
theorem evBlockK_ok (id : Nat) {f : CodeF} {fk : CodeK R} (hf : KF f fk) : KF (evBlock id f) (evBlockK id fk) := by
  intro s σ ms k x h
  unfold evBlockK at h
  obtain ⟨⟨e, s1, σ1, ms1⟩, h1, h2⟩ := hf s σ ms _ x h
  unfold evBlock
  rw [h1, Option.bind_some]
  cases e with
  | exit id' =>
    simp only [blockGo] at h2
    show ∃ a, cond (Nat.beq id' id) _ _ = some a ∧ _
    cases hb : Nat.beq id' id with
    | true => rw [hb] at h2; exact ⟨_, rfl, h2⟩
    | false => rw [hb] at h2; exact ⟨_, rfl, h2⟩
  | _ => exact ⟨_, rfl, h2⟩
theorem evScopeK_ok {again : Code → Code → CodeF} {againk : Code → Code → CodeK R} (ha : ∀ x y, KF (again x y) (againk x y)) (x : Code) {f : CodeF} {fk : CodeK R} (hf : KF f fk) : KF (evScope again x f) (evScopeK againk x fk) := by
  intro s σ ms k r h
  unfold evScopeK at h
  obtain ⟨⟨e, s1, σ1, ms1⟩, h1, h2⟩ := hf s σ ms _ r h
  unfold evScope
  rw [h1, Option.bind_some]
  cases e with
  | goto l =>
    simp only [scopeGo] at h2
    show ∃ a, (match findLabel x l with | some rest => again x rest s1 σ1 ms1 | none => some (.goto l, s1, σ1, ms1)) = some a ∧ _
    cases hl : findLabel x l with
    | none => rw [hl] at h2; exact ⟨_, rfl, h2⟩
    | some rest => rw [hl] at h2; exact ha x rest s1 σ1 ms1 k r h2
  | _ => exact ⟨_, rfl, h2⟩
theorem iterK_ok {f : CodeF} {fk : CodeK R} (hf : KF f fk) : ∀ n, KF (iterL f n) (iterK fk n)
  | 0 => fun _ _ _ _ _ h => by cases h
  | n + 1 => fun s σ ms k x h => by
    simp only [iterK] at h
    obtain ⟨⟨e, s1, σ1, ms1⟩, h1, h2⟩ := hf s σ ms _ x h
    simp only [iterL]
    rw [h1, Option.bind_some]
    cases e with
    | normal => exact iterK_ok hf n s1 σ1 ms1 k x h2
    | _ => exact ⟨_, rfl, h2⟩

theorem embK_ok {α : Type} {P : Program} {h : Hd} {args : List Value} {σ : LS} {g : Ex × List Value × LS → Option α} {gk : Ex × List Value × LS → (α → Option R) → Option R} {fb : Option α} {fbk : (α → Option R) → Option R} (hg : ∀ o, KI (g o) (gk o)) (hb : KI fb fbk) :
    KI (match embF P h args σ with | some r => r.bind g | none => fb) (fun k => embK P h args σ (fbk k) fun o => gk o k) := by
  intro k x e
  unfold embK at e
  unfold embF
  split at e
  · rename_i h1
    rw [h1]
    exact hb k x e
  · rename_i q h1
    rw [h1, Option.bind_some]
    split at e
    · rename_i h2
      rw [h2]
      exact hb k x e
    · rename_i t h2
      rw [h2]
      obtain ⟨c, e2⟩ := condT e
      obtain ⟨o, h3, e3⟩ := DT.runK_ok t _ x e2
      obtain ⟨b, h4, e4⟩ := Option.bind_eq_some_iff.1 e3
      obtain ⟨c2, e5⟩ := condT e4
      obtain ⟨a, h5, h6⟩ := hg _ k x e5
      refine ⟨a, ?_, h6⟩
      show (cond q.1 (t.run.bind fun o => (backG P q.2.1 σ o.2.1 o.2.2).bind fun b => cond b.1 (some (o.1, b.2.1, b.2.2)) none) none).bind g = some a
      rw [c, cond_true, h3, Option.bind_some, h4, Option.bind_some, c2, cond_true, Option.bind_some]
      exact h5

def loopHK (E : Env) (h : LoopH) : CodeK R := fun s σ ms k => match ms with
  | [] => (slotsL s h.live).bind fun args => embK E.P h.run args σ none fun o => (putL E.N h.out o.2.1 .nil).bind fun s1 => k (o.1, s1, o.2.2, [])
  | _ :: _ => none
theorem loopHK_ok (E : Env) (h : LoopH) : KF (R := R) (loopHF E h) (loopHK E h) := by
  intro s σ ms k x e
  unfold loopHK at e
  unfold loopHF
  cases ms with
  | cons m ms => cases e
  | nil =>
    simp only at e ⊢
    obtain ⟨args, h1, e2⟩ := Option.bind_eq_some_iff.1 e
    rw [h1, Option.bind_some]
    exact embK_ok (fb := none) (fbk := fun _ => none) (g := fun o => (putL E.N h.out o.2.1 .nil).map fun s1 => (o.1, s1, o.2.2, [])) (gk := fun o k => (putL E.N h.out o.2.1 .nil).bind fun s1 => k (o.1, s1, o.2.2, []))
      (fun o => KI.map (KI.opt _)) (KI.none _) k x e2

/-- A loop over a function. -/
def evRangeK (E : Env) (ck : CallK R) (ro : Option Nat) (g : Operand) (ps : Array Tmp) (assign body : Code) : CodeK R := Env.rec (motive := fun _ => CodeK R) (fun P _ ext _ N s σ ms k =>
  (og P s g).bind fun v => (match v with
    | .func (.func f) first captured => (enterR ro ⟨.ready, none, s, N, ps.toList, assign, body⟩ σ ms).bind fun q =>
      (enterL P ext q.2.1 f (first.toList ++ [.func (.yield q.1) #[] #[]] ++ captured.toList)).bind fun r => (match r with
        | .enter t args => ck t args q.2.1 fun p => (leaveR q.1 s p.2 q.2.2).bind k
        | .val _ _ => none)
    | _ => none)) E
theorem evRangeK_ok {E : Env} {ck : CallK R} (hc : CkI E.call ck) (ro : Option Nat) (g : Operand) (ps : Array Tmp) (assign body : Code) : KF (evRangeE E ro g ps assign body) (evRangeK E ck ro g ps assign body) := by
  intro s σ ms k x h
  obtain ⟨P, gl, ext, call, N⟩ := E
  have hc : CkI call ck := hc
  show ∃ a, evRange P ext call N ro g ps assign body s σ ms = some a ∧ _
  unfold evRangeK at h
  simp only at h
  obtain ⟨v, h1, h⟩ := Option.bind_eq_some_iff.1 h
  unfold evRange
  rw [h1, Option.bind_some]
  split at h
  case h_2 => cases h
  obtain ⟨q, h2, h⟩ := Option.bind_eq_some_iff.1 h
  obtain ⟨r, h3, h⟩ := Option.bind_eq_some_iff.1 h
  split at h
  case h_2 => cases h
  obtain ⟨p, h4, h5⟩ := hc _ _ _ _ x h
  obtain ⟨a, h6, h7⟩ := Option.bind_eq_some_iff.1 h5
  refine ⟨a, ?_, h7⟩
  simp only [h2, Option.bind_some, h3, h4]
  exact h6

def codeSK (sy : Sy) (E : Env) (ck : CallK R) (L : Nat) (again : Code → Code → CodeK R) (hl : Hl) : Code → Nat → CodeK R
  | .seq x y, n => evSeqK (codeSK sy E ck L again hl x n) (codeSK sy E ck L again hl y (n + nl x))
  | .cond c x y, n => evCondEK E c (codeSK sy E ck L again hl x n) (codeSK sy E ck L again hl y (n + nl x))
  | .block id x, n => evBlockK id (codeSK sy E ck L again hl x n)
  | .loop x, n => (match hl n with
    | some h => loopHK E h
    | none => iterK (codeSK sy E ck L again hl x (n + 1)) L)
  | .scope x, n => evScopeK again x (codeSK sy E ck L again hl x n)
  | .skip, _ => evOutK .normal
  | .label _, _ => evOutK .normal
  | .region _ ops draw, _ => evRegionS sy E ck ops.toList draw
  | .exit id, _ => evOutK (.exit id)
  | .goto l, _ => evOutK (.goto l)
  | .ret, _ => evOutK .ret
  | .rangeFunc g ps assign body, _ => evRangeK E ck none g ps assign body
  | _, _ => ofF evNone
theorem evOutK_ok (e : Ex) : KF (R := R) (evOut e) (evOutK e) := fun _ _ _ => KI.ret _
theorem ofF_ok (f : CodeF) : KF (R := R) f (ofF f) := fun _ _ _ => KI.opt _
theorem codeSK_ok {sy : Sy} {E : Env} (hsy : SyOK E.gl sy) {ck : CallK R} (hc : CkI E.call ck) (L : Nat) {again : Code → Code → CodeF} {againk : Code → Code → CodeK R} (ha : ∀ x y, KF (again x y) (againk x y)) (hl : Hl) :
    ∀ (c : Code) (n : Nat), KF (codeS E L none again hl c n) (codeSK sy E ck L againk hl c n) := by
  intro c
  induction c with
  | seq x y ihx ihy => intro n; exact evSeqK_ok (ihx n) (ihy _)
  | cond c x y ihx ihy => intro n; exact evCondEK_ok E c (ihx n) (ihy _)
  | block id x ih => intro n; exact evBlockK_ok id (ih n)
  | scope x ih => intro n; exact evScopeK_ok ha x (ih n)
  | loop x ih =>
    intro n
    show KF (match hl n with | some h => loopHF E h | none => iterL (codeS E L none again hl x (n + 1)) L) (match hl n with | some h => loopHK E h | none => iterK (codeSK sy E ck L againk hl x (n + 1)) L)
    cases hl n with
    | some h => exact loopHK_ok E h
    | none => exact iterK_ok (ih (n + 1)) L
  | region id ops draw => intro n; exact evRegionS_ok hsy hc ops.toList draw
  | skip => intro n; exact evOutK_ok _
  | label l => intro n; exact evOutK_ok _
  | exit id => intro n; exact evOutK_ok _
  | goto l => intro n; exact evOutK_ok _
  | ret => intro n; exact evOutK_ok _
  | rangeFunc g ps assign body => intro n; exact evRangeK_ok hc none g ps assign body
  | _ => intro n; exact ofF_ok _

def againSK (sy : Sy) (E : Env) (ck : CallK R) (L : Nat) : Nat → Code → Code → CodeK R
  | 0, _, _ => ofF evNone
  | n + 1, body, rest => evScopeK (againSK sy E ck L n) body (codeSK sy E ck L (againSK sy E ck L n) noHl rest 0)
theorem againSK_ok {sy : Sy} {E : Env} (hsy : SyOK E.gl sy) {ck : CallK R} (hc : CkI E.call ck) (L : Nat) : ∀ n x y, KF (againS E L n x y) (againSK sy E ck L n x y)
  | 0, _, _ => ofF_ok _
  | n + 1, body, rest => evScopeK_ok (againSK_ok hsy hc L n) body (codeSK_ok hsy hc L (againSK_ok hsy hc L n) noHl rest 0)

def bodySK (sy : Sy) (P : Program) (gl : Gl) (ext : Ext) (call : CallF) (ck : CallK R) (N L G : Nat) (hl : Hl) (fn : Func) (body : Code) (args : List Value) (σ : LS) (k : Value × LS → Option R) : Option R :=
  codeSK sy ⟨P, gl, ext, call, N⟩ ck L (againSK sy ⟨P, gl, ext, call, N⟩ ck L G) hl body 0 (argsS 0 args .nil) σ [] fun r => (exitF P gl fn.results.toList r.2.1 r.2.2.1 r.2.2.2 r.1).bind k
def funSK (sy : Sy) (P : Program) (gl : Gl) (ext : Ext) (L G : Nat) (hl : Hl) (call : CallF) (ck : CallK R) (f : FuncId) (args : List Value) (σ : LS) (k : Value × LS → Option R) : Option R :=
  (P.funcs.toList[f]?).bind fun fn => (match fn.body with
    | none => none
    | some body => cond (Nat.ble args.length most && Nat.ble args.length fn.ntmps) (bodySK sy P gl ext call ck fn.ntmps L G hl fn body args σ k) none)
theorem funSK_ok {sy : Sy} {P : Program} {gl : Gl} (hsy : SyOK gl sy) {ext : Ext} {L G : Nat} {hl : Hl} {call : CallF} {ck : CallK R} (hc : CkI call ck) (f : FuncId) (args : List Value) (σ : LS) : KI (funS P gl ext L G hl call f args σ) (funSK sy P gl ext L G hl call ck f args σ) := by
  intro k x h
  unfold funSK at h
  unfold funS
  obtain ⟨fn, h1, h2⟩ := Option.bind_eq_some_iff.1 h
  rw [h1, Option.bind_some]
  split at h2
  · cases h2
  · rename_i body hb
    try simp only [hb]
    obtain ⟨c, h3⟩ := condT h2
    rw [c, cond_true]
    unfold bodySK at h3
    have hc' : CkI (Env.mk P gl ext call fn.ntmps).call ck := hc
    have hsy' : SyOK (Env.mk P gl ext call fn.ntmps).gl sy := hsy
    obtain ⟨r, h4, h5⟩ := codeSK_ok hsy' hc' L (againSK_ok hsy' hc' L G) hl body 0 _ σ [] _ x h3
    obtain ⟨q, h6, h7⟩ := Option.bind_eq_some_iff.1 h5
    exact ⟨q, by unfold bodyS; rw [h4, Option.bind_some]; exact h6, h7⟩

/-! Rounds of loops over functions. -/
def codeRK (sy : Sy) (E : Env) (ck : CallK R) (L : Nat) (ro : Option Nat) (again : Code → Code → CodeK R) : Code → CodeK R
  | .seq x y => evSeqK (codeRK sy E ck L ro again x) (codeRK sy E ck L ro again y)
  | .cond c x y => evCondEK E c (codeRK sy E ck L ro again x) (codeRK sy E ck L ro again y)
  | .block id x => evBlockK id (codeRK sy E ck L ro again x)
  | .loop x => iterK (codeRK sy E ck L ro again x) L
  | .scope x => evScopeK again x (codeRK sy E ck L ro again x)
  | .skip => evOutK .normal
  | .label _ => evOutK .normal
  | .region _ ops draw => evRegionS sy E ck ops.toList draw
  | .exit id => evOutK (.exit id)
  | .goto l => evOutK (.goto l)
  | .ret => evOutK .ret
  | .rangeFunc g ps assign body => evRangeK E ck ro g ps assign body
  | _ => ofF evNone
theorem codeRK_ok {sy : Sy} {E : Env} (hsy : SyOK E.gl sy) {ck : CallK R} (hc : CkI E.call ck) (L : Nat) (ro : Option Nat) {again : Code → Code → CodeF} {againk : Code → Code → CodeK R} (ha : ∀ x y, KF (again x y) (againk x y)) :
    ∀ (c : Code) (n : Nat), KF (codeS E L ro again noHl c n) (codeRK sy E ck L ro againk c) := by
  intro c
  induction c with
  | seq x y ihx ihy => intro n; exact evSeqK_ok (ihx n) (ihy _)
  | cond c x y ihx ihy => intro n; exact evCondEK_ok E c (ihx n) (ihy _)
  | block id x ih => intro n; exact evBlockK_ok id (ih n)
  | scope x ih => intro n; exact evScopeK_ok ha x (ih n)
  | loop x ih => intro n; exact iterK_ok (ih (n + 1)) L
  | region id ops draw => intro n; exact evRegionS_ok hsy hc ops.toList draw
  | skip => intro n; exact evOutK_ok _
  | label l => intro n; exact evOutK_ok _
  | exit id => intro n; exact evOutK_ok _
  | goto l => intro n; exact evOutK_ok _
  | ret => intro n; exact evOutK_ok _
  | rangeFunc g ps assign body => intro n; exact evRangeK_ok hc ro g ps assign body
  | _ => intro n; exact ofF_ok _
def againRK (sy : Sy) (E : Env) (ck : CallK R) (L : Nat) (ro : Option Nat) : Nat → Code → Code → CodeK R
  | 0, _, _ => ofF evNone
  | n + 1, body, rest => evScopeK (againRK sy E ck L ro n) body (codeRK sy E ck L ro (againRK sy E ck L ro n) rest)
theorem againRK_ok {sy : Sy} {E : Env} (hsy : SyOK E.gl sy) {ck : CallK R} (hc : CkI E.call ck) (L : Nat) (ro : Option Nat) : ∀ n x y, KF (againR E L ro n x y) (againRK sy E ck L ro n x y)
  | 0, _, _ => ofF_ok _
  | n + 1, body, rest => evScopeK_ok (againRK_ok hsy hc L ro n) body (codeRK_ok hsy hc L ro (againRK_ok hsy hc L ro n) rest 0)
def rndEnd (i : Nat) (q2 : CR4) (k : Value × LS → Option R) : Option R := match q2.2.2.1.heap.get i with
  | some (.loop r3) => k (.bool (jumpOf q2.1).isNone, q2.2.2.1.upd i (some (.loop { r3 with st := cond (jumpOf q2.1).isNone .ready .done, pend := jumpOf q2.1 })))
  | _ => none
def roundSK (sy : Sy) (P : Program) (gl : Gl) (ext : Ext) (L G : Nat) (call : CallF) (ck : CallK R) (i : Nat) (args : List Value) (σ : LS) (k : Value × LS → Option R) : Option R :=
  match σ.heap.get i with
  | some (.loop r) => cond (Nat.ble (i + 1) most && Nat.beq args.length r.ps.length && r.ps.all (fun t => Nat.ble (t + 1) r.n && Nat.ble (t + 1) most))
    (codeRK sy ⟨P, gl, ext, call, r.n⟩ ck L (some i) (againRK sy ⟨P, gl, ext, call, r.n⟩ ck L (some i) G) r.assign (putPs r.ps args r.tmps) σ [] fun q => (match q.1 with
      | .normal => (match q.2.2.1.heap.get i with
        | some (.loop r1) => cond (isReady r1.st)
          (codeRK sy ⟨P, gl, ext, call, r.n⟩ ck L (some i) (againRK sy ⟨P, gl, ext, call, r.n⟩ ck L (some i) G) r.body q.2.1 (q.2.2.1.upd i (some (.loop { r1 with st := .busy }))) q.2.2.2 fun q2 => rndEnd i q2 k) none
        | _ => none)
      | _ => none)) none
  | _ => none
theorem roundSK_ok {sy : Sy} {P : Program} {gl : Gl} (hsy : SyOK gl sy) {ext : Ext} {L G : Nat} {call : CallF} {ck : CallK R} (hc : CkI call ck) (i : Nat) (args : List Value) (σ : LS) : KI (roundS P gl ext L G call i args σ) (roundSK sy P gl ext L G call ck i args σ) := by
  intro k x h
  unfold roundSK at h
  unfold roundS
  split at h
  case h_2 => cases h
  rename_i r hg
  try simp only [hg]
  obtain ⟨c, h1⟩ := condT h
  rw [c, cond_true]
  have hc' : CkI (Env.mk P gl ext call r.n).call ck := hc
  have hsy' : SyOK (Env.mk P gl ext call r.n).gl sy := hsy
  obtain ⟨⟨e, s1, σ1, ms1⟩, h2, h3⟩ := codeRK_ok hsy' hc' L (some i) (againRK_ok hsy' hc' L (some i) G) r.assign 0 _ σ [] _ x h1
  rw [h2, Option.bind_some]
  simp only at h3
  cases e with
  | exit id => cases h3
  | goto l => cases h3
  | ret => cases h3
  | normal =>
  simp only at h3 ⊢
  split at h3
  case h_2 => cases h3
  rename_i r1 hg1
  obtain ⟨c1, h4⟩ := condT h3
  try rw [hg1]
  simp only [c1, cond_true]
  obtain ⟨q2, h5, h6⟩ := codeRK_ok hsy' hc' L (some i) (againRK_ok hsy' hc' L (some i) G) r.body 0 _ _ _ _ x h4
  rw [h5, Option.bind_some]
  unfold rndEnd at h6
  split at h6
  case h_2 => cases h6
  rename_i r3 hg3
  try rw [hg3]
  exact ⟨_, rfl, h6⟩

def callSK (sy : Sy) (P : Program) (gl : Gl) (ext : Ext) (H : Hs) (L G : Nat) : Nat → CallK R
  | 0, _, _, _, _ => none
  | d + 1, t, args, σ, k => (match H.mf t args σ with
    | some (c, v) => cond c (k (v, σ)) none
    | none => (match t with
      | .fn f => (match H.hf f with
        | some h => embK P h args σ (funSK sy P gl ext L G (H.hl f) (callS P gl ext H L G d) (callSK sy P gl ext H L G d) f args σ k) fun o => (oneV o).bind k
        | none => funSK sy P gl ext L G (H.hl f) (callS P gl ext H L G d) (callSK sy P gl ext H L G d) f args σ k)
      | .rd i => roundSK sy P gl ext L G (callS P gl ext H L G d) (callSK sy P gl ext H L G d) i args σ k))
theorem callSK_ok {sy : Sy} {P : Program} {gl : Gl} (hsy : SyOK gl sy) {ext : Ext} {H : Hs} {L G : Nat} : ∀ d, CkI (R := R) (callS P gl ext H L G d) (callSK sy P gl ext H L G d)
  | 0 => fun _ _ _ _ _ h => by cases h
  | d + 1 => fun t args σ k x h => by
    have ih := callSK_ok hsy (P := P) (gl := gl) (ext := ext) (H := H) (L := L) (G := G) d
    simp only [callSK] at h
    simp only [callS]
    cases hm : H.mf t args σ with
    | some p =>
      obtain ⟨c, v⟩ := p
      rw [hm] at h
      obtain ⟨h1, h2⟩ := condT h
      exact ⟨_, by simp only [h1, cond_true], h2⟩
    | none =>
      rw [hm] at h
      cases t with
      | rd i => exact roundSK_ok hsy ih i args σ k x h
      | fn f =>
        simp only at h ⊢
        have hf := funSK_ok (R := R) hsy (P := P) (gl := gl) (ext := ext) (L := L) (G := G) (hl := H.hl f) ih f args σ
        cases hh : H.hf f with
        | none => rw [hh] at h; exact hf k x h
        | some g => rw [hh] at h; exact embK_ok (fun o => KI.opt _) hf k x h
end
end Go.Proofs.YtpckfdopokmbkaaGreatDoor.Ev

namespace Go.Proofs.YtpckfdopokmbkaaGreatDoor.Ev
open Go
open Go.RowKit

/-! ### What a function, or a round of a loop, leaves behind: just the rows that are come to -/
noncomputable section
variable {P : Program} {gl : Gl} {ext : Ext} {φ φ0 φ1 : Phi} {σ σ0 σ1 : LS} {w w0 w1 : World}

/-- The rows below a bound, but for those that are moved. -/
def pinned (σ : LS) (mv : List Nat) : Nat → Nat → List (Option LObj)
  | 0, _ => []
  | n + 1, i => cond (memN mv i) none (σ.heap.get i) :: pinned σ mv n (i + 1)
theorem pinned_spec {mv : List Nat} : ∀ (n i : Nat), (pinned σ mv n i).length = n ∧ ∀ (j : Nat) o, (pinned σ mv n i)[j]? = some (some o) → i + j ∉ mv ∧ σ.heap.get (i + j) = some o
  | 0, i => ⟨rfl, by simp [pinned]⟩
  | n + 1, i => by
    obtain ⟨h1, h2⟩ := pinned_spec (mv := mv) n (i + 1)
    refine ⟨by simp [pinned, h1], fun j o hj => ?_⟩
    cases j with
    | zero =>
      simp only [pinned, List.getElem?_cons_zero, Option.some.injEq] at hj
      rw [Bool.cond_eq_ite] at hj
      split at hj
      · cases hj
      · rename_i hm
        exact ⟨fun e => hm (memN_iff.2 (by simpa using e)), by simpa using hj⟩
    | succ j =>
      have := h2 j o (by simpa [pinned] using hj)
      rw [show i + (j + 1) = i + 1 + j from by omega]; exact this

def foldO (f : Option LObj → List Nat → List Nat) : List (Option LObj) → List Nat → List Nat
  | [], acc => acc
  | o :: l, acc => foldO f l (f o acc)
def chkEx (b : Nat) (mv ids : List Nat) : Bool := nodupN ids && ids.all (fun i => Nat.ble b i || memN mv i) && Nat.ble (b + ids.length) most
/-- The values and rows behind it, those from the bound on numbered anew; some that lie below it are moved. -/
def exitG (P : Program) (b : Nat) (mv : List Nat) (vals : List Value) (σ : LS) : Option (Bool × List Value × List (Option LObj)) :=
  (fun pin => (fun ids => cond (chkEx b mv ids) ((renL (renV (rn b ids) 8) vals).bind fun vs => (renOs P (rn b ids) (pin ++ ids.map fun i => σ.heap.get i)).map fun q => (q.1, vs, q.2)) none)
    (walkI P b σ 400 0 (foldO (idsOO P b) pin (foldV (idsV b 8) vals mv)))) (pinned σ mv (b - 1000) 1000)

def phiX (φ : Phi) (b : Nat) (ids : List Nat) : Phi := ⟨fun i => if i < b then φ i else (ids[i - b]?).bind φ.m, fun i => if i < b then φ.fp i else match ids[i - b]? with
  | some a => φ.fp a
  | none => fun _ => False⟩
theorem phiX_def (φ : Phi) (b : Nat) (ids : List Nat) (i : Nat) : phiX φ b ids i = if i < b then φ i else (ids[i - b]?).bind φ.m := rfl
theorem phiX_fp (φ : Phi) (b : Nat) (ids : List Nat) (i : Nat) : (phiX φ b ids).fp i = if i < b then φ.fp i else (match ids[i - b]? with
  | some a => φ.fp a
  | none => fun _ => False) := rfl
theorem rnX_ok {b : Nat} {ids : List Nat} : RnOK (rn b ids) φ (phiX φ b ids) := by
  intro i j r h hr
  rw [phiX_def]
  rcases rn_spec h with ⟨h1, h2⟩ | ⟨h1, rfl⟩
  · rw [if_neg (by omega), h2]; exact hr
  · rw [if_pos h1]; exact hr

theorem Tr.exit (hgl : ∀ g k v, gl g k = some v → g < 1000 ∧ lowV 8 v = true) (hn : P.globals.size ≤ 900) (hr0 : Rel P gl φ0 σ0 w0) (t : Tr P gl φ0 σ0 w0 φ1 σ1 w1) {b : Nat} (hb : σ0.next = b) (hb0 : 1000 ≤ b) {mv : List Nat} {vals vs : List Value} {rows : List (Option LObj)}
    (h : exitG P b mv vals σ1 = some (true, vs, rows)) : ∃ ids, Tr P gl φ0 σ0 w0 (phiX φ1 b ids) (rowsOf rows) w1 ∧ renL (renV (rn b ids) 8) vals = some vs := by
  unfold exitG at h
  simp only at h
  generalize walkI P b σ1 400 0 (foldO (idsOO P b) (pinned σ1 mv (b - 1000) 1000) (foldV (idsV b 8) vals mv)) = ids at h
  obtain ⟨hc, h1⟩ := condT h
  obtain ⟨u, hu, h2⟩ := Option.bind_eq_some_iff.1 h1
  obtain ⟨⟨c, m⟩, hm, h3⟩ := Option.map_eq_some_iff.1 h2
  simp only [Prod.mk.injEq] at h3
  obtain ⟨rfl, rfl, rfl⟩ := h3
  refine ⟨ids, ?_, hu⟩
  simp only [chkEx, Bool.and_eq_true, List.all_eq_true, Bool.or_eq_true] at hc
  obtain ⟨⟨c1, c2⟩, c3⟩ := hc
  have c3 := Nat.le_of_ble_eq_true c3
  obtain ⟨e1, e2⟩ := renOs_spec hm
  obtain ⟨p1, p2⟩ := pinned_spec (σ := σ1) (mv := mv) (b - 1000) 1000
  rw [List.length_append, p1, List.length_map] at e1
  have hroom : 1000 + m.length ≤ most := by omega
  subst hb
  -- what stands in the store behind it
  have live2 : ∀ i o, (rowsOf m).heap.get i = some o → ∃ o1, renO P (rn σ0.next ids) o1 = some (true, o) ∧ ((i < σ0.next ∧ i ∉ mv ∧ σ1.heap.get i = some o1) ∨ (σ0.next ≤ i ∧ ∃ a, ids[i - σ0.next]? = some a ∧ σ1.heap.get a = some o1)) := by
    intro i o hi
    obtain ⟨h1, h2⟩ := (rowsOf_get hroom).1 hi
    obtain ⟨o1, g1, g2⟩ := e2 _ o h2
    refine ⟨o1, g2, ?_⟩
    rcases Nat.lt_or_ge (i - 1000) (σ0.next - 1000) with hlt | hge
    · rw [List.getElem?_append_left (by omega)] at g1
      obtain ⟨q1, q2⟩ := p2 _ o1 g1
      rw [show 1000 + (i - 1000) = i from by omega] at q1 q2
      exact .inl ⟨by omega, q1, q2⟩
    · rw [List.getElem?_append_right (by omega), p1, List.getElem?_map] at g1
      obtain ⟨a, q1, q2⟩ := Option.map_eq_some_iff.1 g1
      exact .inr ⟨by omega, a, by rw [show i - σ0.next = i - 1000 - (σ0.next - 1000) from by omega]; exact q1, q2⟩
  refine Tr.mv hgl hn hr0 t hb0 (fun i => if i < σ0.next then i else (ids[i - σ0.next]?).getD 0) (fun i hi => by rw [phiX_def, if_pos hi]) ?_ ?_ ?_ ?_ ?_ ?_
  · intro i o hi
    obtain ⟨o1, g1, g2⟩ := live2 i o hi
    have hR := renO_sound (P := P) (rnX_ok (φ := φ1) (b := σ0.next) (ids := ids)) g1
    have hB := renO_box (P := P) (rnX_ok (φ := φ1) (b := σ0.next) (ids := ids)) g1
    rcases g2 with ⟨q1, _, q2⟩ | ⟨q1, a, q2, q3⟩
    · exact ⟨o1, by simp only [q1, if_true]; exact q2, by rw [phiX_def]; simp only [q1, if_true], hR.2, hR.1, hB, by rw [phiX_fp]; simp only [q1, if_true]⟩
    · have hnl : ¬ i < σ0.next := by omega
      refine ⟨o1, by simp only [hnl, if_false, q2, Option.getD_some]; exact q3, ?_, hR.2, hR.1, hB, ?_⟩
      · simp only [hnl, if_false, q2, Option.getD_some]
        rw [phiX_def, if_neg hnl, q2]
        rfl
      · simp only [hnl, if_false, q2, Option.getD_some]
        rw [phiX_fp, if_neg hnl, q2]
  · intro i j o o' hi hj he
    obtain ⟨o1, _, g2⟩ := live2 i o hi
    obtain ⟨o2, _, k2⟩ := live2 j o' hj
    rcases g2 with ⟨q1, q0, _⟩ | ⟨q1, a, q2, _⟩
    · rcases k2 with ⟨r1, _, _⟩ | ⟨r1, a', r2, _⟩
      · simpa only [q1, r1, if_true] using he
      · have hnl : ¬ j < σ0.next := by omega
        simp only [q1, hnl, if_true, if_false, r2, Option.getD_some] at he
        subst he
        rcases c2 _ (List.mem_of_getElem? r2) with h | h
        · have := Nat.le_of_ble_eq_true h; omega
        · exact absurd (memN_iff.1 h) q0
    · have hnl : ¬ i < σ0.next := by omega
      rcases k2 with ⟨r1, r0, _⟩ | ⟨r1, a', r2, _⟩
      · simp only [r1, hnl, if_true, if_false, q2, Option.getD_some] at he
        subst he
        rcases c2 _ (List.mem_of_getElem? q2) with h | h
        · have := Nat.le_of_ble_eq_true h; omega
        · exact absurd (memN_iff.1 h) r0
      · have hnj : ¬ j < σ0.next := by omega
        simp only [hnl, hnj, if_false, q2, r2, Option.getD_some] at he
        subst he
        have := nodupN_inj c1 _ _ _ q2 r2
        omega
  · intro i r hi
    rw [phiX_def] at hi
    split at hi
    · exact ⟨i, hi⟩
    · obtain ⟨a, _, h⟩ := Option.bind_eq_some_iff.1 hi
      exact ⟨a, h⟩
  · intro i hi
    have hi : 1000 + m.length ≤ i := hi
    rw [phiX_def, if_neg (by omega), List.getElem?_eq_none (by omega)]
    rfl
  · show σ0.next ≤ 1000 + m.length
    omega
  · intro i hi
    refine ⟨by rw [phiX_fp, if_pos hi], fun hd => ?_⟩
    cases e : (rowsOf m).heap.get i with
    | none => rfl
    | some o =>
      obtain ⟨o1, _, g2⟩ := live2 i o e
      rcases g2 with ⟨_, _, q2⟩ | ⟨q1, _⟩
      · rw [hd] at q2; cases q2
      · omega

/-! ### Functions -/
def exitK (P : Program) (b : Nat) (r : Value × LS) : Option Out := (exitG P b [] [r.1] r.2).bind fun q => cond q.1 (some (.normal, q.2.1, q.2.2)) none

/-! ### Loops -/
abbrev LSt := List Value × List (Option LObj)
/-- Behind one round: on, or out. -/
def rndK (P : Program) (b : Nat) (live out : List Nat) (r : CR4) : Option (LSt ⊕ Out) := match r.2.2.2 with
  | [] => (match r.1 with
    | .normal => (slotsL r.2.1 live).bind fun vals => (exitG P b [] vals r.2.2.1).bind fun q => cond q.1 (some (.inl q.2)) none
    | e => (slotsL r.2.1 out).bind fun vals => (exitG P b [] vals r.2.2.1).bind fun q => cond q.1 (some (.inr (e, q.2))) none)
  | _ :: _ => none
/-- Inner loops' answers are those of the function. -/
theorem loops_inner : ∀ {c : Code} {n : Nat} {x : Code}, (loopsOf c)[n]? = some x → ∀ (m : Nat) z, (loopsOf x)[m]? = some z → (loopsOf c)[n + 1 + m]? = some z
  | .seq a b, n, x, h, m, z, hz => by
    simp only [loopsOf] at h ⊢
    rcases Nat.lt_or_ge n (loopsOf a).length with hl | hl
    · rw [List.getElem?_append_left hl] at h
      have := loops_inner h m z hz
      rw [List.getElem?_append_left (List.getElem?_eq_some_iff.1 this).1]; exact this
    · rw [List.getElem?_append_right hl] at h
      have := loops_inner h m z hz
      rw [List.getElem?_append_right (by omega), show n + 1 + m - (loopsOf a).length = n - (loopsOf a).length + 1 + m from by omega]; exact this
  | .cond _ a b, n, x, h, m, z, hz => by
    simp only [loopsOf] at h ⊢
    rcases Nat.lt_or_ge n (loopsOf a).length with hl | hl
    · rw [List.getElem?_append_left hl] at h
      have := loops_inner h m z hz
      rw [List.getElem?_append_left (List.getElem?_eq_some_iff.1 this).1]; exact this
    · rw [List.getElem?_append_right hl] at h
      have := loops_inner h m z hz
      rw [List.getElem?_append_right (by omega), show n + 1 + m - (loopsOf a).length = n - (loopsOf a).length + 1 + m from by omega]; exact this
  | .block _ a, n, x, h, m, z, hz => loops_inner (c := a) h m z hz
  | .scope a, n, x, h, m, z, hz => loops_inner (c := a) h m z hz
  | .loop a, n, x, h, m, z, hz => by
    simp only [loopsOf] at h ⊢
    cases n with
    | zero =>
      simp at h
      subst h
      rw [show 0 + 1 + m = m + 1 from by omega]
      simpa using hz
    | succ n =>
      have := loops_inner (c := a) (by simpa using h) m z hz
      rw [show n + 1 + 1 + m = (n + 1 + m) + 1 from by omega]
      simpa using this
  | .skip, n, x, h, m, z, hz => by simp [loopsOf] at h
  | .label _, n, x, h, m, z, hz => by simp [loopsOf] at h
  | .region _ _ _, n, x, h, m, z, hz => by simp [loopsOf] at h
  | .exit _, n, x, h, m, z, hz => by simp [loopsOf] at h
  | .goto _, n, x, h, m, z, hz => by simp [loopsOf] at h
  | .ret, n, x, h, m, z, hz => by simp [loopsOf] at h
  | .rangeFunc _ _ _ _, n, x, h, m, z, hz => by simp [loopsOf] at h
  | .refuse _, n, x, h, m, z, hz => by simp [loopsOf] at h

theorem LiveR.slots {N : Nat} {ts : List Nat} {vs : List Value} {a : Act} (hl : LiveR φ N ts vs a) {s : Slots} (h : putL N ts vs .nil = some s) : SlR2 φ N s a := ⟨hl.size, fun t v hv => by
  obtain ⟨_, h2⟩ := putL_get h
  rcases h2 t v hv with ⟨i, g1, g2⟩ | g
  · exact hl.get i t v g1 g2
  · rw [PT.get_nil] at g; cases g⟩
theorem SlR2.live {N : Nat} {s : Slots} {a : Act} (hs : SlR2 φ N s a) {ts : List Nat} {vals : List Value} (h : slotsL s ts = some vals) : LiveR φ N ts vals a := by
  obtain ⟨h1, h2⟩ := slotsL_spec h
  exact ⟨hs.size, h1, fun i t v g1 g2 => hs.get t v (h2 i t v g1 g2)⟩
theorem LiveR.ren {N : Nat} {ts : List Nat} {vs us : List Value} {a : Act} {ρ : Rn} (hl : LiveR φ N ts vs a) (hρ : RnOK ρ φ φ1) (h : renL (renV ρ 8) vs = some us) : LiveR φ1 N ts us a := by
  obtain ⟨h1, h2⟩ := renL_spec h
  refine ⟨hl.size, by rw [h1]; exact hl.len, fun i t v g1 g2 => ?_⟩
  have hi : i < vs.length := by
    have := (List.getElem?_eq_some_iff.1 g2).1
    omega
  obtain ⟨v', k1, k2⟩ := hl.get i t _ g1 (List.getElem?_eq_getElem hi)
  exact ⟨v', k1, renV_sound hρ 8 _ v v' (h2 i _ v (List.getElem?_eq_getElem hi) g2) k2⟩

end
end Go.Proofs.YtpckfdopokmbkaaGreatDoor.Ev

namespace Go.Proofs.YtpckfdopokmbkaaGreatDoor.Ev
open Go
open Go.RowKit

noncomputable section
variable {P : Program} {gl gl' : Gl} {ext : Ext} {φ φ0 φ1 : Phi} {σ σ0 σ1 : LS} {w w0 w1 : World}

/-! ### Answers, put together -/
def lkF (l : List (FuncId × Hd)) (f : FuncId) : Option Hd := match l with
  | [] => none
  | p :: r => cond (Nat.beq p.1 f) (some p.2) (lkF r f)
def lkL (l : List (Nat × LoopH)) (n : Nat) : Option LoopH := match l with
  | [] => none
  | p :: r => cond (Nat.beq p.1 n) (some p.2) (lkL r n)
def lkFL (l : List (FuncId × List (Nat × LoopH))) (f : FuncId) : Hl := match l with
  | [] => noHl
  | p :: r => cond (Nat.beq p.1 f) (lkL p.2) (lkFL r f)
/-- Answers of flat calls, of calls, of loops. -/
def hsOf (a : List (FuncId × AF)) (h : List (FuncId × Hd)) (l : List (FuncId × List (Nat × LoopH))) : Hs := ⟨asmOf a, lkF h, lkFL l⟩
def LpOK (P : Program) (gl : Gl) (f : FuncId) (n : Nat) (h : LoopH) : Prop := ∀ fn body x, P.funcs[f]? = some fn → fn.body = some body → (loopsOf body)[n]? = some x → LoopOK P gl fn.ntmps x h
theorem lkF_ok : ∀ {l : List (FuncId × Hd)}, (∀ p ∈ l, SubOK P gl p.1 p.2) → ∀ f h, lkF l f = some h → SubOK P gl f h
  | [], _, f, h, e => by cases e
  | p :: r, hl, f, h, e => by
    simp only [lkF, Bool.cond_eq_ite] at e
    split at e
    · rename_i hb
      cases e
      rw [← Nat.eq_of_beq_eq_true hb]
      exact hl p (List.mem_cons_self ..)
    · exact lkF_ok (fun q hq => hl q (List.mem_cons_of_mem _ hq)) f h e
theorem lkL_ok {f : FuncId} : ∀ {l : List (Nat × LoopH)}, (∀ p ∈ l, LpOK P gl f p.1 p.2) → ∀ n h, lkL l n = some h → LpOK P gl f n h
  | [], _, n, h, e => by cases e
  | p :: r, hl, n, h, e => by
    simp only [lkL, Bool.cond_eq_ite] at e
    split at e
    · rename_i hb
      cases e
      rw [← Nat.eq_of_beq_eq_true hb]
      exact hl p (List.mem_cons_self ..)
    · exact lkL_ok (fun q hq => hl q (List.mem_cons_of_mem _ hq)) n h e
theorem lkFL_ok : ∀ {l : List (FuncId × List (Nat × LoopH))}, (∀ p ∈ l, ∀ q ∈ p.2, LpOK P gl p.1 q.1 q.2) → ∀ f n h, lkFL l f n = some h → LpOK P gl f n h
  | [], _, f, n, h, e => by cases e
  | p :: r, hl, f, n, h, e => by
    simp only [lkFL] at e
    rw [Bool.cond_eq_ite] at e
    split at e
    · rename_i hb
      have hb := Nat.eq_of_beq_eq_true hb
      subst hb
      exact lkL_ok (fun q hq => hl p (List.mem_cons_self ..) q hq) n h e
    · exact lkFL_ok (fun q hq => hl q (List.mem_cons_of_mem _ hq)) f n h e
theorem hsOf_ok {a : List (FuncId × AF)} {h : List (FuncId × Hd)} {l : List (FuncId × List (Nat × LoopH))} (ha : ∀ p ∈ a, FnOK P gl p.1 p.2) (hh : ∀ p ∈ h, SubOK P gl p.1 p.2) (hl : ∀ p ∈ l, ∀ q ∈ p.2, LpOK P gl p.1 q.1 q.2) : (hsOf a h l).OK P gl :=
  ⟨asmOf_ok ha, lkF_ok hh, fun f n h fn body x e => lkFL_ok hl f n h e fn body x⟩

/-! ### Flat answers -/
theorem flat_end {v u : Value} {σ1 : LS} (h : flatR (u, σ1) = some v) : u = v ∧ af 8 v = true := by
  unfold flatR at h
  obtain ⟨h1, h2⟩ := condT h
  cases h2
  exact ⟨rfl, h1⟩
theorem flatS {sy : Sy} (hsy : SyOK gl sy) (hG : Good P ext) (hgl : ∀ g k v, gl g k = some v → g < 1000 ∧ lowV 8 v = true) (hn : P.globals.size ≤ 900) {H : Hs} (hH : H.OK P gl) {L G d : Nat} {f : FuncId} {args : List Value} {v : Value} (ha : args.all (af 8) = true)
    (h : callSK sy P gl ext H L G d (.fn f) args LS.start flatR = some v) (hw : Ready P gl w) : Calls P f args.toArray w (fun e w' => e = .returned v ∧ Below w.heap.size w w') := by
  obtain ⟨φ, hr⟩ := hw
  obtain ⟨⟨u, σ1⟩, hu, h2⟩ := callSK_ok hsy d (.fn f) args LS.start _ _ h
  obtain ⟨rfl, hf⟩ := flat_end h2
  refine Calls.mono (callS_ok hG hgl hn hH L G d (.fn f) args LS.start u σ1 hu φ w args.toArray hr (by simpa using LR.af_refl ha)) ?_
  rintro e w2 ⟨v', φ1, rfl, t, hv⟩
  have e1 := VR.of_af 8 hf hv
  subst e1
  exact ⟨rfl, t.below fun i o hi => by rw [start_get] at hi; cases hi⟩
/-- A flat answer where values and answers are flat, by the evaluation of the body. -/
theorem fn_of {sy : Sy} (hsy : SyOK gl sy) (hG : Good P ext) (hgl : ∀ g k v, gl g k = some v → g < 1000 ∧ lowV 8 v = true) (hn : P.globals.size ≤ 900) {H : Hs} (hH : H.OK P gl) {L G d : Nat} {f : FuncId} {g : AF}
    (hk : ∀ args σ v, g args σ = some (true, v) → args.all (af 8) = true ∧ callSK sy P gl ext H L G d (.fn f) args LS.start flatR = some v) : FnOK P gl f g :=
  FnOK.flat hgl hn fun args σ v h => by
    obtain ⟨h1, h2⟩ := hk args σ v h
    obtain ⟨⟨u, σ1⟩, _, h4⟩ := callSK_ok hsy d (.fn f) args LS.start _ _ h2
    obtain ⟨_, hf⟩ := flat_end h4
    exact ⟨h1, hf, fun w hw => flatS hsy hG hgl hn hH h1 h2 hw⟩

/-! ### More cells known -/
end
end Go.Proofs.YtpckfdopokmbkaaGreatDoor.Ev

namespace Go.Proofs.YtpckfdopokmbkaaGreatDoor.Ev
open Go
open Go.RowKit

/-! ### Calls and loops where what is looked at hangs on how they are come to -/
noncomputable section
/-- Whether a proposition holds. -/
def cl (p : Prop) : Bool := @decide p (Classical.propDecidable p)
theorem cl_t {p : Prop} (h : p) : cl p = true := @decide_eq_true p (Classical.propDecidable p) h
theorem of_cl {p : Prop} (h : cl p = true) : p := @of_decide_eq_true p (Classical.propDecidable p) h
variable {P : Program} {gl : Gl} {ext : Ext} {φ φ0 φ1 : Phi} {σ σ0 σ1 : LS} {w w0 w1 : World}

/-! ### Cells that came in -/
def glK (gl : Gl) (b off : Nat) (cs : List Value) : Gl := fun g k => cond (Nat.beq g b) (cond (Nat.ble off k) cs[k - off]? none) (gl g k)
theorem phi0_none {n : Nat} {bs : List Nat} {i : Nat} (h1 : n ≤ i) (h2 : 900 + bs.length ≤ i) : phi0 n bs i = none := by
  rw [phi0_at]
  rw [if_neg (by omega), if_pos (by omega), List.getElem?_eq_none (by omega)]
  rfl
end
end Go.Proofs.YtpckfdopokmbkaaGreatDoor.Ev

namespace Go.Proofs.YtpckfdopokmbkaaGreatDoor.Ev
open Go
open Go.RowKit

/-! ### A row that a call laid anew -/
noncomputable section
variable {P : Program} {gl : Gl} {φ : Phi} {σ σ2 : LS} {w w1 : World}
end
end Go.Proofs.YtpckfdopokmbkaaGreatDoor.Ev

namespace Go.Proofs.YtpckfdopokmbkaaGreatDoor.Ev
open Go
open Go.RowKit

/-! ### Calls and loops where what is answered, too, hangs on how they are come to -/
noncomputable section
variable {P : Program} {gl : Gl} {ext : Ext} {φ φ0 φ1 : Phi} {σ σ0 σ1 : LS} {w w0 w1 : World}

/-! ### What is answered at just one call, or one state of a loop -/
def gH (g : List Value → List (Option LObj) → Bool) (o : Out) : Hd := fun vs rows => some (.br (g vs rows) (.ret o) .fail)
def atS (vs0 : List Value) (rows0 : List (Option LObj)) (vs : List Value) (rows : List (Option LObj)) : Bool := cl (vs = vs0 ∧ rows = rows0)
theorem atS_self (vs : List Value) (rows : List (Option LObj)) : atS vs rows vs rows = true := cl_t ⟨rfl, rfl⟩
theorem gH_run {vs0 vs : List Value} {rows0 rows : List (Option LObj)} {o r : Out} {t : DT Out} (h1 : gH (atS vs0 rows0) o vs rows = some t) (h2 : t.run = some r) : vs = vs0 ∧ rows = rows0 ∧ r = o := by
  unfold gH at h1
  cases h1
  have h3 : cond (atS vs0 rows0 vs rows) (some o) none = some r := h2
  obtain ⟨h4, h5⟩ := condT h3
  cases h5
  obtain ⟨e1, e2⟩ := of_cl h4
  exact ⟨e1, e2, rfl⟩
end
end Go.Proofs.YtpckfdopokmbkaaGreatDoor.Ev
