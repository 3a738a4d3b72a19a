/- An evaluator of closed calls, with its proof: part 5: numbers that are not known, answers that are assumed, rows of parameters without pointers. No condition. -/
import Derived.Test.YtgohnfkidkomhaaDoorEv4
import Derived.Lib.LaidTab
noncomputable section
namespace Go.Proofs.YtgohnfkidkomhaaDoor.Ev
open Go
open Go.RowKit

/-! ### Contracts by evaluation, for walks -/
section
variable {P : Program} {gl : Gl} {ext : Ext} {w w1 : World}

/-- A world in which the listed tables stand. -/
def Ready (P : Program) (gl : Gl) (w : World) : Prop := ∃ φ, Rel P gl φ LS.start w

theorem Ready.below (h : Ready P gl w) (hb : Below w.heap.size w w1) : Ready P gl w1 := by
  obtain ⟨φ, hr⟩ := h
  exact ⟨φ, (Tr.of_below hr hb).rel⟩

def isFlat (v : Value) (r : Option (Value × LS)) : Bool := match r with
  | some (u, _) => af 8 u && veq 8 u v
  | none => false

/-- A call of flat arguments that answers a flat value: for every world in which the tables stand. -/
theorem flat_ok (hG : Good P ext) {tbl : List FuncId} (ht : ∀ f ∈ tbl, MemoOK P gl f) {L G n : Nat} {f : FuncId} {args : List Value} {v : Value} (ha : args.all (af 8) = true)
    (h : isFlat v (callF P gl ext tbl L G n (.fn f) args LS.start) = true) (hw : Ready P gl w) : Calls P f args.toArray w (fun e w' => e = .returned v ∧ Below w.heap.size w w') := by
  obtain ⟨φ, hr⟩ := hw
  rw [callF_eq] at h
  unfold isFlat at h
  split at h
  · rename_i u σ1 hu
    simp only [Bool.and_eq_true] at h
    refine Calls.mono (callM_ok hG ht L G n (.fn f) args LS.start u σ1 hu φ w args.toArray hr (by simpa using LR.af_refl ha)) ?_
    rintro e w2 ⟨v', φ1, rfl, t, hv⟩
    have e1 := VR.of_af 8 h.1 hv
    have e2 := veq_eq 8 u v h.2
    subst e1; subst e2
    exact ⟨rfl, t.below fun i o hi => by rw [start_get] at hi; cases hi⟩
  · cases h

/-- A call whose answer is known ahead, in such a world. -/
theorem MemoOK.ready {f : FuncId} (h : MemoOK P gl f) (hw : Ready P gl w) : Calls P f #[] w (fun e w' => e = .returned (.bool true) ∧ Below w.heap.size w w') := by
  obtain ⟨φ, hr⟩ := hw
  exact h φ LS.start w hr
end
end Go.Proofs.YtgohnfkidkomhaaDoor.Ev

namespace Go.Proofs.YtgohnfkidkomhaaDoor.Ev
open Go
open Go.RowKit

/-! ### Structs and arrays of numbers compared, the numbers not known -/
section
variable (P : Program)
def eqFs (rec : TypeId → Value → Value → Option Bool) (xs ys : Array Value) : List Field → Option Bool
  | [] => some true
  | f :: fs => cond (f.name == "_") (eqFs rec xs ys fs) ((runP P (part f.type xs f.offset)).bind fun u => (runP P (part f.type ys f.offset)).bind fun v => (rec f.type u v).bind fun b => (eqFs rec xs ys fs).map fun c => b && c)
def eqIs (rec : TypeId → Value → Value → Option Bool) (elem : TypeId) (n : Nat) (xs ys : Array Value) : List Nat → Option Bool
  | [] => some true
  | i :: is => (runP P (part elem xs (i * n))).bind fun u => (runP P (part elem ys (i * n))).bind fun v => (rec elem u v).bind fun b => (eqIs rec elem n xs ys is).map fun c => b && c
def eqV : Nat → TypeId → Value → Value → Option Bool
  | 0, _, _, _ => none
  | d + 1, t, x, y => match P.underlying t, x, y with
    | some (.int _), .int k a, .int k' b => cond (decide (k = k')) (some (a == b)) none
    | some .bool, .bool a, .bool b => some (a == b)
    | some .string, .string a, .string b => some (a == b)
    | some (.struct fields), .agg xs, .agg ys => cond (P.stoodInHeld t) none (eqFs P (eqV d) xs ys fields.toList)
    | some (.array len elem), .agg xs, .agg ys => (runP P (sizeOf elem)).bind fun n => eqIs P (eqV d) elem n xs ys (List.range' 0 len 1)
    | _, _, _ => none
end

section
variable {P : Program}
abbrev MB := Option Bool × Unit
theorem runP_forIn {α : Type} {B : α → MB → Sem (ForInStep MB)} {q : α → Bool} : ∀ (l : List α), (∀ a ∈ l, runP P (B a ⟨none, ⟨⟩⟩) = some (if q a then .yield ⟨none, ⟨⟩⟩ else .done ⟨some false, ⟨⟩⟩)) →
    runP P (forIn l (⟨none, ⟨⟩⟩ : MB) B) = some (if l.all q then ⟨none, ⟨⟩⟩ else ⟨some false, ⟨⟩⟩)
  | [], _ => rfl
  | a :: l, h => by
    rw [List.forIn_cons, runP_bind, h a List.mem_cons_self, List.all_cons]
    cases hq : q a with
    | true =>
      simp only [if_true, Option.bind_some, Bool.true_and]
      exact runP_forIn l fun a ha => h a (List.mem_cons_of_mem _ ha)
    | false => simp [runP, pure]

theorem eqFs_spec {rec : TypeId → Value → Value → Option Bool} {xs ys : Array Value} : ∀ {l : List Field} {b : Bool}, eqFs P rec xs ys l = some b →
    ∃ q : Field → Bool, l.all q = b ∧ ∀ f ∈ l, (f.name = "_" ∧ q f = true) ∨ (f.name ≠ "_" ∧ ∃ u v, runP P (part f.type xs f.offset) = some u ∧ runP P (part f.type ys f.offset) = some v ∧ rec f.type u v = some (q f)) := by
  intro l b h
  refine ⟨fun f => if f.name = "_" then true else ((runP P (part f.type xs f.offset)).bind fun u => (runP P (part f.type ys f.offset)).bind fun v => rec f.type u v).getD true, ?_, ?_⟩
  · induction l generalizing b with
    | nil => cases h; rfl
    | cons f fs ih =>
      simp only [eqFs, Bool.cond_eq_ite] at h
      rw [List.all_cons]
      by_cases hn : f.name = "_"
      · simp only [hn, beq_self_eq_true, if_true] at h
        rw [ih h]; simp [hn]
      · have hn2 : (f.name == "_") = false := by simpa using hn
        simp only [hn2, Bool.false_eq_true, if_false, Option.bind_eq_some_iff, Option.map_eq_some_iff] at h
        obtain ⟨u, hu, v, hv, b1, hb, c, hc, rfl⟩ := h
        rw [ih hc]
        simp [hn, hu, hv, hb]
  · induction l generalizing b with
    | nil => intro f hf; cases hf
    | cons f fs ih =>
      intro g hg
      simp only [eqFs, Bool.cond_eq_ite] at h
      by_cases hn : f.name = "_"
      · simp only [hn, beq_self_eq_true, if_true] at h
        rcases List.mem_cons.1 hg with rfl | hg
        · left; exact ⟨hn, if_pos hn⟩
        · exact ih h g hg
      · have hn2 : (f.name == "_") = false := by simpa using hn
        simp only [hn2, Bool.false_eq_true, if_false, Option.bind_eq_some_iff, Option.map_eq_some_iff] at h
        obtain ⟨u, hu, v, hv, b1, hb, c, hc, rfl⟩ := h
        rcases List.mem_cons.1 hg with rfl | hg
        · right; exact ⟨hn, u, v, hu, hv, by simp [hn, hu, hv, hb]⟩
        · exact ih hc g hg

theorem eqIs_spec {rec : TypeId → Value → Value → Option Bool} {elem : TypeId} {n : Nat} {xs ys : Array Value} : ∀ {l : List Nat} {b : Bool}, eqIs P rec elem n xs ys l = some b →
    ∃ q : Nat → Bool, l.all q = b ∧ ∀ i ∈ l, ∃ u v, runP P (part elem xs (i * n)) = some u ∧ runP P (part elem ys (i * n)) = some v ∧ rec elem u v = some (q i) := by
  intro l b h
  refine ⟨fun i => ((runP P (part elem xs (i * n))).bind fun u => (runP P (part elem ys (i * n))).bind fun v => rec elem u v).getD true, ?_, ?_⟩
  · induction l generalizing b with
    | nil => cases h; rfl
    | cons f fs ih =>
      simp only [eqIs, Option.bind_eq_some_iff, Option.map_eq_some_iff] at h
      obtain ⟨u, hu, v, hv, b1, hb, c, hc, rfl⟩ := h
      rw [List.all_cons, ih hc]
      simp [hu, hv, hb]
  · induction l generalizing b with
    | nil => intro f hf; cases hf
    | cons f fs ih =>
      intro g hg
      simp only [eqIs, Option.bind_eq_some_iff, Option.map_eq_some_iff] at h
      obtain ⟨u, hu, v, hv, b1, hb, c, hc, rfl⟩ := h
      rcases List.mem_cons.1 hg with rfl | hg
      · exact ⟨u, v, hu, hv, by simp [hu, hv, hb]⟩
      · exact ih hc g hg

theorem runP_under {t : TypeId} {d : TypeDesc} (h : P.underlying t = some d) : runP P (underlying t) = some d := by
  unfold underlying
  rw [runP_bind]
  have : runP P program = some P := rfl
  rw [this]
  simp [h]; rfl

theorem eqV_run : ∀ (d : Nat) {t : TypeId} {x y : Value} {b : Bool}, eqV P d t x y = some b → runP P (Op.equalIn d t x y) = some b
  | 0, _, _, _, _, h => by cases h
  | d + 1, t, x, y, b, h => by
    have hp : runP P program = some P := rfl
    unfold eqV at h
    split at h
    · rename_i hu
      rw [Bool.cond_eq_ite] at h
      split at h
      · rename_i hk
        cases h
        have hk := of_decide_eq_true hk
        simp [Op.equalIn, runP_bind, runP_under hu, hk]; rfl
      · cases h
    · rename_i hu
      cases h
      simp [Op.equalIn, runP_bind, runP_under hu]; rfl
    · rename_i hu
      cases h
      simp [Op.equalIn, runP_bind, runP_under hu]; rfl
    · rename_i fields xs ys hu
      rw [Bool.cond_eq_ite] at h
      split at h
      · cases h
      · rename_i hst
        obtain ⟨q, hq, hf⟩ := eqFs_spec h
        unfold Op.equalIn
        simp only [runP_bind, runP_under hu, Option.bind_some, hp, hst]
        simp only [Bool.false_eq_true, if_false, runP_bind]
        rw [← Array.forIn_toList, runP_forIn (q := q)]
        · rw [← hq]
          cases fields.toList.all q <;> rfl
        · intro f hfm
          rcases hf f hfm with ⟨h1, h2⟩ | ⟨h1, u, v, h2, h3, h4⟩
          · simp [h1, h2, runP, pure]
          · have := eqV_run d h4
            simp only [ne_eq, h1, not_false_eq_true, if_true, runP_bind, h2, h3, Option.bind_some, this]
            cases q f <;> simp [runP, pure]
    · rename_i len elem xs ys hu
      obtain ⟨n, hn, h⟩ := Option.bind_eq_some_iff.1 h
      obtain ⟨q, hq, hf⟩ := eqIs_spec h
      unfold Op.equalIn
      simp only [runP_bind, runP_under hu, Option.bind_some, hn]
      rw [Std.Legacy.Range.forIn_eq_forIn_range', runP_forIn (q := q)]
      · have e : List.range' 0 len 1 = List.range' ({ stop := len, step_pos := Nat.one_pos } : Std.Legacy.Range).start ({ stop := len, step_pos := Nat.one_pos } : Std.Legacy.Range).size ({ stop := len, step_pos := Nat.one_pos } : Std.Legacy.Range).step := by
          simp [Std.Legacy.Range.size]
        rw [← e, hq]
        cases b <;> rfl
      · intro i hi
        obtain ⟨u, v, h2, h3, h4⟩ := hf i (by simpa [Std.Legacy.Range.size] using hi)
        have := eqV_run d h4
        simp only [runP_bind, h2, h3, Option.bind_some, this]
        cases q i <;> simp [runP, pure]
    · cases h
end
end Go.Proofs.YtgohnfkidkomhaaDoor.Ev

namespace Go.Proofs.YtgohnfkidkomhaaDoor.Ev
open Go
open Go.RowKit

/-! ### Numbers that are not known: the evaluator behind continuations, and calls whose answer is assumed -/
noncomputable section
variable {P : Program} {gl : Gl} {ext : Ext}

/-- Answers that are known ahead: a condition, and the value. -/
abbrev Asm := Tgt → List Value → LS → Option (Bool × Value)
def AsmOK (P : Program) (gl : Gl) (mf : Asm) : Prop := ∀ t args σ c v, mf t args σ = some (c, v) → c = true → ∃ f, t = .fn f ∧ ∀ φ w (args' : Array Value), Rel P gl φ σ w → LR φ args args'.toList →
  Calls P f args' w (fun e w1 => ∃ v', e = .returned v' ∧ VR φ v v' ∧ Below w.heap.size w w1)

def callA (P : Program) (gl : Gl) (ext : Ext) (mf : Asm) (L G : Nat) : Nat → CallF
  | 0, _, _, _ => none
  | d + 1, t, args, σ => (match mf t args σ with
    | some (c, v) => cond c (some (v, σ)) none
    | none => tgtF P gl ext L G (callA P gl ext mf L G d) t args σ)

theorem callA_ok (hG : Good P ext) {mf : Asm} (hm : AsmOK P gl mf) (L G : Nat) : ∀ n, CallOK P gl (callA P gl ext mf L G n)
  | 0 => by intro t args σ v σ1 h; cases h
  | n + 1 => by
    have ih := callA_ok hG hm L G n
    intro t args σ v σ1 h φ w args' hr hl
    simp only [callA] at h
    split at h
    · rename_i c v0 hk
      rw [Bool.cond_eq_ite] at h
      split at h
      · rename_i hc
        cases h
        obtain ⟨f, rfl, hf⟩ := hm t args σ c v hk hc
        refine Calls.mono (hf φ w args' hr hl) ?_
        rintro e w1 ⟨v', rfl, hv, hb⟩
        exact ⟨v', φ, rfl, Tr.of_below hr hb, hv⟩
      · cases h
    · rw [tgtF_eq] at h
      exact evT_sound hG ih (fun N => drawOK hG ih) L G t args σ v σ1 h φ w args' hr hl

def flatR (r : Value × LS) : Option Value := cond (af 8 r.1) (some r.1) none

theorem flatA (hG : Good P ext) {mf : Asm} (hm : AsmOK P gl mf) {L G n : Nat} {f : FuncId} {args : List Value} {v : Value} {w : World} (ha : args.all (af 8) = true)
    (h : (callA P gl ext mf L G n (.fn f) args LS.start).bind flatR = some v) (hw : Ready P gl w) : Calls P f args.toArray w (fun e w' => e = .returned v ∧ Below w.heap.size w w') := by
  obtain ⟨φ, hr⟩ := hw
  obtain ⟨⟨u, σ1⟩, hu, h2⟩ := Option.bind_eq_some_iff.1 h
  unfold flatR at h2
  rw [Bool.cond_eq_ite] at h2
  split at h2
  · rename_i hf
    cases h2
    refine Calls.mono (callA_ok hG hm L G n (.fn f) args LS.start u σ1 hu φ w args.toArray hr (by simpa using LR.af_refl ha)) ?_
    rintro e w2 ⟨v', φ1, rfl, t, hv⟩
    have e1 := VR.of_af 8 hf hv
    subst e1
    exact ⟨rfl, t.below fun i o hi => by rw [start_get] at hi; cases hi⟩
  · cases h2
end

noncomputable section cps
variable {R : Type}
def normV (v : Value) (k : Value → Option R) : Option R := match v with
  | .bool b => cond b (k (.bool true)) (k (.bool false))
  | v => k v
theorem normV_eq (v : Value) (k : Value → Option R) : normV v k = k v := by
  cases v with
  | bool b => cases b <;> rfl
  | _ => rfl

abbrev CallK (R : Type) := Tgt → List Value → LS → (Value × LS → Option R) → Option R

/-- Two structs of numbers, or two rows, compared. -/
def qEq (P : Program) (neg : Bool) (t : TypeId) (x y : Value) : Option Value :=
  cond (af 8 x && af 8 y && !(P.eqGuardType P.depth t)) ((eqV P Op.maxDepth t x y).map fun b => .bool (cond neg (!b) b)) none
theorem qEq_spec {P : Program} {neg : Bool} {t : TypeId} {ox oy : Operand} {a b : Array Value} {v : Value} (h : qEq P neg t (.agg a) (.agg b) = some v) : exBin P (cond neg .neq .eql) t ox oy (.agg a) (.agg b) = some v := by
  unfold qEq at h
  rw [Bool.cond_eq_ite] at h
  split at h
  · rename_i hc
    simp only [Bool.and_eq_true, Bool.not_eq_true'] at hc
    obtain ⟨c, hb, rfl⟩ := Option.map_eq_some_iff.1 h
    have he := eqV_run _ hb
    have hp : runP P program = some P := rfl
    unfold exBin
    rw [Bool.cond_eq_ite, if_pos (by simp only [hc.1.1, hc.1.2]; rfl)]
    unfold exPure
    have hg : runP P (eqGuard (cond neg .neq .eql) t ox oy (.agg a) (.agg b)) = some () := by
      cases neg <;> (unfold eqGuard; simp [runP_bind, hp, hc.2]; rfl)
    rw [runP_bind, hg]
    cases neg <;> (simp only [cond_true, cond_false, Option.bind_some]; simp only [binOp, runP_bind, Op.equal, he, Option.bind_some]; rfl)
  · cases h
/-- Two strings compared. -/
theorem exBin_eqS {P : Program} {neg : Bool} {t : TypeId} {ox oy : Operand} {a b : ByteArray} : exBin P (cond neg .neq .eql) t ox oy (.string a) (.string b) = some (.bool (cond neg (!(a.toList == b.toList)) (a.toList == b.toList))) := by
  unfold exBin
  rw [Bool.cond_eq_ite, if_pos (by rfl)]
  unfold exPure
  have hg : runP P (eqGuard (cond neg .neq .eql) t ox oy (.string a) (.string b)) = some () := by cases neg <;> rfl
  rw [runP_bind, hg]
  simp only [Option.bind_some]
  cases neg <;> rfl
def strEqK (neg : Bool) (a b : ByteArray) (k : Value → Option R) : Option R := cond (a.toList == b.toList) (k (.bool (!neg))) (k (.bool neg))
theorem strEqK_eq {P : Program} {neg : Bool} {t : TypeId} {ox oy : Operand} {a b : ByteArray} (k : Value → Option R) : strEqK neg a b k = (exBin P (cond neg .neq .eql) t ox oy (.string a) (.string b)).bind k := by
  rw [exBin_eqS]
  unfold strEqK
  cases a.toList == b.toList <;> cases neg <;> rfl
def eqK (P : Program) (neg : Bool) (t : TypeId) (ox oy : Operand) (v u : Value) (k : Value → Option R) : Option R := match v, u with
  | .agg a, .agg b => (match qEq P neg t (.agg a) (.agg b) with
    | some r => normV r k
    | none => (exBin P (cond neg .neq .eql) t ox oy (.agg a) (.agg b)).bind fun v => normV v k)
  | .string a, .string b => strEqK neg a b k
  | v, u => (exBin P (cond neg .neq .eql) t ox oy v u).bind fun v => normV v k
theorem eqK_eq (P : Program) (neg : Bool) (t : TypeId) (ox oy : Operand) (v u : Value) (k : Value → Option R) : eqK P neg t ox oy v u k = (exBin P (cond neg .neq .eql) t ox oy v u).bind k := by
  unfold eqK
  split
  · rename_i a b
    cases h : qEq P neg t (.agg a) (.agg b) with
    | some r => rw [qEq_spec h]; exact normV_eq r k
    | none => simp only; congr 1; funext v; exact normV_eq v k
  · exact strEqK_eq k
  · congr 1; funext v; exact normV_eq v k
def qEqK (P : Program) (neg : Bool) (t : TypeId) (x y : Operand) (s : Slots) (k : Value → Option R) : Option R := (og P s x).bind fun v => (og P s y).bind fun u => eqK P neg t x y v u k
/-- Two strings put together. -/
theorem exBin_cat {P : Program} {t : TypeId} {ox oy : Operand} {a b : ByteArray} : exBin P .add t ox oy (.string a) (.string b) = cond (Nat.ble (a.size + b.size) 9223372036854775807) (some (.string (a ++ b))) none := by
  unfold exBin
  rw [Bool.cond_eq_ite, if_pos (by rfl)]
  unfold exPure
  have hg : runP P (eqGuard .add t ox oy (.string a) (.string b)) = some () := rfl
  rw [runP_bind, hg]
  simp only [Option.bind_some]
  show (runP P (Op.stringOp .add a b)).bind _ = _
  unfold Op.stringOp
  simp only
  have hm : IntKind.i64.max = 9223372036854775807 := rfl
  rw [Bool.cond_eq_ite]
  by_cases h : a.size + b.size ≤ 9223372036854775807
  · rw [if_neg (by rw [hm]; omega), if_pos (Nat.ble_eq_true_of_le h)]; rfl
  · rw [if_pos (by rw [hm]; omega), if_neg (fun e => h (Nat.le_of_ble_eq_true e))]; rfl
def catK (P : Program) (t : TypeId) (ox oy : Operand) (v u : Value) (k : Value → Option R) : Option R := match v, u with
  | .string a, .string b => cond (Nat.ble (a.size + b.size) 9223372036854775807) (k (.string (a ++ b))) none
  | v, u => (exBin P .add t ox oy v u).bind fun v => normV v k
theorem catK_eq (P : Program) (t : TypeId) (ox oy : Operand) (v u : Value) (k : Value → Option R) : catK P t ox oy v u k = (exBin P .add t ox oy v u).bind k := by
  unfold catK
  split
  · rename_i a b
    rw [exBin_cat]
    cases Nat.ble (a.size + b.size) 9223372036854775807 <;> rfl
  · congr 1; funext v; exact normV_eq v k
def qCatK (P : Program) (t : TypeId) (x y : Operand) (s : Slots) (k : Value → Option R) : Option R := (og P s x).bind fun v => (og P s y).bind fun u => catK P t x y v u k
def exQK (op : Op) (P : Program) (gl : Gl) (σ : LS) (s : Slots) (ty : TypeId) (k : Value → Option R) : Option R := match op with
  | .binOp .eql t x y _ => qEqK P false t x y s k
  | .binOp .neq t x y _ => qEqK P true t x y s k
  | .binOp .add t x y _ => qCatK P t x y s k
  | op => (exQD op P gl σ s ty).bind fun v => normV v k
theorem exQK_eq (op : Op) (P : Program) (gl : Gl) (σ : LS) (s : Slots) (ty : TypeId) (k : Value → Option R) : exQK op P gl σ s ty k = (exQD op P gl σ s ty).bind k := by
  unfold exQK
  split
  · rename_i t x y _
    show (og P s x).bind _ = ((og P s x).bind _).bind k
    rw [Option.bind_assoc]; congr 1; funext v
    show (og P s y).bind _ = ((og P s y).bind _).bind k
    rw [Option.bind_assoc]; congr 1; funext u
    exact eqK_eq P false t x y v u k
  · rename_i t x y _
    show (og P s x).bind _ = ((og P s x).bind _).bind k
    rw [Option.bind_assoc]; congr 1; funext v
    show (og P s y).bind _ = ((og P s y).bind _).bind k
    rw [Option.bind_assoc]; congr 1; funext u
    exact eqK_eq P true t x y v u k
  · rename_i t x y _
    show (og P s x).bind _ = ((og P s x).bind _).bind k
    rw [Option.bind_assoc]; congr 1; funext v
    show (og P s y).bind _ = ((og P s y).bind _).bind k
    rw [Option.bind_assoc]; congr 1; funext u
    exact catK_eq P t x y v u k
  · congr 1; funext v; exact normV_eq v k

abbrev StK (R : Type) := Env → CallK R → Oper → Slots → LS → (Slots × LS → Option R) → Option R
def stQK : StK R := fun E _ o s σ k => Env.rec (motive := fun _ => Option R) (fun P gl _ _ N => exQK o.op P gl σ s o.type fun v => (stEnd N o.dst s v σ).bind k) E
def stNK : StK R := fun E _ o s σ k => (stN E o s σ).bind k
def stCRK (E : Env) (ck : CallK R) (o : Oper) (s : Slots) (σ : LS) (k : Slots × LS → Option R) : CR → Option R
  | .val v σ1 => (stEnd E.N o.dst s v σ1).bind k
  | .enter f args => ck f args σ fun r => normV r.1 fun v => (stEnd E.N o.dst s v r.2).bind k
def stCK : StK R := fun E ck o s σ k => Env.rec (motive := fun _ => Option R) (fun P gl ext _ _ => (exCD o.op P gl ext σ s).bind fun r => stCRK E ck o s σ k r) E
def stCatK : Cat → StK R
  | .quiet => stQK
  | .new => stNK
  | .chain => stCK
def stepK (E : Env) (ck : CallK R) (ops : List Oper) (o : Oper) (s : Slots) (σ : LS) (k : Slots × LS → Option R) : Option R :=
  (wantL ops s o).bind fun b => cond b (stCatK (Env.rec (motive := fun _ => Cat) (fun P _ _ _ _ => catD o.op P) E) E ck o s σ k) ((stEnd E.N o.dst s undef σ).bind k)

def CkOK (E : Env) (ck : CallK R) : Prop := ∀ t args σ k, ck t args σ k = (E.call t args σ).bind k

theorem stCatK_eq (E : Env) (ck : CallK R) (hc : CkOK E ck) (o : Oper) (s : Slots) (σ : LS) (k : Slots × LS → Option R) (c : Cat) : stCatK c E ck o s σ k = (stCat c E o s σ).bind k := by
  obtain ⟨P, gl, ext, call, N⟩ := E
  cases c with
  | quiet =>
    show exQK o.op P gl σ s o.type _ = ((exQD o.op P gl σ s o.type).bind _).bind k
    rw [exQK_eq, Option.bind_assoc]
  | new => rfl
  | chain =>
    show (exCD o.op P gl ext σ s).bind _ = ((exCD o.op P gl ext σ s).bind _).bind k
    rw [Option.bind_assoc]
    congr 1; funext r
    cases r with
    | val v σ1 => rfl
    | enter f args =>
      show ck f args σ _ = ((call f args σ).bind _).bind k
      rw [hc, Option.bind_assoc]
      congr 1; funext r
      exact normV_eq _ _

theorem stepK_eq (E : Env) (ck : CallK R) (hc : CkOK E ck) (ops : List Oper) (o : Oper) (s : Slots) (σ : LS) (k : Slots × LS → Option R) : stepK E ck ops o s σ k = (stepF E ops o s σ).bind k := by
  unfold stepK stepF
  rw [Option.bind_assoc]
  congr 1; funext b
  cases b with
  | false => rfl
  | true => exact stCatK_eq E ck hc o s σ k _

def runK (E : Env) (ck : CallK R) (ops : List Oper) : List Oper → Slots → LS → (Slots × LS → Option R) → Option R
  | [], s, σ, k => k (s, σ)
  | o :: rest, s, σ, k => stepK E ck ops o s σ fun r => runK E ck ops rest r.1 r.2 k
theorem runK_eq (E : Env) (ck : CallK R) (hc : CkOK E ck) (ops : List Oper) : ∀ (l : List Oper) (s : Slots) (σ : LS) (k : Slots × LS → Option R), runK E ck ops l s σ k = (runF E ops l s σ).bind k
  | [], s, σ, k => rfl
  | o :: rest, s, σ, k => by
    simp only [runK, runF, stepK_eq E ck hc, Option.bind_assoc, runK_eq E ck hc ops rest]

/-! Regions that draw. -/
abbrev SdK (R : Type) := Env → CallK R → Nat → Nat → Oper → OI → DS → (DS → Option R) → Option R
def sdQK : SdK R := fun E _ base i o oi d k => Env.rec (motive := fun _ => Option R) (fun P gl _ _ N => let sr := restr d.s o.op.operands.toList
      exQK o.op P gl (layR base oi.bef d.laid d.rows d.σ) sr o.type fun v => (putS N d.s o.dst v).bind fun s1 =>
      k { d with s := s1, seen := cond (memFree o.op) d.seen ((o, oi, i, sr, d.rows, v) :: d.seen) }) E
def sdNK : SdK R := fun E _ base i o oi d k => (sdN E base i o oi d).bind k
def sdCRK (E : Env) (ck : CallK R) (o : Oper) (d : DS) (laid : Nat) (σ0 : LS) (k : DS → Option R) : CR → Option R
  | .val v σ1 => (sdEnd E o d laid v σ1).bind k
  | .enter f args => ck f args σ0 fun r => normV r.1 fun v => (sdEnd E o d laid v r.2).bind k
def sdCK : SdK R := fun E ck base _ o oi d k => Env.rec (motive := fun _ => Option R) (fun P gl ext _ _ => (exCD o.op P gl ext (layR base oi.bef d.laid d.rows d.σ) (restr d.s o.op.operands.toList)).bind fun r => sdCRK E ck o d (d.laid ||| oi.bef) (layR base oi.bef d.laid d.rows d.σ) k r) E
def sdCatK : Cat → SdK R
  | .quiet => sdQK
  | .new => sdNK
  | .chain => sdCK
def stepDK (E : Env) (ck : CallK R) (ops : List Oper) (base i : Nat) (o : Oper) (oi : OI) (d : DS) (k : DS → Option R) : Option R :=
  (wantL ops d.s o).bind fun b => cond b (sdCatK oi.cat E ck base i o oi d k) ((sdSkip E.N o oi d).bind k)
theorem stepDK_eq (E : Env) (ck : CallK R) (hc : CkOK E ck) (ops : List Oper) (base i : Nat) (o : Oper) (oi : OI) (d : DS) (k : DS → Option R) : stepDK E ck ops base i o oi d k = (stepDF E ops base i o oi d).bind k := by
  unfold stepDK stepDF
  rw [Option.bind_assoc]
  congr 1; funext b
  cases b with
  | false => rfl
  | true =>
    simp only [cond_true]
    obtain ⟨P, gl, ext, call, N⟩ := E
    cases oi.cat with
    | quiet =>
      show exQK o.op P gl _ _ o.type _ = ((exQD o.op P gl _ _ o.type).bind _).bind k
      rw [exQK_eq, Option.bind_assoc]
      congr 1; funext v
      cases putS N d.s o.dst v <;> rfl
    | new => rfl
    | chain =>
      show (exCD o.op P gl ext _ _).bind _ = ((exCD o.op P gl ext _ _).bind _).bind k
      rw [Option.bind_assoc]
      congr 1; funext r
      cases r with
      | val v σ1 => rfl
      | enter f args =>
        show ck f args _ _ = ((call f args _).bind _).bind k
        rw [hc, Option.bind_assoc]
        congr 1; funext r
        exact normV_eq _ _

def runDK (E : Env) (ck : CallK R) (ops : List Oper) (base : Nat) : Nat → List Oper → List OI → DS → (DS → Option R) → Option R
  | i, o :: os, oi :: ois, d, k => stepDK E ck ops base i o oi d fun d1 => runDK E ck ops base (i + 1) os ois d1 k
  | _, _, _, d, k => k d
theorem runDK_eq (E : Env) (ck : CallK R) (hc : CkOK E ck) (ops : List Oper) (base : Nat) : ∀ (os : List Oper) (i : Nat) (ois : List OI) (d : DS) (k : DS → Option R),
    runDK E ck ops base i os ois d k = (runDF E ops base i os ois d).bind k
  | [], i, ois, d, k => by cases ois <;> rfl
  | o :: os, i, [], d, k => rfl
  | o :: os, i, oi :: ois, d, k => by
    simp only [runDK, runDF, stepDK_eq E ck hc, Option.bind_assoc, runDK_eq E ck hc ops base os]

/-- Two values are one: what is not seen at once is asked. -/
def allK (f : Value → Value → Option R → Option R) : List (Value × Value) → Option R → Option R
  | [], k => k
  | p :: l, k => f p.1 p.2 (allK f l k)
def veqK : Nat → Value → Value → Option R → Option R
  | 0, _, _, _ => none
  | d + 1, x, y, k => match x, y with
    | .int i a, .int j b => cond (decide (i = j)) (cond (decide (a = b)) k none) none
    | .agg a, .agg b => cond (Nat.beq a.toList.length b.toList.length) (allK (veqK d) (a.toList.zip b.toList) k) none
    | x, y => cond (veq (d + 1) x y) k none
theorem allK_eq {f : Value → Value → Option R → Option R} {g : Value → Value → Bool} (h : ∀ x y k, f x y k = cond (g x y) k none) : ∀ (l : List (Value × Value)) (k : Option R), allK f l k = cond (l.all fun p => g p.1 p.2) k none
  | [], k => rfl
  | p :: l, k => by
    simp only [allK, h, allK_eq h l k, List.all_cons]
    cases g p.1 p.2 <;> rfl
theorem veqK_eq : ∀ (d : Nat) (x y : Value) (k : Option R), veqK d x y k = cond (veq d x y) k none
  | 0, x, y, k => rfl
  | d + 1, x, y, k => by
    unfold veqK
    split
    · rename_i i a j b
      show _ = cond (decide (i = j) && decide (a = b)) k none
      cases decide (i = j) <;> rfl
    · rename_i a b
      show _ = cond (Nat.beq a.toList.length b.toList.length && (a.toList.zip b.toList).all fun p => veq d p.1 p.2) k none
      rw [allK_eq (veqK_eq d)]
      cases Nat.beq a.toList.length b.toList.length <;> rfl
    · rfl
def sameK (v : Value) (k : Option R) : Option Value → Option R
  | some u => veqK 8 u v k
  | none => none
theorem sameK_eq (v : Value) (k : Option R) (o : Option Value) : sameK v k o = cond (sameV v o) k none := by
  cases o with
  | none => rfl
  | some u => exact veqK_eq 8 u v k
def winK (lo hi : Nat) (f : LS × Nat → Option R → Option R) : Nat → List (LS × Nat) → Option R → Option R
  | _, [], k => k
  | m, q :: l, k => cond (Nat.ble lo m && Nat.ble m hi) (f q (winK lo hi f (m + 1) l k)) (winK lo hi f (m + 1) l k)
theorem winK_eq {lo hi : Nat} {f : LS × Nat → Option R → Option R} {g : LS × Nat → Bool} (h : ∀ q k, f q k = cond (g q) k none) : ∀ (m : Nat) (l : List (LS × Nat)) (k : Option R), winK lo hi f m l k = cond (winAll lo hi g m l) k none
  | _, [], k => rfl
  | m, q :: l, k => by
    simp only [winK, winAll, h, winK_eq h (m + 1) l k]
    cases Nat.ble lo m && Nat.ble m hi <;> cases g q <;> rfl
def okK (E : Env) (base : Nat) (ois : List OI) (states : List (LS × Nat)) : List (Oper × OI × Nat × Slots × List (Nat × LObj) × Value) → Option R → Option R
  | [], k => k
  | (o, oi, i, s, rows, v) :: l, k => winK (countL (fun c _ => oi.bef.testBit c) 0 ois) (countL (fun _ c => !(c.bef.testBit i)) 0 ois)
      (fun q k => sameK v k (Env.rec (motive := fun _ => Option Value) (fun P gl _ _ _ => exQD o.op P gl (layR base oi.bef q.2 rows q.1) s o.type) E)) 0 states (okK E base ois states l k)
theorem okK_eq (E : Env) (base : Nat) (ois : List OI) (states : List (LS × Nat)) : ∀ (l : List (Oper × OI × Nat × Slots × List (Nat × LObj) × Value)) (k : Option R), okK E base ois states l k = cond (okF E base ois states l) k none
  | [], k => rfl
  | (o, oi, i, s, rows, v) :: l, k => by
    simp only [okK, okF]
    rw [winK_eq (g := fun q => sameV v (Env.rec (motive := fun _ => Option Value) (fun P gl _ _ _ => exQD o.op P gl (layR base oi.bef q.2 rows q.1) s o.type) E)) (fun q k => sameK_eq v k _), okK_eq E base ois states l k]
    cases winAll _ _ _ 0 states <;> rfl

def drawK (E : Env) (ck : CallK R) (ops : List Oper) (s : Slots) (σ : LS) (k : Slots × LS → Option R) : Option R :=
  let ois := Env.rec (motive := fun _ => List OI) (fun P _ _ _ _ => infos P ops) E
  cond (chkAll 0 ois && edgesAll 0 ops && Nat.ble (σ.next + ops.length) most) (
    let base := σ.next
    let σ0 : LS := { σ with next := σ.next + ops.length }
    runDK E ck ops base 0 ops ois ⟨s, σ0, 0, [(σ0, 0)], [], []⟩ fun d =>
      okK E base ois d.hist.reverse d.seen (k (d.s, layAll base d.laid d.rows d.σ))) none
theorem drawK_eq (E : Env) (ck : CallK R) (hc : CkOK E ck) (ops : List Oper) (s : Slots) (σ : LS) (k : Slots × LS → Option R) : drawK E ck ops s σ k = (drawF E ops s σ).bind k := by
  unfold drawK drawF
  simp only [runDK_eq E ck hc, okK_eq]
  cases chkAll 0 _ && edgesAll 0 ops && Nat.ble (σ.next + ops.length) most with
  | false => rfl
  | true =>
    simp only [cond_true, Option.bind_assoc]
    congr 1; funext d
    cases okF E σ.next _ d.hist.reverse d.seen <;> rfl

/-! Code. -/
abbrev CR4 := Ex × Slots × LS × List Nat
abbrev CodeK (R : Type) := Slots → LS → List Nat → (CR4 → Option R) → Option R
def ofF (f : CodeF) : CodeK R := fun s σ ms k => (f s σ ms).bind k
def evRegionK (E : Env) (ck : CallK R) (ops : List Oper) (draw : Bool) : CodeK R := fun s σ ms k => cond draw (drawK E ck ops s σ fun r => k (.normal, r.1, r.2, ms)) (runK E ck ops ops s σ fun r => k (.normal, r.1, r.2, ms))
def seqGo (g : CodeK R) (k : CR4 → Option R) (r : CR4) : Option R := match r.1 with
  | .normal => g r.2.1 r.2.2.1 r.2.2.2 k
  | e => k (e, r.2.1, r.2.2.1, r.2.2.2)
def evSeqK (f g : CodeK R) : CodeK R := fun s σ ms k => f s σ ms (seqGo g k)
def evCondK (P : Program) (c : Operand) (f g : CodeK R) : CodeK R := fun s σ ms k => ((og P s c).bind boolOf).bind fun b => cond b (f s σ ms k) (g s σ ms k)
def evCondEK (E : Env) (c : Operand) (f g : CodeK R) : CodeK R := Env.rec (motive := fun _ => CodeK R) (fun P _ _ _ _ => evCondK P c f g) E
def blockGo (id : Nat) (k : CR4 → Option R) (r : CR4) : Option R := match r.1 with
  | .exit id' => cond (Nat.beq id' id) (k (.normal, r.2)) (k (.exit id', r.2))
  | e => k (e, r.2)
def evBlockK (id : Nat) (f : CodeK R) : CodeK R := fun s σ ms k => f s σ ms (blockGo id k)
def scopeGo (again : Code → Code → CodeK R) (x : Code) (k : CR4 → Option R) (r : CR4) : Option R := match r.1 with
  | .goto l => (match findLabel x l with
      | some rest => again x rest r.2.1 r.2.2.1 r.2.2.2 k
      | none => k (.goto l, r.2))
  | e => k (e, r.2)
def evScopeK (again : Code → Code → CodeK R) (x : Code) (f : CodeK R) : CodeK R := fun s σ ms k => f s σ ms (scopeGo again x k)
def evOutK (e : Ex) : CodeK R := fun s σ ms k => k (e, s, σ, ms)
def iterK (f : CodeK R) : Nat → CodeK R
  | 0, _, _, _, _ => none
  | n + 1, s, σ, ms, k => f s σ ms fun r => match r.1 with
    | .normal => iterK f n r.2.1 r.2.2.1 r.2.2.2 k
    | e => k (e, r.2)

def codeK (E : Env) (ck : CallK R) (L : Nat) (ro : Option Nat) (againF : Code → Code → CodeF) (again : Code → Code → CodeK R) : Code → CodeK R
  | .skip => evOutK .normal
  | .label _ => evOutK .normal
  | .region _ ops draw => evRegionK E ck ops.toList draw
  | .seq x y => evSeqK (codeK E ck L ro againF again x) (codeK E ck L ro againF again y)
  | .cond c x y => evCondEK E c (codeK E ck L ro againF again x) (codeK E ck L ro againF again y)
  | .block id x => evBlockK id (codeK E ck L ro againF again x)
  | .loop x => iterK (codeK E ck L ro againF again x) L
  | .scope x => evScopeK again x (codeK E ck L ro againF again x)
  | .exit id => evOutK (.exit id)
  | .goto l => evOutK (.goto l)
  | .ret => evOutK .ret
  | .rangeFunc g ps assign body => ofF (evRangeE E ro g ps assign body)
  | _ => ofF evNone

def SameK (f : CodeF) (fk : CodeK R) : Prop := ∀ s σ ms k, fk s σ ms k = (f s σ ms).bind k

theorem iterK_eq {f : CodeF} {fk : CodeK R} (h : SameK f fk) : ∀ n, SameK (iterL f n) (iterK fk n)
  | 0 => fun _ _ _ _ => rfl
  | n + 1 => fun s σ ms k => by
    simp only [iterK, iterL]
    rw [h, Option.bind_assoc]
    congr 1; funext ⟨e, s1, σ1, ms1⟩
    cases e with
    | normal => exact iterK_eq h n s1 σ1 ms1 k
    | _ => rfl

theorem evScopeK_eq {againF : Code → Code → CodeF} {again : Code → Code → CodeK R} (ha : ∀ x y, SameK (againF x y) (again x y)) (x : Code) {f : CodeF} {fk : CodeK R} (h : SameK f fk) : SameK (evScope againF x f) (evScopeK again x fk) := by
  intro s σ ms k
  unfold evScope evScopeK
  rw [h, Option.bind_assoc]
  congr 1; funext ⟨e, s1, σ1, ms1⟩
  cases e with
  | goto l =>
    simp only [scopeGo]
    cases findLabel x l with
    | none => rfl
    | some rest => exact ha x rest s1 σ1 ms1 k
  | _ => rfl

theorem codeK_eq (E : Env) (ck : CallK R) (hc : CkOK E ck) (L : Nat) (ro : Option Nat) {againF : Code → Code → CodeF} {again : Code → Code → CodeK R} (ha : ∀ x y, SameK (againF x y) (again x y)) : ∀ c, SameK (codeF E L ro againF c) (codeK E ck L ro againF again c) := by
  intro c
  induction c with
  | region id ops draw =>
    intro s σ ms k
    simp only [codeF, codeK, evRegion, evRegionK]
    cases draw with
    | true =>
      simp only [cond_true]
      rw [drawK_eq E ck hc]
      cases drawF E ops.toList s σ <;> rfl
    | false =>
      simp only [cond_false]
      rw [runK_eq E ck hc]
      cases runF E ops.toList ops.toList s σ <;> rfl
  | seq x y ihx ihy =>
    intro s σ ms k
    simp only [codeF, codeK, evSeq, evSeqK]
    rw [ihx, Option.bind_assoc]
    congr 1; funext ⟨e, s1, σ1, ms1⟩
    cases e with
    | normal => exact ihy s1 σ1 ms1 k
    | _ => rfl
  | cond c x y ihx ihy =>
    intro s σ ms k
    obtain ⟨P, gl, ext, call, N⟩ := E
    show ((og P s c).bind boolOf).bind _ = (((og P s c).bind boolOf).bind _).bind k
    cases (og P s c).bind boolOf with
    | none => rfl
    | some b =>
      cases b with
      | true => exact ihx s σ ms k
      | false => exact ihy s σ ms k
  | block id x ih =>
    intro s σ ms k
    simp only [codeF, codeK, evBlock, evBlockK]
    rw [ih, Option.bind_assoc]
    congr 1; funext ⟨e, s1, σ1, ms1⟩
    cases e with
    | exit id' => simp only [blockGo]; cases Nat.beq id' id <;> rfl
    | _ => rfl
  | loop x ih => exact iterK_eq ih L
  | scope x ih => exact evScopeK_eq ha x ih
  | _ => intro s σ ms k; rfl

def againK (E : Env) (ck : CallK R) (L : Nat) (ro : Option Nat) : Nat → Code → Code → CodeK R
  | 0, _, _ => ofF evNone
  | n + 1, body, rest => evScopeK (againK E ck L ro n) body (codeK E ck L ro (againF E L ro n) (againK E ck L ro n) rest)
theorem againK_eq (E : Env) (ck : CallK R) (hc : CkOK E ck) (L : Nat) (ro : Option Nat) : ∀ n x y, SameK (againF E L ro n x y) (againK E ck L ro n x y)
  | 0, _, _ => fun _ _ _ _ => rfl
  | n + 1, body, rest => evScopeK_eq (againK_eq E ck hc L ro n) body (codeK_eq E ck hc L ro (againK_eq E ck hc L ro n) rest)

def bodyK (E : Env) (ck : CallK R) (L G : Nat) (fn : Func) (body : Code) (args : List Value) (σ : LS) (k : Value × LS → Option R) : Option R :=
  codeK E ck L none (againF E L none G) (againK E ck L none G) body (argsS 0 args .nil) σ [] fun r => (Env.rec (motive := fun _ => Option (Value × LS)) (fun P gl _ _ _ => exitF P gl fn.results.toList r.2.1 r.2.2.1 r.2.2.2 r.1) E).bind k
def funK (P : Program) (gl : Gl) (ext : Ext) (L G : Nat) (call : CallF) (ck : CallK R) (f : FuncId) (args : List Value) (σ : LS) (k : Value × LS → Option R) : Option R :=
  (P.funcs.toList[f]?).bind fun fn => (match fn.body with
    | none => none
    | some body => cond (Nat.ble args.length most) (bodyK ⟨P, gl, ext, call, Nat.max fn.ntmps args.length⟩ ck L G fn body args σ k) none)
theorem funK_eq (P : Program) (gl : Gl) (ext : Ext) (L G : Nat) (call : CallF) (ck : CallK R) (hc : ∀ t args σ k, ck t args σ k = (call t args σ).bind k) (f : FuncId) (args : List Value) (σ : LS) (k : Value × LS → Option R) :
    funK P gl ext L G call ck f args σ k = (funF P gl ext L G call f args σ).bind k := by
  unfold funK funF
  rw [Option.bind_assoc]
  congr 1; funext fn
  cases fn.body with
  | none => rfl
  | some body =>
    simp only
    cases Nat.ble args.length most with
    | false => rfl
    | true =>
      simp only [cond_true, bodyK, bodyF]
      have hc' : CkOK ⟨P, gl, ext, call, Nat.max fn.ntmps args.length⟩ ck := hc
      rw [codeK_eq _ ck hc' L none (againK_eq _ ck hc' L none G) body, Option.bind_assoc]
def tgtK (P : Program) (gl : Gl) (ext : Ext) (L G : Nat) (call : CallF) (ck : CallK R) (t : Tgt) (args : List Value) (σ : LS) (k : Value × LS → Option R) : Option R := match t with
  | .fn f => funK P gl ext L G call ck f args σ k
  | .rd i => (roundF P gl ext L G call i args σ).bind k

/-- The evaluator behind a continuation. -/
def callK (P : Program) (gl : Gl) (ext : Ext) (mf : Asm) (L G : Nat) : Nat → CallK R
  | 0, _, _, _, _ => none
  | d + 1, t, args, σ, k => (match mf t args σ with
    | some (c, v) => cond c (k (v, σ)) none
    | none => tgtK P gl ext L G (callA P gl ext mf L G d) (callK P gl ext mf L G d) t args σ k)
theorem callK_eq (P : Program) (gl : Gl) (ext : Ext) (mf : Asm) (L G : Nat) : ∀ d t args σ (k : Value × LS → Option R), callK P gl ext mf L G d t args σ k = (callA P gl ext mf L G d t args σ).bind k
  | 0, t, args, σ, k => rfl
  | d + 1, t, args, σ, k => by
    simp only [callK, callA]
    cases mf t args σ with
    | some p =>
      obtain ⟨c, v⟩ := p
      cases c <;> rfl
    | none =>
      simp only
      cases t with
      | fn f => exact funK_eq P gl ext L G _ _ (fun t args σ k => callK_eq P gl ext mf L G d t args σ k) f args σ k
      | rd i => rfl
end cps

/-- A call of flat arguments that answers a flat value, the numbers not known. -/
theorem flatK {P : Program} {gl : Gl} {ext : Ext} (hG : Good P ext) {mf : Asm} (hm : AsmOK P gl mf) {L G n : Nat} {f : FuncId} {args : List Value} {v : Value} {w : World} (ha : args.all (af 8) = true)
    (h : callK P gl ext mf L G n (.fn f) args LS.start flatR = some v) (hw : Ready P gl w) : Calls P f args.toArray w (fun e w' => e = .returned v ∧ Below w.heap.size w w') :=
  flatA hG hm (n := n) (L := L) (G := G) ha (by rw [← callK_eq]; exact h) hw
def noAsm : Asm := fun _ _ _ => none
theorem noAsm_ok {P : Program} {gl : Gl} : AsmOK P gl noAsm := fun _ _ _ _ _ h => by cases h
end Go.Proofs.YtgohnfkidkomhaaDoor.Ev

namespace Go.Proofs.YtgohnfkidkomhaaDoor.Ev
open Go
open Go.RowKit

/-! ### A table whose whole row is known; answers that are assumed, function by function -/
section
variable {P : Program} {gl : Gl} {ext : Ext} {φ : Phi} {σ : LS} {w w1 : World}

def tabRow (cells : List Value) (elem : TypeId) (fz : Nat × Nat) : LObj := .row { cells, elem, fz, esz := 0, ro := true, tail := false }
/-- The first store, with one table laid. -/
def LS.tab (g : Nat) (cells : List Value) (elem : TypeId) (fz : Nat × Nat) : LS := LS.start.upd g (some (tabRow cells elem fz))
/-- The world's row at a place is just this one. -/
def RowAt (w : World) (g : Nat) (cells : List Value) (elem : TypeId) (fz : Nat × Nat) : Prop := w.heap[g]? = some (.cells cells.toArray elem fz)

theorem tab_get {g : Nat} {cells : List Value} {elem : TypeId} {fz : Nat × Nat} (hg : g < most) {i : Nat} {o : LObj} (h : (LS.tab g cells elem fz).heap.get i = some o) : g = i ∧ o = tabRow cells elem fz := by
  unfold LS.tab at h
  rw [LS.get_upd hg] at h
  split at h
  · rename_i e; cases h; exact ⟨e, rfl⟩
  · rw [start_get] at h; cases h

theorem Rel.tab {g : Nat} {cells : List Value} {elem : TypeId} {fz : Nat × Nat} (hr : Rel P gl φ LS.start w) (hg : g < most) (hg2 : g < P.globals.size) (hf : cells.all (af 8) = true) (hw : RowAt w g cells elem fz) :
    Rel P gl φ (LS.tab g cells elem fz) w where
  live := fun i o h => by
    obtain ⟨rfl, rfl⟩ := tab_get hg h
    refine ⟨⟨g, none⟩, _, hr.stat g hg2, hw, cells.toArray, fz, rfl, fun k v hk => ⟨v, by simpa using hk, VR.af_refl 8 (List.all_eq_true.1 hf _ (List.mem_of_getElem? hk))⟩, by simp⟩
  inj := fun i j o o' r r' h _ _ _ _ hw => by
    obtain ⟨rfl, rfl⟩ := tab_get hg h
    cases hw
  fresh := fun i hi => hr.fresh i hi
  bound := hr.bound
  dyn := fun i o r h hw => by
    obtain ⟨rfl, rfl⟩ := tab_get hg h
    cases hw
  glob := hr.glob
  stat := hr.stat
  size := hr.size

/-- A call of flat arguments that answers a flat value, the numbers not known, a table laid. -/
theorem flatKT (hG : Good P ext) {mf : Asm} (hm : AsmOK P gl mf) {g : Nat} {cells : List Value} {elem : TypeId} {fz : Nat × Nat} (hg : g < most) (hg2 : g < P.globals.size) (hf : cells.all (af 8) = true)
    {L G n : Nat} {f : FuncId} {args : List Value} {v : Value} {w : World} (ha : args.all (af 8) = true)
    (h : callK P gl ext mf L G n (.fn f) args (LS.tab g cells elem fz) flatR = some v) (hw : Ready P gl w) (ht : RowAt w g cells elem fz) : Calls P f args.toArray w (fun e w' => e = .returned v ∧ Below w.heap.size w w') := by
  obtain ⟨φ, hr⟩ := hw
  rw [callK_eq] at h
  obtain ⟨⟨u, σ1⟩, hu, h2⟩ := Option.bind_eq_some_iff.1 h
  unfold flatR at h2
  rw [Bool.cond_eq_ite] at h2
  split at h2
  · rename_i hfl
    cases h2
    refine Calls.mono (callA_ok hG hm L G n (.fn f) args _ u σ1 hu φ w args.toArray (hr.tab hg hg2 hf ht) (by simpa using LR.af_refl ha)) ?_
    rintro e w2 ⟨v', φ1, rfl, t, hv⟩
    have e1 := VR.of_af 8 hfl hv
    subst e1
    exact ⟨rfl, t.below fun i o hi => by rw [(tab_get hg hi).2]; rfl⟩
  · cases h2

/-- A call of related arguments that answers a flat value, the numbers not known. -/
theorem flatKR (hG : Good P ext) {mf : Asm} (hm : AsmOK P gl mf) {L G n : Nat} {f : FuncId} {args : List Value} {args' : Array Value} {v : Value} (hr : Rel P gl φ LS.start w) (hl : LR φ args args'.toList)
    (h : callK P gl ext mf L G n (.fn f) args LS.start flatR = some v) : Calls P f args' w (fun e w' => e = .returned v ∧ Below w.heap.size w w') := by
  rw [callK_eq] at h
  obtain ⟨⟨u, σ1⟩, hu, h2⟩ := Option.bind_eq_some_iff.1 h
  unfold flatR at h2
  rw [Bool.cond_eq_ite] at h2
  split at h2
  · rename_i hfl
    cases h2
    refine Calls.mono (callA_ok hG hm L G n (.fn f) args _ u σ1 hu φ w args' hr hl) ?_
    rintro e w2 ⟨v', φ1, rfl, t, hv⟩
    have e1 := VR.of_af 8 hfl hv
    subst e1
    exact ⟨rfl, t.below fun i o hi => by rw [start_get] at hi; cases hi⟩
  · cases h2

/-! Assumed answers, function by function. -/
abbrev AF := List Value → LS → Option (Bool × Value)
def FnOK (P : Program) (gl : Gl) (f : FuncId) (g : AF) : Prop := ∀ args σ c v, g args σ = some (c, v) → c = true → ∀ φ w (args' : Array Value), Rel P gl φ σ w → LR φ args args'.toList →
  Calls P f args' w (fun e w1 => ∃ v', e = .returned v' ∧ VR φ v v' ∧ Below w.heap.size w w1)
def asmOf : List (FuncId × AF) → Asm
  | [], _, _, _ => none
  | p :: r, t, args, σ => match t with
    | .fn f => cond (Nat.beq f p.1) (p.2 args σ) (asmOf r (.fn f) args σ)
    | .rd _ => none
theorem asmOf_ok : ∀ {l : List (FuncId × AF)}, (∀ p ∈ l, FnOK P gl p.1 p.2) → AsmOK P gl (asmOf l)
  | [], _ => fun _ _ _ _ _ h => by cases h
  | p :: r, h => by
    intro t args σ c v hk hc
    cases t with
    | rd i => cases hk
    | fn f =>
      simp only [asmOf] at hk
      rw [Bool.cond_eq_ite] at hk
      split at hk
      · rename_i e
        have e := Nat.eq_of_beq_eq_true e
        exact ⟨f, rfl, e ▸ h p (List.mem_cons_self ..) args σ c v hk hc⟩
      · exact asmOf_ok (fun q hq => h q (List.mem_cons_of_mem _ hq)) (.fn f) args σ c v hk hc

/-- Flat arguments, a flat answer: what stands in every world that is Ready. -/
theorem FnOK.flat {f : FuncId} {g : AF} (hgl : ∀ g k v, gl g k = some v → g < 1000 ∧ lowV 8 v = true) (hn : P.globals.size ≤ 900)
    (h : ∀ args σ v, g args σ = some (true, v) → args.all (af 8) = true ∧ af 8 v = true ∧ ∀ w, Ready P gl w → Calls P f args.toArray w (fun e w' => e = .returned v ∧ Below w.heap.size w w')) : FnOK P gl f g := by
  intro args σ c v hk hc φ w args' hr hl
  subst hc
  obtain ⟨h1, h2, h3⟩ := h args σ v hk
  have e : args'.toList = args := LR.of_af hl h1
  have e : args' = args.toArray := by rw [← e]
  subst e
  refine Calls.mono (h3 w ⟨_, hr.low hgl hn⟩) ?_
  rintro e w1 ⟨rfl, hb⟩
  exact ⟨v, rfl, VR.af_refl 8 h2, hb⟩

/-! The table, seen in a store. -/
def allInt (k : IntKind) : List Int → List Value → Bool
  | [], [] => true
  | z :: zs, .int j n :: l => cond (decide (j = k) && decide (n = z)) (allInt k zs l) false
  | _, _ => false
theorem allInt_spec {k : IntKind} : ∀ {zs : List Int} {l : List Value}, allInt k zs l = true → l = zs.map (Value.int k)
  | [], [], _ => rfl
  | [], _ :: _, h => by simp [allInt] at h
  | _ :: _, [], h => by simp [allInt] at h
  | z :: zs, v :: l, h => by
    cases v with
    | int j n =>
      simp only [allInt, Bool.cond_eq_ite] at h
      split at h
      · rename_i e
        simp only [Bool.and_eq_true, decide_eq_true_eq] at e
        rw [List.map_cons, ← allInt_spec h, e.1, e.2]
      · cases h
    | _ => simp [allInt] at h
def hasTab (g : Nat) (k : IntKind) (zs : List Int) (σ : LS) : Bool := match σ.heap.get g with
  | some (.row b) => allInt k zs b.cells
  | _ => false
theorem hasTab_row {g : Nat} {k : IntKind} {zs : List Int} (hr : Rel P gl φ σ w) (hg : g < P.globals.size) (h : hasTab g k zs σ = true) : ∃ el fz, RowAt w g (zs.map (Value.int k)) el fz := by
  unfold hasTab at h
  split at h
  · rename_i b hb
    have e := allInt_spec h
    obtain ⟨r, x, h1, h2, h3⟩ := hr.live g _ hb
    rw [hr.stat g hg] at h1
    cases h1
    obtain ⟨c', fz', rfl, hc, h4, _, _⟩ := h3
    have e2 : c' = (zs.map (Value.int k)).toArray := by
      apply Array.ext'
      apply List.ext_getElem?
      intro i
      simp only [Array.getElem?_toList]
      rcases Nat.lt_or_ge i zs.length with hi | hi
      · have hx : b.cells[i]? = some (.int k zs[i]) := by rw [e, List.getElem?_map, List.getElem?_eq_getElem hi]; rfl
        obtain ⟨v', hv, hvr⟩ := hc i _ hx
        cases hvr
        rw [hv, ← e, hx]
      · rw [List.getElem?_eq_none (by simpa using hi), Array.getElem?_eq_none (by rw [h4, e]; simpa using hi)]
    refine ⟨b.elem, fz', ?_⟩
    unfold RowAt
    rw [h2, e2]
  · cases h
theorem hasTab_spec {g : Nat} {k : IntKind} {zs : List Int} {name : String} (hr : Rel P gl φ σ w) (hg : g < P.globals.size) (hn : P.globalNamed name = some g) (h : hasTab g k zs σ = true) : Lib.TabIs P w name k zs := by
  obtain ⟨el, fz, h2⟩ := hasTab_row hr hg h
  unfold Lib.TabIs World.var?
  rw [hn]
  show (match w.heap[g]? with | some (.cells cs _ _) => some cs | _ => none) = _
  rw [h2]

/-! Fewer cells known. -/
theorem Rel.gl_mono {gl' : Gl} (h : ∀ g k v, gl g k = some v → gl' g k = some v) (hr : Rel P gl' φ σ w) : Rel P gl φ σ w :=
  ⟨hr.live, hr.inj, hr.fresh, hr.bound, fun i o r a b c => ⟨(hr.dyn i o r a b c).1, fun g k v r' y => (hr.dyn i o r a b c).2 g k v r' (h g k v y)⟩, fun g k v e => hr.glob g k v (h g k v e), hr.stat, hr.size⟩
theorem Ready.gl_mono {gl' : Gl} (h : ∀ g k v, gl g k = some v → gl' g k = some v) (hr : Ready P gl' w) : Ready P gl w := by
  obtain ⟨φ, hr⟩ := hr
  exact ⟨φ, hr.gl_mono h⟩
theorem FnOK.gl_mono {gl' : Gl} (h : ∀ g k v, gl g k = some v → gl' g k = some v) {f : FuncId} {g : AF} (hf : FnOK P gl f g) : FnOK P gl' f g :=
  fun args σ c v h1 h2 φ w args' hr hl => hf args σ c v h1 h2 φ w args' (hr.gl_mono h) hl

/-- A call without arguments whose answer is true. -/
def afTrue : AF := fun args _ => match args with
  | [] => some (true, .bool true)
  | _ => none
theorem fnTrue {f : FuncId} (h : MemoOK P gl f) : FnOK P gl f afTrue := by
  intro args σ c v hk hc φ w args' hr hl
  unfold afTrue at hk
  split at hk
  · cases hk
    have e : args' = #[] := by have := hl.of_nil; apply Array.ext'; simpa using this
    subst e
    refine Calls.mono (h φ σ w hr) ?_
    rintro e w1 ⟨rfl, hb⟩
    exact ⟨_, rfl, .bool true, hb⟩
  · cases hk

/-- A laid table's whole row. -/
theorem row_ok {l : List (String × DataW Unit)} (h : laidMet P l w) {name : String} {k : IntKind} {zs : List Int} (hm : (name, Lib.tabData k zs) ∈ l) {g : Nat} {t e : TypeId} {n : Nat}
    (hg : P.globalNamed name = some g) (hty : (P.globals[g]?).map (·.type) = some t) (ht : P.underlying t = some (.array n e)) (he : P.underlying e = some (.int k)) (hce : P.cellsOf e = 1) (hct : P.cellsOf t = n) :
    ∃ el fz, RowAt w g (zs.map (Value.int k)) el fz := by
  obtain ⟨ps, h1, _⟩ := h
  obtain ⟨g', t', cs, fuel, p, h2, h3, h4, h5⟩ := laid_mem h1 hm
  rw [hg] at h2; cases h2
  rw [hty] at h3; cases h3
  have hc := Lib.cells_of_tab ht he hce hct h5
  unfold World.var? at h4
  rw [hg] at h4
  simp only [Option.bind_some] at h4
  split at h4
  · rename_i c el fz hh
    cases h4
    refine ⟨el, fz, ?_⟩
    unfold RowAt
    rw [hh, ← hc]
  · cases h4
end
end Go.Proofs.YtgohnfkidkomhaaDoor.Ev

namespace Go.Proofs.YtgohnfkidkomhaaDoor.Ev
open Go
open Go.RowKit Go.ChangeShapes Go.WideShapes Go.ChangeAt

/-! ### A law of one parameter without pointers: what is read again behind the walk -/
section
variable {P : Program} {w w' : World} {H : Type} {enc : TypeId × Value → H}

/-- Types of numbers, bools, strings, structs, arrays and slices of these. -/
def okT (P : Program) : Nat → TypeId → Bool
  | 0, _ => false
  | n + 1, t => match P.underlying t with
    | some .bool => true
    | some (.int _) => true
    | some (.float _) => true
    | some .string => true
    | some (.struct fs) => fs.toList.all fun f => okT P n f.type
    | some (.array _ e) => okT P n e
    | some (.slice e) => Nat.ble 1 (P.cellsOf e) && okT P n e
    | _ => false

theorem mapM_all {α β : Type} {f g : α → Option β} : ∀ {l : List α} {r : List β}, l.mapM f = some r → (∀ a b, a ∈ l → b ∈ r → f a = some b → g a = some b) → l.mapM g = some r
  | [], r, h, _ => by simpa using h
  | a :: l, r, h, hg => by
    simp only [List.mapM_cons, Option.bind_eq_bind, Option.bind_eq_some_iff, Option.pure_def, Option.some.injEq] at h ⊢
    obtain ⟨b, hb, r', hr, rfl⟩ := h
    exact ⟨b, hg a b (List.mem_cons_self ..) (List.mem_cons_self ..) hb, r', mapM_all hr fun a' b' h1 h2 h3 => hg a' b' (List.mem_cons_of_mem _ h1) (List.mem_cons_of_mem _ h2) h3, rfl⟩

theorem cells_again (hk : ∀ b, b < w.heap.size → w'.heap[b]? = w.heap[b]?) {base : Nat} {a : Addr} {n : Nat} {l : List Value} (h : w.cells? base a n = some l) : w'.cells? base a n = some l := by
  unfold World.cells? at h ⊢
  split at h
  · rename_i hb
    rw [if_pos hb]
    refine mapM_all h fun i v _ _ hv => ?_
    rw [← hv]
    refine World.cell?_of_block (hk _ ?_)
    rcases Nat.lt_or_ge (a.add i).block w.heap.size with h1 | h1
    · exact h1
    · unfold World.cell? at hv
      rw [Array.getElem?_eq_none h1] at hv
      cases hv
  · cases h

theorem trod_again (hk : ∀ b, b < w.heap.size → w'.heap[b]? = w.heap[b]?) {base : Nat} {held : Bool} {sp : Nat → Bool} : ∀ (n m : Nat) (t : TypeId) (cs : List Value) (x : DataW H × List MemPlace), okT P m t = true →
    DataW.trod enc P w base (fun _ => true) held n t cs = some x → (∀ p ∈ x.2, sp p.block = true) → DataW.trod enc P w' base sp held n t cs = some x
  | 0, _, _, _, _, _, h, _ => by simp [DataW.trod] at h
  | n + 1, 0, _, _, _, ho, _, _ => by simp [okT] at ho
  | n + 1, m + 1, t, cs, x, ho, h, hp => by
    unfold okT at ho
    split at ho
    · rename_i e; unfold DataW.trod at h ⊢; rw [e] at h ⊢; split at h <;> simp_all
    · rename_i e; unfold DataW.trod at h ⊢; rw [e] at h ⊢; split at h <;> simp_all
    · rename_i e; unfold DataW.trod at h ⊢; rw [e] at h ⊢; split at h <;> simp_all
    · rename_i e; unfold DataW.trod at h ⊢; rw [e] at h ⊢; split at h <;> simp_all
    · rename_i fs e
      unfold DataW.trod at h ⊢; rw [e] at h ⊢
      simp only at h ⊢
      split at h
      · rename_i hl
        rw [if_pos hl]
        obtain ⟨xs, h1, rfl⟩ := Option.map_eq_some_iff.1 h
        rw [mapM_all h1 fun f y hf hy h2 => trod_again hk n m f.type _ y (List.all_eq_true.1 ho f hf) h2 fun p hpp => hp p (List.mem_flatMap.2 ⟨y, hy, hpp⟩)]
        rfl
      · cases h
    · rename_i k e' e
      unfold DataW.trod at h ⊢; rw [e] at h ⊢
      simp only at h ⊢
      split at h
      · rename_i hl
        rw [if_pos hl]
        obtain ⟨xs, h1, rfl⟩ := Option.map_eq_some_iff.1 h
        rw [mapM_all h1 fun i y hf hy h2 => trod_again hk n m e' _ y ho h2 fun p hpp => hp p (List.mem_flatMap.2 ⟨y, hy, hpp⟩)]
        rfl
      · cases h
    · rename_i e' e
      simp only [Bool.and_eq_true] at ho
      have hc1 : 1 ≤ P.cellsOf e' := Nat.le_of_ble_eq_true ho.1
      unfold DataW.trod at h ⊢; rw [e] at h ⊢
      split at h <;> try (first | (cases h; done) | (simp_all; done))
      rename_i e1 a len cap he1
      simp only at h ⊢
      cases he1
      split at h
      · rename_i hl
        rw [if_pos hl]
        simp only [Option.bind_eq_some_iff, Option.map_eq_some_iff, if_true] at h
        obtain ⟨elems, h1, rest, h2, rfl⟩ := h
        have hel : ∀ (l : List Nat) (f : Nat → Nat) (r : List (DataW H × List MemPlace)), l.mapM (fun i => (w.cells? base (a.add (f i * P.cellsOf e')) (P.cellsOf e')).bind (DataW.trod enc P w base (fun _ => true) held n e')) = some r →
            (∀ y ∈ r, ∀ p ∈ y.2, sp p.block = true) → l.mapM (fun i => (w'.cells? base (a.add (f i * P.cellsOf e')) (P.cellsOf e')).bind (DataW.trod enc P w' base sp held n e')) = some r := by
          intro l f r hr hs
          refine mapM_all hr fun i y _ hy h3 => ?_
          obtain ⟨cs, h4, h5⟩ := Option.bind_eq_some_iff.1 h3
          rw [cells_again hk h4]
          exact trod_again hk n m e' cs y ho.2 h5 (hs y hy)
        have q1 := hel (List.range len) (fun i => i) elems h1 fun y hy p hpp => hp p (by simp only [List.mem_append, List.mem_flatMap]; exact .inr ⟨y, .inl hy, hpp⟩)
        have q2 := hel (List.range (cap - len)) (fun j => len + j) rest h2 fun y hy p hpp => hp p (by simp only [List.mem_append, List.mem_flatMap]; exact .inr ⟨y, .inr hy, hpp⟩)
        rw [q1]
        simp only [Option.bind_some]
        by_cases hsp : sp a.block = true
        · rw [if_pos hsp, q2]; rfl
        · rw [if_neg hsp]
          have hz : rest = [] ∧ elems = [] := by
            rcases Nat.eq_zero_or_pos ((elems.length + rest.length) * P.cellsOf e') with h0 | h0
            · have : elems.length + rest.length = 0 := by
                rcases Nat.mul_eq_zero.1 h0 with h | h <;> omega
              exact ⟨List.length_eq_zero_iff.1 (by omega), List.length_eq_zero_iff.1 (by omega)⟩
            · exfalso
              apply hsp
              refine hp (.cell a.block (a.off + 0)) ?_
              simp only [List.mem_append]
              refine .inl ?_
              unfold MemPlace.row
              exact List.mem_map.2 ⟨0, List.mem_range.2 h0, rfl⟩
          rw [hz.1]
          rfl
      · cases h
    · cases ho

theorem Trod_again (hk : ∀ b, b < w.heap.size → w'.heap[b]? = w.heap[b]?) {base : Nat} {held : Bool} {sp : Nat → Bool} {m : Nat} {t : TypeId} {v : Value} {d : DataW H} {ps : List MemPlace} (ho : okT P m t = true)
    (h : DataW.Trod enc P w base (fun _ => true) held t v d ps) (hp : ∀ p ∈ ps, sp p.block = true) : DataW.Trod enc P w' base sp held t v d ps := by
  obtain ⟨n, h⟩ := h
  exact ⟨n, trod_again hk n m t _ _ ho h hp⟩

theorem TrodAll_again (hk : ∀ b, b < w.heap.size → w'.heap[b]? = w.heap[b]?) {base : Nat} {held : Bool} {sp : Nat → Bool} {m : Nat} : ∀ {ts : List TypeId} {vs : List Value} {ds : List (DataW H)} {ps : List MemPlace}, (ts.all (okT P m)) = true →
    DataW.TrodAll enc P w base (fun _ => true) held ts vs ds ps → (∀ p ∈ ps, sp p.block = true) → DataW.TrodAll enc P w' base sp held ts vs ds ps
  | [], [], [], _, _, h, _ => h
  | t :: ts, v :: vs, d :: ds, ps, ho, h, hp => by
    obtain ⟨p, q, h1, h2, rfl⟩ := h
    simp only [List.all_cons, Bool.and_eq_true] at ho
    exact ⟨p, q, Trod_again hk ho.1 h1 fun x hx => hp x (List.mem_append_left _ hx), TrodAll_again hk ho.2 h2 fun x hx => hp x (List.mem_append_right _ hx), rfl⟩
  | [], _ :: _, _, _, _, h, _ => h.elim
  | [], [], _ :: _, _, _, h, _ => h.elim
  | _ :: _, [], _, _, _, h, _ => h.elim
  | _ :: _, _ :: _, [], _, _, h, _ => h.elim

/-- A law that answers true and turns nothing, of whatever parameters without pointers. -/
theorem post_trueN {f : Func} {s : ChangeSpec} {apart fresh handsOn : Bool} {W W' : World} {args : Array Value} {ds gs : List (DataW H)} {before : List MemPlace} {t : TypeId} {m : Nat}
    (ho : f.params.toList.all (okT P m) = true) (hr : f.resultTypes = #[t]) (hv : s.vars = []) (ht : P.underlying t = some .bool)
    (hfn : s.fn H ds = { results := [.lit (.bool true)], args := ds })
    (hW : DataW.Whole enc P f.params.toList s.vars apart W args.toList ds gs before) (hB : Below W.heap.size W W') : s.post enc P f apart fresh handsOn false W args (.bool true) W' := by
  obtain ⟨p, q, hA, hV, rfl, hz, hn⟩ := id hW
  rw [hv] at hV
  obtain ⟨rfl, rfl⟩ := trodVars_none hV
  refine ⟨ds, [], _, [], p, [], hW, ?_, ?_, ?_, hB.frame _, fun e => by cases e⟩
  · rw [hr]
    simp only [List.append_nil, hfn]
    exact trodAll_mk1 ⟨1, by simp [DataW.trod, Value.cells, ht]⟩
  · simp only [List.append_nil, hfn]
    refine TrodAll_again (fun b hb => hB.block b hb) ho hA ?_
    intro x hx
    have := hW.lt x (List.mem_append_left _ hx)
    simpa using this
  · rw [hv]
    simp only [List.append_nil, hfn]
    rfl
end
end Go.Proofs.YtgohnfkidkomhaaDoor.Ev

namespace Go.Proofs.YtgohnfkidkomhaaDoor.Ev
open Go
open Go.RowKit

/-! ### The kit's walk hands a piece of code to the evaluator -/
section
variable {P : Program} {gl : Gl} {ext : Ext} {φ : Phi} {σ : LS} {w : World}

/-- A piece of code in the kit's walk ('Code.wp'), evaluated: k says what of the end is kept. -/
theorem code_meet {R : Type} (hG : Good P ext) {mf : Asm} (hm : AsmOK P gl mf) {L G d N : Nat} {c : Code} {Q : Exit → Act → World → Prop} {a : Act} {s : Slots} (k : CR4 → Option R) {r : R}
    (hr : Rel P gl φ σ w) (hs : SlR2 φ N s a) (hdf : a.defers = [])
    (h : codeK ⟨P, gl, ext, callA P gl ext mf L G d, N⟩ (callK P gl ext mf L G d) L none (againF ⟨P, gl, ext, callA P gl ext mf L G d, N⟩ L none G) (againK ⟨P, gl, ext, callA P gl ext mf L G d, N⟩ (callK P gl ext mf L G d) L none G) c s σ [] k = some r)
    (hQ : ∀ e s1 σ1 ms1 φ1 a1 w1, k (e, s1, σ1, ms1) = some r → Tr P gl φ σ w φ1 σ1 w1 → SlR2 φ1 N s1 a1 → DR φ1 ms1 a1.defers → Q e.to a1 w1) : c.wp P Q a w := by
  have hck : CkOK (R := R) ⟨P, gl, ext, callA P gl ext mf L G d, N⟩ (callK P gl ext mf L G d) := fun t args σ k => callK_eq P gl ext mf L G d t args σ k
  rw [codeK_eq _ _ hck L none (againK_eq _ _ hck L none G) c] at h
  obtain ⟨⟨e, s1, σ1, ms1⟩, h1, h2⟩ := Option.bind_eq_some_iff.1 h
  rw [codeF_eq, againF_eq] at h1
  have hc := callA_ok hG hm L G d
  have key := evCode_sound (ro := none) hG hc (drawOK hG hc) L (againN_sound hG hc (drawOK hG hc) L G) c none Q φ σ σ1 w s s1 [] ms1 a e hr hs (by rw [hdf]; trivial) rfl h1
    (fun φ1 a1 w1 t hs1 hd1 => hQ e s1 σ1 ms1 φ1 a1 w1 h2 t hs1 hd1)
  exact wpIn_wide.1 key
end
end Go.Proofs.YtgohnfkidkomhaaDoor.Ev
