/- An evaluator of closed calls, with its proof: part 3: operands, calls, the evaluator. No condition. -/
import Derived.Test.YtpckfdopokmbkaaGreatDoorEv2
import Derived.Lib.UnsafeStr
import Derived.Lib.ConvBytes
import Derived.Maps.RangeRun
import Derived.RangeFuncRecord
import GoSem.Extern.Table
noncomputable section
namespace Go.Proofs.YtpckfdopokmbkaaGreatDoor.Ev
open Go
open Go.RowKit

/-! ### Operands -/
def ol (s : Slots) : Operand → Option Value
  | .tmp t => s.get t
  | .const v => cond (af 8 v) (some v) none
  | .global g => some (.pointer (some ⟨g, 0, none⟩))
  | .func f => some (.func (.func f) #[] #[])
def olL (s : Slots) : List Operand → Option (List Value)
  | [] => some []
  | x :: l => (ol s x).bind fun v => (olL s l).map fun m => v :: m
def olO (s : Slots) : Option Operand → Option (Option Value)
  | none => some none
  | some x => (ol s x).map some
def olP (s : Slots) : List (Nat × Operand) → Option (List (Nat × Value))
  | [] => some []
  | (i, x) :: l => (ol s x).bind fun v => (olP s l).map fun m => (i, v) :: m

/-- The frame's slots here and there. -/
structure SlR2 (φ : Phi) (N : Nat) (s : Slots) (a : Act) : Prop where
  size : a.tmps.size = N
  get : ∀ t v, s.get t = some v → ∃ v', a.tmps[t]? = some v' ∧ VR φ v v'

section
variable {P : Program} {gl : Gl} {φ : Phi} {σ σ1 : LS} {w : World} {N : Nat} {s : Slots} {a : Act}

theorem SlR2.mono {φ' : Phi} (h : φ.le φ') (hs : SlR2 φ N s a) : SlR2 φ' N s a := ⟨hs.size, fun t v ht => let ⟨v', e, hv⟩ := hs.get t v ht; ⟨v', e, hv.mono h⟩⟩

theorem ol_sound (hr : Rel P gl φ σ w) (hs : SlR2 φ N s a) {x : Operand} {v : Value} (h : ol s x = some v) (hg : ∀ g, x = .global g → g < P.globals.size) : VR φ v (a.eval x) := by
  cases x with
  | tmp t =>
    obtain ⟨v', e, hv⟩ := hs.get t v h
    have : a.eval (.tmp t) = v' := by simp [Act.eval, e]
    rw [this]; exact hv
  | const c =>
    simp only [ol, Bool.cond_eq_ite] at h
    split at h
    · rename_i hc; cases h; exact VR.af_refl 8 hc
    · cases h
  | global g =>
    cases h
    exact .ptr _ _ ⟨rfl, rfl, ⟨g, none⟩, hr.stat g (hg g rfl), rfl, (Nat.zero_add 0).symm⟩
  | func f =>
    cases h
    exact .func _ rfl _ _ _ _ rfl rfl (by simp) (by simp)

/-- A good operand: a global's number is one. -/
def goodO (P : Program) : Operand → Bool
  | .global g => Nat.ble (g + 1) P.globals.size
  | _ => true
def og (P : Program) (s : Slots) (x : Operand) : Option Value := cond (goodO P x) (ol s x) none
theorem og_sound (hr : Rel P gl φ σ w) (hs : SlR2 φ N s a) {x : Operand} {v : Value} (h : og P s x = some v) : VR φ v (a.eval x) := by
  unfold og at h
  rw [Bool.cond_eq_ite] at h
  split at h
  · rename_i hg
    refine ol_sound hr hs h ?_
    intro g e; subst e; have := Nat.le_of_ble_eq_true hg; omega
  · cases h
def ogL (P : Program) (s : Slots) : List Operand → Option (List Value)
  | [] => some []
  | x :: l => (og P s x).bind fun v => (ogL P s l).map fun m => v :: m
def ogO (P : Program) (s : Slots) : Option Operand → Option (Option Value)
  | none => some none
  | some x => (og P s x).map some
def ogP (P : Program) (s : Slots) : List (Nat × Operand) → Option (List (Nat × Value))
  | [] => some []
  | (i, x) :: l => (og P s x).bind fun v => (ogP P s l).map fun m => (i, v) :: m

theorem ogL_sound (hr : Rel P gl φ σ w) (hs : SlR2 φ N s a) : ∀ {l : List Operand} {m : List Value}, ogL P s l = some m → LR φ m (l.map a.eval)
  | [], m, h => by cases h; exact LR.nil φ
  | x :: l, m, h => by
    simp only [ogL, Option.bind_eq_some_iff, Option.map_eq_some_iff] at h
    obtain ⟨v, hv, m2, hm, rfl⟩ := h
    exact LR.cons (og_sound hr hs hv) (ogL_sound hr hs hm)
theorem ogO_sound (hr : Rel P gl φ σ w) (hs : SlR2 φ N s a) {x : Option Operand} {v : Option Value} (h : ogO P s x = some v) :
    (∀ u, v = some u → ∃ u', x.map a.eval = some u' ∧ VR φ u u') ∧ (v = none → x.map a.eval = none) := by
  cases x with
  | none => cases h; exact ⟨fun u hu => (by cases hu), fun _ => rfl⟩
  | some x =>
    simp only [ogO, Option.map_eq_some_iff] at h
    obtain ⟨u, hu, rfl⟩ := h
    exact ⟨fun u' hu' => (by cases hu'; exact ⟨_, rfl, og_sound hr hs hu⟩), fun hn => (by cases hn)⟩
theorem ogP_sound (hr : Rel P gl φ σ w) (hs : SlR2 φ N s a) : ∀ {l : List (Nat × Operand)} {m : List (Nat × Value)}, ogP P s l = some m → PaR φ m (l.map fun (i, x) => (i, a.eval x))
  | [], m, h => by cases h; exact ⟨rfl, by simp⟩
  | (i, x) :: l, m, h => by
    simp only [ogP, Option.bind_eq_some_iff, Option.map_eq_some_iff] at h
    obtain ⟨v, hv, m2, hm, rfl⟩ := h
    obtain ⟨h1, h2⟩ := ogP_sound hr hs hm
    refine ⟨by simp [h1], fun j p p' e1 e2 => ?_⟩
    cases j with
    | zero => simp at e1 e2; subst e1; subst e2; exact ⟨rfl, og_sound hr hs hv⟩
    | succ j => exact h2 j p p' (by simpa using e1) (by simpa using e2)

/-! ### Quiet operations -/
def exQ (P : Program) (gl : Gl) (σ : LS) (s : Slots) (op : Op) (ty : TypeId) : Option Value :=
  match op with
  | .move x => og P s x
  | .assign x => og P s x
  | .pick c x y => (og P s c).bind fun v => (match v with | .bool b => cond b (og P s x) (og P s y) | _ => none)
  | .load t x => (og P s x).bind fun v => exLoad P gl σ t v
  | .nilCheck x => (og P s x).bind fun v => exNilCheck v
  | .binOp op t x y _ => (og P s x).bind fun v => (og P s y).bind fun u => exBin P op t x y v u
  | .unOp op _ x => (og P s x).bind fun v => cond (af 8 v) (exPure P (Op.unary op v)) none
  | .convert src dst x => (og P s x).bind fun v => (match v with
    | .slice _ _ _ => exBytesStr P gl σ src dst v
    | .pointer _ => exPtrConv P σ src dst v
    | _ => cond (af 8 v) (exPure P (convert src dst v)) none)
  | .makeInterface t x => (og P s x).bind fun v => (match P.underlying t with
    | some (.interface _) => none
    | some _ => some (.iface t v)
    | none => none)
  | .makeFunc fn first cap => cond (notYield fn) ((ogL P s first.toList).bind fun f => (ogL P s cap.toList).map fun c => .func fn f.toArray c.toArray) none
  | .build t parts => (ogP P s parts.toList).bind fun ps => exBuild P t ps
  | .slice t x lo hi mx => (og P s x).bind fun v => (ogO P s lo).bind fun l => (ogO P s hi).bind fun h => (ogO P s mx).bind fun m => (match v with
    | .string _ => cond ((l.all (af 8)) && (h.all (af 8)) && (m.all (af 8))) (exPure P (Instr.sliceAt t v l h m)) none
    | _ => exSlice P σ t v l h m)
  | .fieldAddr t x f => (og P s x).bind fun v => exFieldAddr P t v f
  | .field t x f => (og P s x).bind fun v => exField P t v f
  | .indexAddr t x i => (og P s x).bind fun v => (og P s i).bind fun u => exIndexAddr P t v u
  | .index t x i => (og P s x).bind fun v => (og P s i).bind fun u => (match v with
    | .string _ => cond (af 8 u) (exPure P (Instr.index t v u)) none
    | _ => exIndex P t v u)
  | .lookup t x k ok => (og P s x).bind fun v => (og P s k).bind fun u => exLookup P σ t v u ok
  | .extract x i => (og P s x).bind fun v => exExtract v i
  | .call c => (match c.callee with
    | .builtin .len => (match c.args.toList with | [x] => (og P s x).bind fun v => (c.argTypes[0]?).bind fun t => exLen P σ t v | _ => none)
    | .builtin .cap => (match c.args.toList with | [x] => (og P s x).bind fun v => (c.argTypes[0]?).bind fun t => exCap P σ t v | _ => none)
    | .builtin .min => (ogL P s c.args.toList).bind fun l => cond (l.all (af 8)) (exPure P (Builtin.min_ c.argTypes ty l.toArray)) none
    | .builtin .max => (ogL P s c.args.toList).bind fun l => cond (l.all (af 8)) (exPure P (Builtin.max_ c.argTypes ty l.toArray)) none
    | .builtin .real => (ogL P s c.args.toList).bind fun l => cond (l.all (af 8)) (exPure P (Builtin.real_ c.argTypes ty l.toArray)) none
    | .builtin .imag => (ogL P s c.args.toList).bind fun l => cond (l.all (af 8)) (exPure P (Builtin.imag_ c.argTypes ty l.toArray)) none
    | .builtin .complex => (ogL P s c.args.toList).bind fun l => cond (l.all (af 8)) (exPure P (Builtin.complex_ c.argTypes ty l.toArray)) none
    | _ => none)
  | _ => none

def QS (P : Program) (φ : Phi) (w : World) (s : Sem Next) (v : Value) : Prop := ∃ v', s.run P w = .ok (.value v') w ∧ VR φ v v'

theorem QS.of {s : Sem Value} {v : Value} (h : ∃ v', s.run P w = .ok v' w ∧ VR φ v v') : QS P φ w (do pure (.value (← s))) v := by
  obtain ⟨v', e, hv⟩ := h
  exact ⟨v', by simp [e], hv⟩

theorem exNilCheck_sound {x x' v : Value} (hx : VR φ x x') (h : exNilCheck x = some v) : v = x ∧ ((∃ a, x' = .pointer (some a)) ∨ ∃ f b c, x' = .func (.func f) b c) := by
  unfold exNilCheck at h
  split at h
  · cases h; cases hx; exact ⟨rfl, Or.inl ⟨_, rfl⟩⟩
  · cases h; cases hx; exact ⟨rfl, Or.inr ⟨_, _, _, rfl⟩⟩
  · cases h

theorem opt_af {v : Option Value} {u : Option Value} (h1 : ∀ x, v = some x → ∃ x', u = some x' ∧ VR φ x x') (h2 : v = none → u = none) (ha : v.all (af 8) = true) : u = v := by
  cases v with
  | none => exact h2 rfl
  | some x =>
    obtain ⟨x', e1, e2⟩ := h1 x rfl
    rw [e1, VR.of_af 8 (by simpa using ha) e2]

theorem builtin_flat {l : List Value} {args : Array Operand} {v : Value} {f : Array Value → Sem Value} (hl : LR φ l (args.toList.map a.eval)) (ha : l.all (af 8) = true) (h : exPure P (f l.toArray) = some v) :
    ∃ v', (f (args.map a.eval)).run P w = .ok v' w ∧ VR φ v v' := by
  have e := hl.of_af ha
  have e2 : args.map a.eval = l.toArray := by apply Array.ext'; simpa using e
  rw [e2]
  exact ⟨v, exPure_sound h w⟩
end
end Go.Proofs.YtpckfdopokmbkaaGreatDoor.Ev

namespace Go.Proofs.YtpckfdopokmbkaaGreatDoor.Ev
open Go
open Go.RowKit

section
variable {P : Program} {gl : Gl} {φ : Phi} {σ σ1 : LS} {w : World} {N : Nat} {s : Slots} {a : Act}

theorem ogP_arr (hr : Rel P gl φ σ w) (hs : SlR2 φ N s a) {parts : Array (Nat × Operand)} {m : List (Nat × Value)} (h : ogP P s parts.toList = some m) : PaR φ m (parts.map fun (i, x) => (i, a.eval x)).toList := by
  rw [Array.toList_map]
  exact ogP_sound hr hs h

theorem exQ_call (hr : Rel P gl φ σ w) (hs : SlR2 φ N s a) {c : Call} {ty : TypeId} {v : Value} (h : exQ P gl σ s (.call c) ty = some v) :
    QS P φ w (do let d ← resolve a.eval c ty; invoke d.target d.args) v := by
  obtain ⟨callee, args, argTypes⟩ := c
  simp only [exQ] at h
  have key : ∀ (b : Builtin) (f : Array TypeId → TypeId → Array Value → Sem Value), callee = .builtin b →
      (∀ consts xs, builtin b argTypes ty consts xs = (do pure (.value (← f argTypes ty xs)))) → (∃ v', (f argTypes ty (args.map a.eval)).run P w = .ok v' w ∧ VR φ v v') →
      QS P φ w (do let d ← resolve a.eval ⟨callee, args, argTypes⟩ ty; invoke d.target d.args) v := by
    intro b f hb hf hx
    subst hb
    have : (do let d ← resolve a.eval ⟨.builtin b, args, argTypes⟩ ty; invoke d.target d.args : Sem Next) = (do pure (.value (← f argTypes ty (args.map a.eval)))) := by
      simp only [resolve, pure_bind, invoke, hf]
    rw [this]
    exact QS.of hx
  split at h
  · split at h
    · rename_i x hx
      simp only [Option.bind_eq_some_iff] at h
      obtain ⟨v0, hv0, t, ht, h⟩ := h
      refine key .len Builtin.len_ rfl (fun _ _ => rfl) ?_
      have : args.map a.eval = #[a.eval x] := by apply Array.ext'; simp [hx]
      rw [this]
      exact exLen_sound hr (og_sound hr hs hv0) h argTypes ht
    · cases h
  · split at h
    · rename_i x hx
      simp only [Option.bind_eq_some_iff] at h
      obtain ⟨v0, hv0, t, ht, h⟩ := h
      refine key .cap Builtin.cap_ rfl (fun _ _ => rfl) ?_
      have : args.map a.eval = #[a.eval x] := by apply Array.ext'; simp [hx]
      rw [this]
      exact exCap_sound hr (og_sound hr hs hv0) h argTypes ht
    · cases h
  · simp only [Option.bind_eq_some_iff] at h
    obtain ⟨l, hl, h⟩ := h
    rw [Bool.cond_eq_ite] at h
    split at h
    · rename_i ha
      exact key .min Builtin.min_ rfl (fun _ _ => rfl) (builtin_flat (f := fun xs => Builtin.min_ argTypes ty xs) (ogL_sound hr hs hl) ha h)
    · cases h
  · simp only [Option.bind_eq_some_iff] at h
    obtain ⟨l, hl, h⟩ := h
    rw [Bool.cond_eq_ite] at h
    split at h
    · rename_i ha
      exact key .max Builtin.max_ rfl (fun _ _ => rfl) (builtin_flat (f := fun xs => Builtin.max_ argTypes ty xs) (ogL_sound hr hs hl) ha h)
    · cases h
  · simp only [Option.bind_eq_some_iff] at h
    obtain ⟨l, hl, h⟩ := h
    rw [Bool.cond_eq_ite] at h
    split at h
    · rename_i ha
      exact key .real Builtin.real_ rfl (fun _ _ => rfl) (builtin_flat (f := fun xs => Builtin.real_ argTypes ty xs) (ogL_sound hr hs hl) ha h)
    · cases h
  · simp only [Option.bind_eq_some_iff] at h
    obtain ⟨l, hl, h⟩ := h
    rw [Bool.cond_eq_ite] at h
    split at h
    · rename_i ha
      exact key .imag Builtin.imag_ rfl (fun _ _ => rfl) (builtin_flat (f := fun xs => Builtin.imag_ argTypes ty xs) (ogL_sound hr hs hl) ha h)
    · cases h
  · simp only [Option.bind_eq_some_iff] at h
    obtain ⟨l, hl, h⟩ := h
    rw [Bool.cond_eq_ite] at h
    split at h
    · rename_i ha
      exact key .complex Builtin.complex_ rfl (fun _ _ => rfl) (builtin_flat (f := fun xs => Builtin.complex_ argTypes ty xs) (ogL_sound hr hs hl) ha h)
    · cases h
  · cases h

theorem exQ_sound (hr : Rel P gl φ σ w) (hs : SlR2 φ N s a) {o : Oper} {v : Value} (h : exQ P gl σ s o.op o.type = some v) : QS P φ w (execOp a.eval o) v := by
  obtain ⟨dst, op, ty, pos, after, guard⟩ := o
  simp only at h
  cases op with
  | move x => exact ⟨_, rfl, og_sound hr hs h⟩
  | assign x => exact ⟨_, rfl, og_sound hr hs h⟩
  | pick c x y =>
    simp only [exQ, Option.bind_eq_some_iff] at h
    obtain ⟨v0, hv0, h⟩ := h
    have h0 := og_sound hr hs hv0
    split at h
    · rename_i b
      have e : a.eval c = .bool b := by
        generalize a.eval c = u at h0; cases h0; rfl
      cases b with
      | true => exact ⟨_, by simp [execOp, e, asBool], og_sound hr hs h⟩
      | false => exact ⟨_, by simp [execOp, e, asBool], og_sound hr hs h⟩
    · cases h
  | load t x =>
    simp only [exQ, Option.bind_eq_some_iff] at h
    obtain ⟨v0, hv0, h⟩ := h
    exact QS.of (exLoad_sound hr (og_sound hr hs hv0) h)
  | nilCheck x =>
    simp only [exQ, Option.bind_eq_some_iff] at h
    obtain ⟨v0, hv0, h⟩ := h
    have h0 := og_sound hr hs hv0
    obtain ⟨rfl, h2⟩ := exNilCheck_sound h0 h
    rcases h2 with ⟨b, e⟩ | ⟨f, b, c, e⟩
    · exact ⟨a.eval x, by simp [execOp, e], h0⟩
    · exact ⟨a.eval x, by simp [execOp, e], h0⟩
  | binOp op t x y yt =>
    simp only [exQ, Option.bind_eq_some_iff] at h
    obtain ⟨v0, hv0, u0, hu0, h⟩ := h
    exact QS.of (exBin_sound (og_sound hr hs hv0) (og_sound hr hs hu0) h)
  | unOp op t x =>
    simp only [exQ, Option.bind_eq_some_iff] at h
    obtain ⟨v0, hv0, h⟩ := h
    rw [Bool.cond_eq_ite] at h
    split at h
    · rename_i hc
      have e := VR.of_af 8 hc (og_sound hr hs hv0)
      refine QS.of ⟨v, ?_⟩
      rw [e]; exact exPure_sound h w
    · cases h
  | convert src dst' x =>
    simp only [exQ, Option.bind_eq_some_iff] at h
    obtain ⟨v0, hv0, h⟩ := h
    have h0 := og_sound hr hs hv0
    split at h
    · exact QS.of (exBytesStr_sound hr h0 h)
    · exact QS.of (exPtrConv_sound hr h0 h)
    · rw [Bool.cond_eq_ite] at h
      split at h
      · rename_i hc
        have e := VR.of_af 8 hc h0
        refine QS.of ⟨v, ?_⟩
        rw [e]; exact exPure_sound h w
      · cases h
  | makeInterface t x =>
    simp only [exQ, Option.bind_eq_some_iff] at h
    obtain ⟨v0, hv0, h⟩ := h
    split at h
    · cases h
    · rename_i d hne hu
      cases h
      refine QS.of ⟨.iface t (a.eval x), ?_, .iface _ _ _ (og_sound hr hs hv0)⟩
      simp only [Instr.makeInterface, Sem.run_bind, run_underlying hu, Result.andThen_ok]
      rfl
    · cases h
  | makeFunc fn first cap =>
    simp only [exQ, Bool.cond_eq_ite] at h
    split at h
    · rename_i hc
      simp only [Option.bind_eq_some_iff, Option.map_eq_some_iff] at h
      obtain ⟨f, hf, c, hcc, rfl⟩ := h
      have h1 := ogL_sound hr hs hf
      have h2 := ogL_sound hr hs hcc
      refine QS.of ⟨.func fn (first.map a.eval) (cap.map a.eval), rfl, ?_⟩
      exact .func fn hc _ _ _ _ (by simpa using h1.1) (by simpa using h2.1) (by simpa using h1.2) (by simpa using h2.2)
    · cases h
  | build t parts =>
    simp only [exQ, Option.bind_eq_some_iff] at h
    obtain ⟨ps, hps, h⟩ := h
    have hh := exBuild_sound (P := P) (w := w) (ogP_arr hr hs hps) h
    exact QS.of hh
  | slice t x lo hi mx =>
    simp only [exQ, Option.bind_eq_some_iff] at h
    obtain ⟨v0, hv0, l, hl, hh, hhh, m, hm, h⟩ := h
    have h0 := og_sound hr hs hv0
    obtain ⟨l1, l2⟩ := ogO_sound hr hs hl
    obtain ⟨k1, k2⟩ := ogO_sound hr hs hhh
    obtain ⟨m1, m2⟩ := ogO_sound hr hs hm
    split at h
    · rw [Bool.cond_eq_ite] at h
      split at h
      · rename_i hc
        simp only [Bool.and_eq_true] at hc
        have e := VR.of_af 8 (by rfl) h0
        refine QS.of ⟨v, ?_⟩
        rw [e, opt_af l1 l2 hc.1.1, opt_af k1 k2 hc.1.2, opt_af m1 m2 hc.2]
        exact exPure_sound h w
      · cases h
    · exact QS.of (exSlice_sound hr h0 l1 l2 k1 k2 m1 m2 h)
  | fieldAddr t x f =>
    simp only [exQ, Option.bind_eq_some_iff] at h
    obtain ⟨v0, hv0, h⟩ := h
    exact QS.of (exFieldAddr_sound (og_sound hr hs hv0) h)
  | field t x f =>
    simp only [exQ, Option.bind_eq_some_iff] at h
    obtain ⟨v0, hv0, h⟩ := h
    exact QS.of (exField_sound (og_sound hr hs hv0) h)
  | indexAddr t x i =>
    simp only [exQ, Option.bind_eq_some_iff] at h
    obtain ⟨v0, hv0, u0, hu0, h⟩ := h
    exact QS.of (exIndexAddr_sound (og_sound hr hs hv0) (og_sound hr hs hu0) h)
  | index t x i =>
    simp only [exQ, Option.bind_eq_some_iff] at h
    obtain ⟨v0, hv0, u0, hu0, h⟩ := h
    have h0 := og_sound hr hs hv0
    have h1 := og_sound hr hs hu0
    split at h
    · rw [Bool.cond_eq_ite] at h
      split at h
      · rename_i hc
        have e := VR.of_af 8 (by rfl) h0
        have e2 := VR.of_af 8 hc h1
        refine QS.of ⟨v, ?_⟩
        rw [e, e2]; exact exPure_sound h w
      · cases h
    · exact QS.of (exIndex_sound h0 h1 h)
  | lookup t x k ok =>
    simp only [exQ, Option.bind_eq_some_iff] at h
    obtain ⟨v0, hv0, u0, hu0, h⟩ := h
    exact QS.of (exLookup_sound hr (og_sound hr hs hv0) (og_sound hr hs hu0) h)
  | extract x i =>
    simp only [exQ, Option.bind_eq_some_iff] at h
    obtain ⟨v0, hv0, h⟩ := h
    exact QS.of (exExtract_sound (og_sound hr hs hv0) h)
  | call c => exact exQ_call hr hs h
  | _ => simp [exQ] at h

/-! ### Operations that make one block -/
def exN (P : Program) (s : Slots) (op : Op) : Option (LObj × (Nat → Value)) :=
  match op with
  | .alloc e => nwAlloc P e
  | .box e x => (og P s x).bind fun v => nwBox e v
  | .buildSlice t len parts => (ogP P s parts.toList).bind fun ps => nwBuildSlice P t len ps
  | .makeSlice t l c => (og P s l).bind fun v => (og P s c).bind fun u => nwMakeSlice P t v u
  | .makeMap t r => (ogO P s r).bind fun v => nwMakeMap P t v
  | _ => none

def NewN (P : Program) (φ : Phi) (s : Sem Next) (o : LObj) (mk : Nat → Value) : Prop :=
  (o.writable && o.plain) = true ∧ ∀ w : World, ∃ x v', s.run P w = .ok (.value v') (w.alloc x) ∧ ∀ φ' : Phi, φ.le φ' → ∀ i, φ' i = some ⟨w.heap.size, none⟩ → ObjR φ' o ⟨w.heap.size, none⟩ x ∧ VR φ' (mk i) v'
theorem NewN.of {s : Sem Value} {o : LObj} {mk : Nat → Value} (h : NewS P φ s o mk) : NewN P φ (do pure (.value (← s))) o mk :=
  ⟨h.1, fun w => let ⟨x, v', e, r⟩ := h.2 w; ⟨x, v', by simp [e], r⟩⟩

theorem exN_map (hr : Rel P gl φ σ w) (hs : SlR2 φ N s a) {t : TypeId} {r : Option Operand} {b : LObj} {mk : Nat → Value} (h : exN P s (.makeMap t r) = some (b, mk)) : NewS P φ (Instr.makeMap t (r.map a.eval)) b mk := by
  unfold exN at h
  simp only [Option.bind_eq_some_iff] at h
  obtain ⟨v0, hv0, h⟩ := h
  obtain ⟨l1, l2⟩ := ogO_sound hr hs hv0
  exact nwMakeMap_sound l1 l2 h

theorem exN_sound (hr : Rel P gl φ σ w) (hs : SlR2 φ N s a) {o : Oper} {b : LObj} {mk : Nat → Value} (h : exN P s o.op = some (b, mk)) : NewN P φ (execOp a.eval o) b mk := by
  obtain ⟨dst, op, ty, pos, after, guard⟩ := o
  simp only at h
  cases op with
  | alloc e => exact NewN.of (nwAlloc_sound h)
  | box e x =>
    unfold exN at h
    simp only [Option.bind_eq_some_iff] at h
    obtain ⟨v0, hv0, h⟩ := h
    have hh := nwBox_sound (P := P) (og_sound hr hs hv0) h
    exact NewN.of hh
  | buildSlice t len parts =>
    unfold exN at h
    simp only [Option.bind_eq_some_iff] at h
    obtain ⟨ps, hps, h⟩ := h
    have hh := nwBuildSlice_sound (P := P) (ogP_arr hr hs hps) h
    exact NewN.of hh
  | makeSlice t l c =>
    unfold exN at h
    simp only [Option.bind_eq_some_iff] at h
    obtain ⟨v0, hv0, u0, hu0, h⟩ := h
    exact NewN.of (nwMakeSlice_sound (og_sound hr hs hv0) (og_sound hr hs hu0) h)
  | makeMap t r => exact NewN.of (exN_map hr hs h)
  | _ => cases h
end
end Go.Proofs.YtpckfdopokmbkaaGreatDoor.Ev

namespace Go.Proofs.YtpckfdopokmbkaaGreatDoor.Ev
open Go
open Go.RowKit

section
variable {P : Program} {gl : Gl} {φ : Phi} {σ σ1 : LS} {w : World}

/-- A slice's first element's address. -/
def exSlData (x : Value) : Option Value :=
  match x with
  | .slice none _ _ => some (.pointer none)
  | .slice (some a) n c => cond (Nat.ble 1 n && Nat.ble 1 c) (some (.pointer (some a))) none
  | _ => none

theorem exSlData_sound {x x' v : Value} (hx : VR φ x x') (hv : exSlData x = some v) (ts : Array TypeId) (ty : TypeId) :
    ∃ v', (Builtin.unsafeSliceData_ ts ty #[x']).run P w = .ok v' w ∧ VR φ v v' := by
  unfold exSlData at hv
  split at hv
  · cases hv; cases hx; exact ⟨_, Lib.run_unsafeSliceData_nil w ts ty _ _, .nilPtr⟩
  · rename_i a n c
    rw [Bool.cond_eq_ite] at hv
    split at hv
    · rename_i hc
      simp only [Bool.and_eq_true] at hc
      have h2 := Nat.le_of_ble_eq_true hc.2
      cases hv
      cases hx with
      | slice _ a' _ _ c' ha =>
        have : c ≤ c' := by
          obtain ⟨_, _, r, _, _, g1, g2⟩ := ha
          cases hcap : r.cap with
          | none => rw [(g1 hcap).2]; exact Nat.le_refl _
          | some q => exact (g2 q.1 q.2.1 q.2.2 hcap).1
        exact ⟨_, Lib.run_unsafeSliceData_row w ts ty a' n c' (by omega), .ptr _ _ (ha.addr (by omega))⟩
    · cases hv
  · cases hv

def byteV : Value → Option UInt8
  | .int .u8 (.ofNat k) => cond (Nat.ble k 255) (some (UInt8.ofNat k)) none
  | _ => none
def bytesV : List Value → Option (List UInt8)
  | [] => some []
  | v :: l => (byteV v).bind fun b => (bytesV l).map fun m => b :: m
theorem bytesV_spec : ∀ {l : List Value} {bs : List UInt8}, bytesV l = some bs → l = Lib.byteCells bs
  | [], bs, h => by simp [bytesV] at h; subst h; rfl
  | v :: l, bs, h => by
    simp only [bytesV, Option.bind_eq_some_iff, Option.map_eq_some_iff] at h
    obtain ⟨b, hb, m, hm, rfl⟩ := h
    have := bytesV_spec hm
    unfold byteV at hb
    split at hb
    · rename_i k
      rw [Bool.cond_eq_ite] at hb
      split at hb
      · rename_i hk
        have hk := Nat.le_of_ble_eq_true hk
        cases hb
        have h1 : (UInt8.ofNat k).toNat = k := by simp; omega
        simp only [Lib.byteCells, List.map_cons]
        rw [h1, this]; rfl
      · cases hb
    · cases hb

def frz (f : Nat × Nat) (n : Nat) : Nat × Nat := cond (Nat.beq f.1 f.2) (0, n) (0, Nat.max f.2 n)

def exUStr (P : Program) (gl : Gl) (σ : LS) (pt : TypeId) (p n : Value) : Option (Value × LS) :=
  match n with
  | .int .i64 (.ofNat k) => (match k, p with
    | 0, .pointer none => some (.string .empty, σ)
    | 0, .pointer (some _) => some (.string .empty, σ)
    | k + 1, .pointer (some a) => (match P.underlying pt with
      | some (.pointer e) => (match σ.heap.get a.block with
        | some (.row b) => cond (Nat.beq (P.cellsOf e) 1 && Nat.beq b.elem e && !b.ro && !b.tail && Nat.beq a.off 0 && Nat.ble (k + 1) b.cells.length && Nat.ble (k + 1) most && Nat.ble a.block (most - 1) && Nat.ble (frz b.fz (k + 1)).2 b.cells.length)
          ((cellsAt gl σ a (k + 1)).bind fun l => (bytesV l).map fun bs => (.string ⟨bs.toArray⟩, σ.upd a.block (some (.row { b with fz := frz b.fz (k + 1) })))) none
        | _ => none)
      | _ => none)
    | _, _ => none)
  | _ => none

theorem nbeq_false {a b : Nat} (h : a ≠ b) : Nat.beq a b = false := by
  cases e : Nat.beq a b with
  | false => rfl
  | true => exact absurd (Nat.eq_of_beq_eq_true e) h
theorem freeze_heap {w : World} {a : Addr} {n : Nat} {c : Array Value} {e : TypeId} {f : Nat × Nat} (hn : n ≠ 0) (h : w.heap[a.block]? = some (.cells c e f)) (h0 : a.off = 0) :
    (w.freeze a n).heap[a.block]? = some (.cells c e (frz f n)) ∧ (∀ b, b ≠ a.block → (w.freeze a n).heap[b]? = w.heap[b]?) ∧ (w.freeze a n).heap.size = w.heap.size ∧ (w.freeze a n).os = w.os ∧ (w.freeze a n).tape = w.tape ∧ (w.freeze a n).output = w.output := by
  unfold World.freeze
  rw [if_neg hn]
  refine ⟨?_, fun b hb => ?_, by simp, rfl, rfl, rfl⟩
  · simp only [Array.getElem?_modify, if_true, h, Option.map_some]
    obtain ⟨lo, hi⟩ := f
    simp only [frz, h0]
    by_cases e : lo = hi
    · subst e; simp
    · rw [if_neg (by simpa using e), nbeq_false e]
      simp
  · simp only [Array.getElem?_modify]
    rw [if_neg (fun e => hb e.symm)]

theorem run_unsafeString_zero (ts : Array TypeId) (pt ty : TypeId) (h : ts[0]? = some pt) (p : Option Addr) : (Builtin.unsafeString_ ts ty #[.pointer p, .int .i64 0]).run P w = .ok (.string .empty) w := by
  have hmax : IntKind.i64.max = 9223372036854775807 := rfl
  cases p with
  | none =>
    have hdef : Builtin.unsafeString_ ts ty #[.pointer none, .int .i64 0] =
        (do
          let n ← asInt (.int .i64 0)
          let some pt := ts[0]? | stuck "unsafe.String: no argument types"
          if n < 0 then runtimePanic (.error "unsafe.String: len out of range")
          if n > IntKind.i64.max then unsupported (.unsafePointer "String: a length above the largest int")
          if n = 0 then pure (.string .empty)
          else runtimePanic (.error "unsafe.String: ptr is nil and len is not zero")) := rfl
    rw [hdef]
    simp [asInt, asIntOf, hmax, h]
  | some a =>
    have hdef : Builtin.unsafeString_ ts ty #[.pointer (some a), .int .i64 0] =
        (do
          let n ← asInt (.int .i64 0)
          let some pt := ts[0]? | stuck "unsafe.String: no argument types"
          if n < 0 then runtimePanic (.error "unsafe.String: len out of range")
          if n > IntKind.i64.max then unsupported (.unsafePointer "String: a length above the largest int")
          if n = 0 then pure (.string .empty)
          else if ← variablesAt a (← elemOf pt) n.toNat then do
            let s ← loadBytes a .empty n.toNat
            freeze a n.toNat
            pure (.string s)
          else unsupported (.unsafePointer "String: not so many bytes at ptr")) := rfl
    rw [hdef]
    simp [asInt, asIntOf, hmax, h]

theorem exUStr_sound (h : Rel P gl φ σ w) {pt ty : TypeId} {p p' n n' v : Value} (hp : VR φ p p') (hn : VR φ n n') (hv : exUStr P gl σ pt p n = some (v, σ1)) (ts : Array TypeId) (ht : ts = #[pt, ty]) (ty' : TypeId) :
    ∃ v' w1, (Builtin.unsafeString_ ts ty' #[p', n']).run P w = .ok v' w1 ∧ Tr P gl φ σ w φ σ1 w1 ∧ VR φ v v' := by
  unfold exUStr at hv
  split at hv
  · rename_i k
    cases hn
    split at hv
    · cases hv; cases hp; exact ⟨_, w, run_unsafeString_zero ts pt ty' (by simp [ht]) none, Tr.refl h, .string _⟩
    · cases hv; cases hp; exact ⟨_, w, run_unsafeString_zero ts pt ty' (by simp [ht]) (some _), Tr.refl h, .string _⟩
    · rename_i k a
      split at hv
      · rename_i e hu
        split at hv
        · rename_i b hb
          rw [Bool.cond_eq_ite] at hv
          split at hv
          · rename_i hc
            simp only [Bool.and_eq_true, Bool.not_eq_true'] at hc
            obtain ⟨⟨⟨⟨⟨⟨⟨⟨c1, c2⟩, c3⟩, c4⟩, c5⟩, c6⟩, c7⟩, c8⟩, c9⟩ := hc
            have c1 := Nat.eq_of_beq_eq_true c1
            have c2 := Nat.eq_of_beq_eq_true c2
            have c5 := Nat.eq_of_beq_eq_true c5
            have c9 := Nat.le_of_ble_eq_true c9
            have c6 := Nat.le_of_ble_eq_true c6
            have c7 := Nat.le_of_ble_eq_true c7
            have c8 := Nat.le_of_ble_eq_true c8
            simp only [Option.bind_eq_some_iff, Option.map_eq_some_iff] at hv
            obtain ⟨l, hl, bs, hbs, hv⟩ := hv
            cases hv
            have hbc := bytesV_spec hbs
            cases hp with
            | ptr _ a' ha =>
              obtain ⟨h1, h2, r, h4, h5, h3⟩ := id ha
              obtain ⟨r', x, g1, g2, g3⟩ := h.live _ _ hb
              rw [h4] at g1; cases g1
              obtain ⟨c', fz', rfl, g4, g5⟩ := g3
              have hsh0 : r.sh = 0 := by
                cases hcap : r.cap with
                | none => exact RB.sh0 hcap
                | some q =>
                  obtain ⟨S, z, s⟩ := q
                  simp only [hcap] at g5
                  rw [RB.sh1 hcap]; exact g5.2.2.2.2 c4
              have hsz : b.cells.length ≤ c'.size := by
                cases hl : b.cells.length with
                | zero => omega
                | succ m =>
                  obtain ⟨v', e1, _⟩ := g4 m b.cells[m] (List.getElem?_eq_getElem (by omega))
                  have := (Array.getElem?_eq_some_iff.1 e1).1
                  omega
              have hll := cellsAt_length _ _ _ hl
              have hbl : bs.length = k + 1 := by rw [← hll, hbc, Lib.byteCells_length]
              have ha0 : a' = ⟨r.blk, 0, none⟩ := by
                obtain ⟨x1, x2, x3⟩ := a'; simp only at h2 h3 h5; subst h2; subst h5; rw [h3, c5, hsh0]
              subst ha0
              have hcell : ∀ j x, bs[j]? = some x → w.cell? ((⟨r.blk, 0, none⟩ : Addr).add j) = some (.int .u8 x.toNat) := by
                intro j x hj
                have hlj : l[j]? = some (.int .u8 x.toNat) := by rw [hbc, Lib.byteCells, List.getElem?_map, hj]; rfl
                have := cellsAt_get _ _ _ hl j _ hlj
                obtain ⟨v', k1, k2⟩ := cellAt_sound h (ha.add j) this
                cases k2
                exact k1
              have hrun := Lib.run_unsafeString_row (P := P) w pt ty ty' e hu c1 r.blk c'.size (by simp [World.shape?, g2, c2]) bs (by intro e; rw [e] at hbl; cases hbl) (by omega) (by unfold most at c7; omega) hcell
              subst ht
              obtain ⟨f1, f2, f3, f4, f5, f6⟩ := freeze_heap (a := ⟨r.blk, 0, none⟩) (n := bs.length) (by omega) g2 rfl
              refine ⟨_, _, ?_, Tr.change h (o := .row b) (o' := .row { b with fz := frz b.fz (k + 1) }) (by unfold most at *; omega) hb (by simpa [LObj.writable] using c3) h4 f1 ?_ f2 f3 f4 f5 f6, .string _⟩
              · rw [hbl] at hrun ⊢; exact hrun
              · refine ⟨c', _, rfl, g4, ?_⟩
                rw [hbl]
                cases hcap : r.cap with
                | none => simp only [hcap] at g5 ⊢; exact ⟨g5.1, by rw [g5.2.1], g5.2.2⟩
                | some q =>
                  obtain ⟨S, z, s⟩ := q
                  rw [RB.sh1 hcap] at hsh0
                  subst hsh0
                  simp only [hcap, Nat.zero_add] at g5 ⊢
                  obtain ⟨e1, e2, e3, e4, e5⟩ := g5
                  refine ⟨e1, e2, e3, Or.inr (Or.inl ?_), e5⟩
                  have hfr : ∀ f : Nat × Nat, (frz f (k + 1)).1 = 0 ∧ (f.1 = f.2 → (frz f (k + 1)).2 = k + 1) ∧ (f.1 ≠ f.2 → (frz f (k + 1)).2 = max f.2 (k + 1)) := by
                    intro f
                    unfold frz
                    by_cases e : f.1 = f.2
                    · rw [show Nat.beq f.1 f.2 = true from by simpa using e]; simp [e]
                    · rw [nbeq_false e]; simp [e]
                  obtain ⟨p1, p2, p3⟩ := hfr fz'
                  obtain ⟨q1, q2, q3⟩ := hfr b.fz
                  rw [p1, q1]
                  by_cases t1 : fz'.1 = fz'.2
                  · rw [p2 t1]
                    by_cases t2 : b.fz.1 = b.fz.2
                    · rw [q2 t2]; omega
                    · have := q3 t2; omega
                  · rw [p3 t1]
                    rcases e4 with e4 | ⟨y1, y2, y3, y4⟩ | ⟨e4, _⟩
                    · exact absurd e4 t1
                    · have := q3 (by omega); omega
                    · rw [c4] at e4; cases e4
          · cases hv
        · cases hv
      · cases hv
    · cases hv
  · cases hv
end
end Go.Proofs.YtpckfdopokmbkaaGreatDoor.Ev

namespace Go.Proofs.YtpckfdopokmbkaaGreatDoor.Ev
open Go
open Go.RowKit

section
variable {P : Program} {gl : Gl} {φ : Phi} {σ σ1 : LS} {w : World}

theorem bytesWorld_eq (w : World) (e : TypeId) (s : ByteArray) :
    Lib.bytesWorld w e s = ({ w with drawn := w.drawn + 1 } : World).alloc (.cells (Lib.bytesCells w e s) e ((Lib.bytesCells w e s).size, (Lib.bytesCells w e s).size + 1)) := by
  have hh : (Lib.bytesWorld w e s).heap = (({ w with drawn := w.drawn + 1 } : World).alloc (.cells (Lib.bytesCells w e s) e ((Lib.bytesCells w e s).size, (Lib.bytesCells w e s).size + 1))).heap := by
    apply Array.ext_getElem?
    intro i
    rcases Nat.lt_trichotomy i w.heap.size with h | h | h
    · rw [Lib.bytesWorld_at_old w e s i h]; exact (Below.heap_alloc { w with drawn := w.drawn + 1 } _ i h).symm
    · subst h; rw [Lib.bytesWorld_at_new]; exact Array.getElem?_push_size.symm
    · rw [Array.getElem?_eq_none (by rw [Lib.bytesWorld_size]; omega), Array.getElem?_eq_none (by simp; omega)]
  have : Lib.bytesWorld w e s = { (({ w with drawn := w.drawn + 1 } : World).alloc (.cells (Lib.bytesCells w e s) e ((Lib.bytesCells w e s).size, (Lib.bytesCells w e s).size + 1))) with heap := (Lib.bytesWorld w e s).heap } := rfl
  rw [this, hh]

def exStrBytes (P : Program) (σ : LS) (src dst : TypeId) (s : ByteArray) : Option (Value × LS) :=
  match P.underlying src, P.underlying dst with
  | some _, some (.slice e) => (match P.underlying e with
    | some (.int .u8) => cond (room σ) (let n := s.data.toList.length
      some (.slice (some ⟨σ.next, 0, none⟩) n n, σ.add (.row ⟨Lib.byteCells s.data.toList, e, (0, 0), 1, false, true⟩))) none
    | _ => none)
  | _, _ => none

theorem exStrBytes_sound (h : Rel P gl φ σ w) {src dst : TypeId} {s : ByteArray} {v : Value} (hv : exStrBytes P σ src dst s = some (v, σ1)) :
    ∃ v' w1 φ1, (convert src dst (.string s)).run P w = .ok v' w1 ∧ Tr P gl φ σ w φ1 σ1 w1 ∧ VR φ1 v v' := by
  unfold exStrBytes at hv
  split at hv
  · rename_i u e hs hd
    split at hv
    · rename_i he
      rw [Bool.cond_eq_ite] at hv
      split at hv
      · rename_i hr
        cases hv
        have hr := Nat.le_of_ble_eq_true hr
        have hrun := Lib.run_convert_string_bytes (P := P) w src dst e s hs hd he
        rw [bytesWorld_eq] at hrun
        have hsz : (Lib.bytesCells w e s).size = grownCap w s.size 0 e := by
          have : s.size ≤ grownCap w s.size 0 e := by simp only [grownCap, Question.cut]; omega
          simp [Lib.bytesCells]; change s.size + _ = _; omega
        have hd2 := h.drawn (w.drawn + 1)
        obtain ⟨t, q⟩ := Tr.alloc hd2 (by unfold most at *; omega) (.row ⟨Lib.byteCells s.data.toList, e, (0, 0), 1, false, true⟩)
          (.cells (Lib.bytesCells w e s) e ((Lib.bytesCells w e s).size, (Lib.bytesCells w e s).size + 1)) (some ((Lib.bytesCells w e s).size, 1, 0))
          ⟨_, _, rfl, fun k v hk => by
            simp only [Lib.byteCells, List.getElem?_map, Option.map_eq_some_iff] at hk
            obtain ⟨b, hb, rfl⟩ := hk
            refine ⟨.int .u8 b.toNat, ?_, .int _ _⟩
            have hkl := (List.getElem?_eq_some_iff.1 hb).1
            simp only [Array.length_toList] at hkl
            rw [RB.sh1 rfl, Nat.zero_add, Lib.bytesCells, Array.getElem?_append_left (by simpa using hkl)]
            simp only [Array.getElem?_map]
            rw [← Array.getElem?_toList, hb]; rfl, by exact ⟨rfl, rfl, Nat.one_pos, Or.inr (Or.inr ⟨rfl, Nat.le_refl _⟩), fun _ => rfl⟩⟩
        refine ⟨_, _, _, hrun, (Tr.drawn h _).trans t, ?_⟩
        refine .slice _ _ _ _ _ (SlR.of rfl rfl _ q rfl (fun e => (by cases e)) fun S zz sz e => ?_)
        cases e
        refine ⟨?_, fun _ => rfl, by rw [hsz]; simp⟩
        simp only [grownCap, Question.cut, Array.length_toList]
        change s.size ≤ _
        omega
      · cases hv
    · cases hv
  · cases hv

/-- The mark behind an exact row. -/
def frzG (f : Nat × Nat) (o n : Nat) : Nat × Nat := cond (Nat.beq f.1 f.2) (o, o + n) (Nat.min f.1 o, Nat.max f.2 (o + n))
def frzAt (f : Nat × Nat) (n : Nat) : Nat × Nat := frzG f n 1
theorem freeze_heapG {w : World} {a : Addr} {n : Nat} {c : Array Value} {e : TypeId} {f : Nat × Nat} (hn : n ≠ 0) (h : w.heap[a.block]? = some (.cells c e f)) :
    (w.freeze a n).heap[a.block]? = some (.cells c e (frzG f a.off n)) ∧ (∀ b, b ≠ a.block → (w.freeze a n).heap[b]? = w.heap[b]?) ∧ (w.freeze a n).heap.size = w.heap.size ∧ (w.freeze a n).os = w.os ∧ (w.freeze a n).tape = w.tape ∧ (w.freeze a n).output = w.output := by
  unfold World.freeze
  rw [if_neg hn]
  refine ⟨?_, fun b hb => ?_, by simp, rfl, rfl, rfl⟩
  · simp only [Array.getElem?_modify, if_true, h, Option.map_some]
    obtain ⟨lo, hi⟩ := f
    simp only [frzG]
    by_cases e : lo = hi
    · subst e; simp
    · rw [if_neg (by simpa using e), nbeq_false e]; rfl
  · simp only [Array.getElem?_modify]
    rw [if_neg (fun e => hb e.symm)]
def exMark (P : Program) (σ : LS) (src dst : TypeId) (a : Addr) (c : Nat) : Option LS :=
  match P.underlying src, P.underlying dst with
  | some (.slice _), some (.slice e) => (match P.underlying e with
    | some (.int .u8) => (match σ.heap.get a.block with
      | some (.row b) => cond (Nat.beq src dst && !b.ro && Nat.beq b.esz 0 && Nat.ble a.block (most - 1) && Nat.ble 1 c) (some (σ.upd a.block (some (.row { b with fz := frzAt b.fz b.cells.length })))) none
      | _ => none)
    | _ => none)
  | _, _ => none

theorem exMark_sound (h : Rel P gl φ σ w) {src dst : TypeId} {a : Addr} {n c : Nat} {x' : Value} (hx : VR φ (.slice (some a) n c) x') (hv : exMark P σ src dst a c = some σ1) :
    ∃ w1, (convert src dst x').run P w = .ok x' w1 ∧ Tr P gl φ σ w φ σ1 w1 := by
  unfold exMark at hv
  split at hv
  · rename_i e0 e hs hd
    split at hv
    · rename_i he
      split at hv
      · rename_i b hb
        rw [Bool.cond_eq_ite] at hv
        split at hv
        · rename_i hc
          cases hv
          simp only [Bool.and_eq_true, Bool.not_eq_true'] at hc
          obtain ⟨⟨⟨⟨c1, c2⟩, c3⟩, c4⟩, c5⟩ := hc
          have c5 := Nat.le_of_ble_eq_true c5
          have c1 := Nat.eq_of_beq_eq_true c1
          have c3 := Nat.eq_of_beq_eq_true c3
          have c4 := Nat.le_of_ble_eq_true c4
          subst c1
          rw [hs] at hd; cases hd
          cases hx with
          | slice _ a' _ _ c' ha =>
            obtain ⟨h1, h2, r, h4, h5, h6⟩ := ha
            obtain ⟨r', x, g1, g2, g3⟩ := h.live _ _ hb
            rw [h4] at g1; cases g1
            obtain ⟨cs, fz', rfl, g4, g5⟩ := g3
            cases hcap : r.cap with
            | some q => simp only [hcap] at g5; omega
            | none =>
              simp only [hcap] at g5
              obtain ⟨k1, k2, k3⟩ := g5
              subst k2
              have h5 := h5 (by have := (h6.1 hcap).2; omega)
              have hsh : w.shape? a'.block = some (b.elem, cs.size) := by simp [World.shape?, h5, g2]
              have hrun : (convert src src (.slice (some a') n c')).run P w = .ok (.slice (some a') n c') (w.freeze ⟨a'.block, cs.size, none⟩ 1) := by
                simp [convert, run_underlying hs, run_underlying he, markStringish, hsh]
              obtain ⟨f1, f2, f3, f4, f5, f6⟩ := freeze_heapG (a := ⟨a'.block, cs.size, none⟩) (n := 1) (by omega) (h5 ▸ g2)
              simp only [k1, h5] at f1 f2
              refine ⟨_, hrun, Tr.change h (o := .row b) (o' := .row { b with fz := frzAt b.fz b.cells.length }) (x := .cells cs b.elem (frzAt b.fz b.cells.length)) (by unfold most at *; omega) hb (by simpa [LObj.writable] using c2) h4 ?_ ?_ ?_ f3 f4 f5 f6⟩
              · rw [h5, k1]; exact f1
              · refine ⟨cs, _, rfl, g4, ?_⟩
                simp only [hcap]
                exact ⟨k1, trivial, k3⟩
              · rw [h5, k1]; exact f2
        · cases hv
      · cases hv
    · cases hv
  · cases hv

/-- The conversions that turn something. -/
def exConvC (P : Program) (σ : LS) (src dst : TypeId) (x : Value) : Option (Value × LS) :=
  match x with
  | .string s => exStrBytes P σ src dst s
  | .slice (some a) _ c => (exMark P σ src dst a c).map fun σ1 => (x, σ1)
  | _ => none
theorem exConvC_sound (h : Rel P gl φ σ w) {src dst : TypeId} {x x' v : Value} (hx : VR φ x x') (hv : exConvC P σ src dst x = some (v, σ1)) :
    ∃ v' w1 φ1, (convert src dst x').run P w = .ok v' w1 ∧ Tr P gl φ σ w φ1 σ1 w1 ∧ VR φ1 v v' := by
  unfold exConvC at hv
  split at hv
  · cases hx; exact exStrBytes_sound h hv
  · simp only [Option.map_eq_some_iff] at hv
    obtain ⟨σ2, he, hv⟩ := hv
    cases hv
    obtain ⟨w1, g1, g2⟩ := exMark_sound h hx he
    exact ⟨_, w1, φ, g1, g2, hx⟩
  · cases hv

/-! ### clear, delete -/
end
end Go.Proofs.YtpckfdopokmbkaaGreatDoor.Ev

namespace Go.Proofs.YtpckfdopokmbkaaGreatDoor.Ev
open Go
open Go.RowKit

section
variable {P : Program} {gl : Gl} {φ : Phi} {σ σ1 : LS} {w : World}

/-! ### Iterators -/
def exRange (P : Program) (σ : LS) (t : TypeId) (x : Value) : Option (Value × LS) :=
  match P.underlying t, x with
  | some .string, .string s => cond (room σ) (some (ptrTo σ.next, σ.add (.siter s 0))) none
  | some (.map _ _), .map none => cond (room σ) (some (ptrTo σ.next, σ.add (.miter none 0 [] 0))) none
  | some (.map _ _), .map (some m) => (match σ.heap.get m with
    | some (.map _ clock) => cond (room σ) (some (ptrTo σ.next, σ.add (.miter (some m) clock [] clock))) none
    | _ => none)
  | _, _ => none

theorem room_most (h : room σ = true) : σ.next < most := by
  have h := Nat.le_of_ble_eq_true h
  unfold most at *; omega

theorem new_iter (hr : Rel P gl φ σ w) (hn : σ.next < most) {o : LObj} {x : Obj} (hx : ∀ φ' : Phi, φ.le φ' → ObjR φ' o ⟨w.heap.size, none⟩ x) (hpl : o.plain = true := by rfl) :
    ∃ φ1, Tr P gl φ σ w φ1 (σ.add o) (w.alloc x) ∧ VR φ1 (ptrTo σ.next) (.pointer (some ⟨w.heap.size, 0, none⟩)) := by
  have hle : φ.le (φ.set σ.next ⟨w.heap.size, none⟩) := Phi.le_set (hr.fresh _ (Nat.le_refl _)) _
  obtain ⟨t, h2⟩ := Tr.alloc hr hn o x none (hx _ hle) hpl
  exact ⟨_, t, .ptr _ _ ⟨rfl, rfl, _, h2, rfl, rfl⟩⟩

theorem exRange_sound (hr : Rel P gl φ σ w) {t : TypeId} {x x' v : Value} (hx : VR φ x x') (h : exRange P σ t x = some (v, σ1)) :
    ∃ v' w1 φ1, (Instr.range t x').run P w = .ok v' w1 ∧ Tr P gl φ σ w φ1 σ1 w1 ∧ VR φ1 v v' := by
  unfold exRange at h
  split at h
  · rename_i s hu
    rw [Bool.cond_eq_ite] at h
    split at h
    · rename_i hc
      cases h
      cases hx
      obtain ⟨φ1, t1, t2⟩ := new_iter hr (room_most hc) (o := .siter s 0) (x := .stringIter s 0) (fun φ' _ => ⟨rfl, rfl⟩)
      exact ⟨_, _, φ1, by simp [Instr.range, run_underlying hu], t1, t2⟩
    · cases h
  · rename_i hu
    rw [Bool.cond_eq_ite] at h
    split at h
    · rename_i hc
      cases h
      cases hx
      obtain ⟨φ1, t1, t2⟩ := new_iter hr (room_most hc) (o := .miter none 0 [] 0) (x := .mapIter none 0 #[] 0) (fun φ' _ => ⟨rfl, none, rfl, rfl⟩)
      exact ⟨_, _, φ1, by simp [Instr.range, run_underlying hu], t1, t2⟩
    · cases h
  · rename_i m hu
    split at h
    · rename_i es clock hg
      rw [Bool.cond_eq_ite] at h
      split at h
      · rename_i hc
        cases h
        cases hx with
        | map _ rb hrb =>
          obtain ⟨es', g2, g4, g5⟩ := map_at hr hrb hg
          obtain ⟨φ1, t1, t2⟩ := new_iter hr (room_most hc) (o := .miter (some m) clock [] clock) (x := .mapIter (some rb.blk) clock #[] clock) (fun φ' hle => ⟨rfl, some rb.blk, rfl, rb, hle _ _ hrb, rfl⟩)
          exact ⟨_, _, φ1, by simp [Instr.range, run_underlying hu, getObj, Sem.run, g2], t1, t2⟩
      · cases h
    · cases h
  · cases h

def over : Value := .tuple #[.bool false]
def leftL (seen : List Nat) (es : List (Value × Value × Nat)) : List (Value × Value × Nat) := es.filter fun e => !(seen.contains e.2.2)

/-- The next one, where it is known: at the end, or the only one that is left. -/
def exNext (σ : LS) (x : Value) (str : Bool) : Option (Value × LS) :=
  match x with
  | .pointer (some ⟨i, 0, none⟩) => cond (Nat.ble (i + 1) most) (match σ.heap.get i, str with
    | some (.siter s pos), true => cond (Nat.ble (pos + 1) s.size)
      (some (.tuple #[.bool true, goInt pos, .int .i32 (Utf8.decode s pos).1], σ.upd i (some (.siter s (pos + (Utf8.decode s pos).2))))) (some (over, σ))
    | some (.miter none _ _ _), false => some (over, σ)
    | some (.miter (some m) since seen last), false => (match σ.heap.get m with
      | some (.map es clock) => cond (es.all (fun e => Nat.ble (e.2.2 + 1) since) && Nat.ble since last)
        (match leftL seen es with
        | [] => some (over, σ)
        | [e] => some (.tuple #[.bool true, e.1, e.2.1], σ.upd i (some (.miter (some m) since (seen ++ [e.2.2]) clock)))
        | _ => none) none
      | _ => none)
    | _, _ => none) none
  | _ => none

theorem VR.triple {a a' b b' c c' : Value} (h1 : VR φ a a') (h2 : VR φ b b') (h3 : VR φ c c') : VR φ (.tuple #[a, b, c]) (.tuple #[a', b', c']) := by
  refine .tuple _ _ rfl fun i v v' g1 g2 => ?_
  exact (LR.cons h1 (LR.cons h2 (LR.cons h3 (LR.nil φ)))).2 i v v' (by simpa using g1) (by simpa using g2)

theorem VR.over : VR φ over over := VR.af_refl 8 rfl

theorem iter_at (hr : Rel P gl φ σ w) {i : Nat} {o : LObj} (ho : σ.heap.get i = some o) {a' : Addr} (ha : AR φ ⟨i, 0, none⟩ a') (hcap : ∀ r x, ObjR φ o r x → r.cap = none) : ∃ r x, φ i = some r ∧ a' = ⟨r.blk, 0, none⟩ ∧ w.heap[r.blk]? = some x ∧ ObjR φ o r x := by
  obtain ⟨r, x, h1, h2, h3⟩ := hr.live _ _ ho
  obtain ⟨_, g2, r', g4, g5, g3⟩ := ha
  simp only at g4; rw [h1] at g4; cases g4
  rw [RB.sh0 (hcap _ _ h3)] at g3
  obtain ⟨b1, b2, b3⟩ := a'
  simp only at g2 g3 g5
  subst g2; subst g3; subst g5
  exact ⟨_, x, h1, rfl, h2, h3⟩

theorem run_setObj_any {r : Nat} {x o : Obj} (h : w.heap[r]? = some x) (hx : ∀ c e f, x ≠ .cells c e f) : (setObj r o).run P w = .ok () { w with heap := w.heap.setIfInBounds r o } := by
  cases x with
  | cells c e f => exact absurd rfl (hx c e f)
  | _ => simp [setObj, Sem.run, h]

theorem Tr.turn (hr : Rel P gl φ σ w) {i : Nat} {o o' : LObj} {r : RB} (hi : i < most) (ho : σ.heap.get i = some o) (hw : o.writable = true) (hp : φ i = some r) {x : Obj} (hx : ObjR φ o' r x) (hpl : o.plain = true := by rfl) (hpl' : o'.plain = true := by rfl) :
    Tr P gl φ σ w φ (σ.upd i (some o')) { w with heap := w.heap.setIfInBounds r.blk x } := by
  have hlt := hr.bound _ _ hp
  exact Tr.change hr hi ho hw hp (x := x) (by simp [hlt]) hx (fun b hb => Array.getElem?_setIfInBounds_ne (h := fun e => hb e.symm)) (by simp) rfl rfl rfl hpl hpl'

theorem EntL_filter {es : List (Value × Value × Nat)} {es' : List MapEntry} (h1 : es'.length = es.length) (h2 : ∀ (i : Nat) e e', es[i]? = some e → es'[i]? = some e' → EntR φ e e') (p : Nat → Bool) :
    (es'.filter fun e => p e.born).length = (es.filter fun e => p e.2.2).length ∧ ∀ (i : Nat) e e', (es.filter fun e => p e.2.2)[i]? = some e → (es'.filter fun e => p e.born)[i]? = some e' → EntR φ e e' := by
  induction es generalizing es' with
  | nil =>
    have : es' = [] := List.eq_nil_of_length_eq_zero h1
    subst this; exact ⟨rfl, fun i e e' h => by simp at h⟩
  | cons e es ih =>
    cases es' with
    | nil => simp at h1
    | cons e' es' =>
      have h0 := h2 0 e e' rfl rfl
      obtain ⟨k1, k2⟩ := ih (es' := es') (by simpa using h1) fun i a b g1 g2 => h2 (i + 1) a b (by simpa using g1) (by simpa using g2)
      have hb : e'.born = e.2.2 := h0.2.2
      simp only [List.filter_cons, hb]
      cases p e.2.2 with
      | true =>
        simp only [if_true, List.length_cons]
        refine ⟨by rw [k1], fun i a b g1 g2 => ?_⟩
        cases i with
        | zero => simp at g1 g2; subst g1; subst g2; exact h0
        | succ i => exact k2 i a b (by simpa using g1) (by simpa using g2)
      | false => exact ⟨k1, k2⟩
theorem EntL_all {es : List (Value × Value × Nat)} {es' : List MapEntry} (h1 : es'.length = es.length) (h2 : ∀ (i : Nat) e e', es[i]? = some e → es'[i]? = some e' → EntR φ e e') (p : Nat → Bool) :
    (es'.all fun e => p e.born) = es.all fun e => p e.2.2 := by
  induction es generalizing es' with
  | nil =>
    have : es' = [] := List.eq_nil_of_length_eq_zero h1
    subst this; rfl
  | cons e es ih =>
    cases es' with
    | nil => simp at h1
    | cons e' es' =>
      have h0 := h2 0 e e' rfl rfl
      have hb : e'.born = e.2.2 := h0.2.2
      simp only [List.all_cons, hb]
      rw [ih (es' := es') (by simpa using h1) fun i a b g1 g2 => h2 (i + 1) a b (by simpa using g1) (by simpa using g2)]

theorem exNext_sound (hr : Rel P gl φ σ w) {x x' v : Value} {str : Bool} (hx : VR φ x x') (h : exNext σ x str = some (v, σ1)) (ty : TypeId) :
    ∃ v' w1 φ1, (Instr.next x' str ty).run P w = .ok v' w1 ∧ Tr P gl φ σ w φ1 σ1 w1 ∧ VR φ1 v v' := by
  unfold exNext at h
  split at h
  · rename_i i
    rw [Bool.cond_eq_ite] at h
    split at h
    · rename_i hi
      have hi := Nat.le_of_ble_eq_true hi
      cases hx with
      | ptr _ a' ha =>
      split at h
      · rename_i s pos hg
        obtain ⟨r, x, e1, rfl, e3, e4, rfl⟩ := iter_at hr hg ha fun _ _ q => q.1
        rw [Bool.cond_eq_ite] at h
        split at h
        · rename_i hc
          have hc := Nat.le_of_ble_eq_true hc
          cases h
          refine ⟨_, _, φ, ?_, Tr.turn hr hi hg rfl e1 (o' := .siter s (pos + (Utf8.decode s pos).2)) (x := .stringIter s (pos + (Utf8.decode s pos).2)) ⟨e4, rfl⟩, VR.af_refl 8 rfl⟩
          have hlt : pos < s.size := hc
          simp [Instr.next, getObj, Sem.run, e3, hlt, run_setObj_any e3 (fun c e f h => by cases h)]
        · rename_i hc
          cases h
          have hlt : ¬ pos < s.size := fun h => hc (by rw [Nat.ble_eq]; exact h)
          exact ⟨_, w, φ, by simp [Instr.next, getObj, Sem.run, e3, hlt]; rfl, Tr.refl hr, VR.over⟩
      · rename_i since seen last hg
        obtain ⟨r, x, e1, rfl, e3, e4, m', rfl, e5⟩ := iter_at hr hg ha fun _ _ q => q.1
        simp only at e5; subst e5
        cases h
        exact ⟨_, w, φ, by simp [Instr.next, getObj, Sem.run, e3]; rfl, Tr.refl hr, VR.over⟩
      · rename_i m since seen last hg
        obtain ⟨r, x, e1, rfl, e3, e4, m', rfl, rm, e5, rfl⟩ := iter_at hr hg ha fun _ _ q => q.1
        split at h
        · rename_i es clock hm
          obtain ⟨es', g2, g4, g5⟩ := map_at hr e5 hm
          rw [Bool.cond_eq_ite] at h
          split at h
          · rename_i hc
            simp only [Bool.and_eq_true] at hc
            have hc2 := Nat.le_of_ble_eq_true hc.2
            have hold : ∀ x ∈ es'.toList, x.born < since := by
              have k1 := EntL_all g4 g5 (fun b => Nat.ble (b + 1) since)
              rw [hc.1] at k1
              intro x hx
              exact Nat.le_of_ble_eq_true (List.all_eq_true.1 k1 x hx)
            obtain ⟨l1, l2⟩ := EntL_filter g4 g5 (fun b => !(seen.contains b))
            have hleft : (leftOf es' seen.toArray).toList = es'.toList.filter fun e => !(seen.contains e.born) := by
              unfold leftOf; simp
            rw [← hleft] at l1 l2
            change _ = (leftL seen es).length at l1
            change ∀ (i : Nat) e e', (leftL seen es)[i]? = some e → _ at l2
            have hrun := run_next_at (P := P) w ty r.blk rm.blk since last seen.toArray es' clock e3 g2 hold hc2
            split at h
            · rename_i hl
              cases h
              rw [hl] at l1
              rcases hrun with ⟨_, hrun⟩ | ⟨e, he, _⟩
              · exact ⟨_, w, φ, hrun, Tr.refl hr, VR.over⟩
              · rw [List.eq_nil_of_length_eq_zero l1] at he; cases he
            · rename_i e hl
              cases h
              rw [hl] at l1 l2
              obtain ⟨e', he'⟩ : ∃ e', (leftOf es' seen.toArray).toList = [e'] := by
                match hh : (leftOf es' seen.toArray).toList, l1 with
                | [x], _ => exact ⟨x, rfl⟩
              rw [he'] at l2
              obtain ⟨v1, v2, v3⟩ := l2 0 e e' rfl rfl
              rcases hrun with ⟨h0, _⟩ | ⟨x, hx, w1, hw1, hrun⟩
              · rw [← Array.length_toList, he'] at h0; simp at h0
              · rw [he'] at hx
                have hx : x = e' := by simpa using hx
                subst hx
                have ht : Tr P gl φ σ w φ σ w1 := by
                  rcases hw1 with rfl | rfl
                  · exact Tr.refl hr
                  · exact Tr.drawn hr _
                refine ⟨_, _, φ, hrun, ht.trans (Tr.turn ht.rel hi hg rfl e1 (o' := .miter (some m) since (seen ++ [e.2.2]) clock) (x := .mapIter (some rm.blk) since (seen.toArray.push x.born) clock) ⟨e4, some rm.blk, ?_, rm, e5, rfl⟩), VR.triple (.bool true) v1 v2⟩
                rw [v3]; simp
            · cases h
          · cases h
        · cases h
      · cases h
    · cases h
  · cases h

/-- The entry that the last step handed out. -/
def exEntry (σ : LS) (x : Value) : Option Value :=
  match x with
  | .pointer (some ⟨i, 0, none⟩) => (match σ.heap.get i with
    | some (.miter (some m) _ seen last) => (match σ.heap.get m with
      | some (.map es clock) => cond (Nat.beq clock last) (seen.getLast?.bind fun st => (es.find? fun e => Nat.beq e.2.2 st).map fun e => .tuple #[e.1, e.2.1]) none
      | _ => none)
    | _ => none)
  | _ => none

theorem EntL_find (p : Nat → Bool) : ∀ (es : List (Value × Value × Nat)) (es' : List MapEntry), es'.length = es.length → (∀ (i : Nat) e e', es[i]? = some e → es'[i]? = some e' → EntR φ e e') →
    ∀ e, es.find? (fun e => p e.2.2) = some e → ∃ e', es'.find? (fun e => p e.born) = some e' ∧ EntR φ e e'
  | [], _, _, _, e, h => by simp at h
  | a :: es, [], h1, _, _, _ => by simp at h1
  | a :: es, a' :: es', h1, h2, e, h => by
    have h0 := h2 0 a a' rfl rfl
    have hb : a'.born = a.2.2 := h0.2.2
    simp only [List.find?_cons] at h ⊢
    rw [hb]
    cases hp : p a.2.2 with
    | true => rw [hp] at h; cases h; exact ⟨a', rfl, h0⟩
    | false => rw [hp] at h; exact EntL_find p es es' (by simpa using h1) (fun i x y g1 g2 => h2 (i + 1) x y (by simpa using g1) (by simpa using g2)) e h

theorem exEntry_sound (hr : Rel P gl φ σ w) {x x' v : Value} (hx : VR φ x x') (h : exEntry σ x = some v) : ∃ v', (Instr.entry x').run P w = .ok v' w ∧ VR φ v v' := by
  unfold exEntry at h
  split at h
  · rename_i i
    cases hx with
    | ptr _ a' ha =>
    split at h
    · rename_i m since seen last hg
      obtain ⟨r, x, e1, rfl, e3, e4, m', rfl, rm, e5, rfl⟩ := iter_at hr hg ha fun _ _ q => q.1
      split at h
      · rename_i es clock hm
        obtain ⟨es', g2, g4, g5⟩ := map_at hr e5 hm
        rw [Bool.cond_eq_ite] at h
        split at h
        · rename_i hc
          have hc := Nat.eq_of_beq_eq_true hc
          subst hc
          simp only [Option.bind_eq_some_iff, Option.map_eq_some_iff] at h
          obtain ⟨st, hst, e, he, rfl⟩ := h
          obtain ⟨e', f1, f2⟩ := EntL_find (fun b => Nat.beq b st) es es'.toList g4 g5 e he
          have hb : seen.toArray.back? = some st := by simpa [Array.back?, List.getLast?_eq_getElem?] using hst
          have hf : es'.find? (fun e => e.born == st) = some e' := by
            rw [← Array.find?_toList]
            have : (fun e : MapEntry => e.born == st) = fun e => Nat.beq e.born st := by
              funext e
              cases h : Nat.beq e.born st with
              | false => have := Nat.ne_of_beq_eq_false h; simp [this]
              | true => have := Nat.eq_of_beq_eq_true h; simp [this]
            rw [this]; exact f1
          refine ⟨.tuple #[e'.key, e'.val], ?_, VR.pair f2.1 f2.2.1⟩
          simp only [Instr.entry, getObj, Sem.run_bind, Sem.run, e3, g2, Result.andThen, hb, bne_self_eq_false, Bool.false_eq_true, if_false, hf]
          rfl
        · cases h
      · cases h
    · cases h
  · cases h

/-! ### delete, clear -/
def exDelete (P : Program) (σ : LS) (t : TypeId) (m k : Value) : Option LS :=
  match P.underlying t, m with
  | some (.map key _), .map none => (keyKind P key).map fun _ => σ
  | some (.map key _), .map (some i) => (keyKind P key).bind fun d => (match σ.heap.get i with
    | some (.map es cl) => cond (Nat.ble (i + 1) most) ((findL d k es 0).map fun r => match r with
      | some (j, _) => σ.upd i (some (.map (es.eraseIdx j) cl))
      | none => σ.upd i (some (.map es cl))) none
    | _ => none)
  | _, _ => none

theorem exDelete_sound (hr : Rel P gl φ σ w) {t ty : TypeId} {m m' k k' : Value} (hm : VR φ m m') (hk : VR φ k k') (h : exDelete P σ t m k = some σ1) (ts : Array TypeId) (ht : ts[0]? = some t) :
    ∃ w1, (Builtin.delete_ ts ty #[m', k']).run P w = .ok (.tuple #[]) w1 ∧ Tr P gl φ σ w φ σ1 w1 := by
  unfold exDelete at h
  split at h
  · rename_i key el hu
    simp only [Option.map_eq_some_iff] at h
    obtain ⟨d, hd, rfl⟩ := h
    cases hm
    refine ⟨w, ?_, Tr.refl hr⟩
    have e1 : (#[(.map none : Value), k'] : Array Value)[0]? = some (.map none) := rfl
    have e2 : (#[(.map none : Value), k'] : Array Value)[1]? = some k' := rfl
    simp only [Builtin.delete_, ht, e1, e2, Sem.run_bind, run_underlying hu, Result.andThen_ok, run_checkKey _ hd, Sem.run_pure]
  · rename_i key el i hu
    simp only [Option.bind_eq_some_iff] at h
    obtain ⟨d, hd, h⟩ := h
    split at h
    · rename_i es cl hg
      rw [Bool.cond_eq_ite] at h
      split at h
      · rename_i hc
        have hc := Nat.le_of_ble_eq_true hc
        simp only [Option.map_eq_some_iff] at h
        obtain ⟨r, hf, rfl⟩ := h
        cases hm with
        | map _ rb hrb =>
          obtain ⟨es', g2, g4, g5⟩ := map_at hr hrb hg
          obtain ⟨r', f1, f2⟩ := findL_sound hk es es'.toList g4 g5 0 r hf
          have g1 := run_findKey (P := P) (w := w) hd f1
          have e1 : (#[(.map (some rb.blk) : Value), k'] : Array Value)[0]? = some (.map (some rb.blk)) := rfl
          have e2 : (#[(.map (some rb.blk) : Value), k'] : Array Value)[1]? = some k' := rfl
          have e3 : (getObj rb.blk).run P w = .ok (.map es' cl) w := by simp [getObj, Sem.run, g2]
          cases r with
          | none =>
            simp only at f2
            subst f2
            refine ⟨_, ?_, Tr.setMap hr hc hg hrb (es2' := es') (cl2 := cl) g4 g5⟩
            simp only [Builtin.delete_, ht, e1, e2, Sem.run_bind, run_underlying hu, e3, Result.andThen_ok, run_checkKey _ hd, g1, run_setObj g2, Sem.run_pure]
          | some q =>
            obtain ⟨j, v0⟩ := q
            simp only at f2
            obtain ⟨v1, rfl, _, _, e0, q3, _⟩ := f2
            simp only [Nat.sub_zero] at q3
            have hjl : j < es.length := (List.getElem?_eq_some_iff.1 q3).1
            refine ⟨_, ?_, Tr.setMap hr hc hg hrb (es2' := es'.eraseIdxIfInBounds j) (cl2 := cl) ?_ ?_⟩
            · simp only [Builtin.delete_, ht, e1, e2, Sem.run_bind, run_underlying hu, e3, Result.andThen_ok, run_checkKey _ hd, g1, run_setObj g2, Sem.run_pure]
            · simp only [Array.toList_eraseIdxIfInBounds, List.length_eraseIdx, g4]
            · intro a e e' h1 h2
              simp only [Array.toList_eraseIdxIfInBounds] at h2
              rw [List.getElem?_eraseIdx] at h1 h2
              split at h1
              · rename_i hlt; rw [if_pos hlt] at h2; exact g5 _ e e' h1 h2
              · rename_i hlt; rw [if_neg hlt] at h2; exact g5 _ e e' h1 h2
      · cases h
    · cases h
  · cases h

def exClear (P : Program) (σ : LS) (t : TypeId) (m : Value) : Option LS :=
  match P.underlying t, m with
  | some _, .map none => some σ
  | some (.map _ _), .map (some i) => (match σ.heap.get i with
    | some (.map _ cl) => cond (Nat.ble (i + 1) most) (some (σ.upd i (some (.map [] cl)))) none
    | _ => none)
  | _, _ => none

theorem exClear_sound (hr : Rel P gl φ σ w) {t ty : TypeId} {m m' : Value} (hm : VR φ m m') (h : exClear P σ t m = some σ1) (ts : Array TypeId) (ht : ts[0]? = some t) :
    ∃ w1, (Builtin.clear_ ts ty #[m']).run P w = .ok (.tuple #[]) w1 ∧ Tr P gl φ σ w φ σ1 w1 := by
  unfold exClear at h
  split at h
  · rename_i d hu
    cases h
    cases hm
    refine ⟨w, ?_, Tr.refl hr⟩
    have e1 : (#[(.map none : Value)] : Array Value)[0]? = some (.map none) := rfl
    simp only [Builtin.clear_, ht, e1, Sem.run_bind, run_underlying hu, Result.andThen_ok, Sem.run_pure]
  · rename_i key el i hu
    split at h
    · rename_i es cl hg
      rw [Bool.cond_eq_ite] at h
      split at h
      · rename_i hc
        have hc := Nat.le_of_ble_eq_true hc
        cases h
        cases hm with
        | map _ rb hrb =>
          obtain ⟨es', g2, g4, g5⟩ := map_at hr hrb hg
          have e1 : (#[(.map (some rb.blk) : Value)] : Array Value)[0]? = some (.map (some rb.blk)) := rfl
          have e3 : (getObj rb.blk).run P w = .ok (.map es' cl) w := by simp [getObj, Sem.run, g2]
          refine ⟨_, ?_, Tr.setMap hr hc hg hrb (es2 := []) (es2' := #[]) (cl2 := cl) rfl (fun a e e' h1 => by simp at h1)⟩
          simp only [Builtin.clear_, ht, e1, Sem.run_bind, run_underlying hu, e3, Result.andThen_ok, run_setObj g2, Sem.run_pure]
      · cases h
    · cases h
  · cases h
end
end Go.Proofs.YtpckfdopokmbkaaGreatDoor.Ev

namespace Go.Proofs.YtpckfdopokmbkaaGreatDoor.Ev
open Go
open Go.RowKit

/-- What a call comes to: a function, or a round of a loop over a function. -/
inductive Tgt where
  | fn (f : FuncId)
  | rd (i : Nat)
inductive CR where
  | val (v : Value) (σ : LS)
  | enter (t : Tgt) (args : List Value)

theorem VR.undef {φ : Phi} : VR φ undef undef := .tuple _ _ rfl (by simp)

/-- Functions without a Go body, by what they do. -/
inductive Xk where
  | same
  | makeNoZero (t : TypeId)
  | flat (e : Array Value → Sem Value)
abbrev Ext := FuncId → Option Xk

structure Good (P : Program) (ext : Ext) : Prop where
  mixed : P.follows .mixedOrders = true
  name : ∀ (f : FuncId) (fn : Func), P.funcs[f]? = some fn → (fn.name == "runtime.NumGoroutine") = false
  ext : ∀ (f : FuncId) (k : Xk), ext f = some k → ∃ fn : Func, P.funcs[f]? = some fn ∧ fn.body = none ∧ Extern.findNext fn = none ∧ (match k with
    | .same => Extern.find fn = some Extern.AbiNoEscape.same
    | .makeNoZero t => Extern.find fn = some (Extern.BytealgMakeNoZero.makeNoZero fn.params fn.resultTypes) ∧ fn.resultTypes[0]? = some t
    | .flat e => Extern.find fn = some e)

def exExt (P : Program) (σ : LS) (k : Xk) (args : List Value) : Option CR :=
  match k with
  | .same => (match args with | [x] => some (.val x σ) | _ => none)
  | .makeNoZero t => (match P.underlying t, args with
    | some (.slice elem), [.int .i64 n] => cond (decide (0 ≤ n) && decide (n ≤ 1099511627776)) ((newRowI σ elem [] 1 (0, 0) false).map fun (i, σ1) => .val (.slice (some ⟨i, 0, none⟩) n.toNat n.toNat) σ1) none
    | _, _ => none)
  | .flat e => cond (args.all (af 8)) ((exPure P (e args.toArray)).map fun v => .val v σ) none

def enterL (P : Program) (ext : Ext) (σ : LS) (g : FuncId) (args : List Value) : Option CR :=
  match ext g with
  | some k => exExt P σ k args
  | none => (P.funcs.toList[g]?).bind fun fn => cond fn.body.isSome (some (.enter (.fn g) args)) none

/-- Operations that turn something, or call. -/
def exC (P : Program) (gl : Gl) (ext : Ext) (σ : LS) (s : Slots) (op : Op) : Option CR :=
  match op with
  | .store t x v => (og P s x).bind fun a => (og P s v).bind fun u => (exStore P σ t a u).map fun σ1 => .val undef σ1
  | .mapUpdate t m k v => (og P s m).bind fun a => (og P s k).bind fun b => (og P s v).bind fun u => (exMapUpdate P σ t a b u).map fun σ1 => .val undef σ1
  | .insert t m k v => (og P s m).bind fun a => (og P s k).bind fun b => (og P s v).bind fun u => (exMapUpdate P σ t a b u).map fun σ1 => .val undef σ1
  | .convert src dst x => (og P s x).bind fun a => (exConvC P σ src dst a).map fun (v, σ1) => .val v σ1
  | .range t x => (og P s x).bind fun a => (exRange P σ t a).map fun (v, σ1) => .val v σ1
  | .next x str => (og P s x).bind fun a => (exNext σ a str).map fun (v, σ1) => .val v σ1
  | .entry x => (og P s x).bind fun a => (exEntry σ a).map fun v => .val v σ
  | .call c => (match c.callee with
    | .builtin .append => (match c.args.toList, c.argTypes.toList with
      | [x, y], [tS, tX] => (og P s x).bind fun a => (og P s y).bind fun b => (exAppend P gl σ tS tX a b).map fun (v, σ1) => .val v σ1
      | _, _ => none)
    | .builtin .copy => (match c.args.toList, c.argTypes.toList[0]? with
      | [x, y], some t => (og P s x).bind fun a => (og P s y).bind fun b => (exCopy P gl σ t a b).map fun (v, σ1) => .val v σ1
      | _, _ => none)
    | .builtin .delete => (match c.args.toList, c.argTypes.toList[0]? with
      | [x, y], some t => (og P s x).bind fun a => (og P s y).bind fun b => (exDelete P σ t a b).map fun σ1 => .val (.tuple #[]) σ1
      | _, _ => none)
    | .builtin .clear => (match c.args.toList, c.argTypes.toList[0]? with
      | [x], some t => (og P s x).bind fun a => (exClear P σ t a).map fun σ1 => .val (.tuple #[]) σ1
      | _, _ => none)
    | .builtin .unsafeSliceData => (match c.args.toList with
      | [x] => (og P s x).bind fun a => (exSlData a).map fun v => .val v σ
      | _ => none)
    | .builtin .unsafeString => (match c.args.toList, c.argTypes.toList with
      | [x, y], [tS, _] => (og P s x).bind fun a => (og P s y).bind fun b => (exUStr P gl σ tS a b).map fun (v, σ1) => .val v σ1
      | _, _ => none)
    | .value f => (og P s f).bind fun v => (match v with
      | .func (.func g) first captured => (ogL P s c.args.toList).bind fun l => enterL P ext σ g (first.toList ++ l ++ captured.toList)
      | .func (.yield i) _ _ => (ogL P s c.args.toList).map fun l => .enter (.rd i) l
      | _ => none)
    | _ => none)
  | _ => none

section
variable {P : Program} {gl : Gl} {ext : Ext} {φ : Phi} {σ σ1 : LS} {w : World} {N : Nat} {s : Slots} {a : Act}

def CS (P : Program) (gl : Gl) (φ : Phi) (σ : LS) (w : World) (s : Sem Next) : CR → Prop
  | .val v σ1 => ∃ v' w1 φ1, (s.run P w = .ok (.value v') w1 ∨ (s.run P w = .ok .skip w1 ∧ v' = undef)) ∧ Tr P gl φ σ w φ1 σ1 w1 ∧ VR φ1 v v'
  | .enter t args => ∃ args' : Array Value, LR φ args args'.toList ∧ (match t with
    | .fn f => s.run P w = .ok (.enter f args') w
    | .rd i => ∃ r, φ i = some r ∧ s.run P w = (Instr.yield r.blk args').run P w)

theorem run_callFunc_ext {g : FuncId} {fn : Func} {e : Array Value → Sem Value} {xs : Array Value} (h1 : P.funcs[g]? = some fn) (h2 : (fn.name == "runtime.NumGoroutine") = false) (h3 : fn.body = none) (h4 : Extern.findNext fn = none) (h5 : Extern.find fn = some e) :
    (callFunc g xs).run P w = ((e xs).run P w).andThen fun v w1 => .ok (.value v) w1 := by
  simp only [callFunc, program, Sem.run_bind]
  show (Sem.run P (match P.funcs[g]? with
    | none => stuck "call: no such function"
    | some fn => _) w) = _
  rw [h1]
  simp only [h2, h3, h4, h5, Bool.false_eq_true, if_false, Option.isNone_none, if_true]
  simp [mark, Sem.run]

theorem same_one (x : Value) : Extern.AbiNoEscape.same #[x] = pure x := rfl
theorem mnz_one (ps rs : Array TypeId) (n : Int) : Extern.BytealgMakeNoZero.makeNoZero ps rs #[.int .i64 n] = (do
    let some t := rs[0]? | stuck "bytealg.MakeNoZero: no result type"
    let .slice elem ← underlying t | stuck "bytealg.MakeNoZero: slice type expected"
    if n < 0 || n > 2 ^ 48 then runtimePanic (.error "makeslice: len out of range")
    let cap ← choose (.appendCap n.toNat 0 elem)
    askRoom cap
    let bytes ← choose (.extern "internal/bytealg.MakeNoZero.bytes" 0)
    let a ← newRow elem (Extern.BytealgMakeNoZero.digits cap bytes #[])
    pure (.slice (some a) n.toNat cap)) := rfl

theorem enterL_sound (hG : Good P ext) (hr : Rel P gl φ σ w) {g : FuncId} {xs : List Value} {xs' : Array Value} (hx : LR φ xs xs'.toList) {r : CR} (h : enterL P ext σ g xs = some r) : CS P gl φ σ w (callFunc g xs') r := by
  unfold enterL at h
  split at h
  · rename_i k hk
    obtain ⟨fn, f1, f2, f3, f4⟩ := hG.ext _ _ hk
    have hnm := hG.name _ _ f1
    unfold exExt at h
    split at h
    · split at h
      · rename_i x
        cases h
        obtain ⟨x', m, e1, e2, e3⟩ := hx.of_cons
        have := e3.of_nil; subst this
        have e4 : xs' = #[x'] := by apply Array.ext'; simpa using e1
        subst e4
        exact ⟨x', w, φ, Or.inl (by rw [run_callFunc_ext f1 hnm f2 f3 f4]; rw [same_one]; rfl), Tr.refl hr, e2⟩
      · cases h
    · rename_i t
      split at h
      · rename_i elem n hu
        rw [Bool.cond_eq_ite] at h
        split at h
        · rename_i hc
          simp only [Bool.and_eq_true, decide_eq_true_eq] at hc
          simp only [Option.map_eq_some_iff] at h
          obtain ⟨⟨i, σ2⟩, hn, h⟩ := h
          cases h
          obtain ⟨x', m, e1, e2, e3⟩ := hx.of_cons
          have := e3.of_nil; subst this
          cases e2
          have e4 : xs' = #[.int .i64 n] := by apply Array.ext'; simpa using e1
          subst e4
          have hsz : ∀ (k t : Nat) (acc : Array Value), (Extern.BytealgMakeNoZero.digits k t acc).size = acc.size + k := by
            intro k
            induction k with
            | zero => intro t acc; rfl
            | succ k ih => intro t acc; simp only [Extern.BytealgMakeNoZero.digits, ih]; simp; omega
          let q1 := Question.appendCap n.toNat 0 elem
          let cap := q1.cut (w.tape w.drawn q1)
          let q2 := Question.extern "internal/bytealg.MakeNoZero.bytes" 0
          let bs := q2.cut (w.tape (w.drawn + 1) q2)
          have hcap : n.toNat ≤ cap := by simp only [cap, q1, Question.cut]; omega
          have hrun : ((Extern.BytealgMakeNoZero.makeNoZero fn.params fn.resultTypes) #[.int .i64 n]).run P w = .ok (.slice (some ⟨w.heap.size, 0, none⟩) n.toNat cap)
              (({ w with drawn := w.drawn + 2 } : World).alloc (.cells (Extern.BytealgMakeNoZero.digits cap bs #[]) elem)) := by
            have t1 : ¬ (n < 0 ∨ n > 2 ^ 48) := by omega
            have t2 : ¬ (n < 0) := by omega
            have t3 : ¬ (281474976710656 < n) := by omega
            rw [mnz_one]
            simp [f4.2, run_underlying hu, t2, t3, Question.forced, askRoom, run_newRow, choose, Sem.run]
            exact ⟨rfl, rfl⟩
          have hd := hr.drawn (w.drawn + 2)
          obtain ⟨φ1, t1, t2⟩ := newRowI_sound hd (l' := []) (LR.nil φ) (by omega) hn (c' := Extern.BytealgMakeNoZero.digits cap bs #[]) (rest := (Extern.BytealgMakeNoZero.digits cap bs #[]).toList) (by simp)
          refine ⟨_, _, φ1, Or.inl (by rw [run_callFunc_ext f1 hnm f2 f3 f4.1, hrun]; rfl), (Tr.drawn hr _).trans t1, ?_⟩
          refine .slice _ _ _ _ _ (SlR.of rfl rfl _ t2 rfl (fun e => (by cases e)) fun S zz sz e => ?_)
          cases e
          exact ⟨hcap, fun _ => rfl, by rw [hsz]; simp⟩
        · cases h
      · cases h
    · rename_i e
      rw [Bool.cond_eq_ite] at h
      split at h
      · rename_i hc
        simp only [Option.map_eq_some_iff] at h
        obtain ⟨v, hv, rfl⟩ := h
        have e4 : xs' = xs.toArray := by apply Array.ext'; simpa using hx.of_af hc
        subst e4
        obtain ⟨g1, g2⟩ := exPure_sound (φ := φ) hv w
        exact ⟨v, w, φ, Or.inl (by rw [run_callFunc_ext f1 hnm f2 f3 f4, g1]; rfl), Tr.refl hr, g2⟩
      · cases h
  · simp only [Option.bind_eq_some_iff] at h
    obtain ⟨fn, hfn, h⟩ := h
    rw [Bool.cond_eq_ite] at h
    split at h
    · rename_i hc
      cases h
      have hf2 : P.funcs[g]? = some fn := by simpa using hfn
      have hnm := hG.name _ _ hf2
      have hb : fn.body.isNone = false := by
        cases hbb : fn.body <;> simp_all
      refine ⟨xs', hx, ?_⟩
      simp only [callFunc, program, Sem.run_bind]
      show (Sem.run P (match P.funcs[g]? with
        | none => stuck "call: no such function"
        | some fn => _) w) = _
      rw [hf2]
      simp only [hnm, hb, Bool.false_eq_true, if_false]
      rfl
    · cases h

theorem exC_call (hG : Good P ext) (hr : Rel P gl φ σ w) (hs : SlR2 φ N s a) {c : Call} {ty : TypeId} {r : CR} (h : exC P gl ext σ s (.call c) = some r) :
    CS P gl φ σ w (do let d ← resolve a.eval c ty; invoke d.target d.args) r := by
  obtain ⟨callee, args, argTypes⟩ := c
  simp only [exC] at h
  split at h
  · split at h
    · rename_i x y tS tX hx ht
      simp only [Option.bind_eq_some_iff, Option.map_eq_some_iff] at h
      obtain ⟨v0, hv0, u0, hu0, ⟨v, σ2⟩, he, rfl⟩ := h
      have e1 : args.map a.eval = #[a.eval x, a.eval y] := by apply Array.ext'; simp [hx]
      have e2 : argTypes = #[tS, tX] := by apply Array.ext'; simp [ht]
      obtain ⟨v', w1, φ1, g1, g2, g3⟩ := exAppend_sound hr (ty := ty) (og_sound hr hs hv0) (og_sound hr hs hu0) he
      refine ⟨v', w1, φ1, Or.inl ?_, g2, g3⟩
      simp only [resolve, pure_bind, invoke, builtin, e1, e2, Sem.run_bind, g1, Result.andThen_ok, Sem.run_pure]
    · cases h
  · split at h
    · rename_i x y t hx ht
      simp only [Option.bind_eq_some_iff, Option.map_eq_some_iff] at h
      obtain ⟨v0, hv0, u0, hu0, ⟨v, σ2⟩, he, rfl⟩ := h
      have e1 : args.map a.eval = #[a.eval x, a.eval y] := by apply Array.ext'; simp [hx]
      obtain ⟨v', w1, g1, g2, g3⟩ := exCopy_sound hr (ty := ty) (og_sound hr hs hv0) (og_sound hr hs hu0) he argTypes (by simpa using ht)
      refine ⟨v', w1, φ, Or.inl ?_, g2, g3⟩
      simp only [resolve, pure_bind, invoke, builtin, e1, Sem.run_bind, g1, Result.andThen_ok, Sem.run_pure]
    · cases h
  · split at h
    · rename_i x y t hx ht
      simp only [Option.bind_eq_some_iff, Option.map_eq_some_iff] at h
      obtain ⟨v0, hv0, u0, hu0, σ2, he, rfl⟩ := h
      have e1 : args.map a.eval = #[a.eval x, a.eval y] := by apply Array.ext'; simp [hx]
      obtain ⟨w1, g1, g2⟩ := exDelete_sound hr (ty := ty) (og_sound hr hs hv0) (og_sound hr hs hu0) he argTypes (by simpa using ht)
      refine ⟨.tuple #[], w1, φ, Or.inl ?_, g2, VR.undef⟩
      simp only [resolve, pure_bind, invoke, builtin, e1, Sem.run_bind, g1, Result.andThen_ok, Sem.run_pure]
    · cases h
  · split at h
    · rename_i x t hx ht
      simp only [Option.bind_eq_some_iff, Option.map_eq_some_iff] at h
      obtain ⟨v0, hv0, σ2, he, rfl⟩ := h
      have e1 : args.map a.eval = #[a.eval x] := by apply Array.ext'; simp [hx]
      obtain ⟨w1, g1, g2⟩ := exClear_sound hr (ty := ty) (og_sound hr hs hv0) he argTypes (by simpa using ht)
      refine ⟨.tuple #[], w1, φ, Or.inl ?_, g2, VR.undef⟩
      simp only [resolve, pure_bind, invoke, builtin, e1, Sem.run_bind, g1, Result.andThen_ok, Sem.run_pure]
    · cases h
  · split at h
    · rename_i x hx
      simp only [Option.bind_eq_some_iff, Option.map_eq_some_iff] at h
      obtain ⟨v0, hv0, v, he, rfl⟩ := h
      have e1 : args.map a.eval = #[a.eval x] := by apply Array.ext'; simp [hx]
      obtain ⟨v', g1, g3⟩ := exSlData_sound (w := w) (P := P) (og_sound hr hs hv0) he argTypes ty
      refine ⟨v', w, φ, Or.inl ?_, Tr.refl hr, g3⟩
      simp only [resolve, pure_bind, invoke, builtin, e1, Sem.run_bind, g1, Result.andThen_ok, Sem.run_pure]
    · cases h
  · split at h
    · rename_i x y tS tX hx ht
      simp only [Option.bind_eq_some_iff, Option.map_eq_some_iff] at h
      obtain ⟨v0, hv0, u0, hu0, ⟨v, σ2⟩, he, rfl⟩ := h
      have e1 : args.map a.eval = #[a.eval x, a.eval y] := by apply Array.ext'; simp [hx]
      have e2 : argTypes = #[tS, tX] := by apply Array.ext'; simp [ht]
      obtain ⟨v', w1, g1, g2, g3⟩ := exUStr_sound hr (og_sound hr hs hv0) (og_sound hr hs hu0) he argTypes e2 ty
      refine ⟨v', w1, φ, Or.inl ?_, g2, g3⟩
      simp only [resolve, pure_bind, invoke, builtin, e1, Sem.run_bind, g1, Result.andThen_ok, Sem.run_pure]
    · cases h
  · rename_i f
    simp only [Option.bind_eq_some_iff] at h
    obtain ⟨v0, hv0, h⟩ := h
    have h0 := og_sound hr hs hv0
    split at h
    · rename_i g first captured
      simp only [Option.bind_eq_some_iff] at h
      obtain ⟨l, hl, h⟩ := h
      have hlr : ∀ (a' c' : Array Value), LR φ first.toList a'.toList → LR φ captured.toList c'.toList → LR φ (first.toList ++ l ++ captured.toList) (a' ++ args.map a.eval ++ c').toList := by
        intro a' c' h1 h2
        simp only [Array.toList_append, Array.toList_map]
        exact LR.append (LR.append h1 (ogL_sound hr hs hl)) h2
      generalize ef : a.eval f = fv at h0
      cases h0 with
      | func _ _ _ a' _ c' ha hcc h1 h2 =>
        have hall := hlr a' c' ⟨ha, h1⟩ ⟨hcc, h2⟩
        generalize first.toList ++ l ++ captured.toList = xs at h hall
        generalize hxs : a' ++ args.map a.eval ++ c' = xs' at hall
        have hrun : (do let d ← resolve a.eval ⟨.value f, args, argTypes⟩ ty; invoke d.target d.args : Sem Next) = callFunc g xs' := by
          simp only [resolve, Deferred.ofValue, ef, pure_bind, invoke, hxs]
        rw [hrun]
        exact enterL_sound hG hr hall h
    · rename_i i _ _
      simp only [Option.map_eq_some_iff] at h
      obtain ⟨l, hl, rfl⟩ := h
      have hll := ogL_sound hr hs hl
      generalize ef : a.eval f = fv at h0
      cases h0 with
      | func _ hy => cases hy
      | yld _ r hi =>
        refine ⟨args.map a.eval, by simpa using hll, r, hi, ?_⟩
        have hrun : (do let d ← resolve a.eval ⟨.value f, args, argTypes⟩ ty; invoke d.target d.args : Sem Next) = Instr.yield r.blk (args.map a.eval) := by
          simp [resolve, Deferred.ofValue, ef, invoke]
        rw [hrun]
    · cases h
  · cases h

theorem CS.skip {s : Sem Unit} (h : ∃ w1, s.run P w = .ok () w1 ∧ Tr P gl φ σ w φ σ1 w1) : CS P gl φ σ w (do s; pure .skip) (.val undef σ1) := by
  obtain ⟨w1, e, t⟩ := h
  exact ⟨undef, w1, φ, Or.inr ⟨by simp [e], rfl⟩, t, VR.undef⟩

theorem exC_sound (hG : Good P ext) (hr : Rel P gl φ σ w) (hs : SlR2 φ N s a) {o : Oper} {r : CR} (h : exC P gl ext σ s o.op = some r) : CS P gl φ σ w (execOp a.eval o) r := by
  obtain ⟨dst, op, ty, pos, after, guard⟩ := o
  simp only at h
  cases op with
  | store t x v =>
    unfold exC at h
    simp only [Option.bind_eq_some_iff, Option.map_eq_some_iff] at h
    obtain ⟨v0, hv0, u0, hu0, σ2, he, rfl⟩ := h
    have hh := exStore_sound hr (og_sound hr hs hv0) (og_sound hr hs hu0) he
    exact CS.skip hh
  | mapUpdate t m k v =>
    unfold exC at h
    simp only [Option.bind_eq_some_iff, Option.map_eq_some_iff] at h
    obtain ⟨v0, hv0, b0, hb0, u0, hu0, σ2, he, rfl⟩ := h
    have hh := exMapUpdate_sound hr (og_sound hr hs hv0) (og_sound hr hs hb0) (og_sound hr hs hu0) he
    exact CS.skip hh
  | insert t m k v =>
    unfold exC at h
    simp only [Option.bind_eq_some_iff, Option.map_eq_some_iff] at h
    obtain ⟨v0, hv0, b0, hb0, u0, hu0, σ2, he, rfl⟩ := h
    have hh := exMapUpdate_sound hr (og_sound hr hs hv0) (og_sound hr hs hb0) (og_sound hr hs hu0) he
    exact CS.skip hh
  | convert src dst x =>
    unfold exC at h
    simp only [Option.bind_eq_some_iff, Option.map_eq_some_iff] at h
    obtain ⟨v0, hv0, ⟨v, σ2⟩, he, rfl⟩ := h
    obtain ⟨v', w1, φ1, g1, g2, g3⟩ := exConvC_sound hr (og_sound hr hs hv0) he
    refine ⟨v', w1, φ1, Or.inl ?_, g2, g3⟩
    simp only [execOp, Sem.run_bind, g1, Result.andThen_ok, Sem.run_pure]
  | range t x =>
    unfold exC at h
    simp only [Option.bind_eq_some_iff, Option.map_eq_some_iff] at h
    obtain ⟨v0, hv0, ⟨v, σ2⟩, he, rfl⟩ := h
    obtain ⟨v', w1, φ1, g1, g2, g3⟩ := exRange_sound hr (og_sound hr hs hv0) he
    refine ⟨v', w1, φ1, Or.inl ?_, g2, g3⟩
    simp only [execOp, Sem.run_bind, g1, Result.andThen_ok, Sem.run_pure]
  | next x str =>
    unfold exC at h
    simp only [Option.bind_eq_some_iff, Option.map_eq_some_iff] at h
    obtain ⟨v0, hv0, ⟨v, σ2⟩, he, rfl⟩ := h
    obtain ⟨v', w1, φ1, g1, g2, g3⟩ := exNext_sound hr (og_sound hr hs hv0) he ty
    refine ⟨v', w1, φ1, Or.inl ?_, g2, g3⟩
    simp only [execOp, Sem.run_bind, g1, Result.andThen_ok, Sem.run_pure]
  | entry x =>
    unfold exC at h
    simp only [Option.bind_eq_some_iff, Option.map_eq_some_iff] at h
    obtain ⟨v0, hv0, v, he, rfl⟩ := h
    obtain ⟨v', g1, g3⟩ := exEntry_sound hr (og_sound hr hs hv0) he
    refine ⟨v', w, φ, Or.inl ?_, Tr.refl hr, g3⟩
    simp only [execOp, Sem.run_bind, g1, Result.andThen_ok, Sem.run_pure]
  | call c => exact exC_call hG hr hs h
  | _ => cases h
end

/-! ### Which kind an operation is of -/
inductive Cat where
  | quiet | new | chain
  deriving DecidableEq

def catOf (P : Program) : Op → Cat
  | .convert src dst _ => (match P.underlying src, P.underlying dst with
    | some .string, some (.slice _) => .chain
    | some (.slice _), some (.slice _) => .chain
    | _, _ => .quiet)
  | .alloc _ => .new
  | .box _ _ => .new
  | .buildSlice _ _ _ => .new
  | .makeSlice _ _ _ => .new
  | .makeMap _ _ => .new
  | .range _ _ => .chain
  | .next _ _ => .chain
  | .entry _ => .chain
  | .store _ _ _ => .chain
  | .mapUpdate _ _ _ _ => .chain
  | .insert _ _ _ _ => .chain
  | .call c => (match c.callee with
    | .builtin b => (match b with
      | .len => .quiet
      | .cap => .quiet
      | .min => .quiet
      | .max => .quiet
      | .real => .quiet
      | .imag => .quiet
      | .complex => .quiet
      | _ => .chain)
    | _ => .chain)
  | _ => .quiet
end Go.Proofs.YtpckfdopokmbkaaGreatDoor.Ev

namespace Go.Proofs.YtpckfdopokmbkaaGreatDoor.Ev
open Go
open Go.RowKit

/-! ### The evaluator -/
section
variable (P : Program) (gl : Gl) (ext : Ext)

abbrev CallF := Tgt → List Value → LS → Option (Value × LS)

def putS (N : Nat) (s : Slots) (dst : Option Tmp) (v : Value) : Option Slots :=
  match dst with
  | none => some s
  | some d => cond (Nat.ble (d + 1) N && Nat.ble (d + 1) most) (some (PT.put dep s d (some v))) none

/-- Is the operation wanted? -/
def wantL (ops : List Oper) (s : Slots) (o : Oper) : Option Bool :=
  match o.guard with
  | none => some true
  | some (j, want) => (match (ops[j]?).bind (·.dst) with
    | none => some false
    | some d => (s.get d).map fun v => match v with | .bool b => (b == want) | _ => false)

def stepOp (call : CallF) (N : Nat) (ops : List Oper) (o : Oper) (s : Slots) (σ : LS) : Option (Slots × LS) :=
  (wantL ops s o).bind fun b => cond b (match catOf P o.op with
    | .quiet => (exQ P gl σ s o.op o.type).bind fun v => (putS N s o.dst v).map fun s1 => (s1, σ)
    | .new => (exN P s o.op).bind fun (b, mk) => cond (room σ) ((putS N s o.dst (mk σ.next)).map fun s1 => (s1, σ.add b)) none
    | .chain => (exC P gl ext σ s o.op).bind fun r => (match r with
      | .val v σ1 => (putS N s o.dst v).map fun s1 => (s1, σ1)
      | .enter f args => (call f args σ).bind fun (v, σ1) => (putS N s o.dst v).map fun s1 => (s1, σ1)))
    ((putS N s o.dst undef).map fun s1 => (s1, σ))

def runOps (call : CallF) (N : Nat) (ops : List Oper) : List Oper → Slots → LS → Option (Slots × LS)
  | [], s, σ => some (s, σ)
  | o :: rest, s, σ => (stepOp P gl ext call N ops o s σ).bind fun (s1, σ1) => runOps call N ops rest s1 σ1

/-! A region that draws its order. -/
def befOne (acc : List Nat) : List Edge → Nat → Nat
  | [], m => m
  | e :: es, m => befOne acc es (cond (Region.binds .any e) (m ||| (1 <<< e.on) ||| acc.getD e.on 0) m)
def befAll : List Nat → List Oper → List Nat
  | acc, [] => acc
  | acc, o :: ops => befAll (acc ++ [befOne acc o.after.toList 0]) ops

def tmpM : Operand → Nat
  | .tmp t => 1 <<< t
  | _ => 0
def tmpsM : List Operand → Nat
  | [] => 0
  | x :: l => tmpM x ||| tmpsM l
def dstM (o : Oper) : Nat := match o.dst with | some d => 1 <<< d | none => 0
def guardM (ops : List Oper) (o : Oper) : Nat := match o.guard with
  | some (j, _) => (match (ops[j]?).bind (·.dst) with | some d => 1 <<< d | none => 0)
  | none => 0
def readM (ops : List Oper) (o : Oper) : Nat := tmpsM o.op.operands.toList ||| guardM ops o

/-- The edges that bind go back. -/
def edgesB (i : Nat) : List Edge → Bool
  | [] => true
  | e :: es => (!(Region.binds .any e) || Nat.ble (e.on + 1) i) && edgesB i es
def edgesAll : Nat → List Oper → Bool
  | _, [] => true
  | i, o :: os => edgesB i o.after.toList && edgesAll (i + 1) os

/-- The slots that an operation reads, alone. -/
def restr (s : Slots) : List Operand → Slots
  | [] => .nil
  | x :: l => match x with
    | .tmp t => cond (Nat.ble (t + 1) most) (PT.put dep (restr s l) t (s.get t)) (restr s l)
    | _ => restr s l

/-- What is known of an operation: its mask of those ahead of it, what it writes, what it reads, its kind. -/
structure OI where
  bef : Nat
  dst : Nat
  rd : Nat
  cat : Cat
def mkOI (P : Program) (ops : List Oper) : List Nat → List Oper → List OI
  | m :: ms, o :: os => ⟨m, dstM o, readM ops o, catOf P o.op⟩ :: mkOI P ops ms os
  | _, _ => []
def isChain : Cat → Bool
  | .chain => true
  | _ => false
def clash (a b : OI) : Bool := (isChain a.cat && isChain b.cat) || !(Nat.beq (a.dst &&& (b.dst ||| b.rd)) 0) || !(Nat.beq (b.dst &&& a.rd) 0)
/-- Every two that clash are in order. -/
def chkFrom (i : Nat) (a : OI) : List OI → Bool
  | [] => true
  | b :: l => (!(clash a b) || b.bef.testBit i) && chkFrom i a l
def chkAll : Nat → List OI → Bool
  | _, [] => true
  | i, a :: l => chkFrom i a l && chkAll (i + 1) l

def infos (P : Program) (ops : List Oper) : List OI := mkOI P ops (befAll [] ops) ops

def memFree : Op → Bool
  | .move _ => true
  | .assign _ => true
  | .pick _ _ _ => true
  | .nilCheck _ => true
  | .binOp _ _ _ _ _ => true
  | .unOp _ _ _ => true
  | .makeInterface _ _ => true
  | .makeFunc _ _ _ => true
  | .build _ _ => true
  | .fieldAddr _ _ _ => true
  | .field _ _ _ => true
  | .indexAddr _ _ _ => true
  | .index _ _ _ => true
  | .extract _ _ => true
  | _ => false

def veq : Nat → Value → Value → Bool
  | 0, _, _ => false
  | d + 1, x, y => match x, y with
    | .bool a, .bool b => a == b
    | .int k a, .int l b => decide (k = l) && decide (a = b)
    | .string a, .string b => a.data.toList == b.data.toList
    | .pointer none, .pointer none => true
    | .pointer (some a), .pointer (some b) => Nat.beq a.block b.block && Nat.beq a.off b.off && a.spot.isNone && b.spot.isNone
    | .slice none n c, .slice none m e => Nat.beq n m && Nat.beq c e
    | .slice (some a) n c, .slice (some b) m e => Nat.beq a.block b.block && Nat.beq a.off b.off && a.spot.isNone && b.spot.isNone && Nat.beq n m && Nat.beq c e
    | .map none, .map none => true
    | .map (some i), .map (some j) => Nat.beq i j
    | .nilFunc, .nilFunc => true
    | .func f a c, .func g b e => decide (f = g) && (Nat.beq a.toList.length b.toList.length && (a.toList.zip b.toList).all fun p => veq d p.1 p.2) && (Nat.beq c.toList.length e.toList.length && (c.toList.zip e.toList).all fun p => veq d p.1 p.2)
    | .nilIface, .nilIface => true
    | .iface t v, .iface u w => Nat.beq t u && veq d v w
    | .agg a, .agg b => Nat.beq a.toList.length b.toList.length && (a.toList.zip b.toList).all fun p => veq d p.1 p.2
    | .tuple a, .tuple b => Nat.beq a.toList.length b.toList.length && (a.toList.zip b.toList).all fun p => veq d p.1 p.2
    | _, _ => false

structure DS where
  s : Slots
  σ : LS
  laid : Nat                           -- which rows of this region are laid
  hist : List (LS × Nat)               -- the stores behind each of the operations in a chain, the last first
  rows : List (Nat × LObj)             -- rows that are made
  seen : List (Oper × OI × Nat × Slots × List (Nat × LObj) × Value)   -- quiet ones that look into memory

/-- Lay those of the rows that are wanted. -/
def layF (p : Nat → Bool) (base : Nat) : List (Nat × LObj) → LS → LS
  | [], σ => σ
  | (i, b) :: l, σ => cond (p i) ((layF p base l σ).upd (base + i) (some b)) (layF p base l σ)
def layR (base mask laid : Nat) (rows : List (Nat × LObj)) (σ : LS) : LS := layF (fun i => mask.testBit i && !(laid.testBit i)) base rows σ
def layAll (base laid : Nat) (rows : List (Nat × LObj)) (σ : LS) : LS := layF (fun i => !(laid.testBit i)) base rows σ

def stepD (call : CallF) (N : Nat) (ops : List Oper) (base i : Nat) (o : Oper) (oi : OI) (d : DS) : Option DS :=
  (wantL ops d.s o).bind fun b => cond b (match oi.cat with
    | .quiet => let sr := restr d.s o.op.operands.toList
      (exQ P gl (layR base oi.bef d.laid d.rows d.σ) sr o.op o.type).bind fun v => (putS N d.s o.dst v).map fun s1 =>
      { d with s := s1, seen := cond (memFree o.op) d.seen ((o, oi, i, sr, d.rows, v) :: d.seen) }
    | .new => (exN P (restr d.s o.op.operands.toList) o.op).bind fun (b, mk) => (putS N d.s o.dst (mk (base + i))).map fun s1 => { d with s := s1, rows := (i, b) :: d.rows }
    | .chain => let σ0 := layR base oi.bef d.laid d.rows d.σ
      let laid := d.laid ||| oi.bef
      (exC P gl ext σ0 (restr d.s o.op.operands.toList) o.op).bind fun r => (match r with
      | .val v σ1 => (putS N d.s o.dst v).map fun s1 => { d with s := s1, σ := σ1, laid, hist := (σ1, laid) :: d.hist }
      | .enter f args => (call f args σ0).bind fun (v, σ1) => (putS N d.s o.dst v).map fun s1 => { d with s := s1, σ := σ1, laid, hist := (σ1, laid) :: d.hist }))
    ((putS N d.s o.dst undef).map fun s1 => match oi.cat with
      | .chain => { d with s := s1, hist := (d.σ, d.laid) :: d.hist }
      | _ => { d with s := s1 })

def runD (call : CallF) (N : Nat) (ops : List Oper) (base : Nat) : Nat → List Oper → List OI → DS → Option DS
  | i, o :: os, oi :: ois, d => (stepD P gl ext call N ops base i o oi d).bind fun d1 => runD call N ops base (i + 1) os ois d1
  | _, _, _, d => some d

/-- How many of a row's chained ones stand ahead (or are free to). -/
def countL (p : Nat → OI → Bool) : Nat → List OI → Nat
  | _, [] => 0
  | i, a :: l => cond (isChain a.cat && p i a) (countL p (i + 1) l + 1) (countL p (i + 1) l)

/-- The stores of a quiet one's window: those from number lo to number hi. -/
def winAll (lo hi : Nat) (f : LS × Nat → Bool) : Nat → List (LS × Nat) → Bool
  | _, [] => true
  | m, q :: l => cond (Nat.ble lo m && Nat.ble m hi) (f q) true && winAll lo hi f (m + 1) l

def okOne (base : Nat) (ois : List OI) (states : List (LS × Nat)) (o : Oper) (oi : OI) (i : Nat) (s : Slots) (rows : List (Nat × LObj)) (v : Value) : Bool :=
  winAll (countL (fun c _ => oi.bef.testBit c) 0 ois) (countL (fun _ c => !(c.bef.testBit i)) 0 ois)
    (fun q => match exQ P gl (layR base oi.bef q.2 rows q.1) s o.op o.type with | some u => veq 8 u v | none => false) 0 states
def okSeen (base : Nat) (ois : List OI) (states : List (LS × Nat)) : List (Oper × OI × Nat × Slots × List (Nat × LObj) × Value) → Bool
  | [] => true
  | (o, oi, i, s, rows, v) :: l => okOne P gl base ois states o oi i s rows v && okSeen base ois states l

def runDraw (call : CallF) (N : Nat) (ops : List Oper) (s : Slots) (σ : LS) : Option (Slots × LS) :=
  let ois := infos P ops
  cond (chkAll 0 ois && edgesAll 0 ops && Nat.ble (σ.next + ops.length) most) (
    let base := σ.next
    let σ0 : LS := { σ with next := σ.next + ops.length }
    (runD P gl ext call N ops base 0 ops ois ⟨s, σ0, 0, [(σ0, 0)], [], []⟩).bind fun d =>
      cond (okSeen P gl base ois d.hist.reverse d.seen) (some (d.s, layAll base d.laid d.rows d.σ)) none) none

/-! Code. -/
inductive Ex where
  | normal
  | exit (id : Nat)
  | goto (l : Nat)
  | ret

/-- Slots, store, and the marks of the loops over functions that were begun. -/
abbrev CodeF := Slots → LS → List Nat → Option (Ex × Slots × LS × List Nat)

def iterL (f : CodeF) : Nat → CodeF
  | 0, _, _, _ => none
  | n + 1, s, σ, ms => (f s σ ms).bind fun (e, s1, σ1, ms1) => match e with
    | .normal => iterL f n s1 σ1 ms1
    | e => some (e, s1, σ1, ms1)

def notBusy : LoopState → Bool
  | .busy => false
  | _ => true
def isReady : LoopState → Bool
  | .ready => true
  | _ => false

/-- A loop over a function is begun: its number, the store, the marks. -/
def enterR (ro : Option Nat) (lp : LLoop) (σ : LS) (ms : List Nat) : Option (Nat × LS × List Nat) :=
  match ro with
  | none => cond (Nat.ble (σ.next + 2) most) (some (σ.next + 1, (σ.add (.dfr true)).add (.loop lp), σ.next :: ms)) none
  | some i => (match σ.heap.get i with
    | some (.loop _) => cond (room σ) (some (σ.next, σ.add (.loop lp), ms)) none
    | _ => none)

/-- A loop over a function has ended. -/
def leaveR (l : Nat) (s : Slots) (σ : LS) (ms : List Nat) : Option (Ex × Slots × LS × List Nat) :=
  match σ.heap.get l with
  | some (.loop r) => cond (notBusy r.st && Nat.ble (l + 1) most) (let σ1 := σ.upd l (some (.loop { r with st := .exhausted })); match r.pend with
    | none => some (.normal, s, σ1, ms)
    | some .ret => some (.ret, s, σ1, ms)
    | some (.exit id) => some (.exit id, s, σ1, ms)
    | some (.goto t) => some (.goto t, s, σ1, ms)
    | _ => none) none
  | _ => none

def evRange (call : CallF) (N : Nat) (ro : Option Nat) (g : Operand) (ps : Array Tmp) (assign body : Code) (s : Slots) (σ : LS) (ms : List Nat) : Option (Ex × Slots × LS × List Nat) :=
  (og P s g).bind fun v => (match v with
    | .func (.func f) first captured => (enterR ro ⟨.ready, none, s, N, ps.toList, assign, body⟩ σ ms).bind fun (l, σ1, ms1) =>
      (enterL P ext σ1 f (first.toList ++ [.func (.yield l) #[] #[]] ++ captured.toList)).bind fun r => (match r with
        | .enter t args => (call t args σ1).bind fun (_, σ2) => leaveR l s σ2 ms1
        | .val _ _ => none)
    | _ => none)

def evCode (call : CallF) (N L : Nat) (ro : Option Nat) (again : Code → Code → CodeF) : Code → CodeF
  | .skip, s, σ, ms => some (.normal, s, σ, ms)
  | .label _, s, σ, ms => some (.normal, s, σ, ms)
  | .region _ ops draw, s, σ, ms => (cond draw (runDraw P gl ext call N ops.toList s σ) (runOps P gl ext call N ops.toList ops.toList s σ)).map fun (s1, σ1) => (.normal, s1, σ1, ms)
  | .seq x y, s, σ, ms => (evCode call N L ro again x s σ ms).bind fun (e, s1, σ1, ms1) => (match e with
    | .normal => evCode call N L ro again y s1 σ1 ms1
    | e => some (e, s1, σ1, ms1))
  | .cond c x y, s, σ, ms => (og P s c).bind fun v => (match v with
    | .bool b => cond b (evCode call N L ro again x s σ ms) (evCode call N L ro again y s σ ms)
    | _ => none)
  | .block id x, s, σ, ms => (evCode call N L ro again x s σ ms).bind fun (e, s1, σ1, ms1) => (match e with
    | .exit id' => cond (Nat.beq id' id) (some (.normal, s1, σ1, ms1)) (some (.exit id', s1, σ1, ms1))
    | e => some (e, s1, σ1, ms1))
  | .loop x, s, σ, ms => iterL (evCode call N L ro again x) L s σ ms
  | .scope x, s, σ, ms => (evCode call N L ro again x s σ ms).bind fun (e, s1, σ1, ms1) => (match e with
    | .goto l => (match findLabel x l with
      | some rest => again x rest s1 σ1 ms1
      | none => some (.goto l, s1, σ1, ms1))
    | e => some (e, s1, σ1, ms1))
  | .exit id, s, σ, ms => some (.exit id, s, σ, ms)
  | .goto l, s, σ, ms => some (.goto l, s, σ, ms)
  | .ret, s, σ, ms => some (.ret, s, σ, ms)
  | .rangeFunc g ps assign body, s, σ, ms => evRange P ext call N ro g ps assign body s σ ms
  | _, _, _, _ => none

/-- The rest of a scope's body, from a label on. -/
def againN (call : CallF) (N L : Nat) (ro : Option Nat) : Nat → Code → Code → CodeF
  | 0, _, _, _, _, _ => none
  | n + 1, body, rest, s, σ, ms => (evCode P gl ext call N L ro (againN call N L ro n) rest s σ ms).bind fun (e, s1, σ1, ms1) => (match e with
    | .goto l => (match findLabel body l with
      | some r2 => againN call N L ro n body r2 s1 σ1 ms1
      | none => some (.goto l, s1, σ1, ms1))
    | e => some (e, s1, σ1, ms1))

/-! Functions. -/
def argsS : Nat → List Value → Slots → Slots
  | _, [], s => s
  | i, v :: l, s => argsS (i + 1) l (PT.put dep s i (some v))

def resOne (P : Program) (gl : Gl) (s : Slots) (σ : LS) : ResultVar → Option Value
  | .tmp t => s.get t
  | .cell a t => (s.get a).bind fun v => exLoad P gl σ t v
def resL (P : Program) (gl : Gl) (s : Slots) (σ : LS) : List ResultVar → Option (List Value)
  | [] => some []
  | r :: l => (resOne P gl s σ r).bind fun v => (resL P gl s σ l).map fun m => v :: m
def pack : List Value → Value
  | [v] => v
  | l => .tuple l.toArray

/-- The marks are come to. -/
def shut : List Nat → LS → Option LS
  | [], σ => some σ
  | m :: ms, σ => (match σ.heap.get m with
    | some (.dfr true) => cond (Nat.ble (m + 1) most) (shut ms (σ.upd m (some (.dfr false)))) none
    | _ => none)

def evFun (L G : Nat) (call : CallF) (f : FuncId) (args : List Value) (σ : LS) : Option (Value × LS) :=
  (P.funcs.toList[f]?).bind fun fn => (match fn.body with
    | none => none
    | some body => let N := Nat.max fn.ntmps args.length
      cond (Nat.ble (args.length) most) ((evCode P gl ext call N L none (againN P gl ext call N L none G) body (argsS 0 args .nil) σ []).bind fun (e, s1, σ1, ms) => (match e with
        | .normal => (shut ms σ1).bind fun σ2 => (resL P gl s1 σ2 fn.results.toList).map fun l => (pack l, σ2)
        | .ret => (shut ms σ1).bind fun σ2 => (resL P gl s1 σ2 fn.results.toList).map fun l => (pack l, σ2)
        | _ => none)) none)

/-- What yield hands over. -/
def putPs : List Tmp → List Value → Slots → Slots
  | t :: ts, v :: vs, s => putPs ts vs (PT.put dep s t (some v))
  | _, _, s => s

/-- How a round was left. -/
def jumpOf : Ex → Option Code
  | .normal => none
  | .exit id => some (.exit id)
  | .goto t => some (.goto t)
  | .ret => some .ret

/-- One round of a loop over a function. -/
def evRound (L G : Nat) (call : CallF) (i : Nat) (args : List Value) (σ : LS) : Option (Value × LS) :=
  match σ.heap.get i with
  | some (.loop r) => cond (Nat.ble (i + 1) most && Nat.beq args.length r.ps.length && r.ps.all (fun t => Nat.ble (t + 1) r.n && Nat.ble (t + 1) most))
    ((evCode P gl ext call r.n L (some i) (againN P gl ext call r.n L (some i) G) r.assign (putPs r.ps args r.tmps) σ []).bind fun (e, s1, σ1, ms) => (match e with
      | .normal => (match σ1.heap.get i with
        | some (.loop r1) => cond (isReady r1.st)
          ((evCode P gl ext call r.n L (some i) (againN P gl ext call r.n L (some i) G) r.body s1 (σ1.upd i (some (.loop { r1 with st := .busy }))) ms).bind fun (e2, _, σ3, _) =>
            (match σ3.heap.get i with
            | some (.loop r3) => let j := jumpOf e2
              some (.bool j.isNone, σ3.upd i (some (.loop { r3 with st := cond j.isNone .ready .done, pend := j })))
            | _ => none)) none
        | _ => none)
      | _ => none)) none
  | _ => none

def evT (L G : Nat) (call : CallF) (t : Tgt) (args : List Value) (σ : LS) : Option (Value × LS) :=
  match t with
  | .fn f => evFun P gl ext L G call f args σ
  | .rd i => evRound P gl ext L G call i args σ

end

def LS.start : LS := ⟨.nil, 1000⟩
end Go.Proofs.YtpckfdopokmbkaaGreatDoor.Ev
