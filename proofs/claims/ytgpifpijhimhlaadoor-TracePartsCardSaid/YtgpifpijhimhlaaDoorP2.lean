/- The region of TraceParts that draws its order, named, and its assumed answers. No condition. -/
import Derived.Test.YtgpifpijhimhlaaDoorP1
import Derived.Test.YtgpifpijhimhlaaDoorEv5
noncomputable section
namespace Go.Proofs.YtgpifpijhimhlaaDoor
open Go.RowKit Go.Proofs.YtgpifpijhimhlaaDoor.Ev

/-! Known cells of a block, under an id of their own. -/
def glX (id : Nat) (f : Nat → Option Value) (gl : Gl) : Gl := fun g k => cond (Nat.beq g id) (f k) (gl g k)
/-- What is asked of known cells: flat values, ids below a bound. -/
def Flat (m : Nat) (gl : Gl) : Prop := ∀ g k v, gl g k = some v → g < m ∧ af 8 v = true ∧ lowV 8 v = true
theorem Flat.add {id m : Nat} {f : Nat → Option Value} {gl : Gl} (h : Flat id gl) (hm : id < m) (hf : ∀ k v, f k = some v → af 8 v = true ∧ lowV 8 v = true) : Flat m (glX id f gl) := by
  intro g k v hv
  unfold glX at hv
  rw [Bool.cond_eq_ite] at hv
  split at hv
  · rename_i e
    rw [Nat.eq_of_beq_eq_true e]
    exact ⟨hm, hf k v hv⟩
  · obtain ⟨h1, h2⟩ := h g k v hv
    exact ⟨by omega, h2⟩
theorem flat0 (m : Nat) : Flat m gl0 := fun _ _ _ h => by cases h
theorem rel_add {gl : Gl} {φ : Phi} {w : World} {id blk : Nat} {f : Nat → Option Value} (hr : Rel Tryd.prog gl φ LS.start w) (hfl : Flat id gl) (h1 : 900 ≤ id) (h2 : id < 1000) (hb : blk < w.heap.size)
    (hf : ∀ k v, f k = some v → w.cell? ⟨blk, k, none⟩ = some v ∧ af 8 v = true) :
    ∃ φ', Rel Tryd.prog (glX id f gl) φ' LS.start w ∧ φ' id = some ⟨blk, none⟩ ∧ ∀ i, i ≠ id → φ' i = φ i := by
  have no : ∀ {i : Nat} {o : LObj}, LS.start.heap.get i = some o → False := by
    intro i o h
    rw [start_get] at h
    cases h
  refine ⟨fun i => if i = id then some ⟨blk, none⟩ else φ i, ⟨fun i o h => (no h).elim, fun i j o o' r r' h => (no h).elim, fun i hi => ?_, fun i r h => ?_, fun i o r h => (no h).elim, fun g k v h => ?_, fun g hg => ?_, hr.size⟩, by simp, fun i hi => by simp [hi]⟩
  · have hi : 1000 ≤ i := hi
    rw [if_neg (by omega)]
    exact hr.fresh i hi
  · split at h
    · cases h; exact hb
    · exact hr.bound i r h
  · unfold glX at h
    rw [Bool.cond_eq_ite] at h
    split at h
    · rename_i e
      have e := Nat.eq_of_beq_eq_true e
      subst e
      obtain ⟨c1, c2⟩ := hf k v h
      exact ⟨blk, by simp, v, c1, VR.af_refl 8 c2⟩
    · rename_i e
      have hne : g ≠ id := fun e' => e (by rw [e']; exact Nat.beq_refl id)
      obtain ⟨_, h4, _⟩ := hfl g k v h
      obtain ⟨b, h5, v', h6, h7⟩ := hr.glob g k v h
      refine ⟨b, by simp [hne, h5], v', h6, ?_⟩
      rw [VR.of_af 8 h4 h7]
      exact VR.af_refl 8 h4
  · have := tglob
    have hne : g ≠ id := by omega
    simp only [hne, if_false]
    exact hr.stat g hg
/-- The cells of events. -/
def evF (zs : List EvT) (off : Nat) : Nat → Option Value := fun k => if off ≤ k then evCells zs (k - off) else none
theorem evF_flat {zs : List EvT} {off : Nat} : ∀ k v, evF zs off k = some v → af 8 v = true ∧ lowV 8 v = true := by
  intro k v h
  unfold evF at h
  split at h
  · obtain ⟨e, _, h2⟩ := Option.bind_eq_some_iff.1 h
    unfold evCell at h2
    split at h2 <;> cases h2 <;> exact ⟨rfl, rfl⟩
  · cases h
theorem evF_cell {w : World} {blk off : Nat} {zs : List EvT} (hc : EvsAt w blk off zs) : ∀ k v, evF zs off k = some v → w.cell? ⟨blk, k, none⟩ = some v := by
  intro k v h
  unfold evF at h
  split at h
  · rename_i ho
    rw [← evL_get] at h
    have := hc.cells (k - off) v h
    rw [addr_add, show off + (k - off) = k from by omega] at this
    exact this
  · cases h
/-- The seventeen counts' cells. -/
def cellsC (c : Nat → Int) : List Value := [.int .i64 (c 0), .int .i64 (c 1), .int .i64 (c 2), .int .i64 (c 3), .int .i64 (c 4), .int .i64 (c 5), .int .i64 (c 6), .int .i64 (c 7), .int .i64 (c 8), .int .i64 (c 9), .int .i64 (c 10), .int .i64 (c 11), .int .i64 (c 12), .int .i64 (c 13), .int .i64 (c 14), .int .i64 (c 15), .int .i64 (c 16)]
def cF (c : Nat → Int) : Nat → Option Value := fun k => (cellsC c)[k]?
theorem cF_flat {c : Nat → Int} : ∀ k v, cF c k = some v → af 8 v = true ∧ lowV 8 v = true := by
  intro k v h
  have h1 : (cellsC c).all (fun v => af 8 v && lowV 8 v) = true := rfl
  have := List.all_eq_true.1 h1 v (List.mem_of_getElem? h)
  simpa using this
/-- A slice of events under an id. -/
theorem arg_of {gl : Gl} {zs : List EvT} {id off c c' : Nat} {φ : Phi} {σ : LS} {w : World} {a' : Addr} (hr : Rel Tryd.prog gl φ σ w) (hg : ∀ k, gl id k = evF zs off k) (hs : SlR φ ⟨id, off, none⟩ a' c c') :
    a'.spot = none ∧ a'.block < w.heap.size ∧ EvsAt w a'.block a'.off zs := by
  obtain ⟨_, s2, r, s3, s4, s5, s6⟩ := hs
  refine ⟨s2, by rw [s4]; exact hr.bound _ _ s3, EvsAt.of_cells fun j u hj => ?_⟩
  have hk : gl id (off + j) = some u := by
    rw [hg]
    unfold evF
    rw [if_pos (by omega), show off + j - off = j from by omega, ← evL_get]
    exact hj
  have hfl : af 8 u = true := by
    have : evF zs off (off + j) = some u := by rw [← hg]; exact hk
    exact (evF_flat _ _ this).1
  obtain ⟨b, h1, v', h2, h3⟩ := hr.glob id (off + j) u hk
  have s3' : φ id = some r := s3
  rw [s3'] at h1; cases h1
  obtain ⟨hoff, _⟩ := s5 rfl
  have hoff : a'.off = off := hoff
  obtain ⟨ab, ao, asp⟩ := a'
  simp only at s2 s4 hoff
  subst s2
  rw [addr_add]
  have e3 := VR.of_af 8 hfl h3
  subst e3
  rw [s4, hoff]
  exact h2
end Go.Proofs.YtgpifpijhimhlaaDoor

namespace Go.Proofs.YtgpifpijhimhlaaDoor
open Go.RowKit Go.Proofs.YtgpifpijhimhlaaDoor.Ev
def af13 (x y : Nat → Int) (offa offb la lb : Nat) : AF := fun args _ => match args with
  | [.slice (some a) n _] => cond (Nat.beq a.block 900) (some (decide (a.off = offa) && decide (n = la) && a.spot.isNone, aggC x)) (cond (Nat.beq a.block 901) (some (decide (a.off = offb) && decide (n = lb) && a.spot.isNone, aggC y)) none)
  | _ => none
def asmP (x y : Nat → Int) (offa offb la lb : Nat) : Asm := asmOf [(13, af13 x y offa offb la lb), (12, afTrue)]
def kT : CR4 → Option Value := fun r => match r.1, r.2.2.2 with
  | .normal, [] => r.2.1.get 4
  | _, _ => none
def slots4 (va vb : Value) : Slots := PT.put 10 (PT.put 10 (PT.put 10 .nil 0 (some va)) 1 (some vb)) 5 (some (.pointer (some ⟨902, 0, none⟩)))
def glP (gl : Gl) (c : Nat → Int) : Gl := glX 902 (cF c) gl
noncomputable def evalR (gl : Gl) (x y : Nat → Int) (offa offb la lb : Nat) (r : Code) (s : Slots) : Option Value :=
  codeK ⟨Tryd.prog, gl, fun _ => none, callA Tryd.prog gl (fun _ => none) (asmP x y offa offb la lb) 100 40 40, 37⟩ (callK Tryd.prog gl (fun _ => none) (asmP x y offa offb la lb) 100 40 40) 100 none
    (againF ⟨Tryd.prog, gl, fun _ => none, callA Tryd.prog gl (fun _ => none) (asmP x y offa offb la lb) 100 40 40, 37⟩ 100 none 40)
    (againK ⟨Tryd.prog, gl, fun _ => none, callA Tryd.prog gl (fun _ => none) (asmP x y offa offb la lb) 100 40 40, 37⟩ (callK Tryd.prog gl (fun _ => none) (asmP x y offa offb la lb) 100 40 40) 100 none 40) r s LS.start [] kT
/-- The region of this number in a piece of code. -/
noncomputable def findR (n : Nat) : Code → Option Code
  | .region id ops d => cond (Nat.beq id n) (some (.region id ops d)) none
  | .seq x y => (match findR n x with | some r => some r | none => findR n y)
  | .cond _ x y => (match findR n x with | some r => some r | none => findR n y)
  | .block _ x => findR n x
  | .loop x => findR n x
  | .scope x => findR n x
  | _ => none
noncomputable def reg4 : Code := ((Tryd.f5.body).bind (findR 4)).getD .skip
end Go.Proofs.YtgpifpijhimhlaaDoor
