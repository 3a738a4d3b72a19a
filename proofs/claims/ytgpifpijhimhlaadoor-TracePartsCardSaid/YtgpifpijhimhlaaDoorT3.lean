/- The document's Count answers the same seventeen counts, wherever the events lie; both as assumed answers of the evaluator. Rows of at most a thousand. -/
import Derived.Test.YtgpifpijhimhlaaDoorT2
import Derived.Test.YtgpifpijhimhlaaDoorCards
import Derived.Test.YtgpifpijhimhlaaDoorTie
import Derived.WalkKit
import Derived.ProofKit
import Derived.OpenShut
import Derived.Deep.DeepHandedRow
import Derived.Deep.DeepWitnessRowRef
import Derived.Lay
noncomputable section
namespace Go.Proofs.YtgpifpijhimhlaaDoor
open Go.Proofs.YtgpifpijhimhlaaDoor.Ev Go.RowKit

/-! The events that came in, as known cells. -/
def evCell (e : EvT) : Nat → Option Value
  | 0 => some (.int .u8 e.k)
  | 1 => some (.int .i64 e.r)
  | 2 => some (.int .i64 e.n)
  | 3 => some (.int .u32 e.c)
  | _ => none
def evCells (zs : List EvT) (j : Nat) : Option Value := (zs[j / 4]?).bind fun e => evCell e (j % 4)
def glE (gl : Gl) (zs : List EvT) (off : Nat) : Gl := fun g k => cond (Nat.beq g 900) (if off ≤ k then evCells zs (k - off) else none) (gl g k)
theorem evCell_low {e : EvT} {j : Nat} {v : Value} (h : evCell e j = some v) : lowV 8 v = true := by
  unfold evCell at h
  split at h <;> cases h <;> rfl
theorem glE_low {gl : Gl} {zs : List EvT} {off : Nat} (h : ∀ g k v, gl g k = some v → g < 1000 ∧ lowV 8 v = true) : ∀ g k v, glE gl zs off g k = some v → g < 1000 ∧ lowV 8 v = true := by
  intro g k v hv
  unfold glE at hv
  rw [Bool.cond_eq_ite] at hv
  split at hv
  · rename_i e
    refine ⟨by rw [Nat.eq_of_beq_eq_true e]; decide, ?_⟩
    split at hv
    · obtain ⟨e, _, h2⟩ := Option.bind_eq_some_iff.1 hv
      exact evCell_low h2
    · cases hv
  · exact h g k v hv
theorem glE_cell {gl : Gl} {zs : List EvT} {off i : Nat} {e : EvT} (h : zs[i]? = some e) (o : Nat) (ho : o < 4) : glE gl zs off 900 (off + i * 4 + o) = evCell e o := by
  unfold glE
  show (if off ≤ off + i * 4 + o then evCells zs (off + i * 4 + o - off) else none) = _
  rw [if_pos (by omega)]
  unfold evCells
  rw [show (off + i * 4 + o - off) / 4 = i from by omega, show (off + i * 4 + o - off) % 4 = o from by omega, h]
  rfl
theorem tglob : Tryd.prog.globals.size ≤ 900 := Nat.le_of_ble_eq_true (by kernel_rfl)

theorem slice_arg {gl : Gl} {zs : List EvT} {off c c' : Nat} {φ : Phi} {σ : LS} {w : World} {a' : Addr} (hr : Rel Tryd.prog (glE gl zs off) φ σ w) (hs : SlR φ ⟨900, off, none⟩ a' c c') :
    a'.spot = none ∧ a'.block < w.heap.size ∧ EvsAt w a'.block a'.off zs := by
  obtain ⟨_, s2, r, s3, s4, s5, s6⟩ := hs
  refine ⟨s2, by rw [s4]; exact hr.bound _ _ s3, fun i e he => ?_⟩
  have key : ∀ o v, o < 4 → evCell e o = some v → af 8 v = true → w.cell? ⟨a'.block, a'.off + i * 4 + o, none⟩ = some v := by
    intro o v ho hv ha
    obtain ⟨b, h1, v', h2, h3⟩ := hr.glob 900 (off + i * 4 + o) v ((glE_cell he o ho).trans hv)
    have s3' : φ 900 = some r := s3
    rw [s3'] at h1; cases h1
    obtain ⟨hoff, _⟩ := s5 rfl
    have hoff : a'.off = off := hoff
    have e3 := VR.of_af 8 ha h3
    subst e3
    rw [s4, hoff]
    exact h2
  exact ⟨key 0 _ (by omega) rfl rfl, key 1 _ (by omega) rfl rfl, key 2 _ (by omega) rfl rfl, key 3 _ (by omega) rfl rfl⟩

/-- A contract of a function that takes the events and one number more, or no more. -/
def afS (off len : Nat) (rest : List Value → Option Value) : AF := fun args _ => match args with
  | .slice (some a) n _ :: r => cond (Nat.beq a.block 900) ((rest r).bind fun v => some (decide (a.off = off) && decide (n = len) && a.spot.isNone && decide (len ≤ 1000), v)) none
  | _ => none
theorem fnS {gl : Gl} {zs : List EvT} {off len : Nat} {f : FuncId} {rest : List Value → Option Value} (hgl : ∀ g k v, gl g k = some v → g < 1000 ∧ lowV 8 v = true)
    (hr : ∀ r v, rest r = some v → r.all (af 8) = true ∧ af 8 v = true ∧ ∀ (_ : len ≤ 1000) (w : World) (blk o cap : Nat), EvsAt w blk o zs → blk < w.heap.size → Ready Tryd.prog (glE gl zs off) w →
      Calls Tryd.prog f (.slice (some ⟨blk, o, none⟩) len cap :: r).toArray w (fun e w' => e = .returned v ∧ Below w.heap.size w w')) : FnOK Tryd.prog (glE gl zs off) f (afS off len rest) := by
  intro args σ c0 v hk hc φ w args' hrel hl
  subst hc
  unfold afS at hk
  split at hk
  · rename_i a n cc r
    rw [Bool.cond_eq_ite] at hk
    split at hk
    · rename_i hb
      obtain ⟨v1, h1, h2⟩ := Option.bind_eq_some_iff.1 hk
      simp only [Option.some.injEq, Prod.mk.injEq, Bool.and_eq_true, decide_eq_true_eq, Option.isNone_iff_eq_none] at h2
      obtain ⟨⟨⟨⟨g1, g2⟩, g3⟩, g4⟩, rfl⟩ := h2
      obtain ⟨hlen, hl⟩ := hl
      obtain ⟨ab, ao, asp⟩ := a
      simp only at hb g1 g3
      have hb := Nat.eq_of_beq_eq_true hb
      subst hb; subst g1; subst g2; subst g3
      obtain ⟨q1, q2, q3⟩ := hr r v1 h1
      obtain ⟨x0, xs, e⟩ : ∃ x0 xs, args'.toList = x0 :: xs := by
        match hq : args'.toList, hlen with
        | x0 :: xs, _ => exact ⟨x0, xs, rfl⟩
      have hxs : xs = r := by
        refine LR.of_af (φ := φ) ⟨?_, fun i v v' y1 y2 => ?_⟩ q1
        · rw [e] at hlen; simpa using hlen
        · exact hl (i + 1) v v' (by simpa using y1) (by rw [e]; simpa using y2)
      subst hxs
      have v0 := hl 0 _ x0 rfl (by rw [e]; rfl)
      cases v0 with
      | slice _ a' _ _ c' hs =>
        obtain ⟨k1, k2, k3⟩ := slice_arg hrel hs
        obtain ⟨blk, o, sp⟩ := a'
        simp only at k1 k2 k3
        subst k1
        have e : args' = (.slice (some ⟨blk, o, none⟩) n c' :: xs).toArray := by rw [← e]
        subst e
        refine Calls.mono (q3 g4 w blk o c' k3 k2 ⟨_, hrel.low (glE_low hgl) tglob⟩) ?_
        rintro e w1 ⟨rfl, hb⟩
        exact ⟨v1, rfl, VR.af_refl 8 q2, hb⟩
    · cases hk
  · cases hk

/-- The events of a slice that came in, as known cells. -/
theorem rel_slice {gl : Gl} {zs : List EvT} {blk off : Nat} {w : World} (hgl : ∀ g k v, gl g k = some v → g < 900 ∧ af 8 v = true) (hw : Ready Tryd.prog gl w) (hc : EvsAt w blk off zs) (hb : blk < w.heap.size) :
    ∃ φ, Rel Tryd.prog (glE gl zs off) φ LS.start w ∧ φ 900 = some ⟨blk, none⟩ := by
  obtain ⟨φ, hr⟩ := hw
  have no : ∀ {i : Nat} {o : LObj}, LS.start.heap.get i = some o → False := by
    intro i o h
    rw [start_get] at h
    cases h
  have hle : ∀ i, i ≠ 900 → i < 1000 → (fun i => if i = 900 then some (⟨blk, none⟩ : RB) else if i < 1000 then φ i else none) i = φ i := fun i h1 h2 => by simp [h1, h2]
  refine ⟨fun i => if i = 900 then some ⟨blk, none⟩ else if i < 1000 then φ i else none, ⟨fun i o h => (no h).elim, fun i j o o' r r' h => (no h).elim, fun i hi => ?_, fun i r h => ?_, fun i o r h => (no h).elim, fun g k v h => ?_, fun g hg => ?_, hr.size⟩, by simp⟩
  · have hi : 1000 ≤ i := hi
    rw [if_neg (by omega), if_neg (by omega)]
  · split at h
    · cases h; exact hb
    · split at h
      · exact hr.bound i r h
      · cases h
  · unfold glE at h
    rw [Bool.cond_eq_ite] at h
    split at h
    · rename_i e
      have e := Nat.eq_of_beq_eq_true e
      subst e
      refine ⟨blk, by simp, ?_⟩
      split at h
      · rename_i ho
        obtain ⟨e, h1, h2⟩ := Option.bind_eq_some_iff.1 h
        obtain ⟨c0, c1, c2, c3⟩ := hc _ e h1
        refine ⟨v, ?_, VR.af_refl 8 ?_⟩
        · have hm : (k - off) % 4 < 4 := Nat.mod_lt _ (by decide)
          have hk : k = off + (k - off) / 4 * 4 + (k - off) % 4 := by omega
          rcases (by omega : (k - off) % 4 = 0 ∨ (k - off) % 4 = 1 ∨ (k - off) % 4 = 2 ∨ (k - off) % 4 = 3) with q | q | q | q <;> rw [q] at h2 hk <;> cases h2 <;> rw [hk]
          · exact c0
          · exact c1
          · exact c2
          · exact c3
        · unfold evCell at h2
          split at h2 <;> cases h2 <;> rfl
      · cases h
    · rename_i e
      have hne : g ≠ 900 := fun e' => e (by rw [e']; rfl)
      obtain ⟨h1, h2⟩ := hgl g k v h
      obtain ⟨b, h3, v', h4, h5⟩ := hr.glob g k v h
      refine ⟨b, (hle g hne (by omega)).trans h3, v', h4, ?_⟩
      rw [VR.of_af 8 h2 h5]
      exact VR.af_refl 8 h2
  · have := tglob
    exact (hle g (by omega) (by omega)).trans (hr.stat g hg)
theorem slice_LR {φ : Phi} {blk off len cap : Nat} (h : φ 900 = some ⟨blk, none⟩) : LR φ [.slice (some ⟨900, off, none⟩) len cap] (#[.slice (some ⟨blk, off, none⟩) len cap] : Array Value).toList :=
  ⟨rfl, fun i v v' h1 h2 => by
    match i with
    | 0 => cases h1; cases h2; exact .slice _ _ _ _ _ ⟨rfl, rfl, _, h, rfl, fun _ => ⟨rfl, rfl⟩, fun S z e => by cases e⟩
    | i + 1 => simp at h1⟩
end Go.Proofs.YtgpifpijhimhlaaDoor

namespace Go.Proofs.YtgpifpijhimhlaaDoor
open Go.Proofs.YtgpifpijhimhlaaDoor.Ev Go.RowKit
def restOf (O : Int → Int) : List Value → Option Value
  | [.int .u8 kind] => some (.int .i64 (O kind))
  | _ => none
def restAb (A : Int → Int) : List Value → Option Value
  | [.int .i64 j] => some (.int .i64 (A j))
  | _ => none
def restNil (v : Value) : List Value → Option Value
  | [] => some v
  | _ => none
def asmC (O A : Int → Int) (off len : Nat) : Asm := asmOf [(32, afS off len (restOf O)), (33, afS off len (restAb A))]
end Go.Proofs.YtgpifpijhimhlaaDoor

namespace Go.Proofs.YtgpifpijhimhlaaDoor
open Go.Proofs.YtgpifpijhimhlaaDoor.Ev Go.RowKit
set_option maxRecDepth 100000 in
theorem r14 (gl : Gl) (O A : Int → Int) (off len cap : Nat) : callK Tryd.prog gl (fun _ => none) (asmC O A off len) 100 40 40 (.fn 14) [.slice (some ⟨900, off, none⟩) len cap] LS.start flatR =
 cond (decide ((⟨900, off, none⟩ : Addr).off = off) && decide (len = len) && (⟨900, off, none⟩ : Addr).spot.isNone && decide (len ≤ 1000)) (
  cond (decide ((⟨900, off, none⟩ : Addr).off = off) && decide (len = len) && (⟨900, off, none⟩ : Addr).spot.isNone && decide (len ≤ 1000)) (
   cond (decide ((⟨900, off, none⟩ : Addr).off = off) && decide (len = len) && (⟨900, off, none⟩ : Addr).spot.isNone && decide (len ≤ 1000)) (
    cond (decide ((⟨900, off, none⟩ : Addr).off = off) && decide (len = len) && (⟨900, off, none⟩ : Addr).spot.isNone && decide (len ≤ 1000)) (
     cond (decide ((⟨900, off, none⟩ : Addr).off = off) && decide (len = len) && (⟨900, off, none⟩ : Addr).spot.isNone && decide (len ≤ 1000)) (
      cond (decide ((⟨900, off, none⟩ : Addr).off = off) && decide (len = len) && (⟨900, off, none⟩ : Addr).spot.isNone && decide (len ≤ 1000)) (
       cond (decide ((⟨900, off, none⟩ : Addr).off = off) && decide (len = len) && (⟨900, off, none⟩ : Addr).spot.isNone && decide (len ≤ 1000)) (
        cond (decide ((⟨900, off, none⟩ : Addr).off = off) && decide (len = len) && (⟨900, off, none⟩ : Addr).spot.isNone && decide (len ≤ 1000)) (
         cond (decide ((⟨900, off, none⟩ : Addr).off = off) && decide (len = len) && (⟨900, off, none⟩ : Addr).spot.isNone && decide (len ≤ 1000)) (
          cond (decide ((⟨900, off, none⟩ : Addr).off = off) && decide (len = len) && (⟨900, off, none⟩ : Addr).spot.isNone && decide (len ≤ 1000)) (
           cond (decide ((⟨900, off, none⟩ : Addr).off = off) && decide (len = len) && (⟨900, off, none⟩ : Addr).spot.isNone && decide (len ≤ 1000)) (
            cond (decide ((⟨900, off, none⟩ : Addr).off = off) && decide (len = len) && (⟨900, off, none⟩ : Addr).spot.isNone && decide (len ≤ 1000)) (
             cond (decide ((⟨900, off, none⟩ : Addr).off = off) && decide (len = len) && (⟨900, off, none⟩ : Addr).spot.isNone && decide (len ≤ 1000)) (
              cond (decide ((⟨900, off, none⟩ : Addr).off = off) && decide (len = len) && (⟨900, off, none⟩ : Addr).spot.isNone && decide (len ≤ 1000)) (
               cond (decide ((⟨900, off, none⟩ : Addr).off = off) && decide (len = len) && (⟨900, off, none⟩ : Addr).spot.isNone && decide (len ≤ 1000)) (
                cond (decide ((⟨900, off, none⟩ : Addr).off = off) && decide (len = len) && (⟨900, off, none⟩ : Addr).spot.isNone && decide (len ≤ 1000)) (
                 cond (decide ((⟨900, off, none⟩ : Addr).off = off) && decide (len = len) && (⟨900, off, none⟩ : Addr).spot.isNone && decide (len ≤ 1000)) (
                  some (.agg #[(.int IntKind.i64 (O 1)), (.int IntKind.i64 (O 3)), (.int IntKind.i64 (O 2)), (.int IntKind.i64 (O 4)), (.int IntKind.i64 (O 5)), (.int IntKind.i64 (O 6)), (.int IntKind.i64 (O 8)), (.int IntKind.i64 (O 9)), (.int IntKind.i64 (O 10)), (.int IntKind.i64 (O 11)), (.int IntKind.i64 (O 12)), (.int IntKind.i64 (A 0)), (.int IntKind.i64 (A 1)), (.int IntKind.i64 (A 2)), (.int IntKind.i64 (A 3)), (.int IntKind.i64 (A 4)), (.int IntKind.i64 (A 5))])) (
                  none)) (
                 none)) (
                none)) (
               none)) (
              none)) (
             none)) (
            none)) (
           none)) (
          none)) (
         none)) (
        none)) (
       none)) (
      none)) (
     none)) (
    none)) (
   none)) (
  none) := by kernel_rfl

theorem s14 (gl : Gl) (O A : Int → Int) (off len cap : Nat) (h : len ≤ 1000) : callK Tryd.prog gl (fun _ => none) (asmC O A off len) 100 40 40 (.fn 14) [.slice (some ⟨900, off, none⟩) len cap] LS.start flatR = some (.agg #[(.int IntKind.i64 (O 1)), (.int IntKind.i64 (O 3)), (.int IntKind.i64 (O 2)), (.int IntKind.i64 (O 4)), (.int IntKind.i64 (O 5)), (.int IntKind.i64 (O 6)), (.int IntKind.i64 (O 8)), (.int IntKind.i64 (O 9)), (.int IntKind.i64 (O 10)), (.int IntKind.i64 (O 11)), (.int IntKind.i64 (O 12)), (.int IntKind.i64 (A 0)), (.int IntKind.i64 (A 1)), (.int IntKind.i64 (A 2)), (.int IntKind.i64 (A 3)), (.int IntKind.i64 (A 4)), (.int IntKind.i64 (A 5))]) := by
  rw [r14]
  simp [h]
/-! Both ways of counting are one. -/
theorem ok_range {e : EvT} (h : e.ok = true) : 1 ≤ e.k ∧ e.k ≤ 12 := by
  unfold EvT.ok okE at h
  simp only [decide_eq_true_eq] at h
  omega
theorem ab_range (c : Int) : 0 ≤ abC c ∧ abC c ≤ 5 := by unfold abC; split <;> omega
theorem of_cnt (kind : Int) (i : Nat) (zs : List EvT) (h : ∀ e : EvT, e.ok = true → ((e.k == kind) = (cellE e == i))) (h2 : i ≠ 17) : ofN kind zs = cnt i zs := by
  unfold ofN cnt
  refine List.countP_congr fun e _ => ?_
  cases ho : e.ok with
  | false =>
    have : cellE e = 17 := by unfold cellE; rw [ho]; rfl
    rw [this]
    simp
    omega
  | true => rw [Bool.true_and, h e ho]
theorem cell_ok {e : EvT} (ho : e.ok = true) : cellE e = if e.k = 7 then 11 + (abC e.c).toNat else ([17, 0, 2, 1, 3, 4, 5, 17, 6, 7, 8, 9, 10] : List Nat).getD e.k.toNat 17 := by unfold cellE; rw [ho]; rfl
theorem of_one {e : EvT} (ho : e.ok = true) : ∀ kind i, (kind, i) ∈ ([(1, 0), (2, 2), (3, 1), (4, 3), (5, 4), (6, 5), (8, 6), (9, 7), (10, 8), (11, 9), (12, 10)] : List (Int × Nat)) → ((e.k == kind) = (cellE e == i)) := by
  intro kind i hm
  have hr := ok_range ho
  have hab := ab_range e.c
  rw [cell_ok ho]
  have hk : e.k = 1 ∨ e.k = 2 ∨ e.k = 3 ∨ e.k = 4 ∨ e.k = 5 ∨ e.k = 6 ∨ e.k = 7 ∨ e.k = 8 ∨ e.k = 9 ∨ e.k = 10 ∨ e.k = 11 ∨ e.k = 12 := by omega
  simp only [List.mem_cons, List.not_mem_nil, or_false, Prod.mk.injEq] at hm
  rcases hm with ⟨rfl, rfl⟩ | ⟨rfl, rfl⟩ | ⟨rfl, rfl⟩ | ⟨rfl, rfl⟩ | ⟨rfl, rfl⟩ | ⟨rfl, rfl⟩ | ⟨rfl, rfl⟩ | ⟨rfl, rfl⟩ | ⟨rfl, rfl⟩ | ⟨rfl, rfl⟩ | ⟨rfl, rfl⟩ <;>
    rcases hk with h | h | h | h | h | h | h | h | h | h | h | h <;> rw [h] <;> first | rfl | (rw [if_pos rfl]; simp <;> omega)
theorem ab_cnt (j : Nat) (hj : j < 6) (zs : List EvT) : abN (j : Int) zs = cnt (11 + j) zs := by
  unfold abN cnt
  refine List.countP_congr fun e _ => ?_
  cases ho : e.ok with
  | false =>
    have : cellE e = 17 := by unfold cellE; rw [ho]; rfl
    rw [this]
    simp
    omega
  | true =>
    have hr := ok_range ho
    have hab := ab_range e.c
    rw [cell_ok ho]
    by_cases h7 : e.k = 7
    · rw [if_pos h7, h7]
      simp
      omega
    · rw [if_neg h7]
      have hk : e.k = 1 ∨ e.k = 2 ∨ e.k = 3 ∨ e.k = 4 ∨ e.k = 5 ∨ e.k = 6 ∨ e.k = 8 ∨ e.k = 9 ∨ e.k = 10 ∨ e.k = 11 ∨ e.k = 12 := by omega
      rcases hk with h | h | h | h | h | h | h | h | h | h | h <;> rw [h] <;> simp <;> omega
theorem both_counts (zs : List EvT) : ((.agg #[(.int IntKind.i64 ((ofN 1 zs : Nat) : Int)), (.int IntKind.i64 ((ofN 3 zs : Nat) : Int)), (.int IntKind.i64 ((ofN 2 zs : Nat) : Int)), (.int IntKind.i64 ((ofN 4 zs : Nat) : Int)), (.int IntKind.i64 ((ofN 5 zs : Nat) : Int)), (.int IntKind.i64 ((ofN 6 zs : Nat) : Int)), (.int IntKind.i64 ((ofN 8 zs : Nat) : Int)), (.int IntKind.i64 ((ofN 9 zs : Nat) : Int)), (.int IntKind.i64 ((ofN 10 zs : Nat) : Int)), (.int IntKind.i64 ((ofN 11 zs : Nat) : Int)), (.int IntKind.i64 ((ofN 12 zs : Nat) : Int)), (.int IntKind.i64 ((abN 0 zs : Nat) : Int)), (.int IntKind.i64 ((abN 1 zs : Nat) : Int)), (.int IntKind.i64 ((abN 2 zs : Nat) : Int)), (.int IntKind.i64 ((abN 3 zs : Nat) : Int)), (.int IntKind.i64 ((abN 4 zs : Nat) : Int)), (.int IntKind.i64 ((abN 5 zs : Nat) : Int))]) : Value) = .agg (cntA zs) := by
  have e0 := of_cnt 1 0 zs (fun e ho => of_one ho 1 0 (by simp)) (by omega)
  have e1 := of_cnt 3 1 zs (fun e ho => of_one ho 3 1 (by simp)) (by omega)
  have e2 := of_cnt 2 2 zs (fun e ho => of_one ho 2 2 (by simp)) (by omega)
  have e3 := of_cnt 4 3 zs (fun e ho => of_one ho 4 3 (by simp)) (by omega)
  have e4 := of_cnt 5 4 zs (fun e ho => of_one ho 5 4 (by simp)) (by omega)
  have e5 := of_cnt 6 5 zs (fun e ho => of_one ho 6 5 (by simp)) (by omega)
  have e6 := of_cnt 8 6 zs (fun e ho => of_one ho 8 6 (by simp)) (by omega)
  have e7 := of_cnt 9 7 zs (fun e ho => of_one ho 9 7 (by simp)) (by omega)
  have e8 := of_cnt 10 8 zs (fun e ho => of_one ho 10 8 (by simp)) (by omega)
  have e9 := of_cnt 11 9 zs (fun e ho => of_one ho 11 9 (by simp)) (by omega)
  have e10 := of_cnt 12 10 zs (fun e ho => of_one ho 12 10 (by simp)) (by omega)
  have e11 : abN 0 zs = cnt 11 zs := ab_cnt 0 (by omega) zs
  have e12 : abN 1 zs = cnt 12 zs := ab_cnt 1 (by omega) zs
  have e13 : abN 2 zs = cnt 13 zs := ab_cnt 2 (by omega) zs
  have e14 : abN 3 zs = cnt 14 zs := ab_cnt 3 (by omega) zs
  have e15 : abN 4 zs = cnt 15 zs := ab_cnt 4 (by omega) zs
  have e16 : abN 5 zs = cnt 16 zs := ab_cnt 5 (by omega) zs
  unfold cntA
  rw [e0, e1, e2, e3, e4, e5, e6, e7, e8, e9, e10, e11, e12, e13, e14, e15, e16]
end Go.Proofs.YtgpifpijhimhlaaDoor

namespace Go.Proofs.YtgpifpijhimhlaaDoor
open Go.Proofs.YtgpifpijhimhlaaDoor.Ev Go.RowKit
theorem gl0_low : ∀ g k v, gl0 g k = some v → g < 1000 ∧ lowV 8 v = true := fun _ _ _ h => by cases h
theorem gl0_flat : ∀ g k v, gl0 g k = some v → g < 900 ∧ af 8 v = true := fun _ _ _ h => by cases h
theorem to_gl0 {gl : Gl} {w : World} (h : Ready Tryd.prog gl w) : Ready Tryd.prog gl0 w := h.gl_mono fun _ _ _ h => by cases h
variable {gl : Gl} {zs : List EvT} {off : Nat}
theorem fn32 (hgl : ∀ g k v, gl g k = some v → g < 1000 ∧ lowV 8 v = true) : FnOK Tryd.prog (glE gl zs off) 32 (afS off zs.length (restOf fun kind => (ofN kind zs : Int))) := fnS hgl fun r v h => by
  unfold restOf at h
  split at h
  · cases h
    exact ⟨rfl, rfl, fun hl w blk o cap hc hb hw => of_walk zs blk o cap _ w hc hb hl (to_gl0 hw)⟩
  · cases h
theorem fn33 (hz : ∀ e ∈ zs, e.wf) (hgl : ∀ g k v, gl g k = some v → g < 1000 ∧ lowV 8 v = true) : FnOK Tryd.prog (glE gl zs off) 33 (afS off zs.length (restAb fun j => (abN j zs : Int))) := fnS hgl fun r v h => by
  unfold restAb at h
  split at h
  · cases h
    exact ⟨rfl, rfl, fun hl w blk o cap hc hb hw => ab_walk zs blk o cap _ w hc hz hb hl (to_gl0 hw)⟩
  · cases h
theorem asmC_ok (hz : ∀ e ∈ zs, e.wf) (hgl : ∀ g k v, gl g k = some v → g < 1000 ∧ lowV 8 v = true) : AsmOK Tryd.prog (glE gl zs off) (asmC (fun kind => (ofN kind zs : Int)) (fun j => (abN j zs : Int)) off zs.length) := asmOf_ok fun p hp => by
  simp only [List.mem_cons, List.not_mem_nil, or_false] at hp
  rcases hp with rfl | rfl
  · exact fn32 hgl
  · exact fn33 hz hgl
/-- The document's Count. -/
theorem count_ref (zs : List EvT) (hz : ∀ e ∈ zs, e.wf) (hl : zs.length ≤ 1000) (w : World) (blk off cap : Nat) (hc : EvsAt w blk off zs) (hb : blk < w.heap.size) (hw : Ready Tryd.prog gl0 w) :
    Calls Tryd.prog 14 #[.slice (some ⟨blk, off, none⟩) zs.length cap] w (fun e w' => e = .returned (.agg (cntA zs)) ∧ Below w.heap.size w w') := by
  obtain ⟨φ, hr, h9⟩ := rel_slice gl0_flat hw hc hb
  rw [← both_counts zs]
  exact flatKR goodT (asmC_ok hz gl0_low) hr (slice_LR h9) (s14 _ _ _ off zs.length cap hl)
/-- The counts as they are given, by a function. -/
def aggC (c : Nat → Int) : Value := .agg #[.int .i64 (c 0), .int .i64 (c 1), .int .i64 (c 2), .int .i64 (c 3), .int .i64 (c 4), .int .i64 (c 5), .int .i64 (c 6), .int .i64 (c 7), .int .i64 (c 8), .int .i64 (c 9), .int .i64 (c 10), .int .i64 (c 11), .int .i64 (c 12), .int .i64 (c 13), .int .i64 (c 14), .int .i64 (c 15), .int .i64 (c 16)]
theorem aggC_cnt (zs : List EvT) : Value.agg (cntA zs) = aggC fun j => (cnt j zs : Int) := rfl
theorem fn13 (hz : ∀ e ∈ zs, e.wf) (hgl : ∀ g k v, gl g k = some v → g < 1000 ∧ lowV 8 v = true) : FnOK Tryd.prog (glE gl zs off) 13 (afS off zs.length (restNil (aggC fun j => (cnt j zs : Int)))) := fnS hgl fun r v h => by
  unfold restNil at h
  split at h
  · cases h
    exact ⟨rfl, rfl, fun hl w blk o cap hc hb hw => count_walk zs blk o cap w hc hz hb hl (to_gl0 hw)⟩
  · cases h
theorem fn14 (hz : ∀ e ∈ zs, e.wf) (hgl : ∀ g k v, gl g k = some v → g < 1000 ∧ lowV 8 v = true) : FnOK Tryd.prog (glE gl zs off) 14 (afS off zs.length (restNil (aggC fun j => (cnt j zs : Int)))) := fnS hgl fun r v h => by
  unfold restNil at h
  split at h
  · cases h
    exact ⟨rfl, rfl, fun hl w blk o cap hc hb hw => count_ref zs hz hl w blk o cap hc hb (to_gl0 hw)⟩
  · cases h
def asmT (c : Nat → Int) (off len : Nat) : Asm := asmOf [(13, afS off len (restNil (aggC c))), (14, afS off len (restNil (aggC c))), (12, afTrue)]
theorem asmT_ok (hz : ∀ e ∈ zs, e.wf) (hgl : ∀ g k v, gl g k = some v → g < 1000 ∧ lowV 8 v = true) (hm : MemoOK Tryd.prog (glE gl zs off) 12) : AsmOK Tryd.prog (glE gl zs off) (asmT (fun j => (cnt j zs : Int)) off zs.length) := asmOf_ok fun p hp => by
  simp only [List.mem_cons, List.not_mem_nil, or_false] at hp
  rcases hp with rfl | rfl | rfl
  · exact fn13 hz hgl
  · exact fn14 hz hgl
  · exact fnTrue hm
end Go.Proofs.YtgpifpijhimhlaaDoor

namespace Go.Proofs.YtgpifpijhimhlaaDoor
open Go.ChangeShapes Go.WideShapes Go.ChangeAt Go.RowKit Go.Proofs.YtgpifpijhimhlaaDoor.Ev

theorem addr_add (blk off n : Nat) : (⟨blk, off, none⟩ : Addr).add n = ⟨blk, off + n, none⟩ := by
  unfold Addr.add
  split
  · rename_i h; subst h; rfl
  · rfl
theorem list_of {Q : Nat → EvT → Prop} : ∀ n : Nat, (∀ i, i < n → ∃ e, Q i e) → ∃ zs : List EvT, zs.length = n ∧ ∀ i e, zs[i]? = some e → Q i e
  | 0, _ => ⟨[], rfl, fun i e h => by simp at h⟩
  | n + 1, h => by
    obtain ⟨zs, h1, h2⟩ := list_of n fun i hi => h i (by omega)
    obtain ⟨e, he⟩ := h n (by omega)
    refine ⟨zs ++ [e], by simp [h1], fun i e' h3 => ?_⟩
    rcases Nat.lt_or_ge i n with hi | hi
    · rw [List.getElem?_append_left (by omega)] at h3
      exact h2 i e' h3
    · rw [List.getElem?_append_right (by omega), h1] at h3
      rcases Nat.eq_or_lt_of_le hi with rfl | hi
      · simp at h3; subst h3; exact he
      · rw [List.getElem?_eq_none (by simp; omega)] at h3; cases h3

theorem fieldI {P : Program} {H : Type} {enc : TypeId × Value → H} {w : World} {base : Nat} {sp : Nat → Bool} {held : Bool} {n : Nat} {t : TypeId} {k : IntKind} {cs : List Value} {xs : List (DataW H × List MemPlace)} {i : Nat}
    (ht : P.underlying t = some (.int k)) (hi : i < xs.length) (h : DataW.trod enc P w base sp held n t cs = xs[i]?) : ∃ m, cs = [.int k m] ∧ (Lit.int k m).wf = true := by
  rw [List.getElem?_eq_getElem hi] at h
  obtain ⟨m, h1, _, h2⟩ := DataW.trod_int ht h
  exact ⟨m, h1, h2⟩

set_option maxRecDepth 100000 in
theorem open_event {H : Type} {enc : TypeId × Value → H} {w : World} {base : Nat} {sp : Nat → Bool} {held : Bool} {n : Nat} {cs : List Value} {y : DataW H × List MemPlace} (h : DataW.trod enc Tryd.prog w base sp held n 39 cs = some y) (hl : cs.length = 4) :
    ∃ e : EvT, e.wf ∧ cs = [.int .u8 e.k, .int .i64 e.r, .int .i64 e.n, .int .u32 e.c] := by
  obtain ⟨xs, m, _, _, _, hlen, hf⟩ := DataW.trod_struct Tryd.underlying39 h
  have e5 : Tryd.prog.cellsOf 5 = 1 := by kernel_rfl
  have e3 : Tryd.prog.cellsOf 3 = 1 := by kernel_rfl
  have e37 : Tryd.prog.cellsOf 37 = 1 := by kernel_rfl
  have hlen : xs.length = 4 := hlen
  obtain ⟨v0, v1, v2, v3, rfl⟩ : ∃ v0 v1 v2 v3, cs = [v0, v1, v2, v3] := by
    match cs, hl with
    | [v0, v1, v2, v3], _ => exact ⟨v0, v1, v2, v3, rfl⟩
  have f0 : DataW.trod enc Tryd.prog w base sp held m 5 (([v0, v1, v2, v3].drop 0).take (Tryd.prog.cellsOf 5)) = xs[0]? := hf 0 _ rfl
  have f1 : DataW.trod enc Tryd.prog w base sp held m 3 (([v0, v1, v2, v3].drop 1).take (Tryd.prog.cellsOf 3)) = xs[1]? := hf 1 _ rfl
  have f2 : DataW.trod enc Tryd.prog w base sp held m 3 (([v0, v1, v2, v3].drop 2).take (Tryd.prog.cellsOf 3)) = xs[2]? := hf 2 _ rfl
  have f3 : DataW.trod enc Tryd.prog w base sp held m 37 (([v0, v1, v2, v3].drop 3).take (Tryd.prog.cellsOf 37)) = xs[3]? := hf 3 _ rfl
  rw [e5] at f0
  rw [e3] at f1 f2
  rw [e37] at f3
  obtain ⟨k, g0, w0⟩ := fieldI Tryd.underlying5 (by omega) f0
  obtain ⟨r, g1, _⟩ := fieldI Tryd.underlying3 (by omega) f1
  obtain ⟨c, g2, _⟩ := fieldI Tryd.underlying3 (by omega) f2
  obtain ⟨x, g3, w3⟩ := fieldI Tryd.underlying37 (by omega) f3
  cases g0; cases g1; cases g2; cases g3
  refine ⟨⟨k, r, c, x⟩, ?_, rfl⟩
  simp only [Lit.wf, Bool.and_eq_true, decide_eq_true_eq] at w0 w3
  have e1 : IntKind.min .u8 = 0 := by kernel_rfl
  have e2 : IntKind.max .u8 = 255 := by kernel_rfl
  have e6 : IntKind.min .u32 = 0 := by kernel_rfl
  have e7 : IntKind.max .u32 = 4294967295 := by kernel_rfl
  rw [e1, e2] at w0
  rw [e6, e7] at w3
  exact ⟨w3.1, w3.2, w0.1, w0.2⟩

set_option maxRecDepth 100000 in
/-- A parameter that is a row of events. -/
theorem open_events {H : Type} {enc : TypeId × Value → H} {w : World} {sp : Nat → Bool} {held : Bool} {rc : Reach} {base : Nat} {v : Value} {d : DataW H} {p : List MemPlace}
    (hv : Value.okWide Tryd.prog w rc base 29 v) (h : DataW.Trod enc Tryd.prog w 0 sp held 29 v d p) :
    v = .slice none 0 0 ∨ ∃ (blk off cap : Nat) (zs : List EvT), v = .slice (some ⟨blk, off, none⟩) zs.length cap ∧ EvsAt w blk off zs ∧ (∀ e ∈ zs, e.wf) ∧ blk < w.heap.size := by
  obtain ⟨a, len, cap, rfl⟩ := okWide_slice Tryd.underlying29 hv
  obtain ⟨n, h⟩ := h
  rcases DataW.trod_slice Tryd.underlying29 h with ⟨hn, _⟩ | ⟨a', len', cap', elems, rest, m, _, hcs, _, _, _, _, hel, hi, _⟩
  · left
    simpa [Value.cells] using hn
  · right
    have e : Value.slice a len cap = .slice (some a') len' cap' := by simpa [Value.cells] using hcs
    cases e
    have hok : Cell.ok Tryd.prog w rc base 29 (.slice (some a') len cap) := by
      simpa only [Value.okWide, Cell.okWide, Tryd.underlying29] using hv
    have hhas : w.has Tryd.prog rc base a' 39 cap := by
      simp only [Cell.ok, Tryd.underlying29] at hok
      exact hok.2.2
    obtain ⟨_, hs, row, cells, hsh, _⟩ := hhas
    obtain ⟨blk, off, spot⟩ := a'
    simp only at hs
    subst hs
    have hb : blk < w.heap.size := by
      rcases Nat.lt_or_ge blk w.heap.size with h1 | h1
      · exact h1
      · simp [World.shape?, Array.getElem?_eq_none h1] at hsh
    have h4 : Tryd.prog.cellsOf 39 = 4 := by kernel_rfl
    have key : ∀ i, i < len → ∃ e : EvT, e.wf ∧ w.cell? ⟨blk, off + i * 4, none⟩ = some (.int .u8 e.k) ∧ w.cell? ⟨blk, off + i * 4 + 1, none⟩ = some (.int .i64 e.r) ∧ w.cell? ⟨blk, off + i * 4 + 2, none⟩ = some (.int .i64 e.n) ∧ w.cell? ⟨blk, off + i * 4 + 3, none⟩ = some (.int .u32 e.c) := by
      intro i hlt
      have h1 := hi i hlt
      rw [List.getElem?_eq_getElem (by omega)] at h1
      obtain ⟨cs, h2, h3⟩ := Option.bind_eq_some_iff.1 h1
      rw [h4] at h2
      obtain ⟨_, hl, hat⟩ := World.cells?_some h2
      obtain ⟨e, he, rfl⟩ := open_event h3 hl
      have a0 := hat 0 (by omega)
      have a1 := hat 1 (by omega)
      have a2 := hat 2 (by omega)
      have a3 := hat 3 (by omega)
      refine ⟨e, he, ?_, ?_, ?_, ?_⟩
      · rw [addr_add, addr_add] at a0; exact a0
      · rw [addr_add, addr_add] at a1; exact a1
      · rw [addr_add, addr_add] at a2; exact a2
      · rw [addr_add, addr_add] at a3; exact a3
    obtain ⟨zs, hz1, hz2⟩ := list_of len key
    refine ⟨blk, off, cap, zs, by rw [hz1], fun i e he => (hz2 i e he).2, fun e he => ?_, hb⟩
    obtain ⟨i, hi⟩ := List.getElem?_of_mem he
    exact (hz2 i e hi).1
end Go.Proofs.YtgpifpijhimhlaaDoor
