/- An evaluator of closed calls, with its proof: part 2: append, new rows, maps. No condition. -/
import Derived.Test.YtpckfdopokmbkaaGreatDoorEv1
import Derived.Laws.Append
import Derived.Laws.AppendOwn
import Derived.Laws.BytesString
import Derived.Laws.StructEq
noncomputable section
namespace Go.Proofs.YtpckfdopokmbkaaGreatDoor.Ev
open Go
open Go.RowKit

section
variable {P : Program} {gl : Gl} {φ : Phi} {σ σ1 : LS} {w : World}

/-- What is appended or copied: how many elements, their cells. -/
def srcLen (x : Value) : Option Nat :=
  match x with
  | .slice _ n _ => some n
  | .string s => some s.size
  | _ => none
def srcCells (gl : Gl) (σ : LS) (size n : Nat) (x : Value) : Option (List Value) :=
  match x with
  | .slice none _ _ => some []
  | .slice (some a) _ c => (match n with
    | 0 => some []
    | _ + 1 => (match c with
      | 0 => none
      | _ + 1 => cellsAt gl σ a (n * size)))
  | .string s => some ((s.data.toList.take n).map fun b => .int .u8 b.toNat)
  | _ => none

theorem srcLen_sound {x x' : Value} (hx : VR φ x x') {n : Nat} (hn : srcLen x = some n) : (Builtin.lenOf x').run P w = .ok n w := by
  cases hx <;> simp [srcLen] at hn <;> subst hn <;> simp [Builtin.lenOf]

theorem srcCells_sound (h : Rel P gl φ σ w) {x x' : Value} (hx : VR φ x x') {size n : Nat} {l : List Value} (hl : srcCells gl σ size n x = some l) :
    ∃ l', (Builtin.firstCells size n x').run P w = .ok l'.toArray w ∧ LR φ l l' := by
  cases hx with
  | nilSlice m c => simp [srcCells] at hl; subst hl; exact ⟨[], by simp [Builtin.firstCells], LR.nil φ⟩
  | slice a a' m c c' ha =>
    cases n with
    | zero => simp [srcCells] at hl; subst hl; exact ⟨[], by simp [Builtin.firstCells, loadCells, loadCellsFrom], LR.nil φ⟩
    | succ n =>
      cases c with
      | zero => simp [srcCells] at hl
      | succ c =>
        simp only [srcCells] at hl
        obtain ⟨l', e1, e2, e3⟩ := run_loadCells (P := P) h (ha.addr (by omega)) hl
        exact ⟨l', by simpa [Builtin.firstCells] using e1, e2⟩
  | string s =>
    simp only [srcCells, Option.some.injEq] at hl; subst hl
    refine ⟨(s.data.toList.take n).map fun b => .int .u8 b.toNat, ?_, LR.af_refl (l := (s.data.toList.take n).map fun b => .int .u8 b.toNat) (List.all_eq_true.2 (by intro v hv; rw [List.mem_map] at hv; obtain ⟨b, _, rfl⟩ := hv; rfl))⟩
    simp only [Builtin.firstCells, Sem.run_pure]
    congr 1
    apply Array.ext'
    simp
  | _ => simp [srcCells] at hl

def zerosNot (P : Program) (t : TypeId) : Bool := match P.underlying t with
  | some (.slice _) => true
  | some .string => true
  | _ => false
theorem zerosNot_spec {t : TypeId} (h : zerosNot P t = true) : (∃ e, P.underlying t = some (.slice e)) ∨ P.underlying t = some .string := by
  unfold zerosNot at h
  split at h
  · rename_i e hu; exact Or.inl ⟨e, hu⟩
  · rename_i hu; exact Or.inr hu
  · cases h

/-- A row whose room is not known. -/
def newRowI (σ : LS) (elem : TypeId) (cells : List Value) (z : Nat) (fz : Nat × Nat) (mk : Bool) : Option (Nat × LS) :=
  cond (room σ) (some (σ.next, σ.add (.row ⟨cells, elem, fz, z, false, mk⟩))) none

def bytesP (P : Program) (t : TypeId) : Option Nat := (P.info? t).map (·.bytes)

/-- Append. -/
def exAppend (P : Program) (gl : Gl) (σ : LS) (tS tX : TypeId) (s x : Value) : Option (Value × LS) :=
  match P.underlying tS with
  | some (.slice elem) => (sizeP P elem).bind fun size => (zeroP P elem).bind fun z => (bytesP P elem).bind fun bytes => (srcLen x).bind fun n => (srcCells gl σ size n x).bind fun new =>
    cond (zerosNot P tX && Nat.beq z.cells.size size && Nat.ble 1 size && Nat.beq new.length (n * size)) (match s with
    | .slice none len c => cond (Nat.beq len 0 && Nat.beq c 0 && Nat.ble (n * bytes) 140737488355328 && Nat.ble n 1099511627776) (match n with
      | 0 => some (.slice none 0 0, σ)
      | _ + 1 => (newRowI σ elem new size (0, 0) false).map fun (i, σ1) => (.slice (some ⟨i, 0, none⟩) n n, σ1)) none
    | .slice (some a) len c => cond (Nat.ble len c && Nat.ble ((len + n) * bytes) 140737488355328 && Nat.ble (len + n) 1099511627776) (
      match n with
      | 0 => some (.slice (some a) len c, σ)
      | _ + 1 => (match σ.heap.get a.block with
        | some (.row b) => (match b.esz with
          | 0 => cond (Nat.ble (len + n) c) ((putCells σ (a.add (len * size)) new).map fun σ1 => (.slice (some a) (len + n) c, σ1))
            ((cellsAt gl σ a (len * size)).bind fun old => (newRowI σ elem (old ++ new) size (0, 0) false).map fun (i, σ1) => (.slice (some ⟨i, 0, none⟩) (len + n) (len + n), σ1))
          | _ + 1 => (cellsAt gl σ a (len * size)).bind fun old => cond ((Nat.beq a.off 0 || Nat.beq b.fz.2 0) && Nat.beq b.esz size && !b.ro && new.all single && Nat.beq b.elem elem && Nat.ble b.fz.2 (len * size) && Nat.ble (a.block + 1) most)
            ((newRowI (σ.upd a.block none) elem (old ++ new) size b.fz (cond (Nat.beq a.off 0) b.tail true)).map fun (i, σ1) => (.slice (some ⟨i, 0, none⟩) (len + n) (len + n), σ1)) none)
        | _ => none)) none
    | _ => none) none
  | _ => none

theorem run_append_fit {tS tX elem ty : TypeId} {size : Nat} {s' x' : Value} {b : Option Addr} {len cap n : Nat} {new : List Value} (ht : P.underlying tS = some (.slice elem)) (hi : sizeP P elem = some size)
    (hx : zerosNot P tX = true) (hn : (Builtin.lenOf x').run P w = .ok n w) (hl : (Builtin.firstCells size n x').run P w = .ok new.toArray w) (hs : s' = .slice b len cap) (hc : len + n ≤ cap) :
    (Builtin.append_ #[tS, tX] ty #[s', x']).run P w =
      (match b with | some a => (storeCells (a.add (len * size)) new).run P w | none => .ok () w).andThen fun _ w1 => .ok (.slice b (len + n) cap) w1 := by
  subst hs
  rcases zerosNot_spec hx with ⟨e, hu⟩ | hu
  all_goals
    cases b <;> simp [Builtin.append_, run_underlying ht, run_underlying hu, run_sizeOf hi, hn, hc, hl]

theorem run_append_grows {tS tX elem ty : TypeId} {size bytes : Nat} {z : Value} {x' : Value} {b : Option Addr} {len cap n : Nat} {old new : List Value} (ht : P.underlying tS = some (.slice elem)) (hi : sizeP P elem = some size)
    (hz : zeroP P elem = some z) (hb : bytesP P elem = some bytes)
    (hx : zerosNot P tX = true) (hn : (Builtin.lenOf x').run P w = .ok n w) (ho : (Builtin.firstCells size len (.slice b len cap)).run P w.drew = .ok old.toArray w.drew)
    (hl : (Builtin.firstCells size n x').run P w.drew = .ok new.toArray w.drew) (hc : cap < len + n) (hroom : (len + n) * bytes ≤ 140737488355328) (hmax : len + n ≤ 1099511627776) :
    (Builtin.append_ #[tS, tX] ty #[.slice b len cap, x']).run P w =
      .ok (.slice (some ⟨w.heap.size, 0, none⟩) (len + n) (grownCap w (len + n) cap elem)) (w.drew.alloc (.cells (old.toArray ++ new.toArray ++ Builtin.zeroCells z.cells (grownCap w (len + n) cap elem - (len + n))) elem)) := by
  have h1 : ¬ (len + n ≤ cap) := by omega
  have h2 : ¬ (9223372036854775807 < ((len : Int) + (n : Int))) := by omega
  simp only [bytesP, Option.map_eq_some_iff] at hb
  obtain ⟨i, hi2, rfl⟩ := hb
  have h3 := growslice_fits hc hroom
  have h3' : ¬ (281474976710656 < Builtin.nextslicecap (len + n) cap * i.bytes) := by omega
  rcases zerosNot_spec hx with ⟨e, hu⟩ | hu
  all_goals
    simp [Builtin.append_, run_underlying ht, run_underlying hu, run_sizeOf hi, hn, h1, h2, run_typeInfo hi2, h3', Question.forced, ho, hl, run_zeroValue hz, newRow, grownCap]
    congr 2
    apply Array.ext'
    simp

theorem newRowI_sound (h : Rel P gl φ σ w) {e : TypeId} {l l' rest : List Value} (hl : LR φ l l') {z : Nat} (hz : 0 < z) {fz : Nat × Nat} {mk : Bool} {i : Nat} (hv : newRowI σ e l z fz mk = some (i, σ1)) {c' : Array Value} (hc : c'.toList = l' ++ rest) :
    ∃ φ1, Tr P gl φ σ w φ1 σ1 (w.alloc (.cells c' e)) ∧ φ1 i = some ⟨w.heap.size, some (c'.size, z, 0)⟩ := by
  unfold newRowI at hv
  rw [Bool.cond_eq_ite] at hv
  split at hv
  · rename_i hr
    cases hv
    have hr := Nat.le_of_ble_eq_true hr
    have hle : φ.le (φ.set σ.next ⟨w.heap.size, some (c'.size, z, 0)⟩) := Phi.le_set (h.fresh _ (Nat.le_refl _)) _
    obtain ⟨t, s⟩ := Tr.alloc h (by unfold most at *; omega) (.row ⟨l, e, fz, z, false, mk⟩) (.cells c' e) (some (c'.size, z, 0))
      ⟨c', (0, 0), rfl, fun k v hk => by
        obtain ⟨v', e1, e2⟩ := hl.get hk
        refine ⟨v', ?_, e2.mono hle⟩
        rw [show ({ blk := w.heap.size, cap := some (c'.size, z, 0) } : RB).sh = 0 from rfl, Nat.zero_add, ← Array.getElem?_toList, hc, List.getElem?_append_left (List.getElem?_eq_some_iff.1 e1).1, e1], rfl, rfl, hz, Or.inl rfl, fun _ => rfl⟩
    exact ⟨_, t, s⟩
  · cases hv
end
end Go.Proofs.YtpckfdopokmbkaaGreatDoor.Ev

namespace Go.Proofs.YtpckfdopokmbkaaGreatDoor.Ev
open Go
open Go.RowKit

section
variable {P : Program} {gl : Gl} {φ : Phi} {σ σ1 : LS} {w : World}

theorem SlR.le {a a' : Addr} {c c' : Nat} (h : SlR φ a a' c c') : c ≤ c' := by
  obtain ⟨_, _, r, _, _, h5, h6⟩ := h
  cases hr : r.cap with
  | none => have := (h5 hr).2; omega
  | some q => exact (h6 q.1 q.2.1 q.2.2 hr).1

theorem add_off (b : Addr) (n : Nat) : (b.add n).off = b.off + n ∧ (b.add n).block = b.block ∧ (b.spot = none → (b.add n).spot = none) := by
  by_cases e : n = 0 <;> simp [Addr.add, e]

theorem size_grown {old new : List Value} {z : Value} {size len n N : Nat} (h1 : old.length = len * size) (h2 : new.length = n * size) (h3 : z.cells.size = size) (hN : len + n ≤ N) :
    (old.toArray ++ new.toArray ++ Builtin.zeroCells z.cells (N - (len + n))).size = N * size := by
  simp only [Array.size_append, List.size_toArray, size_zeroCells, h1, h2, h3]
  rw [← Nat.add_mul, ← Nat.add_mul]; congr 1; omega

theorem cellsAt_length (k : Nat) (a : Addr) (m : List Value) (hm : cellsAt gl σ a k = some m) : m.length = k :=
  cells0_length k a m (by rw [← cellsAt_eq]; exact hm)

theorem exAppend_sound (h : Rel P gl φ σ w) {tS tX ty : TypeId} {s s' x x' v : Value} (hs : VR φ s s') (hx : VR φ x x') (hv : exAppend P gl σ tS tX s x = some (v, σ1)) :
    ∃ v' w1 φ1, (Builtin.append_ #[tS, tX] ty #[s', x']).run P w = .ok v' w1 ∧ Tr P gl φ σ w φ1 σ1 w1 ∧ VR φ1 v v' := by
  unfold exAppend at hv
  split at hv
  rotate_left
  · cases hv
  rename_i elem ht
  simp only [Option.bind_eq_some_iff] at hv
  obtain ⟨size, hi, z, hz, bytes, hb, n, hn, new, hnew, hv⟩ := hv
  rw [Bool.cond_eq_ite] at hv
  split at hv
  rotate_left
  · cases hv
  rename_i hc
  simp only [Bool.and_eq_true] at hc
  obtain ⟨⟨⟨hzn, c1⟩, c2⟩, c3⟩ := hc
  have c1 := Nat.eq_of_beq_eq_true c1
  have c2 := Nat.le_of_ble_eq_true c2
  have c3 := Nat.eq_of_beq_eq_true c3
  have hlen := srcLen_sound (P := P) (w := w) hx hn
  obtain ⟨new', n1, n2⟩ := srcCells_sound (P := P) h hx hnew
  obtain ⟨newd, n3, n4⟩ := srcCells_sound (P := P) (h.drawn (w.drawn + 1)) hx hnew
  have hd : Tr P gl φ σ w φ σ w.drew := Tr.drawn h _
  have hn4 := n4.1
  have hn2 := n2.1
  cases hs with
  | nilSlice len c =>
    simp only at hv
    rw [Bool.cond_eq_ite] at hv
    split at hv
    rotate_left
    · cases hv
    rename_i hc
    simp only [Bool.and_eq_true] at hc
    obtain ⟨⟨⟨d1, d2⟩, d3⟩, d4⟩ := hc
    have d1 := Nat.eq_of_beq_eq_true d1
    have d2 := Nat.eq_of_beq_eq_true d2
    have d3 := Nat.le_of_ble_eq_true d3
    have d4 := Nat.le_of_ble_eq_true d4
    subst d1; subst d2
    cases n with
    | zero =>
      cases hv
      have := run_append_fit (P := P) (w := w) (ty := ty) (b := none) (len := 0) (cap := 0) ht hi hzn hlen n1 rfl (by omega)
      exact ⟨_, w, φ, by simpa using this, Tr.refl h, .nilSlice 0 0⟩
    | succ n =>
      simp only [Option.map_eq_some_iff] at hv
      obtain ⟨⟨i, σ2⟩, hr, hv⟩ := hv
      simp only [Prod.mk.injEq] at hv
      obtain ⟨rfl, rfl⟩ := hv
      have hg := run_append_grows (P := P) (w := w) (ty := ty) (b := none) (len := 0) (cap := 0) (old := []) ht hi hz hb hzn hlen (by simp [Builtin.firstCells]) n3 (by omega) (by simpa using d3) (by simpa using d4)
      obtain ⟨φ1, t1, t2⟩ := newRowI_sound (hd.rel) n4 (by omega) hr (c' := #[] ++ newd.toArray ++ Builtin.zeroCells z.cells (grownCap w (0 + (n + 1)) 0 elem - (0 + (n + 1)))) (rest := (Builtin.zeroCells z.cells (grownCap w (0 + (n + 1)) 0 elem - (0 + (n + 1)))).toList) (by simp)
      have hge := grownCap_ge w (0 + (n + 1)) 0 elem
      have hsz := size_grown (old := []) (new := newd) (z := z) (size := size) (len := 0) (n := n + 1) (N := grownCap w (0 + (n + 1)) 0 elem) (by simp) (by omega) c1 hge
      simp only [Nat.zero_add] at hg t1 t2 hge hsz
      refine ⟨_, _, φ1, hg, hd.trans t1, ?_⟩
      refine .slice _ _ _ _ _ (SlR.of rfl rfl _ t2 rfl (fun e => (by cases e)) fun S zz sz e => ?_)
      cases e
      exact ⟨hge, fun _ => rfl, by simp only [Nat.zero_add]; rw [← hsz]; exact Nat.le_refl _⟩
  | slice a a' len c c' ha =>
    simp only at hv
    rw [Bool.cond_eq_ite] at hv
    split at hv
    rotate_left
    · cases hv
    rename_i hc
    simp only [Bool.and_eq_true] at hc
    obtain ⟨⟨d1, d3⟩, d4⟩ := hc
    have d1 := Nat.le_of_ble_eq_true d1
    have d3 := Nat.le_of_ble_eq_true d3
    have d4 := Nat.le_of_ble_eq_true d4
    have hcc := ha.le
    have hload : ∀ old, cellsAt gl σ a (len * size) = some old → ∃ old', (loadCells a' (len * size)).run P { w with drawn := w.drawn + 1 } = .ok old'.toArray { w with drawn := w.drawn + 1 } ∧ LR φ old old' ∧ old'.length = len * size := by
      intro old hold
      by_cases h0 : c' = 0
      · have hl0 : len = 0 := by omega
        subst hl0
        simp only [Nat.zero_mul, cellsAt, Option.some.injEq] at hold
        subst hold
        exact ⟨[], by simp [loadCells, loadCellsFrom], LR.nil φ, by simp⟩
      · exact run_loadCells (P := P) (h.drawn (w.drawn + 1)) (ha.addr' h0) hold
    cases n with
    | zero =>
      have hfit := run_append_fit (P := P) (w := w) (ty := ty) (b := some a') (len := len) (cap := c') ht hi hzn hlen n1 rfl (by omega)
      cases hv
      have e0 : new' = [] := by
        have : new'.length = 0 := by omega
        exact List.length_eq_zero_iff.1 this
      subst e0
      exact ⟨_, w, φ, by simpa [storeCells] using hfit, Tr.refl h, .slice _ _ _ _ _ ha⟩
    | succ n =>
      simp only at hv
      split at hv
      rotate_left
      · cases hv
      rename_i b hb2
      have grow : c' < len + (n + 1) → ∀ old, cellsAt gl σ a (len * size) = some old → ∀ σ0 i, Rel P gl φ σ0 w → ∀ fz mk, newRowI σ0 elem (old ++ new) size fz mk = some (i, σ1) →
          ∃ v' w1 φ1, (Builtin.append_ #[tS, tX] ty #[.slice (some a') len c', x']).run P w = .ok v' w1 ∧ Tr P gl φ σ0 w φ1 σ1 w1 ∧ VR φ1 (.slice (some ⟨i, 0, none⟩) (len + (n + 1)) (len + (n + 1))) v' := by
        intro hlt old hold σ0 i h0 fz mk hr
        obtain ⟨old', o1, o2, o3⟩ := hload old hold
        have hg := run_append_grows (P := P) (w := w) (ty := ty) (b := some a') (len := len) (cap := c') (old := old') ht hi hz hb hzn hlen (by simpa [Builtin.firstCells] using o1) n3 hlt d3 d4
        obtain ⟨φ1, t1, t2⟩ := newRowI_sound (h0.drawn (w.drawn + 1)) (o2.append n4) (by omega) hr (c' := old'.toArray ++ newd.toArray ++ Builtin.zeroCells z.cells (grownCap w (len + (n + 1)) c' elem - (len + (n + 1)))) (rest := (Builtin.zeroCells z.cells (grownCap w (len + (n + 1)) c' elem - (len + (n + 1)))).toList) (by simp)
        refine ⟨_, _, φ1, hg, (Tr.drawn h0 _).trans t1, ?_⟩
        have hge := grownCap_ge w (len + (n + 1)) c' elem
        have hsz := size_grown (old := old') (new := newd) (z := z) (size := size) (len := len) (n := n + 1) (N := grownCap w (len + (n + 1)) c' elem) o3 (by omega) c1 hge
        refine .slice _ _ _ _ _ (SlR.of rfl rfl _ t2 rfl (fun e => (by cases e)) fun S zz sz e => ?_)
        cases e
        exact ⟨hge, fun _ => rfl, by simp only [Nat.zero_add]; rw [← hsz]; exact Nat.le_refl _⟩
      have haa' : c' ≠ 0 → AR φ a a' := fun h0 => ha.addr' h0
      obtain ⟨p1, p2, r, p3, p4, p5, p6⟩ := ha
      obtain ⟨r', x0, q1, q2, q3⟩ := h.live _ _ hb2
      rw [p3] at q1; cases q1
      obtain ⟨cc, fz', rfl, q4, q5⟩ := q3
      split at hv
      · -- the room is known
        rename_i hez
        have hcap : r.cap = none := by
          cases hcp : r.cap with
          | none => rfl
          | some q => obtain ⟨S, zz, sz⟩ := q; simp only [hcp] at q5; omega
        have hcc' := (p5 hcap).2
        rw [Bool.cond_eq_ite] at hv
        split at hv
        · rename_i hroom
          have hroom := Nat.le_of_ble_eq_true hroom
          have hfit := run_append_fit (P := P) (w := w) (ty := ty) (b := some a') (len := len) (cap := c') ht hi hzn hlen n1 rfl (by omega)
          simp only [Option.map_eq_some_iff] at hv
          obtain ⟨σ2, hp, hv⟩ := hv
          simp only [Prod.mk.injEq] at hv
          obtain ⟨rfl, rfl⟩ := hv
          have haa := haa' (by omega)
          obtain ⟨w1, g1, g2⟩ := putCells_sound (P := P) h (haa.add (len * size)) n2 hp
          exact ⟨_, w1, φ, by simpa [g1] using hfit, g2, .slice _ _ _ _ _ ⟨p1, p2, r, p3, p4, p5, p6⟩⟩
        · rename_i hroom
          have hroom : c < len + (n + 1) := by
            rcases Nat.lt_or_ge c (len + (n + 1)) with e | e
            · exact e
            · exact absurd (Nat.ble_eq_true_of_le e) hroom
          simp only [Option.bind_eq_some_iff, Option.map_eq_some_iff] at hv
          obtain ⟨old, hold, ⟨i, σ2⟩, hr, hv⟩ := hv
          simp only [Prod.mk.injEq] at hv
          obtain ⟨rfl, rfl⟩ := hv
          exact grow (by omega) old hold σ i h _ _ hr
      · -- the room is not known
        rename_i m hez
        simp only [Option.bind_eq_some_iff] at hv
        obtain ⟨old, hold, hv⟩ := hv
        have hol := cellsAt_length _ _ _ hold
        obtain ⟨old', o1, o2, o3⟩ := hload old hold
        rw [Bool.cond_eq_ite] at hv
        split at hv
        rotate_left
        · cases hv
        rename_i hcn
        simp only [Bool.and_eq_true, Bool.or_eq_true] at hcn
        obtain ⟨⟨⟨⟨⟨⟨g1, g2⟩, g3⟩, g4⟩, g5⟩, g6⟩, g7⟩ := hcn
        have g2 := Nat.eq_of_beq_eq_true g2
        have g5 := Nat.eq_of_beq_eq_true g5
        have g7 := Nat.le_of_ble_eq_true g7
        have g6 := Nat.le_of_ble_eq_true g6
        simp only [Option.map_eq_some_iff] at hv
        obtain ⟨⟨i, σ2⟩, hr, hv⟩ := hv
        simp only [Prod.mk.injEq] at hv
        obtain ⟨rfl, rfl⟩ := hv
        have hkill := Tr.kill h (i := a.block) (by unfold most at *; omega)
        by_cases hfits : len + (n + 1) ≤ c'
        · -- in place
          have p2 := p2 (by omega)
          have p4 := p4 (by omega)
          obtain ⟨S, sz, hcap⟩ : ∃ S sz, r.cap = some (S, size, sz) := by
            cases hcp : r.cap with
            | none => simp only [hcp] at q5; omega
            | some q => obtain ⟨S, zz, sz⟩ := q; simp only [hcp] at q5; exact ⟨S, sz, by rw [← g2, q5.2.1]⟩
          simp only [hcap] at q5
          obtain ⟨s1, s2, s3, s4, s5⟩ := q5
          obtain ⟨u1, u2, u3⟩ := p6 S size sz hcap
          have hoff : a'.off = sz + a.off := u2 (by omega)
          have hbd : a'.off + (len + (n + 1)) * size ≤ S := Nat.le_trans (Nat.add_le_add_left (Nat.mul_le_mul_right _ hfits) _) u3
          have hfit := run_append_fit (P := P) (w := w) (ty := ty) (b := some a') (len := len) (cap := c') ht hi hzn hlen n1 rfl hfits
          have haa := haa' (by omega)
          have hadd := add_off a' (len * size)
          have hmul : (len + (n + 1)) * size = len * size + (n + 1) * size := Nat.add_mul _ _ _
          obtain ⟨cc2, k1, k2, k3⟩ := storeCells_run (P := P) new' 0 w (a := a'.add (len * size)) (c := cc) (e := b.elem) (fz := fz') (by rw [hadd.2.1, p4]; exact q2) (hadd.2.2 p2)
            (by rw [hadd.1]; omega) (all_single n2 g4) (fun k j1 j2 ⟨j3, j4⟩ => by
              rw [hadd.1] at j1 j2
              rcases s4 with s4 | s4 | ⟨_, s4⟩
              · omega
              · rcases g1 with g1 | g1
                · have g1 := Nat.eq_of_beq_eq_true g1; omega
                · have g1 := Nat.eq_of_beq_eq_true g1; omega
              · omega)
          rw [hadd.2.1, p4] at k1
          rw [hadd.1] at k3
          have hlt : r.blk < w.heap.size := h.bound _ _ p3
          unfold newRowI at hr
          rw [Bool.cond_eq_ite] at hr
          split at hr
          rotate_left
          · cases hr
          rename_i hrm
          cases hr
          have hrm := Nat.le_of_ble_eq_true hrm
          have hwr : (LObj.row b).writable = true := by simpa [LObj.writable] using g3
          have hle : φ.le (φ.set σ.next ⟨r.blk, some (S, size, a'.off)⟩) := Phi.le_set (h.fresh _ (Nat.le_refl _)) _
          have hself : (φ.set σ.next ⟨r.blk, some (S, size, a'.off)⟩) σ.next = some ⟨r.blk, some (S, size, a'.off)⟩ := by simp [Phi.set]
          have hnx : σ.next < most := by unfold most at *; simp only [LS.upd] at hrm; omega
          have hab : a.block < most := by unfold most at *; omega
          have hget : ∀ j, ((σ.upd a.block none).add (.row ⟨old ++ new, elem, b.fz, size, false, cond (Nat.beq a.off 0) b.tail true⟩)).heap.get j = if σ.next = j then some (.row ⟨old ++ new, elem, b.fz, size, false, cond (Nat.beq a.off 0) b.tail true⟩) else if a.block = j then none else σ.heap.get j := by
            intro j
            have q1 := LS.get_add (σ := σ.upd a.block none) (o := .row ⟨old ++ new, elem, b.fz, size, false, cond (Nat.beq a.off 0) b.tail true⟩) (j := j) hnx
            have q2 := LS.get_upd (σ := σ) (o := none) (j := j) hab
            by_cases e : σ.next = j
            · rw [if_pos e, q1]; exact if_pos e
            · rw [if_neg e, q1, ← q2]; exact if_neg e
          have hheap : ∀ bb, bb ≠ r.blk → (w.heap.setIfInBounds r.blk (Obj.cells cc2 b.elem fz'))[bb]? = w.heap[bb]? := fun bb hbb => Array.getElem?_setIfInBounds_ne (h := fun e => hbb e.symm)
          have hO : ObjR (φ.set σ.next ⟨r.blk, some (S, size, a'.off)⟩) (.row ⟨old ++ new, elem, b.fz, size, false, cond (Nat.beq a.off 0) b.tail true⟩) ⟨r.blk, some (S, size, a'.off)⟩ (.cells cc2 b.elem fz') := by
            refine ⟨cc2, fz', by rw [g5], fun k v hk => ?_, ?_⟩
            · rw [show ({ blk := r.blk, cap := some (S, size, a'.off) } : RB).sh = a'.off from rfl, k3 (a'.off + k)]
              simp only at hk
              by_cases e1 : k < len * size
              · rw [if_neg (by omega)]
                rw [List.getElem?_append_left (by omega)] at hk
                obtain ⟨v', y1, y2⟩ := o2.get hk
                have hcell : cellAt gl σ (a.add k) = some v := by
                  exact cellsAt_get _ _ _ hold _ _ hk
                obtain ⟨v2, y3, y4⟩ := cellAt_sound h (haa.add k) hcell
                have ha2 := add_off a' k
                rw [World.cell?] at y3
                rw [ha2.2.1, p4, q2] at y3
                simp only [ha2.2.2 p2, ha2.1] at y3
                exact ⟨v2, by simpa using y3, y4.mono hle⟩
              · have hk2 : k < len * size + (n + 1) * size := by
                  have := (List.getElem?_eq_some_iff.1 hk).1
                  simp at this; omega
                rw [if_pos (by omega)]
                rw [List.getElem?_append_right (by omega), hol] at hk
                obtain ⟨v', y1, y2⟩ := n2.get hk
                exact ⟨v', by rw [show a'.off + k - (a'.off + len * size + 0) = k - len * size by omega]; exact y1, y2.mono hle⟩
            · show cc2.size = S ∧ size = size ∧ 0 < size ∧ _
              refine ⟨by rw [k2, s1], rfl, by omega, ?_, fun ht => ?_⟩
              rotate_left
              · have ht : cond (Nat.beq a.off 0) b.tail true = false := ht
                cases e0 : Nat.beq a.off 0 with
                | false => rw [e0] at ht; cases ht
                | true =>
                  rw [e0] at ht
                  have := s5 ht
                  have := Nat.eq_of_beq_eq_true e0
                  show a'.off = 0
                  omega
              rcases s4 with s4 | s4 | s4
              · exact .inl s4
              · rcases g1 with g1 | g1
                · have g1 := Nat.eq_of_beq_eq_true g1
                  exact .inr (.inl ⟨by show a'.off + b.fz.1 ≤ _; omega, s4.2.1, by show _ ≤ a'.off + b.fz.2; omega, by show b.fz.2 ≤ (old ++ new).length; rw [List.length_append]; omega⟩)
                · have g1 := Nat.eq_of_beq_eq_true g1; omega
              · exact .inr (.inr ⟨by show cond (Nat.beq a.off 0) b.tail true = true; rw [s4.1]; cases Nat.beq a.off 0 <;> rfl, s4.2⟩)
          have t1 := Tr.rebase (r' := ⟨r.blk, some (S, size, a'.off)⟩) (w1 := { w with heap := w.heap.setIfInBounds r.blk (.cells cc2 b.elem fz') }) (σ2 := (σ.upd a.block none).add (.row ⟨old ++ new, elem, b.fz, size, false, cond (Nat.beq a.off 0) b.tail true⟩)) h hb2 hwr rfl rfl p3 rfl (by simp [hlt]) hO hheap (by simp) rfl rfl rfl hget rfl
          refine ⟨_, { w with heap := w.heap.setIfInBounds r.blk (.cells cc2 b.elem fz') }, φ.set σ.next ⟨r.blk, some (S, size, a'.off)⟩, hfit.trans (by simp only [k1]; rfl), t1, ?_⟩
          · refine .slice _ _ _ _ _ (SlR.of rfl p2 _ hself p4 (fun e => (by cases e)) fun S' zz sz e => ?_)
            cases e
            exact ⟨hfits, fun _ => rfl, u3⟩
        · obtain ⟨v', w1, φ1, y1, y2, y3⟩ := grow (by omega) old hold _ i hkill.rel _ _ hr
          exact ⟨v', w1, φ1, y1, hkill.trans y2, y3⟩
  | _ => simp at hv
end
end Go.Proofs.YtpckfdopokmbkaaGreatDoor.Ev

namespace Go.Proofs.YtpckfdopokmbkaaGreatDoor.Ev
open Go
open Go.RowKit

section
variable {P : Program} {gl : Gl} {φ : Phi} {σ σ1 : LS} {w : World}

/-! ### Operations that make one block, and ask nothing of memory -/
def NewS (P : Program) (φ : Phi) (s : Sem Value) (o : LObj) (mk : Nat → Value) : Prop :=
  (o.writable && o.plain) = true ∧ ∀ w : World, ∃ x v', s.run P w = .ok v' (w.alloc x) ∧ ∀ φ' : Phi, φ.le φ' → ∀ i, φ' i = some ⟨w.heap.size, none⟩ → ObjR φ' o ⟨w.heap.size, none⟩ x ∧ VR φ' (mk i) v'

def sliceTo (n c : Nat) (i : Nat) : Value := .slice (some ⟨i, 0, none⟩) n c
def mapTo (i : Nat) : Value := .map (some i)
def rowOf (elem : TypeId) (l : List Value) : LObj := .row ⟨l, elem, (0, 0), 0, false, false⟩

theorem rowOf_R {φ' : Phi} {l l' : List Value} (hl : LR φ' l l') (e : TypeId) (n : Nat) : ObjR φ' (rowOf e l) ⟨n, none⟩ (.cells l'.toArray e) :=
  ⟨l'.toArray, (0, 0), rfl, fun k v hk => by obtain ⟨v', e1, e2⟩ := hl.get hk; exact ⟨v', by rw [RB.sh0 rfl, Nat.zero_add]; simpa using e1, e2⟩, by simp [hl.1], rfl, rfl⟩
theorem ptrTo_R {φ' : Phi} {i n : Nat} (h : φ' i = some ⟨n, none⟩) : VR φ' (ptrTo i) (.pointer (some ⟨n, 0, none⟩)) := .ptr _ _ ⟨rfl, rfl, _, h, rfl, rfl⟩
theorem sliceTo_R {φ' : Phi} {i n : Nat} (h : φ' i = some ⟨n, none⟩) (l c : Nat) : VR φ' (sliceTo l c i) (.slice (some ⟨n, 0, none⟩) l c) :=
  .slice _ _ _ _ _ (SlR.of rfl rfl _ h rfl (fun _ => ⟨rfl, rfl⟩) fun _ _ _ hh => (by cases hh))

def nwAlloc (P : Program) (elem : TypeId) : Option (LObj × (Nat → Value)) :=
  (zeroP P elem).bind fun z => cond (af 8 z) (some (rowOf elem z.cells.toList, ptrTo)) none
theorem nwAlloc_sound {e : TypeId} {o : LObj} {mk : Nat → Value} (h : nwAlloc P e = some (o, mk)) : NewS P φ (Instr.alloc e true (.tuple #[])) o mk := by
  unfold nwAlloc at h
  simp only [Option.bind_eq_some_iff] at h
  obtain ⟨z, hz, h⟩ := h
  rw [Bool.cond_eq_ite] at h
  split at h
  · rename_i hc
    cases h
    refine ⟨rfl, fun w => ⟨.cells z.cells e, _, by simp [Instr.alloc, newVar, run_newRow, run_zeroValue hz], fun φ' _ i hi => ⟨?_, ptrTo_R hi⟩⟩⟩
    simpa using rowOf_R (VR.af_refl (φ := φ') 8 hc).cells e w.heap.size
  · cases h

def nwBox (elem : TypeId) (v : Value) : Option (LObj × (Nat → Value)) := some (rowOf elem v.cells.toList, ptrTo)
theorem nwBox_sound {e : TypeId} {v v' : Value} (hv : VR φ v v') {o : LObj} {mk : Nat → Value} (h : nwBox e v = some (o, mk)) : NewS P φ (Instr.box e v') o mk := by
  cases h
  refine ⟨rfl, fun w => ⟨.cells v'.cells e, _, by simp [Instr.box, newVar, run_newRow], fun φ' hle i hi => ⟨?_, ptrTo_R hi⟩⟩⟩
  simpa using rowOf_R (hv.mono hle).cells e w.heap.size

def nwBuildSlice (P : Program) (t : TypeId) (len : Nat) (parts : List (Nat × Value)) : Option (LObj × (Nat → Value)) :=
  match P.underlying t with
  | some (.slice elem) => (sizeP P elem).bind fun s => (zeroP P elem).bind fun z =>
    cond (Nat.ble (len * s) 16777216 && z.cells.toList.all (af 8) && Nat.beq z.cells.toList.length s) ((fillL (fun i => some (i * s, s)) (repl len z.cells.toList) parts).map fun l => (rowOf elem l, sliceTo len len)) none
  | _ => none
theorem PaR.mono {φ' : Phi} (h : φ.le φ') {ps ps' : List (Nat × Value)} (hp : PaR φ ps ps') : PaR φ' ps ps' := ⟨hp.1, fun i p p' h1 h2 => let ⟨a, b⟩ := hp.2 i p p' h1 h2; ⟨a, b.mono h⟩⟩

theorem fillL_same {place : Nat → Option (Nat × Nat)} {cells' : Array Value} {parts' : List (Nat × Value)} {r r' : Array Value} (h : Instr.fill place cells' parts' = some r) (h' : Instr.fill place cells' parts' = some r') : r = r' := by
  rw [h] at h'; cases h'; rfl

theorem nwBuildSlice_sound {t : TypeId} {len : Nat} {ps : List (Nat × Value)} {ps' : Array (Nat × Value)} (hp : PaR φ ps ps'.toList) {o : LObj} {mk : Nat → Value} (hv : nwBuildSlice P t len ps = some (o, mk)) :
    NewS P φ (Instr.buildSlice t len ps') o mk := by
  unfold nwBuildSlice at hv
  split at hv
  · rename_i elem hu
    simp only [Option.bind_eq_some_iff] at hv
    obtain ⟨s, hs, z, hz, hv⟩ := hv
    rw [Bool.cond_eq_ite] at hv
    split at hv
    · rename_i hc
      simp only [Bool.and_eq_true] at hc
      have c1 := Nat.le_of_ble_eq_true hc.1.1
      have c3 := Nat.eq_of_beq_eq_true hc.2
      simp only [Option.map_eq_some_iff] at hv
      obtain ⟨l, hl, hv⟩ := hv
      cases hv
      have hzs : z.cells.size = s := by simpa using c3
      have hinit : ((Array.range (len * s)).map fun i => z.cells[i % z.cells.size]!).toList = repl len z.cells.toList := by rw [← hzs]; exact repl_eq _ _
      obtain ⟨r', e1, _⟩ := fillL_sound ps ps'.toList hp.1 hp.2 _ ((Array.range (len * s)).map fun i => z.cells[i % z.cells.size]!)
        (by rw [hinit]; exact LR.af_refl (φ := φ) (repl_af hc.1.2)) l hl
      refine ⟨rfl, fun w => ⟨.cells r' elem, .slice (some ⟨w.heap.size, 0, none⟩) len len, ?_, fun φ' hle i hi => ⟨?_, sliceTo_R hi _ _⟩⟩⟩
      · have hgt : ¬ (len * s > 2 ^ 24) := by omega
        simp only [Instr.buildSlice, Sem.run_bind, run_underlying hu, Result.andThen_ok, run_sizeOf hs, if_neg hgt]
        by_cases h0 : len * s = 0
        · have ea : ∀ f g : Nat → Value, (Array.range 0).map f = (Array.range 0).map g := by intro f g; simp
          simp only [h0, if_true, pure_bind]
          rw [h0] at e1
          rw [ea _ (fun i => z.cells[i % z.cells.size]!), e1]
          simp [run_newRow]
        · simp only [h0, if_false, Sem.run_bind, run_zeroValue hz, Result.andThen_ok, Sem.run_pure]
          rw [e1]
          simp [run_newRow]
      · obtain ⟨r2, e3, e4⟩ := fillL_sound ps ps'.toList hp.1 (hp.mono hle).2 _ ((Array.range (len * s)).map fun i => z.cells[i % z.cells.size]!)
          (by rw [hinit]; exact LR.af_refl (φ := φ') (repl_af hc.1.2)) l hl
        have := fillL_same e1 e3; subst this
        simpa using rowOf_R e4 elem w.heap.size
    · cases hv
  · cases hv

def natOf : Value → Option Nat
  | .int _ n => cond (decide (0 ≤ n)) (some n.toNat) none
  | _ => none

def nwMakeSlice (P : Program) (t : TypeId) (len cap : Value) : Option (LObj × (Nat → Value)) :=
  match P.underlying t with
  | some (.slice elem) => (sizeP P elem).bind fun s => (zeroP P elem).bind fun z => (bytesP P elem).bind fun b => (natOf len).bind fun l => (natOf cap).bind fun c =>
    cond (Nat.ble l c && Nat.ble c 1099511627776 && Nat.ble (b * c) 140737488355328 && z.cells.toList.all (af 8) && Nat.beq z.cells.toList.length s) (some (rowOf elem (repl c z.cells.toList), sliceTo l c)) none
  | _ => none

theorem natOf_sound {v v' : Value} (h : VR φ v v') {n : Nat} (hn : natOf v = some n) : ∃ k : IntKind, v' = .int k (n : Int) := by
  cases h <;> simp [natOf, Bool.cond_eq_ite] at hn
  rename_i k m
  obtain ⟨h1, rfl⟩ := hn
  exact ⟨k, by rw [Int.toNat_of_nonneg h1]⟩

theorem nwMakeSlice_sound {t : TypeId} {len cap len' cap' : Value} (hl : VR φ len len') (hc : VR φ cap cap') {o : LObj} {mk : Nat → Value} (hv : nwMakeSlice P t len cap = some (o, mk)) :
    NewS P φ (Instr.makeSlice t len' cap') o mk := by
  unfold nwMakeSlice at hv
  split at hv
  · rename_i elem hu
    simp only [Option.bind_eq_some_iff] at hv
    obtain ⟨s, hs, z, hz, b, hb, l, hl2, c, hc2, hv⟩ := hv
    rw [Bool.cond_eq_ite] at hv
    split at hv
    · rename_i hcn
      simp only [Bool.and_eq_true] at hcn
      obtain ⟨⟨⟨⟨g1, g2⟩, g3⟩, g4⟩, g5⟩ := hcn
      have g1 := Nat.le_of_ble_eq_true g1
      have g2 := Nat.le_of_ble_eq_true g2
      have g3 := Nat.le_of_ble_eq_true g3
      have g5 := Nat.eq_of_beq_eq_true g5
      cases hv
      obtain ⟨k1, rfl⟩ := natOf_sound hl hl2
      obtain ⟨k2, rfl⟩ := natOf_sound hc hc2
      simp only [bytesP, Option.map_eq_some_iff] at hb
      obtain ⟨i, hi2, rfl⟩ := hb
      have hw : ∀ n : Nat, n ≤ 1099511627776 → IntKind.i64.wrap (n : Int) = n := by
        intro n hn
        simp [IntKind.wrap, IntKind.bits, IntKind.signed]
        omega
      have hzs : z.cells.size = s := by simpa using g5
      refine ⟨rfl, fun w => ⟨.cells ((Array.range (c * s)).map fun i => z.cells[i % z.cells.size]!) elem, .slice (some ⟨w.heap.size, 0, none⟩) l c, ?_, fun φ' _ j hj => ⟨?_, sliceTo_R hj _ _⟩⟩⟩
      · have t1 : ¬ ((c : Int) < 0 ∨ (i.bytes : Int) * c > 2 ^ 48) := by
          have : ((i.bytes * c : Nat) : Int) ≤ 140737488355328 := by omega
          simp at this ⊢; omega
        have t2 : ¬ ((l : Int) < 0) := by omega
        have t3 : ¬ ((l : Int) > c) := by omega
        have t4 : ¬ (281474976710656 < (i.bytes : Int) * c) := by simp at t1; omega
        have t5 : ¬ ((c : Int) < 0) := by omega
        have t6 : ¬ ((c : Int) < l) := by omega
        have hgo : ∀ z0 : Array Value, (c * s = 0 → z0 = #[]) → (c * s ≠ 0 → z0 = z.cells) → (Array.range (c * s)).map (fun i => z0[i % z0.size]!) = (Array.range (c * s)).map fun i => z.cells[i % z.cells.size]! := by
          intro z0 h1 h2
          by_cases h0 : c * s = 0
          · rw [h0]; simp
          · rw [h2 h0]
        have w1 := hw l (by omega)
        have w2 := hw c g2
        by_cases h0 : c * s = 0
        · have := hgo #[] (fun _ => rfl) (fun h => absurd h0 h)
          simp [Instr.makeSlice, run_underlying hu, asInt, asIntOf, w1, w2, run_typeInfo hi2, run_sizeOf hs, t2, t4, t5, t6, askRoom, mark, Sem.run, h0, run_newRow]
          have ea : ∀ f g : Nat → Value, (Array.range 0).map f = (Array.range 0).map g := by intro f g; simp
          rw [ea]
        · simp [Instr.makeSlice, run_underlying hu, asInt, asIntOf, w1, w2, run_typeInfo hi2, run_sizeOf hs, t2, t4, t5, t6, askRoom, mark, Sem.run, h0, run_zeroValue hz]
          rw [run_newRow]; rfl
      · have e : ((Array.range (c * s)).map fun i => z.cells[i % z.cells.size]!) = (repl c z.cells.toList).toArray := by
          apply Array.ext'; rw [← hzs]; simpa using repl_eq c z.cells
        rw [e]
        exact rowOf_R (LR.af_refl (repl_af g4)) elem w.heap.size
    · cases hv
  · cases hv

def nwMakeMap (P : Program) (t : TypeId) (r : Option Value) : Option (LObj × (Nat → Value)) :=
  match r with
  | none => some (.map [] 0, mapTo)
  | some v => (match P.underlying t, v with
    | some (.map _ _), .int _ _ => some (.map [] 0, mapTo)
    | _, _ => none)
end
end Go.Proofs.YtpckfdopokmbkaaGreatDoor.Ev

namespace Go.Proofs.YtpckfdopokmbkaaGreatDoor.Ev
open Go
open Go.RowKit

section
variable {P : Program} {gl : Gl} {φ : Phi} {σ σ1 : LS} {w : World}

/-! ### Operators -/
/-- Two values that bear addresses: are they one? -/
def eqAddr (P : Program) (t : TypeId) (x y : Value) : Option Bool :=
  match P.underlying t, x, y with
  | some (.pointer elem), .pointer (some a), .pointer (some b) => (sizeP P elem).bind fun s =>
    cond (!Nat.beq s 0 && Nat.beq a.block b.block && a.spot.isNone && b.spot.isNone) (some (Nat.beq a.off b.off)) none
  | some (.pointer _), .pointer none, .pointer b => some b.isNone
  | some (.pointer _), .pointer (some _), .pointer none => some false
  | some (.slice _), .slice none _ _, .slice b _ _ => some b.isNone
  | some (.slice _), .slice (some _) _ _, .slice none _ _ => some false
  | some (.map _ _), .map none, .map b => some b.isNone
  | some (.map _ _), .map (some _), .map none => some false
  | some (.func _ _ _), .nilFunc, .func _ _ _ => some false
  | some (.func _ _ _), .func _ _ _, .nilFunc => some false
  | some (.interface _), .nilIface, .iface _ _ => some false
  | some (.interface _), .iface _ _, .nilIface => some false
  | _, _, _ => none

theorem equalIn_addr (d : Nat) {t : TypeId} {x x' y y' : Value} (hx : VR φ x x') (hy : VR φ y y') {b : Bool} (h : eqAddr P t x y = some b) : (Op.equalIn (d + 1) t x' y').run P w = .ok b w := by
  unfold eqAddr at h
  split at h
  · rename_i elem a c hu
    cases hx with
    | ptr _ a' ha =>
      cases hy with
      | ptr _ c' hc =>
        simp only [Option.bind_eq_some_iff] at h
        obtain ⟨s, hs, h⟩ := h
        rw [Bool.cond_eq_ite] at h
        split at h
        · rename_i hcn
          simp only [Bool.and_eq_true, Bool.not_eq_true'] at hcn
          obtain ⟨⟨⟨g1, g2⟩, _⟩, _⟩ := hcn
          have g1 := Nat.ne_of_beq_eq_false g1
          have g2 := Nat.eq_of_beq_eq_true g2
          cases h
          obtain ⟨a1, a2, r, a4, a5, a3⟩ := ha
          obtain ⟨c1, c2, r2, c4, c5, c3⟩ := hc
          rw [g2, c4] at a4; cases a4
          have hb : a'.block = c'.block := by rw [a5, c5]
          have he : (a' == c') = Nat.beq a.off c.off := by
            obtain ⟨ab, ao, asp⟩ := a'
            obtain ⟨cb, co, csp⟩ := c'
            simp only at a2 a3 a5 c2 c3 c5
            subst a2; subst c2; subst a5; subst c5; subst a3; subst c3
            cases hq : Nat.beq a.off c.off
            · have := Nat.ne_of_beq_eq_false hq; simp [this]
            · have := Nat.eq_of_beq_eq_true hq; simp [this]
          simp [Op.equalIn, run_underlying hu, run_sizeOf hs, g1, sameAddr, hb, he]
        · cases h
  all_goals (try cases h) <;> (rename_i hu) <;> (try cases hx) <;> (try cases hy) <;> simp [Op.equalIn, run_underlying hu]

theorem eqAddr_sound {t : TypeId} {x x' y y' : Value} (hx : VR φ x x') (hy : VR φ y y') {b : Bool} (h : eqAddr P t x y = some b) : (Op.equal t x' y').run P w = .ok b w :=
  equalIn_addr 9999 hx hy h

/-- Values without addresses. -/
def exPure (P : Program) (s : Sem Value) : Option Value := (runP P s).bind fun v => cond (af 8 v) (some v) none
theorem exPure_sound {s : Sem Value} {v : Value} (h : exPure P s = some v) (w : World) : s.run P w = .ok v w ∧ VR φ v v := by
  unfold exPure at h
  simp only [Option.bind_eq_some_iff] at h
  obtain ⟨u, h1, h2⟩ := h
  rw [Bool.cond_eq_ite] at h2
  split at h2
  · rename_i hc; cases h2; exact ⟨runP_sound s h1 w, VR.af_refl 8 hc⟩
  · cases h2

/-- A number that is not known. -/
def addTok (x y : Value) : Option Value := match x, y with
  | .chan (some 1), .chan (some 1) => some (.chan (some 1))
  | .int .i64 _, .chan (some 1) => some (.chan (some 1))
  | _, _ => none
theorem addTok_sound {t : TypeId} {ox oy : Operand} {x x' y y' v : Value} (hx : VR φ x x') (hy : VR φ y y') (h : addTok x y = some v) : ∃ v', (do eqGuard .add t ox oy x' y'; binOp .add t x' y' : Sem Value).run P w = .ok v' w ∧ VR φ v v' := by
  have key : ∀ a b : Int, ∃ v', (do eqGuard .add t ox oy (.int .i64 a) (.int .i64 b); binOp .add t (.int .i64 a) (.int .i64 b) : Sem Value).run P w = .ok v' w ∧ VR φ (.chan (some 1)) v' := fun a b => ⟨_, rfl, .tok 1 _ trivial⟩
  unfold addTok at h
  split at h
  · cases h
    cases hx with | tok _ _ h1 => cases hy with | tok _ _ h2 =>
      rcases tokOK_iff h1 with ⟨e, _⟩ | ⟨_, a, rfl⟩ | ⟨e, _⟩
      · cases e
      · rcases tokOK_iff h2 with ⟨e, _⟩ | ⟨_, b, rfl⟩ | ⟨e, _⟩
        · cases e
        · exact key a b
        · cases e
      · cases e
  · cases h
    cases hx with | int k n => cases hy with | tok _ _ h2 =>
      rcases tokOK_iff h2 with ⟨e, _⟩ | ⟨_, b, rfl⟩ | ⟨e, _⟩
      · cases e
      · exact key _ b
      · cases e
  · cases h
def exBin (P : Program) (op : BinOp) (t : TypeId) (ox oy : Operand) (x y : Value) : Option Value :=
  cond (af 8 x && af 8 y) (exPure P (do eqGuard op t ox oy x y; binOp op t x y)) (match op with
    | .eql => (eqAddr P t x y).map .bool
    | .neq => (eqAddr P t x y).map fun b => .bool (!b)
    | .add => addTok x y
    | _ => none)

theorem eqGuard_quiet {op : BinOp} (ho : op = .eql ∨ op = .neq) {t : TypeId} {ox oy : Operand} {x y : Value} (h : ¬ (x = .nilIface ∧ y = .nilIface)) (h2 : ∀ a b, ¬ (x = .agg a ∧ y = .agg b)) : (eqGuard op t ox oy x y).run P w = .ok () w := by
  unfold eqGuard
  rcases ho with rfl | rfl
  all_goals
    simp only [Bool.not_true, Bool.false_eq_true, if_false]
    split
    · exact absurd ⟨rfl, rfl⟩ h
    · exact absurd ⟨rfl, rfl⟩ (h2 _ _)
    · rfl

theorem eqAddr_shape {t : TypeId} {x x' y y' : Value} (hx : VR φ x x') (hy : VR φ y y') {b : Bool} (h : eqAddr P t x y = some b) (hn : (af 8 x && af 8 y) = false) (op : BinOp) (ox oy : Operand) (ho : op = .eql ∨ op = .neq) :
    (eqGuard op t ox oy x' y').run P w = .ok () w ∧ (binOp op t x' y').run P w = .ok (.bool (match op with | .eql => b | _ => !b)) w := by
  have he := eqAddr_sound (P := P) (w := w) hx hy h
  unfold eqAddr at h
  split at h <;> (try cases h) <;> cases hx <;> cases hy <;>
    (refine ⟨eqGuard_quiet ho (by simp) (by simp), ?_⟩) <;> (rcases ho with rfl | rfl) <;> simp [binOp, he]

theorem exBin_sound {op : BinOp} {t : TypeId} {ox oy : Operand} {x x' y y' : Value} (hx : VR φ x x') (hy : VR φ y y') {v : Value} (h : exBin P op t ox oy x y = some v) :
    ∃ v', (do eqGuard op t ox oy x' y'; binOp op t x' y' : Sem Value).run P w = .ok v' w ∧ VR φ v v' := by
  unfold exBin at h
  rw [Bool.cond_eq_ite] at h
  split at h
  · rename_i hc
    simp only [Bool.and_eq_true] at hc
    have e1 := VR.of_af 8 hc.1 hx
    have e2 := VR.of_af 8 hc.2 hy
    subst e1; subst e2
    exact ⟨v, exPure_sound h w⟩
  · rename_i hc
    have hc : (af 8 x && af 8 y) = false := by simpa using hc
    have ho : op = .eql ∨ op = .neq ∨ op = .add := by cases op <;> simp_all
    rcases ho with rfl | rfl | rfl
    rotate_right
    · exact addTok_sound hx hy h
    · simp only [Option.map_eq_some_iff] at h
      obtain ⟨b, hb, rfl⟩ := h
      obtain ⟨g1, g2⟩ := eqAddr_shape (P := P) (w := w) hx hy hb hc .eql ox oy (Or.inl rfl)
      exact ⟨.bool b, by simp only [Sem.run_bind, g1, Result.andThen_ok, g2], .bool b⟩
    · simp only [Option.map_eq_some_iff] at h
      obtain ⟨b, hb, rfl⟩ := h
      obtain ⟨g1, g2⟩ := eqAddr_shape (P := P) (w := w) hx hy hb hc .neq ox oy (Or.inr rfl)
      exact ⟨.bool (!b), by simp only [Sem.run_bind, g1, Result.andThen_ok, g2], .bool (!b)⟩

/-! ### Lengths -/
def mapLen (σ : LS) (i : Nat) : Option Nat :=
  match σ.heap.get i with
  | some (.map es _) => some es.length
  | _ => none
def exLen (P : Program) (σ : LS) (t : TypeId) (x : Value) : Option Value :=
  match P.underlying t, x with
  | some .string, .string s => some (goInt s.size)
  | some (.array n _), _ => some (goInt n)
  | some (.pointer arr), _ => (match P.underlying arr with | some (.array n _) => some (goInt n) | _ => none)
  | some (.slice _), .slice _ n _ => some (goInt n)
  | some (.slice _), .chan (some 0) => some (.chan (some 1))
  | some (.map _ _), .map none => some (goInt 0)
  | some (.map _ _), .map (some i) => (mapLen σ i).map fun n => goInt n
  | _, _ => none

theorem exLen_sound (h : Rel P gl φ σ w) {t ty : TypeId} {x x' v : Value} (hx : VR φ x x') (hv : exLen P σ t x = some v) (ts : Array TypeId) (ht : ts[0]? = some t) :
    ∃ v', (Builtin.len_ ts ty #[x']).run P w = .ok v' w ∧ VR φ v v' := by
  unfold exLen at hv
  split at hv
  · rename_i s hu; cases hv; cases hx; exact ⟨_, by simp [Builtin.len_, ht, run_underlying hu, goInt], .int _ _⟩
  · rename_i n e hu; cases hv; refine ⟨_, ?_, .int _ _⟩; simp [Builtin.len_, ht, run_underlying hu, goInt]
  · rename_i arr hu
    split at hv
    · rename_i n e hu2; cases hv; refine ⟨_, ?_, .int _ _⟩; simp [Builtin.len_, ht, run_underlying hu, run_underlying hu2, goInt]
    · cases hv
  · rename_i e a n c hu; cases hv; cases hx <;> exact ⟨_, by simp [Builtin.len_, ht, run_underlying hu, goInt], .int _ _⟩
  · rename_i e hu
    cases hv
    cases hx with | tok _ _ h1 =>
      rcases tokOK_iff h1 with ⟨_, a, n, c, rfl⟩ | ⟨e, _⟩ | ⟨e, _⟩
      · exact ⟨goInt n, by simp [Builtin.len_, ht, run_underlying hu, goInt], .tok 1 (goInt n) trivial⟩
      · cases e
      · cases e
  · rename_i k e hu; cases hv; cases hx; exact ⟨_, by simp [Builtin.len_, ht, run_underlying hu, goInt], .int _ _⟩
  · rename_i k e i hu
    simp only [Option.map_eq_some_iff] at hv
    obtain ⟨n, hn, rfl⟩ := hv
    cases hx with
    | map _ r hr =>
      unfold mapLen at hn
      split at hn
      · rename_i es cl hg
        cases hn
        obtain ⟨r', x0, g1, g2, g3⟩ := h.live _ _ hg
        rw [hr] at g1; cases g1
        obtain ⟨_, es', rfl, g4, _⟩ := g3
        refine ⟨_, ?_, .int _ _⟩
        have : es'.size = es.length := by simpa using g4
        simp [Builtin.len_, ht, run_underlying hu, getObj, Sem.run, g2, this, goInt]
      · cases hn
  · cases hv

def exCap (P : Program) (σ : LS) (t : TypeId) (x : Value) : Option Value :=
  match P.underlying t, x with
  | some (.slice _), .slice none _ c => some (goInt c)
  | some (.slice _), .slice (some a) _ c => (eszOf σ a.block).bind fun z => cond (Nat.beq z 0) (some (goInt c)) none
  | _, _ => none
theorem exCap_sound (h : Rel P gl φ σ w) {t ty : TypeId} {x x' v : Value} (hx : VR φ x x') (hv : exCap P σ t x = some v) (ts : Array TypeId) (ht : ts[0]? = some t) :
    ∃ v', (Builtin.cap_ ts ty #[x']).run P w = .ok v' w ∧ VR φ v v' := by
  unfold exCap at hv
  split at hv
  · rename_i e n c hu; cases hv; cases hx; exact ⟨_, by simp [Builtin.cap_, ht, run_underlying hu, goInt], .int _ _⟩
  · rename_i e a n c hu
    simp only [Option.bind_eq_some_iff] at hv
    obtain ⟨z, hz, hv⟩ := hv
    rw [Bool.cond_eq_ite] at hv
    split at hv
    · rename_i hc
      have hc := Nat.eq_of_beq_eq_true hc
      cases hv
      cases hx with
      | slice _ a' _ _ c' ha =>
        obtain ⟨_, _, r, p3, _, p5, _⟩ := ha
        rcases eszOf_sound h hz p3 with ⟨_, hcap⟩ | ⟨hzp, _⟩
        · have := (p5 hcap).2; subst this
          exact ⟨_, by simp [Builtin.cap_, ht, run_underlying hu, goInt], .int _ _⟩
        · omega
    · cases hv
  · cases hv
end
end Go.Proofs.YtpckfdopokmbkaaGreatDoor.Ev

namespace Go.Proofs.YtpckfdopokmbkaaGreatDoor.Ev
open Go
open Go.RowKit

section
variable {P : Program} {gl : Gl} {φ : Phi} {σ σ1 : LS} {w : World}

/-! ### copy -/
def exCopy (P : Program) (gl : Gl) (σ : LS) (t : TypeId) (dst src : Value) : Option (Value × LS) :=
  match P.underlying t, dst with
  | some (.slice elem), .slice base dLen c => (sizeP P elem).bind fun size => (srcLen src).bind fun n0 => let n := Nat.min n0 dLen
    (srcCells gl σ size n src).bind fun l => (match base with
    | none => some (goInt n, σ)
    | some a => (match n with
      | 0 => some (goInt 0, σ)
      | _ + 1 => cond (Nat.ble 1 c) ((putCells σ a l).map fun σ1 => (goInt n, σ1)) none))
  | _, _ => none

theorem exCopy_sound (h : Rel P gl φ σ w) {t ty : TypeId} {dst dst' src src' v : Value} (hd : VR φ dst dst') (hs : VR φ src src') (hv : exCopy P gl σ t dst src = some (v, σ1)) (ts : Array TypeId) (ht : ts[0]? = some t) :
    ∃ v' w1, (Builtin.copy_ ts ty #[dst', src']).run P w = .ok v' w1 ∧ Tr P gl φ σ w φ σ1 w1 ∧ VR φ v v' := by
  unfold exCopy at hv
  split at hv
  · rename_i elem base dLen c hu
    simp only [Option.bind_eq_some_iff] at hv
    obtain ⟨size, hi, n0, hn, l, hl, hv⟩ := hv
    have hlen := srcLen_sound (P := P) (w := w) hs hn
    obtain ⟨l', e1, e2⟩ := srcCells_sound (P := P) h hs hl
    cases hd with
    | nilSlice _ _ =>
      cases hv
      exact ⟨_, w, by simp [Builtin.copy_, ht, run_underlying hu, hlen, run_sizeOf hi, e1, goInt], Tr.refl h, .int _ _⟩
    | slice a a' _ _ c' ha =>
      simp only at hv
      split at hv
      · rename_i hn0
        cases hv
        have : l' = [] := by
          cases hs with
          | nilSlice => simp [srcCells] at hl; subst hl; exact e2.of_nil
          | slice => rw [hn0] at hl; simp [srcCells] at hl; subst hl; exact e2.of_nil
          | string s => rw [hn0] at hl; simp [srcCells] at hl; subst hl; exact e2.of_nil
          | _ => simp [srcCells] at hl
        subst this
        rw [hn0] at e1
        refine ⟨_, w, ?_, Tr.refl h, .int _ _⟩
        simp [Builtin.copy_, ht, run_underlying hu, hlen, run_sizeOf hi, e1, goInt, storeCells, hn0]
      · rename_i m hm
        rw [Bool.cond_eq_ite] at hv
        split at hv
        · rename_i hc
          have hc := Nat.le_of_ble_eq_true hc
          simp only [Option.map_eq_some_iff] at hv
          obtain ⟨σ2, hp, hv⟩ := hv
          cases hv
          obtain ⟨w1, g1, g2⟩ := putCells_sound (P := P) h (ha.addr (by omega)) e2 hp
          rw [hm] at e1
          exact ⟨_, w1, by simp [Builtin.copy_, ht, run_underlying hu, hlen, run_sizeOf hi, e1, goInt, g1, hm], g2, .int _ _⟩
        · cases hv
  · cases hv

/-! ### Bytes to a string -/
def byteOfV : Value → Option UInt8
  | .int .u8 n => some (UInt8.ofNat n.toNat)
  | _ => none
def bytesL : List Value → Option (List UInt8)
  | [] => some []
  | v :: l => (byteOfV v).bind fun b => (bytesL l).map fun m => b :: m

theorem foldl_push (ns : List UInt8) : ∀ s : ByteArray, ns.foldl (fun r n => r.push n) s = ⟨s.data ++ ns.toArray⟩ := by
  induction ns with
  | nil => intro s; simp
  | cons n ns ih => intro s; simp only [List.foldl_cons, ih]; congr 1; apply Array.ext'; simp [ByteArray.push]

theorem bytesL_ints : ∀ {l : List Value} {bs : List UInt8}, bytesL l = some bs → ∃ ns : List Int, l = ns.map (Value.int .u8) ∧ bs = ns.map fun n => UInt8.ofNat n.toNat
  | [], bs, h => by simp [bytesL] at h; subst h; exact ⟨[], rfl, rfl⟩
  | v :: l, bs, h => by
    simp only [bytesL, Option.bind_eq_some_iff, Option.map_eq_some_iff] at h
    obtain ⟨b, hb, m, hm, rfl⟩ := h
    obtain ⟨ns, rfl, rfl⟩ := bytesL_ints hm
    unfold byteOfV at hb
    split at hb
    · rename_i n; cases hb; exact ⟨n :: ns, rfl, rfl⟩
    · cases hb
theorem bytesL_af {l : List Value} {bs : List UInt8} (h : bytesL l = some bs) : l.all (af 8) = true := by
  obtain ⟨ns, rfl, _⟩ := bytesL_ints h
  rw [List.all_eq_true]; intro v hv; rw [List.mem_map] at hv; obtain ⟨n, _, rfl⟩ := hv; rfl
theorem LR.of_af {l l' : List Value} (h : LR φ l l') (ha : l.all (af 8) = true) : l' = l := by
  apply List.ext_getElem?
  intro i
  by_cases hi : i < l.length
  · have g1 := List.getElem?_eq_getElem hi
    obtain ⟨v', g2, g3⟩ := h.get g1
    rw [g2, g1, VR.of_af 8 (List.all_eq_true.1 ha _ (List.getElem_mem hi)) g3]
  · rw [List.getElem?_eq_none (by rw [← h.1]; omega), List.getElem?_eq_none (by omega)]

def exBytesStr (P : Program) (gl : Gl) (σ : LS) (src dst : TypeId) (x : Value) : Option Value :=
  match P.underlying src, P.underlying dst, x with
  | some (.slice e), some .string, .slice none _ _ => (match P.underlying e with | some (.int .u8) => some (.string ByteArray.empty) | _ => none)
  | some (.slice e), some .string, .slice (some a) len c => (match P.underlying e with
    | some (.int .u8) => (match len with
      | 0 => some (.string ByteArray.empty)
      | _ + 1 => cond (Nat.ble 1 c) ((cellsAt gl σ a len).bind fun l => (bytesL l).map fun bs => .string ⟨bs.toArray⟩) none)
    | _ => none)
  | _, _, _ => none

theorem exBytesStr_sound (h : Rel P gl φ σ w) {src dst : TypeId} {x x' v : Value} (hx : VR φ x x') (hv : exBytesStr P gl σ src dst x = some v) :
    ∃ v', (convert src dst x').run P w = .ok v' w ∧ VR φ v v' := by
  unfold exBytesStr at hv
  split at hv
  · rename_i e n c hs hd
    split at hv
    · rename_i he
      cases hv; cases hx
      exact ⟨_, by rw [run_convert_bytes_string w src dst e none n c hs he hd]; simp [Conv.bytesToString], .string _⟩
    · cases hv
  · rename_i e a len c hs hd
    split at hv
    · rename_i he
      cases hx with
      | slice _ a' _ _ c' ha =>
        split at hv
        · cases hv
          refine ⟨_, ?_, .string _⟩
          rw [run_convert_bytes_string w src dst e (some a') 0 c' hs he hd, run_bytesToString w a' 0 c' [] (by simp [loadCells, loadCellsFrom])]
          rfl
        · rw [Bool.cond_eq_ite] at hv
          split at hv
          · rename_i len hc
            have hc := Nat.le_of_ble_eq_true hc
            simp only [Option.bind_eq_some_iff, Option.map_eq_some_iff] at hv
            obtain ⟨l, hl, bs, hb, rfl⟩ := hv
            obtain ⟨l', e1, e2, e3⟩ := run_loadCells (P := P) h (ha.addr (by omega)) hl
            have := e2.of_af (bytesL_af hb)
            subst this
            obtain ⟨ns, rfl, rfl⟩ := bytesL_ints hb
            refine ⟨_, ?_, .string _⟩
            rw [run_convert_bytes_string w src dst e (some a') _ c' hs he hd, run_bytesToString w a' _ c' ns e1]
            have := foldl_push (ns.map fun n => UInt8.ofNat n.toNat) ByteArray.empty
            rw [List.foldl_map] at this
            rw [this]
            congr 3
            apply Array.ext'; simp
          · cases hv
    · cases hv
  · cases hv

/-! ### Pointers and unsafe.Pointer -/
def exPtrConv (P : Program) (σ : LS) (src dst : TypeId) (x : Value) : Option Value :=
  match P.underlying src, P.underlying dst, x with
  | some (.pointer t), some .unsafePointer, .pointer (some a) => (match σ.heap.get a.block with
    | some (.row b) => (sizeP P t).bind fun s => cond (!Nat.beq s 0 && Nat.ble (a.off + 1) b.cells.length) (some x) none
    | _ => none)
  | some .unsafePointer, some (.pointer u), .pointer (some a) => (match σ.heap.get a.block with
    | some (.row b) => (sizeP P u).bind fun _ => cond (Nat.beq b.esz 0 && liesAt P P.depth b.elem (b.cells.length / P.cellsOf b.elem) a.off u 1) (some x) none
    | _ => none)
  | _, _, _ => none

theorem row_at (h : Rel P gl φ σ w) {a a' : Addr} (ha : AR φ a a') {b : LBlk} (hb : σ.heap.get a.block = some (.row b)) :
    ∃ c' fz', w.heap[a'.block]? = some (.cells c' b.elem fz') ∧ (a.off < b.cells.length → a'.off < c'.size) ∧ (b.esz = 0 → c'.size = b.cells.length ∧ a'.off = a.off) := by
  obtain ⟨_, _, r, h4, h5, h3⟩ := ha
  obtain ⟨r', x, g1, g2, g3⟩ := h.live _ _ hb
  rw [h4] at g1; cases g1
  obtain ⟨c', fz', rfl, g4, g5⟩ := g3
  refine ⟨c', fz', by rw [h5]; exact g2, fun hl => ?_, fun hz => ?_⟩
  · obtain ⟨v', e1, _⟩ := g4 a.off b.cells[a.off] (List.getElem?_eq_getElem hl)
    have := (Array.getElem?_eq_some_iff.1 e1).1
    omega
  · cases hc : r.cap with
    | none => simp only [hc] at g5; exact ⟨g5.1, by rw [h3, RB.sh0 hc, Nat.zero_add]⟩
    | some q => obtain ⟨S, z, s⟩ := q; simp only [hc] at g5; omega

theorem exPtrConv_sound (h : Rel P gl φ σ w) {src dst : TypeId} {x x' v : Value} (hx : VR φ x x') (hv : exPtrConv P σ src dst x = some v) :
    ∃ v', (convert src dst x').run P w = .ok v' w ∧ VR φ v v' := by
  unfold exPtrConv at hv
  split at hv
  · rename_i t a hs hd
    split at hv
    · rename_i b hb
      simp only [Option.bind_eq_some_iff] at hv
      obtain ⟨s, hsz, hv⟩ := hv
      rw [Bool.cond_eq_ite] at hv
      split at hv
      · rename_i hc
        simp only [Bool.and_eq_true, Bool.not_eq_true'] at hc
        have c1 := Nat.ne_of_beq_eq_false hc.1
        have c2 := Nat.le_of_ble_eq_true hc.2
        cases hv
        cases hx with
        | ptr _ a' ha =>
          obtain ⟨c', fz', g1, g2, _⟩ := row_at h ha hb
          refine ⟨.pointer (some a'), ?_, .ptr _ _ ha⟩
          have hsh : w.shape? a'.block = some (b.elem, c'.size) := by simp [World.shape?, g1]
          have : ¬ (c'.size ≤ a'.off) := by have := g2 (by omega); omega
          simp [convert, run_underlying hs, run_underlying hd, Conv.unsafePointer, Conv.seenAt, viewAt, shape, Sem.run, hsh, cellsIn, run_sizeOf hsz, c1, this]
      · cases hv
    · cases hv
  · rename_i u a hs hd
    split at hv
    · rename_i b hb
      simp only [Option.bind_eq_some_iff] at hv
      obtain ⟨su, hsu, hv⟩ := hv
      rw [Bool.cond_eq_ite] at hv
      split at hv
      · rename_i hc
        simp only [Bool.and_eq_true] at hc
        have c1 := Nat.eq_of_beq_eq_true hc.1
        cases hv
        cases hx with
        | ptr _ a' ha =>
          obtain ⟨c', fz', g1, _, g3⟩ := row_at h ha hb
          refine ⟨.pointer (some a'), ?_, .ptr _ _ ha⟩
          have hsh : w.shape? a'.block = some (b.elem, c'.size) := by simp [World.shape?, g1]
          have hlies : liesAt P P.depth b.elem (c'.size / P.cellsOf b.elem) a'.off u 1 = true := by rw [(g3 c1).1, (g3 c1).2]; exact hc.2
          simp [convert, run_underlying hs, run_underlying hd, Conv.unsafePointer, Conv.seenAt, viewAt, shape, Sem.run, hsh, variablesAt, program, run_sizeOf hsu, hlies]
      · cases hv
    · cases hv
  · cases hv
end
end Go.Proofs.YtpckfdopokmbkaaGreatDoor.Ev

namespace Go.Proofs.YtpckfdopokmbkaaGreatDoor.Ev
open Go
open Go.RowKit

section
variable {P : Program} {gl : Gl} {φ : Phi} {σ σ1 : LS} {w : World}

theorem nwMakeMap_sound {t : TypeId} {r r' : Option Value} (hr : ∀ v, r = some v → ∃ v', r' = some v' ∧ VR φ v v') (hn : r = none → r' = none) {o : LObj} {mk : Nat → Value} (h : nwMakeMap P t r = some (o, mk)) :
    NewS P φ (Instr.makeMap t r') o mk := by
  have key : o = .map [] 0 ∧ mk = mapTo ∧ ∀ w : World, (Instr.makeMap t r').run P w = .ok (.map (some w.heap.size)) (w.alloc (.map #[] 0)) := by
    unfold nwMakeMap at h
    split at h
    · cases h
      rw [hn rfl]
      exact ⟨rfl, rfl, fun w => by simp [Instr.makeMap, newObj, Sem.run]⟩
    · rename_i v
      split at h
      · rename_i k e kk n hu
        cases h
        obtain ⟨v', e1, e2⟩ := hr _ rfl
        cases e2
        rw [e1]
        exact ⟨rfl, rfl, fun w => by simp [Instr.makeMap, run_underlying hu, asInt, asIntOf, newObj, Sem.run]⟩
      · cases h
  obtain ⟨rfl, rfl, h3⟩ := key
  exact ⟨rfl, fun w => ⟨_, _, h3 w, fun φ' _ i hi => ⟨⟨rfl, #[], rfl, rfl, by simp⟩, .map i _ hi⟩⟩⟩

/-! ### Maps -/
def keyKind (P : Program) (t : TypeId) : Option TypeDesc :=
  match P.underlying t with
  | some (.int k) => some (.int k)
  | some .string => some .string
  | some .bool => some .bool
  | _ => none
def findL (kind : TypeDesc) (k : Value) : List (Value × Value × Nat) → Nat → Option (Option (Nat × Value))
  | [], _ => some none
  | e :: es, i => (Instr.sameNow kind k e.1).bind fun b => cond b (some (some (i, e.2.1))) (findL kind k es (i + 1))

theorem keyKind_spec {t : TypeId} {d : TypeDesc} (h : keyKind P t = some d) : P.underlying t = some d ∧ ((∃ k, d = .int k) ∨ d = .string ∨ d = .bool) := by
  unfold keyKind at h
  split at h <;> cases h
  · rename_i k hu; exact ⟨hu, Or.inl ⟨k, rfl⟩⟩
  · rename_i hu; exact ⟨hu, Or.inr (Or.inl rfl)⟩
  · rename_i hu; exact ⟨hu, Or.inr (Or.inr rfl)⟩

theorem eq_of_bytes {a b : ByteArray} (h : (a == b) = true) : a = b := by
  obtain ⟨⟨x⟩⟩ := a
  obtain ⟨⟨y⟩⟩ := b
  have h2 : ((⟨x⟩ : Array UInt8) == ⟨y⟩) = true := h
  simp at h2; rw [h2]
theorem bytes_same (a : ByteArray) : (a == a) = true := by
  obtain ⟨⟨x⟩⟩ := a
  show ((⟨x⟩ : Array UInt8) == ⟨x⟩) = true
  simp

theorem sameNow_R {d : TypeDesc} {k k' e e' : Value} (hk : VR φ k k') (he : VR φ e e') {b : Bool} (h : Instr.sameNow d k e = some b) : Instr.sameNow d k' e' = some b ∧ (b = true → k = e ∧ k' = k ∧ e' = e) := by
  unfold Instr.sameNow at h
  split at h
  · rename_i kk ka a kb b'
    cases hk; cases he
    split at h
    · rename_i hkk; subst hkk; cases h; exact ⟨by simp [Instr.sameNow], fun hb => ⟨by rw [beq_iff_eq.1 hb], rfl, rfl⟩⟩
    · cases h
  · cases hk; cases he; cases h; exact ⟨rfl, fun hb => ⟨by rw [eq_of_bytes hb], rfl, rfl⟩⟩
  · cases hk; cases he; cases h; exact ⟨rfl, fun hb => ⟨by rw [beq_iff_eq.1 hb], rfl, rfl⟩⟩
  · cases h

theorem findL_sound {d : TypeDesc} {k k' : Value} (hk : VR φ k k') : ∀ (es : List (Value × Value × Nat)) (es' : List MapEntry), es'.length = es.length →
    (∀ (i : Nat) e e', es[i]? = some e → es'[i]? = some e' → EntR φ e e') → ∀ (n : Nat) r, findL d k es n = some r →
      ∃ r', Instr.findNow d k' es' n = some r' ∧ (match r with
        | none => r' = none
        | some (j, v) => ∃ v', r' = some (j, v') ∧ VR φ v v' ∧ n ≤ j ∧ ∃ e, es[j - n]? = some e ∧ e.1 = k)
  | [], [], _, _, n, r, h => by simp [findL] at h; subst h; exact ⟨none, rfl, rfl⟩
  | [], _ :: _, hl, _, _, _, _ => by simp at hl
  | _ :: _, [], hl, _, _, _, _ => by simp at hl
  | e :: es, e' :: es', hl, hR, n, r, h => by
    simp only [findL, Option.bind_eq_some_iff] at h
    obtain ⟨b, hb, h⟩ := h
    have he := hR 0 e e' rfl rfl
    obtain ⟨g1, g2⟩ := sameNow_R hk he.1 hb
    cases b with
    | true =>
      simp only [cond_true] at h
      cases h
      exact ⟨some (n, e'.val), by simp [Instr.findNow, g1], e'.val, rfl, he.2.1, Nat.le_refl _, e, by simp, (g2 rfl).1.symm⟩
    | false =>
      simp only [cond_false] at h
      obtain ⟨r', f1, f2⟩ := findL_sound hk es es' (by simpa using hl) (fun i x x' h1 h2 => hR (i + 1) x x' (by simpa using h1) (by simpa using h2)) (n + 1) r h
      refine ⟨r', by simp [Instr.findNow, g1, f1], ?_⟩
      cases r with
      | none => exact f2
      | some q =>
        obtain ⟨j, v⟩ := q
        obtain ⟨v', q1, q2, q3, e2, q4, q5⟩ := f2
        refine ⟨v', q1, q2, by omega, e2, ?_, q5⟩
        have : j - n = (j - (n + 1)) + 1 := by omega
        rw [this]; simpa using q4

theorem run_checkKey (empty : Bool) {t : TypeId} {d : TypeDesc} (h : keyKind P t = some d) (k : Value) : (Instr.checkKey empty 10000 t k).run P w = .ok () w := by
  obtain ⟨h1, h2⟩ := keyKind_spec h
  have : ∀ n, (Instr.checkKey empty (n + 1) t k).run P w = .ok () w := by
    intro n
    rcases h2 with ⟨kk, rfl⟩ | rfl | rfl <;> simp [Instr.checkKey, run_underlying h1]
  exact this 9999

theorem run_findKey {t : TypeId} {d : TypeDesc} (h : keyKind P t = some d) {k : Value} {es : List MapEntry} {r : Option (Nat × Value)} (hr : Instr.findNow d k es 0 = some r) : (Instr.findKey t k es).run P w = .ok r w := by
  obtain ⟨h1, _⟩ := keyKind_spec h
  simp [Instr.findKey, run_underlying h1, hr]

def mapEs (σ : LS) (x : Value) : Option (List (Value × Value × Nat)) :=
  match x with
  | .map none => some []
  | .map (some i) => (match σ.heap.get i with | some (.map es _) => some es | _ => none)
  | _ => none

def exLookup (P : Program) (σ : LS) (t : TypeId) (x k : Value) (ok : Bool) : Option Value :=
  match P.underlying t with
  | some (.map key elem) => (keyKind P key).bind fun d => (mapEs σ x).bind fun es => (findL d k es 0).bind fun r => (match r with
    | some (_, v) => some (cond ok (.tuple #[v, .bool true]) v)
    | none => (zeroP P elem).bind fun z => cond (af 8 z) (some (cond ok (.tuple #[z, .bool false]) z)) none)
  | _ => none

theorem VR.pair {a a' b b' : Value} (h1 : VR φ a a') (h2 : VR φ b b') : VR φ (.tuple #[a, b]) (.tuple #[a', b']) := by
  have := LR.cons h1 (LR.cons h2 (LR.nil φ))
  exact .tuple _ _ this.1 this.2

theorem map_at (h : Rel P gl φ σ w) {i : Nat} {r : RB} (hr : φ i = some r) {es : List (Value × Value × Nat)} {cl : Nat} (hg : σ.heap.get i = some (.map es cl)) :
    ∃ es', w.heap[r.blk]? = some (.map es' cl) ∧ es'.toList.length = es.length ∧ ∀ (i : Nat) e e', es[i]? = some e → es'.toList[i]? = some e' → EntR φ e e' := by
  obtain ⟨r', x0, g1, g2, g3⟩ := h.live _ _ hg
  rw [hr] at g1; cases g1
  obtain ⟨_, es', rfl, g4, g5⟩ := g3
  exact ⟨es', g2, g4, g5⟩

theorem exLookup_sound (h : Rel P gl φ σ w) {t : TypeId} {x x' k k' v : Value} {ok : Bool} (hx : VR φ x x') (hk : VR φ k k') (hv : exLookup P σ t x k ok = some v) :
    ∃ v', (Instr.lookup t x' k' ok).run P w = .ok v' w ∧ VR φ v v' := by
  unfold exLookup at hv
  split at hv
  · rename_i key elem hu
    simp only [Option.bind_eq_some_iff] at hv
    obtain ⟨d, hd, es, hes, r, hr, hv⟩ := hv
    have hx2 : (x' = .map none ∧ es = []) ∨ ∃ rb es' cl, x' = .map (some rb) ∧ w.heap[rb]? = some (.map es' cl) ∧ es'.toList.length = es.length ∧ ∀ (i : Nat) e e', es[i]? = some e → es'.toList[i]? = some e' → EntR φ e e' := by
      unfold mapEs at hes
      cases hx with
      | nilMap => cases hes; exact Or.inl ⟨rfl, rfl⟩
      | map i rb hrb =>
        simp only at hes
        split at hes
        · rename_i es0 cl hg
          cases hes
          obtain ⟨es', g2, g4, g5⟩ := map_at h hrb hg
          exact Or.inr ⟨_, es', cl, rfl, g2, g4, g5⟩
        · cases hes
      | _ => simp at hes
    rcases hx2 with ⟨rfl, rfl⟩ | ⟨rb, es', cl, rfl, g2, e1, e2⟩
    · simp only [findL, Option.some.injEq] at hr
      subst hr
      simp only [Option.bind_eq_some_iff] at hv
      obtain ⟨z, hz, hv⟩ := hv
      rw [Bool.cond_eq_ite] at hv
      split at hv
      · rename_i hc
        cases hv
        have hzz := VR.af_refl (φ := φ) 8 hc
        have g1 := run_findKey (P := P) (w := w) hd (k := k') (es := []) (r := none) rfl
        cases ok
        · exact ⟨z, by simp [Instr.lookup, run_underlying hu, run_checkKey _ hd, g1, run_zeroValue hz], hzz⟩
        · exact ⟨.tuple #[z, .bool false], by simp [Instr.lookup, run_underlying hu, run_checkKey _ hd, g1, run_zeroValue hz], VR.pair hzz (.bool _)⟩
      · cases hv
    · obtain ⟨r', f1, f2⟩ := findL_sound hk es es'.toList e1 e2 0 r hr
      have g1 := run_findKey (P := P) (w := w) hd f1
      cases r with
      | none =>
        simp only [Option.bind_eq_some_iff] at hv
        obtain ⟨z, hz, hv⟩ := hv
        rw [Bool.cond_eq_ite] at hv
        split at hv
        · rename_i hc
          simp only at f2
          subst f2
          cases hv
          have hzz := VR.af_refl (φ := φ) 8 hc
          cases ok
          · exact ⟨z, by simp [Instr.lookup, run_underlying hu, getObj, Sem.run, g2, run_checkKey _ hd, g1, run_zeroValue hz], hzz⟩
          · exact ⟨.tuple #[z, .bool false], by simp [Instr.lookup, run_underlying hu, getObj, Sem.run, g2, run_checkKey _ hd, g1, run_zeroValue hz], VR.pair hzz (.bool _)⟩
        · cases hv
      | some q =>
        obtain ⟨j, v0⟩ := q
        simp only at f2 hv
        obtain ⟨v', rfl, q2, _⟩ := f2
        cases hv
        cases ok
        · exact ⟨v', by simp [Instr.lookup, run_underlying hu, getObj, Sem.run, g2, run_checkKey _ hd, g1], q2⟩
        · exact ⟨.tuple #[v', .bool true], by simp [Instr.lookup, run_underlying hu, getObj, Sem.run, g2, run_checkKey _ hd, g1], VR.pair q2 (.bool _)⟩
  · cases hv

/-! ### Writes to maps -/
def exMapUpdate (P : Program) (σ : LS) (t : TypeId) (m k v : Value) : Option LS :=
  match P.underlying t, m with
  | some (.map key _), .map (some i) => (keyKind P key).bind fun d => (match σ.heap.get i with
    | some (.map es cl) => cond (Nat.ble (i + 1) most) ((findL d k es 0).bind fun r => (match r with
      | some (j, _) => (es[j]?).map fun e => σ.upd i (some (.map (es.set j (k, v, e.2.2)) cl))
      | none => (Instr.sameNow d k k).map fun _ => σ.upd i (some (.map (es ++ [(k, v, cl)]) (cl + 1))))) none
    | _ => none)
  | _, _ => none

theorem run_setObj {r : Nat} {o : Obj} {es : Array MapEntry} {cl : Nat} (h : w.heap[r]? = some (.map es cl)) : (setObj r o).run P w = .ok () { w with heap := w.heap.setIfInBounds r o } := by
  simp [setObj, Sem.run, h]

theorem Tr.setMap (h : Rel P gl φ σ w) {i : Nat} (hi : i < most) {es es2 : List (Value × Value × Nat)} {cl cl2 : Nat} (hg : σ.heap.get i = some (.map es cl)) {r : RB} (hr : φ i = some r) {es2' : Array MapEntry}
    (h1 : es2'.toList.length = es2.length) (h2 : ∀ (i : Nat) e e', es2[i]? = some e → es2'.toList[i]? = some e' → EntR φ e e') :
    Tr P gl φ σ w φ (σ.upd i (some (.map es2 cl2))) { w with heap := w.heap.setIfInBounds r.blk (.map es2' cl2) } := by
  have hlt := h.bound _ _ hr
  obtain ⟨r', x0, g1, g2, g3⟩ := h.live _ _ hg
  rw [hr] at g1; cases g1
  exact Tr.change h hi hg rfl hr (x := .map es2' cl2) (by simp [hlt]) ⟨g3.1, es2', rfl, h1, h2⟩ (fun b hb => Array.getElem?_setIfInBounds_ne (h := fun e => hb e.symm)) (by simp) rfl rfl rfl

theorem exMapUpdate_sound (h : Rel P gl φ σ w) {t : TypeId} {m m' k k' v v' : Value} (hm : VR φ m m') (hk : VR φ k k') (hv : VR φ v v') (he : exMapUpdate P σ t m k v = some σ1) :
    ∃ w1, (Instr.mapUpdate t m' k' v').run P w = .ok () w1 ∧ Tr P gl φ σ w φ σ1 w1 := by
  unfold exMapUpdate at he
  split at he
  · rename_i key el i hu
    simp only [Option.bind_eq_some_iff] at he
    obtain ⟨d, hd, he⟩ := he
    split at he
    · rename_i es cl hg
      rw [Bool.cond_eq_ite] at he
      split at he
      · rename_i hc
        have hc := Nat.le_of_ble_eq_true hc
        simp only [Option.bind_eq_some_iff] at he
        obtain ⟨r, hr, he⟩ := he
        cases hm with
        | map _ rb hrb =>
          obtain ⟨es', g2, g4, g5⟩ := map_at h hrb hg
          obtain ⟨r', f1, f2⟩ := findL_sound hk es es'.toList g4 g5 0 r hr
          have g1 := run_findKey (P := P) (w := w) hd f1
          cases r with
          | none =>
            simp only at f2
            subst f2
            simp only [Option.map_eq_some_iff] at he
            obtain ⟨b, hb, rfl⟩ := he
            refine ⟨_, ?_, Tr.setMap h (by omega) hg hrb (es2' := es'.push { key := k', val := v', born := cl }) (by simp [g4]) ?_⟩
            · simp [Instr.mapUpdate, run_underlying hu, getObj, Sem.run, g2, run_checkKey _ hd, g1, run_setObj g2]
            · intro j e e' h1 h2
              simp only [Array.toList_push] at h2
              by_cases hj : j < es.length
              · rw [List.getElem?_append_left hj] at h1
                rw [List.getElem?_append_left (by omega)] at h2
                exact g5 j e e' h1 h2
              · rw [List.getElem?_append_right (by omega)] at h1
                rw [List.getElem?_append_right (by omega), g4] at h2
                have hj0 : j - es.length = 0 := by
                  have := (List.getElem?_eq_some_iff.1 h1).1
                  simp at this; omega
                rw [hj0] at h1 h2
                cases h1; cases h2
                exact ⟨hk, hv, rfl⟩
          | some q =>
            obtain ⟨j, v0⟩ := q
            simp only at f2 he
            obtain ⟨v1, rfl, q2, _, e0, q3, q4⟩ := f2
            simp only [Nat.sub_zero] at q3
            simp only [Option.map_eq_some_iff] at he
            obtain ⟨e1, he1, rfl⟩ := he
            rw [q3] at he1; cases he1
            have hjl : j < es.length := (List.getElem?_eq_some_iff.1 q3).1
            have hjl' : j < es'.toList.length := by omega
            have hE := g5 j e0 es'.toList[j] q3 (by simp)
            have hjs : j < es'.size := by simpa using hjl'
            obtain ⟨n, hn⟩ : ∃ n, Instr.sameNow d k n ≠ none := by
              cases es with
              | nil => simp at hjl
              | cons x l =>
                simp only [findL, Option.bind_eq_some_iff] at hr
                obtain ⟨bb, hbb, _⟩ := hr
                exact ⟨x.1, by rw [hbb]; simp⟩
            have hkk : es'[j].key = k' := by
              have aux : ∀ y, VR φ k y → y = k' := by
                intro y h1
                unfold Instr.sameNow at hn
                split at hn
                · cases h1; cases hk; rfl
                · cases h1; cases hk; rfl
                · cases h1; cases hk; rfl
                · simp at hn
              exact aux _ (by rw [← q4]; simpa using hE.1)
            have hsb : Instr.sameBits 10000 k' k' = true := by
              unfold Instr.sameNow at hn
              split at hn
              · cases hk; simp [Instr.sameBits]
              · cases hk; simp only [Instr.sameBits]; exact bytes_same _
              · cases hk; simp [Instr.sameBits]
              · simp at hn
            refine ⟨_, ?_, Tr.setMap h (by omega) hg hrb (es2' := es'.modify j fun e => { e with key := k', val := v' }) (by simp [g4]) ?_⟩
            · have e3 : es'[j]? = some es'[j] := by simp [hjs]
              simp [Instr.mapUpdate, run_underlying hu, getObj, Sem.run, g2, run_checkKey _ hd, g1, e3, hkk, Instr.keyThatStays, hsb, run_setObj g2]
            · intro a e e' h1 h2
              rw [Array.getElem?_toList, Array.getElem?_modify] at h2
              rw [List.getElem?_set] at h1
              by_cases ha : j = a
              · subst ha
                simp only [if_true] at h2
                rw [if_pos rfl, if_pos hjl] at h1
                cases h1
                simp [hjs] at h2
                subst h2
                exact ⟨hk, hv, by have := hE.2.2; simpa using this⟩
              · rw [if_neg ha] at h1 h2
                exact g5 a e e' h1 (by simpa using h2)
      · cases he
    · cases he
  · cases he
end
end Go.Proofs.YtpckfdopokmbkaaGreatDoor.Ev
