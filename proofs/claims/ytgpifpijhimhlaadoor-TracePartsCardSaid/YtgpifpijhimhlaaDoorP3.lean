/- TraceParts answers true and turns nothing, of whatever two rows of events, whatever the tape and the order of evaluation, where the listed variables start as the program's text lays them. -/
import Derived.Test.YtgpifpijhimhlaaDoorP2
import Derived.Test.YtgpifpijhimhlaaDoorQ0
import Derived.Test.YtgpifpijhimhlaaDoorQ1
import Derived.Test.YtgpifpijhimhlaaDoorQ2
import Derived.Test.YtgpifpijhimhlaaDoorQ3
import Derived.Deep.Cut
noncomputable section
namespace Go.Proofs.YtgpifpijhimhlaaDoor
open Go.RowKit Go.Proofs.YtgpifpijhimhlaaDoor.Ev

/-- trace.Count of the two rows that came in, as an assumed answer. -/
theorem fn13P {gl : Gl} {za zb : List EvT} {offa offb : Nat} (hA : ∀ k, gl 900 k = evF za offa k) (hB : ∀ k, gl 901 k = evF zb offb k) (hfl : Flat 1000 gl) (wa : ∀ e ∈ za, e.wf) (wb : ∀ e ∈ zb, e.wf) (la : za.length ≤ 1000) (lb : zb.length ≤ 1000) :
    FnOK Tryd.prog gl 13 (af13 (fun j => (cnt j za : Int)) (fun j => (cnt j zb : Int)) offa offb za.length zb.length) := by
  intro args σ c0 v hk hc φ w args' hrel hl
  subst hc
  have hw : Ready Tryd.prog gl0 w := to_gl0 (gl := gl) ⟨_, hrel.low (fun g k v h => ⟨(hfl g k v h).1, (hfl g k v h).2.2⟩) tglob⟩
  unfold af13 at hk
  split at hk
  · rename_i a n cc
    obtain ⟨ab, ao, asp⟩ := a
    obtain ⟨hlen, hl⟩ := hl
    obtain ⟨x0, e⟩ : ∃ x0, args'.toList = [x0] := by
      match hq : args'.toList, hlen with
      | [x0], _ => exact ⟨x0, rfl⟩
    have v0 := hl 0 _ x0 rfl (by rw [e]; rfl)
    have fin : ∀ (id off : Nat) (zs : List EvT), ab = id → ao = off → asp = none → n = zs.length → (∀ k, gl id k = evF zs off k) → (∀ e ∈ zs, e.wf) → zs.length ≤ 1000 →
        Calls Tryd.prog 13 args' w (fun e w1 => ∃ v', e = .returned v' ∧ VR φ (aggC fun j => (cnt j zs : Int)) v' ∧ Below w.heap.size w w1) := by
      intro id off zs h1 h2 h3 h4 h5 h6 h7
      subst h1; subst h2; subst h3; subst h4
      cases v0 with
      | slice _ a' _ _ c' hs =>
        obtain ⟨k1, k2, k3⟩ := arg_of hrel h5 hs
        obtain ⟨blk, o, sp⟩ := a'
        simp only at k1 k2 k3
        subst k1
        have e : args' = #[.slice (some ⟨blk, o, none⟩) zs.length c'] := by rw [← Array.toArray_toList (xs := args'), e]
        subst e
        refine Calls.mono (count_any (.inr ⟨blk, o, rfl, k3, k2⟩) h6 h7 hw) ?_
        rintro e w1 ⟨rfl, hb⟩
        exact ⟨_, rfl, VR.af_refl 8 rfl, hb⟩
    rw [Bool.cond_eq_ite] at hk
    split at hk
    · rename_i hb
      simp only [Option.some.injEq, Prod.mk.injEq, Bool.and_eq_true, decide_eq_true_eq, Option.isNone_iff_eq_none] at hk
      obtain ⟨⟨⟨g1, g2⟩, g3⟩, rfl⟩ := hk
      exact fin 900 offa za (Nat.eq_of_beq_eq_true hb) g1 g3 g2 hA wa la
    · rw [Bool.cond_eq_ite] at hk
      split at hk
      · rename_i hb
        simp only [Option.some.injEq, Prod.mk.injEq, Bool.and_eq_true, decide_eq_true_eq, Option.isNone_iff_eq_none] at hk
        obtain ⟨⟨⟨g1, g2⟩, g3⟩, rfl⟩ := hk
        exact fin 901 offb zb (Nat.eq_of_beq_eq_true hb) g1 g3 g2 hB wb lb
      · cases hk
  · cases hk
theorem asmP_ok {gl : Gl} {za zb : List EvT} {offa offb : Nat} (hA : ∀ k, gl 900 k = evF za offa k) (hB : ∀ k, gl 901 k = evF zb offb k) (hfl : Flat 1000 gl) (wa : ∀ e ∈ za, e.wf) (wb : ∀ e ∈ zb, e.wf) (la : za.length ≤ 1000) (lb : zb.length ≤ 1000)
    (hm : MemoOK Tryd.prog gl 12) : AsmOK Tryd.prog gl (asmP (fun j => (cnt j za : Int)) (fun j => (cnt j zb : Int)) offa offb za.length zb.length) := asmOf_ok fun p hp => by
  simp only [List.mem_cons, List.not_mem_nil, or_false] at hp
  rcases hp with rfl | rfl
  · exact fn13P hA hB hfl wa wb la lb
  · exact fnTrue hm
end Go.Proofs.YtgpifpijhimhlaaDoor

namespace Go.Proofs.YtgpifpijhimhlaaDoor
open Go.ChangeShapes Go.WideShapes Go.ChangeAt Go.RowKit Go.Proofs.YtgpifpijhimhlaaDoor.Ev

/-- A row that came in, as the evaluator names it. -/
def locV (id : Nat) (aa : Option Addr) (n c : Nat) : Value := .slice (aa.map fun a => ⟨id, a.off, none⟩) n c
def offOf : Option Addr → Nat
  | some a => a.off
  | none => 0
theorem SArg.vr {w : World} {aa : Option Addr} {c n : Nat} {zs : List EvT} (h : SArg w aa c zs) {φ : Phi} {id blk : Nat} (hφ : φ id = some ⟨blk, none⟩) (hb : ∀ a, aa = some a → a.block = blk) : VR φ (locV id aa n c) (.slice aa n c) := by
  rcases h with ⟨rfl, _, _⟩ | ⟨b, off, rfl, _, _⟩
  · exact .nilSlice n c
  · have : b = blk := hb _ rfl
    subst this
    exact .slice _ _ _ _ _ ⟨rfl, rfl, _, hφ, rfl, fun _ => ⟨rfl, rfl⟩, fun _ _ hh => by cases hh⟩
theorem SArg.cells {w : World} {aa : Option Addr} {c : Nat} {zs : List EvT} (h : SArg w aa c zs) (hs : 0 < w.heap.size) : ∃ blk, blk < w.heap.size ∧ (∀ a, aa = some a → a.block = blk) ∧ ∀ k v, evF zs (offOf aa) k = some v → w.cell? ⟨blk, k, none⟩ = some v ∧ af 8 v = true := by
  rcases h with ⟨rfl, _, rfl⟩ | ⟨b, off, rfl, he, hb⟩
  · refine ⟨0, hs, (fun a h => by cases h), fun k v h => ?_⟩
    unfold evF at h
    split at h
    · simp [evCells] at h
    · cases h
  · exact ⟨b, hb, (fun a h => by cases h; rfl), fun k v h => ⟨evF_cell he k v h, (evF_flat k v h).1⟩⟩

theorem region4 {g0 : Gl} (h0 : Flat 900 g0) (hm : MemoOK Tryd.prog g0 12) {c : Code} (hc : c = reg4) {Q : Exit → Act → World → Prop} {a : Act} {w : World} {aa ab : Option Addr} {ca cb la lb N : Nat} {za zb : List EvT}
    (hza : za.length = la) (hzb : zb.length = lb) (ha : la ≤ 500) (hb : lb ≤ 500) (sa : SArg w aa ca za) (sb : SArg w ab cb zb) (wa : ∀ e ∈ za, e.wf) (wb : ∀ e ∈ zb, e.wf) (hw : Ready Tryd.prog g0 w)
    (hN : N < w.heap.size) (hcell : ∀ k v, cF (fun j => (cnt j (za ++ zb) : Int)) k = some v → w.cell? ⟨N, k, none⟩ = some v)
    (hsz : a.tmps.size = 37) (t0 : a.tmps[0]? = some (.slice aa la ca)) (t1 : a.tmps[1]? = some (.slice ab lb cb)) (t5 : a.tmps[5]? = some (.pointer (some ⟨N, 0, none⟩))) (hdf : a.defers = [])
    (hQ : ∀ a1 w1, Below w.heap.size w w1 → a1.tmps[4]? = some (.bool true) → a1.defers = [] → Q .normal a1 w1) : c.wp Tryd.prog Q a w := by
  subst hc
  have hs0 : 0 < w.heap.size := by omega
  obtain ⟨ba, b1, b2, b3⟩ := sa.cells hs0
  obtain ⟨bb, d1, d2, d3⟩ := sb.cells hs0
  obtain ⟨φ0, hr0⟩ := hw
  obtain ⟨φ1, hr1, e1, k1⟩ := rel_add (id := 900) hr0 h0 (by omega) (by omega) b1 b3
  have f1 : Flat 901 (glX 900 (evF za (offOf aa)) g0) := h0.add (by omega) (fun k v h => evF_flat k v h)
  obtain ⟨φ2, hr2, e2, k2⟩ := rel_add (id := 901) hr1 f1 (by omega) (by omega) d1 d3
  have f2 : Flat 902 (glX 901 (evF zb (offOf ab)) (glX 900 (evF za (offOf aa)) g0)) := f1.add (by omega) (fun k v h => evF_flat k v h)
  obtain ⟨φ3, hr3, e3, k3⟩ := rel_add (id := 902) hr2 f2 (by omega) (by omega) hN (f := cF fun j => (cnt j (za ++ zb) : Int)) (fun k v h => ⟨hcell k v h, (cF_flat k v h).1⟩)
  have f3 : Flat 1000 (glX 902 (cF fun j => (cnt j (za ++ zb) : Int)) (glX 901 (evF zb (offOf ab)) (glX 900 (evF za (offOf aa)) g0))) := f2.add (by omega) (fun k v h => cF_flat k v h)
  have e901 : φ3 901 = some ⟨bb, none⟩ := by rw [k3 _ (by decide), e2]
  have e900 : φ3 900 = some ⟨ba, none⟩ := by rw [k3 _ (by decide), k2 _ (by decide), e1]
  have hm' : MemoOK Tryd.prog (glX 902 (cF fun j => (cnt j (za ++ zb) : Int)) (glX 901 (evF zb (offOf ab)) (glX 900 (evF za (offOf aa)) g0))) 12 := fun φ σ w hr => by
    refine hm φ σ w (hr.gl_mono fun g k v h => ?_)
    have hlt := (h0 g k v h).1
    unfold glX
    rw [show Nat.beq g 902 = false from Bool.eq_false_iff.2 fun e => by have := Nat.eq_of_beq_eq_true e; omega, show Nat.beq g 901 = false from Bool.eq_false_iff.2 fun e => by have := Nat.eq_of_beq_eq_true e; omega,
      show Nat.beq g 900 = false from Bool.eq_false_iff.2 fun e => by have := Nat.eq_of_beq_eq_true e; omega]
    exact h
  have hasm := asmP_ok (gl := glX 902 (cF fun j => (cnt j (za ++ zb) : Int)) (glX 901 (evF zb (offOf ab)) (glX 900 (evF za (offOf aa)) g0))) (za := za) (zb := zb) (offa := offOf aa) (offb := offOf ab)
    (fun k => rfl) (fun k => rfl) f3 wa wb (by omega) (by omega) hm'
  have hsl : SlR2 φ3 37 (slots4 (locV 900 aa la ca) (locV 901 ab lb cb)) a := ⟨hsz, fun t v ht => by
    unfold slots4 at ht
    rw [PT.get_put 10 _ _ _ _ (by decide), PT.get_put 10 _ _ _ _ (by decide), PT.get_put 10 _ _ _ _ (by decide), PT.get_nil] at ht
    split at ht
    · rename_i e; subst e; cases ht
      exact ⟨_, t5, .ptr _ _ ⟨rfl, rfl, rfl, _, e3, rfl⟩⟩
    · split at ht
      · rename_i e; subst e; cases ht
        exact ⟨_, t1, sb.vr e901 d2⟩
      · split at ht
        · rename_i e; subst e; cases ht
          exact ⟨_, t0, sa.vr e900 b2⟩
        · cases ht⟩
  have hlow : ∀ j (x y : List EvT), x.length ≤ 500 → y.length ≤ 500 → IntKind.i64.wrap ((cnt j x : Int) + (cnt j y : Int)) = (cnt j (x ++ y) : Int) := fun j x y hx hy => by
    have := cnt_le j x
    have := cnt_le j y
    rw [wrap_small _ (by omega), cnt_append]
    omega
  have hs : ∀ j, IntKind.i64.wrap ((cnt j za : Int) + (cnt j zb : Int)) = (cnt j (za ++ zb) : Int) := fun j => hlow j za zb (by omega) (by omega)
  have hz : ∀ j, IntKind.i64.wrap ((cnt j (za ++ zb) : Int) + 0) = (cnt j (za ++ zb) : Int) := fun j => by
    have := cnt_le j za
    have := cnt_le j zb
    have : cnt j (za ++ zb) = cnt j za + cnt j zb := cnt_append ..
    rw [Int.add_zero, wrap_small _ (by omega)]
  have key : evalR (glX 902 (cF fun j => (cnt j (za ++ zb) : Int)) (glX 901 (evF zb (offOf ab)) (glX 900 (evF za (offOf aa)) g0))) (fun j => (cnt j za : Int)) (fun j => (cnt j zb : Int)) (offOf aa) (offOf ab) za.length zb.length reg4 (slots4 (locV 900 aa la ca) (locV 901 ab lb cb)) = some (.bool true) := by
    rw [hza, hzb]
    rcases sa with ⟨rfl, rfl, hna⟩ | ⟨b, off, rfl, _, _⟩
    · have : la = 0 := by rw [← hza, hna]; rfl
      subst this
      have hx : ∀ j, (cnt j za : Int) = 0 := fun j => by
        have := cnt_le j za
        omega
      rcases sb with ⟨rfl, rfl, hnb⟩ | ⟨b', off', rfl, _, _⟩
      · have : lb = 0 := by rw [← hzb, hnb]; rfl
        subst this
        have hy : ∀ j, (cnt j zb : Int) = 0 := fun j => by
          have := cnt_le j zb
          omega
        exact p4_3 _ _ _ _ _ _ _ _ 0 0 hx hy hs hz
      · exact p4_1 _ _ _ _ _ _ _ _ 0 _ hx hs hz
    · rcases sb with ⟨rfl, rfl, hnb⟩ | ⟨b', off', rfl, _, _⟩
      · have : lb = 0 := by rw [← hzb, hnb]; rfl
        subst this
        have hy : ∀ j, (cnt j zb : Int) = 0 := fun j => by
          have := cnt_le j zb
          omega
        exact p4_2 _ _ _ _ _ _ _ _ _ 0 hy hs hz
      · exact p4_0 _ _ _ _ _ _ _ _ _ _ hs hz
  refine code_meet goodT hasm kT hr3 hsl hdf key fun e s1 σ1 ms1 φ4 a1 w1 hk ht hs1 hd1 => ?_
  unfold kT at hk
  simp only at hk
  cases e with
  | normal =>
    cases ms1 with
    | nil =>
      obtain ⟨v', g1, g2⟩ := hs1.get 4 _ hk
      cases g2
      refine hQ a1 w1 (ht.below fun i o hi => by rw [start_get] at hi; cases hi) g1 ?_
      cases hdd : a1.defers with
      | nil => rfl
      | cons d ds => rw [hdd] at hd1; exact hd1.elim
    | cons m ms => cases hk
  | exit id => cases hk
  | goto l => cases hk
  | ret => cases hk
end Go.Proofs.YtgpifpijhimhlaaDoor

namespace Go.Proofs.YtgpifpijhimhlaaDoor
open Go.ChangeShapes Go.WideShapes Go.ChangeAt Go.RowKit Go.Proofs.YtgpifpijhimhlaaDoor.Ev

set_option maxRecDepth 100000 in
set_option maxHeartbeats 0 in
theorem parts_walk (w : World) (aa ab : Option Addr) (ca cb la lb : Nat) (za zb : List EvT) (hza : za.length = la) (hzb : zb.length = lb) (sa : SArg w aa ca za) (sb : SArg w ab cb zb) (ha : la ≤ 500) (hb : lb ≤ 500)
    (wa : ∀ e ∈ za, e.wf) (wb : ∀ e ∈ zb, e.wf) {g0 : Gl} (h0 : Flat 900 g0) (hm : MemoOK Tryd.prog g0 12) (hw0 : Ready Tryd.prog g0 w) :
    Calls Tryd.prog 5 #[.slice aa la ca, .slice ab lb cb] w fun e w' => e = .returned (.bool true) ∧ Below w.heap.size w w' := by
  have hw := to_gl0 hw0
  have g1 : ¬ ((la : Int) > 500) := by omega
  have g2 : ¬ ((lb : Int) > 500) := by omega
  obtain ⟨B, hB⟩ : ∃ B, w.heap.size = B := ⟨_, rfl⟩
  have hS1 : Below B w (w.alloc (.cells #[.slice aa la ca, .slice ab lb cb] 29)) := (show Below B w w from Below.refl _ _).alloc (by omega) _
  have hc := concat_any (w.alloc (.cells #[.slice aa la ca, .slice ab lb cb] 29)) w.heap.size aa ab ca cb za zb (by rw [hza]; simp) (by rw [hzb]; simp) (by simp) (sa.mono (by rw [hB]; exact hS1)) (sb.mono (by rw [hB]; exact hS1)) (by omega) (by omega)
  rw [hB] at hc
  go_enter Tryd.func5, Tryd.ntmps5
  go_wp2_with fail
  refine hc.mono ?_
  rintro e w1 ⟨ao, C, rfl, sc, hb1⟩
  have hB1 : B ≤ w1.heap.size := by
    have := hb1.size
    simp at this
    omega
  have hb01 : Below B w w1 := hS1.trans (hb1.mono (by simp; omega))
  have hc2 := count_any sc (fun e he => by rcases List.mem_append.1 he with h | h; exact wa e h; exact wb e h) (by rw [List.length_append]; omega) (hw.below (by rw [hB]; exact hb01))
  rw [aggC_cnt] at hc2
  generalize (za ++ zb).length = L at hc2 ⊢
  obtain ⟨c, hcd⟩ : ∃ c : Nat → Int, Hid ((fun j => (cnt j (za ++ zb) : Int)) = c) := ⟨_, Lib.hid rfl⟩
  rw [hcd.out] at hc2
  unfold aggC at hc2
  clear hc hb1 sc hS1 hw
  go_wp2_with fail
  refine hc2.mono ?_
  rintro e w2 ⟨rfl, hb2⟩
  have hb02 : Below B w w2 := hb01.trans (hb2.mono hB1)
  clear hc2 hb2 hb01 hB1
  go_upto_region 4 with fail
  have hBl : Below w.heap.size w (w2.alloc (.cells #[.int .i64 (c 0), .int .i64 (c 1), .int .i64 (c 2), .int .i64 (c 3), .int .i64 (c 4), .int .i64 (c 5), .int .i64 (c 6), .int .i64 (c 7), .int .i64 (c 8), .int .i64 (c 9), .int .i64 (c 10), .int .i64 (c 11), .int .i64 (c 12), .int .i64 (c 13), .int .i64 (c 14), .int .i64 (c 15), .int .i64 (c 16)] 32)) := by
    rw [hB]
    exact hb02.alloc (by have := hb02.size; omega) _
  refine region4 (za := za) (zb := zb) (ca := ca) (cb := cb) (N := w2.heap.size) h0 hm (by kernel_rfl) hza hzb ha hb (sa.mono hBl) (sb.mono hBl) wa wb (hw0.below hBl) (by simp) ?_ rfl rfl rfl rfl rfl fun a1 w5 hbb ht hd => ?_
  · intro k v hk
    rw [hcd.out] at hk
    rw [World.cell?_alloc_new]
    unfold cF cellsC at hk
    simpa using hk
  · have hq : ∀ {K : Act → World → Prop} {R : Exit → Act → World → Prop}, (∀ (a : Act) (w : World), Code.wp Tryd.prog Code.ret R a w → K a w) → R .ret a1 w5 → Exit.then K R .normal a1 w5 := fun h1 h2 => h1 a1 w5 (wp_ret h2)
    refine hq (by assumption) ?_
    refine bodyPost_ret (v := .bool true) ?_ hd ⟨rfl, hBl.trans (hbb.mono hBl.size)⟩
    simp [results, Tryd.results5, go_sem, ht]
end Go.Proofs.YtgpifpijhimhlaaDoor

namespace Go.Proofs.YtgpifpijhimhlaaDoor
open Go.ChangeShapes Go.WideShapes Go.ChangeAt Go.RowKit Go.Proofs.YtgpifpijhimhlaaDoor.Ev

theorem memo_at {g0 : Gl} (hm : MemoOK Tryd.prog g0 12) {w : World} (hw : Ready Tryd.prog g0 w) : Calls Tryd.prog 12 #[] w (fun e w2 => e = .returned (.bool true) ∧ Below w.heap.size w w2) := by
  obtain ⟨φ, hr⟩ := hw
  exact hm φ LS.start w hr
set_option maxRecDepth 100000 in
theorem parts_big1 (w : World) (aa ab : Option Addr) (ca cb la lb : Nat) (ha : 500 < la) {g0 : Gl} (hm : MemoOK Tryd.prog g0 12) (hw0 : Ready Tryd.prog g0 w) :
    Calls Tryd.prog 5 #[.slice aa la ca, .slice ab lb cb] w fun e w' => e = .returned (.bool true) ∧ Below w.heap.size w w' := by
  have g1 : ((la : Int) > 500) := by omega
  have hc := memo_at hm hw0
  clear hm hw0
  go_enter Tryd.func5, Tryd.ntmps5
  go_wp2_with fail
  refine hc.mono ?_
  rintro e w1 ⟨rfl, hb⟩
  clear hc
  go_wp2_with fail
  exact bodyPost_ret (v := .bool true) (by simp [results, Tryd.results5, go_sem]) rfl ⟨rfl, hb⟩
set_option maxRecDepth 100000 in
theorem parts_big2 (w : World) (aa ab : Option Addr) (ca cb la lb : Nat) (ha : la ≤ 500) (hb : 500 < lb) {g0 : Gl} (hm : MemoOK Tryd.prog g0 12) (hw0 : Ready Tryd.prog g0 w) :
    Calls Tryd.prog 5 #[.slice aa la ca, .slice ab lb cb] w fun e w' => e = .returned (.bool true) ∧ Below w.heap.size w w' := by
  have g1 : ¬ ((la : Int) > 500) := by omega
  have g2 : ((lb : Int) > 500) := by omega
  have hc := memo_at hm hw0
  clear hm hw0
  go_enter Tryd.func5, Tryd.ntmps5
  go_wp2_with fail
  refine hc.mono ?_
  rintro e w1 ⟨rfl, hb⟩
  clear hc
  go_wp2_with fail
  exact bodyPost_ret (v := .bool true) (by simp [results, Tryd.results5, go_sem]) rfl ⟨rfl, hb⟩
end Go.Proofs.YtgpifpijhimhlaaDoor

namespace Go.Proofs.YtgpifpijhimhlaaDoor.traceParts
open Go.ChangeShapes Go.WideShapes Go.ChangeAt Go.RowKit Go.Proofs.YtgpifpijhimhlaaDoor.Ev Go.Proofs.YtgpifpijhimhlaaDoor

def db32 : List Int := [0,1,28,2,29,14,24,3,30,22,20,15,25,17,4,8,31,27,13,23,21,19,16,7,26,12,18,6,11,5,10,9]
def db64 : List Int := [0,1,56,2,57,49,28,3,61,58,42,50,38,29,17,4,62,47,59,36,45,43,51,22,53,39,33,30,24,18,12,5,63,55,48,27,60,41,37,16,46,35,44,21,52,32,23,11,54,26,40,15,34,20,31,10,25,14,19,9,13,8,7,6]
def pow10 : List Int := [1,10,100,1000,10000,100000,1000000,10000000,100000000,1000000000,10000000000,100000000000,1000000000000,10000000000000,100000000000000,1000000000000000,10000000000000000,100000000000000000,1000000000000000000,10000000000000000000]
def tabs : List (Nat × List Value) := [(3, db32.map (.int .u8)), (4, db64.map (.int .u8)), (1, pow10.map (.int .u64))]
def exts : List (Nat × Xk) := [(66, .same), (94, .makeNoZero 64), (97, .flat Extern.BytealgCount.count), (107, .flat Extern.BytealgIndex.index), (117, .flat Extern.BytealgIndexByte.indexByte)]

theorem own : ownKnob Tryd.prog.godebug = none := by kernel_rfl
theorem x66 : XkOK Tryd.prog 66 .same := ⟨Tryd.f66, Tryd.func66, by kernel_rfl, by kernel_rfl, (show Extern.find Tryd.f66 = some Extern.AbiNoEscape.same by kernel_rfl)⟩
theorem x94 : XkOK Tryd.prog 94 (.makeNoZero 64) := ⟨Tryd.f94, Tryd.func94, by kernel_rfl, by kernel_rfl, (show Extern.find Tryd.f94 = some (Extern.BytealgMakeNoZero.makeNoZero Tryd.f94.params Tryd.f94.resultTypes) by kernel_rfl), (show Tryd.f94.resultTypes[0]? = some 64 by kernel_rfl)⟩
theorem x97 : XkOK Tryd.prog 97 (.flat Extern.BytealgCount.count) := ⟨Tryd.f97, Tryd.func97, by kernel_rfl, by kernel_rfl, (show Extern.find Tryd.f97 = some Extern.BytealgCount.count by kernel_rfl)⟩
theorem x107 : XkOK Tryd.prog 107 (.flat Extern.BytealgIndex.index) := ⟨Tryd.f107, Tryd.func107, by kernel_rfl, by kernel_rfl, (show Extern.find Tryd.f107 = some Extern.BytealgIndex.index by kernel_rfl)⟩
theorem x117 : XkOK Tryd.prog 117 (.flat Extern.BytealgIndexByte.indexByte) := ⟨Tryd.f117, Tryd.func117, by kernel_rfl, by kernel_rfl, (show Extern.find Tryd.f117 = some Extern.BytealgIndexByte.indexByte by kernel_rfl)⟩
theorem goodX : Go.Proofs.YtgpifpijhimhlaaDoor.Ev.Good Tryd.prog (extOf exts) := good_of (by kernel_rfl) (by kernel_rfl) (by
  intro x hx
  simp only [exts, List.mem_cons, List.not_mem_nil, or_false] at hx
  rcases hx with rfl | rfl | rfl | rfl | rfl
  · exact x66
  · exact x94
  · exact x97
  · exact x107
  · exact x117)

set_option maxRecDepth 100000 in
theorem works0 : isT (callF Tryd.prog (glOf tabs) (extOf exts) [] 5000 100 40 (.fn 12) [] LS.start) = true := by kernel_rfl
theorem g3 : Tryd.prog.globalNamed "math/bits.deBruijn32tab" = some 3 := by kernel_rfl
theorem g4 : Tryd.prog.globalNamed "math/bits.deBruijn64tab" = some 4 := by kernel_rfl
theorem g1 : Tryd.prog.globalNamed "internal/strconv.uint64pow10" = some 1 := by kernel_rfl
theorem t3 : (Tryd.prog.globals[3]?).map (·.type) = some 165 := by kernel_rfl
theorem t4 : (Tryd.prog.globals[4]?).map (·.type) = some 166 := by kernel_rfl
theorem t1 : (Tryd.prog.globals[1]?).map (·.type) = some 148 := by kernel_rfl
theorem noHandle : (Rows.tracePartsRow.laid.filter fun x => x.2.handleName?.isSome) = [] := by kernel_rfl
theorem laidOf {W : World} (h : laidMetH Tryd.prog Rows.tracePartsRow.laid W) : laidMet Tryd.prog Rows.tracePartsRow.laid W := by
  unfold laidMetH at h
  rw [noHandle] at h
  exact h

theorem rel0 (W : World) (hL : laidMetH Tryd.prog Rows.tracePartsRow.laid W) (hs : W.ShapedOpen Tryd.prog) : Rel Tryd.prog (glOf tabs) (phi0 Tryd.prog.globals.size []) LS.start W := by
  have hL2 := laidOf hL
  have hn : Tryd.prog.globals.size ≤ 900 := of_decide_eq_true (by kernel_rfl)
  have k3 : TabOK Tryd.prog (phi0 Tryd.prog.globals.size []) W (3, db32.map (.int .u8)) :=
    tab_ok (name := "math/bits.deBruijn32tab") (zs := db32) hL2 (.head _) g3 t3 Tryd.underlying165 Tryd.underlying5 (by kernel_rfl) (by kernel_rfl)
  have k4 : TabOK Tryd.prog (phi0 Tryd.prog.globals.size []) W (4, db64.map (.int .u8)) :=
    tab_ok (name := "math/bits.deBruijn64tab") (zs := db64) hL2 (.tail _ (.head _)) g4 t4 Tryd.underlying166 Tryd.underlying5 (by kernel_rfl) (by kernel_rfl)
  have k1 : TabOK Tryd.prog (phi0 Tryd.prog.globals.size []) W (1, pow10.map (.int .u64)) :=
    tab_ok (name := "internal/strconv.uint64pow10") (zs := pow10) hL2 (.tail _ (.tail _ (.head _))) g1 t1 Tryd.underlying148 Tryd.underlying91 (by kernel_rfl) (by kernel_rfl)
  refine rel_start (bs := []) hn (by simp) (fun b hb => ?_) (shaped_size hs (by kernel_rfl)) (glOf_ok ?_)
  · cases hb
  intro x hx
  simp only [tabs, List.mem_cons, List.not_mem_nil, or_false] at hx
  rcases hx with rfl | rfl | rfl
  · exact k3
  · exact k4
  · exact k1


theorem low4 : ∀ g k v, glOf tabs g k = some v → g < 1000 ∧ lowV 8 v = true := lowTabs (l := tabs) (by kernel_rfl)
theorem flatTabs : ∀ {l : List (Nat × List Value)}, (l.all fun x => Nat.ble (x.1 + 1) 900 && x.2.all (af 8)) = true → ∀ g k v, glOf l g k = some v → g < 900 ∧ af 8 v = true
  | [], _, g, k, v, h => by cases h
  | (g', vs) :: r, hl, g, k, v, h => by
    simp only [List.all_cons, Bool.and_eq_true] at hl
    simp only [glOf] at h
    rw [Bool.cond_eq_ite] at h
    split at h
    · rename_i e
      rw [Nat.eq_of_beq_eq_true e]
      exact ⟨Nat.le_of_ble_eq_true hl.1.1, List.all_eq_true.1 hl.1.2 v (List.mem_of_getElem? h)⟩
    · exact flatTabs hl.2 g k v h
theorem memo12 {gl : Gl} (hgl : ∀ g k v, gl g k = some v → g < 1000 ∧ lowV 8 v = true) (h : isT (callF Tryd.prog gl (extOf exts) [] 5000 100 40 (.fn 12) [] LS.start) = true) : MemoOK Tryd.prog gl 12 :=
  memoM_ok goodX hgl tglob (fun f hf => by cases hf) h
theorem flat900 : Flat 900 (glOf tabs) := fun g k v h => ⟨(flatTabs (l := tabs) (by kernel_rfl) g k v h).1, (flatTabs (l := tabs) (by kernel_rfl) g k v h).2, (low4 g k v h).2⟩
theorem memo0 : MemoOK Tryd.prog (glOf tabs) 12 := memo12 low4 works0
theorem walk (za zb : List EvT) (hza : ∀ e ∈ za, e.wf) (hzb : ∀ e ∈ zb, e.wf) (aa ab : Option Addr) (ca cb la lb : Nat) (ea : za.length = la) (eb : zb.length = lb) (W : World) (sa : SArg W aa ca za) (sb : SArg W ab cb zb) (hL : laidMetH Tryd.prog Rows.tracePartsRow.laid W) (hs : W.ShapedOpen Tryd.prog) :
    Calls Tryd.prog 5 #[.slice aa la ca, .slice ab lb cb] W (fun e W' => e = .returned (.bool true) ∧ Below W.heap.size W W') := by
  have hw : Ready Tryd.prog (glOf tabs) W := ⟨_, rel0 W hL hs⟩
  rcases Nat.lt_or_ge 500 la with h | h
  · exact parts_big1 W aa ab ca cb la lb h memo0 hw
  · rcases Nat.lt_or_ge 500 lb with h' | h'
    · exact parts_big2 W aa ab ca cb la lb h h' memo0 hw
    · exact parts_walk W aa ab ca cb la lb za zb ea eb sa sb h h' hza hzb flat900 memo0 hw

theorem reads (os : Os) {H : Type} (enc : TypeId × Value → H) : ∃ places, DataW.whole enc Tryd.prog ((World.laidAll Tryd.prog os Rows.tracePartsRow.laid).forCall (fun _ _ => 0) ⟨#[], #[.slice none 0 0, .slice none 0 0], []⟩).memory Tryd.f5.params.toList Rows.tracePartsSpec.vars false (#[.slice none 0 0, .slice none 0 0] : Array Value).toList 8 = some ([.nil, .nil], [], places) :=
  ⟨[], by kernel_rfl⟩

set_option maxRecDepth 100000 in
theorem lifted (os : Os) (started : os.Started) (H : Type) (enc : TypeId × Value → H) (F : Stop.Interp) :
    ReturnsInHanded {} Tryd.checked os 5 .any ((OpenSpec.ofChange Rows.tracePartsSpec).preRow enc Tryd.prog Tryd.f5 Rows.tracePartsRow.domain false Rows.tracePartsRow.laid) (((OpenSpec.ofChange Rows.tracePartsSpec).at F).post enc Tryd.prog Tryd.f5 false true false false) := by
  obtain ⟨places, hx⟩ := reads os enc
  refine returnsInHanded_of_row (C := Tryd.checked) (s := OpenSpec.ofChange Rows.tracePartsSpec) own started (by kernel_rfl) Tryd.func5
    (witness_row_atRef (enc := enc) (C := Tryd.checked) false (World.laidAll Tryd.prog os Rows.tracePartsRow.laid) #[.slice none 0 0, .slice none 0 0] (World.laidAll_os _ _ _) (by kernel_rfl) (by kernel_rfl) (by kernel_rfl)
      (OpenSpec.preRow_of_cond 8 hx (by kernel_rfl) (fun k hk => by cases hk) (by kernel_rfl) (laidMet_laidAll #[.slice none 0 0, .slice none 0 0] (by kernel_rfl) (by kernel_rfl)))) ?_
  intro W base args ds gs before hval hW _ _ _ hL hsh _
  have hp : Tryd.f5.params = #[29, 29] := by kernel_rfl
  obtain ⟨v, u, d, d', pl, pl', rfl, rfl, ht, hu⟩ : ∃ v u d d' pl pl', args = #[v, u] ∧ ds = [d, d'] ∧ DataW.Trod enc Tryd.prog W 0 (fun _ => true) true 29 v d pl ∧ DataW.Trod enc Tryd.prog W 0 (fun _ => true) true 29 u d' pl' := by
    obtain ⟨p, q, hA, _⟩ := id hW
    rw [hp] at hA
    obtain ⟨v, vs, d, ds', p1, q1, e1, rfl, e3, h1, h2⟩ := trodAll_cons hA
    obtain ⟨u, us, d', ds'', p2, q2, e4, rfl, e5, h3, h4⟩ := trodAll_cons h2
    obtain ⟨rfl, rfl, _⟩ := trodAll_nil h4
    subst e4
    exact ⟨v, u, d, d', p1, p2, Array.ext' e1, rfl, h1, h3⟩
  have hok : Value.okWide Tryd.prog W .any base 29 v := hval 0 29 v (by rw [hp]; rfl) rfl
  have hok2 : Value.okWide Tryd.prog W .any base 29 u := hval 1 29 u (by rw [hp]; rfl) rfl
  have key : ∀ {x : Value}, (x = .slice none 0 0 ∨ ∃ (blk off cap : Nat) (zs : List EvT), x = .slice (some ⟨blk, off, none⟩) zs.length cap ∧ EvsAt W blk off zs ∧ (∀ e ∈ zs, e.wf) ∧ blk < W.heap.size) →
      ∃ (a : Option Addr) (n c : Nat) (zs : List EvT), x = .slice a n c ∧ zs.length = n ∧ SArg W a c zs ∧ ∀ e ∈ zs, e.wf := by
    rintro x (rfl | ⟨blk, off, cap, zs, rfl, hc, hz, hb⟩)
    · exact ⟨none, 0, 0, [], rfl, rfl, .inl ⟨rfl, rfl, rfl⟩, by simp⟩
    · exact ⟨_, _, _, zs, rfl, rfl, .inr ⟨blk, off, rfl, hc, hb⟩, hz⟩
  obtain ⟨aa, la, ca, za, rfl, ea, sa, wa⟩ := key (open_events hok ht)
  obtain ⟨ab, lb, cb, zb, rfl, eb, sb, wb⟩ := key (open_events hok2 hu)
  refine (walk za zb wa wb aa ab ca cb la lb ea eb W sa sb hL hsh).mono fun e W' ⟨he, hB⟩ => ?_
  subst he
  exact ⟨_, rfl, post_trueN (t := 4) (m := 4) (by kernel_rfl) (by kernel_rfl) rfl Tryd.underlying4 rfl hW hB⟩

theorem andT {a b : Bool} (h : a = true) (k : b = true) : (a && b) = true := by rw [h, k]; rfl
set_option maxRecDepth 100000 in
set_option maxHeartbeats 0 in
theorem closed : joinedFacts Tryd.pinned.checked.prog 5 Tryd.f5 (OpenSpec.ofChange Rows.tracePartsSpec).bare Rows.tracePartsRow = true := by
  unfold joinedFacts
  repeat' (with_reducible refine andT ?_ ?_)
  all_goals as_aux_lemma => kernel_rfl

theorem said : Rows.TracePartsSaid :=
  OpenClaim.holds_of_cond 5 Tryd.f5 rfl rfl rfl rfl rfl rfl rfl ⟨rfl, rfl, rfl, rfl, rfl⟩ rfl rfl rfl rfl rfl (by kernel_rfl) Tryd.func5 closed
    (of_decide_eq_true (by kernel_rfl)) (by unfold Func.isWrapper; first | (rw [if_pos (by decide +kernel)]; kernel_rfl) | (rw [if_neg (by decide +kernel)]; exact ⟨rfl, rfl⟩))
    (fun os started H enc _ F => by rw [OpenClaim.pre_eq_preRow]; exact lifted os started H enc F)

theorem plain (f : FuncId) (fn : Func) (hf : Tryd.pinned.checked.prog.funcNamed "undertow/undertowlaw26.TraceParts" = some f) (hfn : Tryd.pinned.checked.prog.funcs[f]? = some fn) :
    true = Tryd.pinned.checked.prog.looks [] ∧ ∀ (j : Nat) t, fn.params[j]? = some t → Tryd.pinned.checked.prog.wantsStandIn t = false := by
  obtain rfl : f = 5 := Option.some.inj ((show Tryd.prog.funcNamed "undertow/undertowlaw26.TraceParts" = some 5 by kernel_rfl).symm.trans hf) |>.symm
  obtain rfl : fn = Tryd.f5 := (Option.some.inj (Tryd.func5.symm.trans hfn)).symm
  refine ⟨by kernel_rfl, fun j t ht => ?_⟩
  rw [show Tryd.f5.params = #[29, 29] from by kernel_rfl] at ht
  cases j with
  | zero => cases ht; kernel_rfl
  | succ j =>
    cases j with
    | zero => cases ht; kernel_rfl
    | succ j => simp at ht

theorem card : Rows.TracePartsCardSaid :=
  Claim7.holds_tied_plain_at .later [] _ _ _ _ said (fun _ h => by cases h) (by kernel_rfl) (fun _ h => by cases h) traceParts_row_tie rfl ⟨rfl, rfl⟩ (by kernel_rfl) rfl plain (by kernel_rfl)
end Go.Proofs.YtgpifpijhimhlaaDoor.traceParts
namespace Go.Proofs.YtgpifpijhimhlaaDoor
theorem traceParts_card_holds : Rows.TracePartsCardSaid := traceParts.card
end Go.Proofs.YtgpifpijhimhlaaDoor
