/- list.List as it is answered, of at most two thousand words. -/
import Derived.Test.YtgohnfkidkomhaaDoorM2
import Derived.Test.YtgohnfkidkomhaaDoorShelf
import Derived.Laws.AppendOwn
import Derived.OwnWalk
import Derived.WalkKit
import Derived.ProofKit
import Derived.Test.YtgohnfkidkomhaaDoorEv6
noncomputable section
noncomputable section
namespace Go.Proofs.YtgohnfkidkomhaaDoor
open Go.Proofs.YtgohnfkidkomhaaDoor.Ev Go.RowKit
open Go.ChangeShapes Go.WideShapes Go.ChangeAt

/-! slices.Concat of two rows of words that came in. -/
theorem wC_len (ws : List Int) : (wC ws).length = ws.length := by unfold wC; rw [List.length_map]
end Go.Proofs.YtgohnfkidkomhaaDoor

noncomputable section
namespace Go.Proofs.YtgohnfkidkomhaaDoor
open Go.Proofs.YtgohnfkidkomhaaDoor.Ev Go.RowKit

/-! list.List as it is answered flat. -/
def sR (ws : List Int) : ByteArray × Nat × Bool := lsGo ⟨#[]⟩ 0 ws
def sS (ws : List Int) : ByteArray := cond (decide ((ws.length : Int) > 1024)) ⟨#[]⟩ (cond (sR ws).2.2 (sR ws).1 ⟨#[]⟩)
def sI (ws : List Int) : Int := cond (decide ((ws.length : Int) > 1024)) 0 (cond (sR ws).2.2 0 ((sR ws).2.1 : Int))
def sE (ws : List Int) : Int := cond (decide ((ws.length : Int) > 1024)) 7 (cond (sR ws).2.2 0 6)
def lsValF (S : List Int → ByteArray) (I E : List Int → Int) (ws : List Int) : Value := .tuple #[.string (S ws), .int .i64 (I ws), .int .i64 (E ws)]
def lsVal (ws : List Int) : Value := lsValF sS sI sE ws
set_option maxRecDepth 100000 in
theorem r_listF (gl : Gl) (off n c : Nat) (ws : List Int) : callSK noSy Tryd.prog gl exB (HLsF off c ws) 100 40 40 (.fn 21) [.slice (some ⟨902, off, none⟩) n c] LS.start flatR =
 cond (decide ((↑n : Int) > 1024)) (
 some (.tuple #[(.string ((⟨#[]⟩ : ByteArray))), (.int .i64 0), (.int .i64 7)])) (
 cond (cl (lsG off c ws [.int .i64 0, .pointer (some ⟨1000, 0, none⟩), .slice (some ⟨902, off, none⟩) n c, goInt (↑n : Int), .string (⟨#[]⟩ : ByteArray), .int .i64 0, .int .i64 0] [some (.row ⟨[.pointer none, .slice none 0 0], 79, (0, 0), 0, false, false⟩)])) (
 cond ((lsGo (⟨#[]⟩ : ByteArray) 0 ws).snd.snd) (
 cond ((lsGo (⟨#[]⟩ : ByteArray) 0 ws).snd.fst.beq 0) (
 cond (cl ([.pointer (some ⟨1000, 0, none⟩)] = [p0] ∧ [some (.row ⟨[.pointer none, .slice none 0 0], 79, (0, 0), 0, false, false⟩)] = [b0Row])) (
 some (.tuple #[(.string (ByteArray.empty)), (.int .i64 0), (.int .i64 0)])) (
 none)) (
 cond (List.all (byC (lsGo (⟨#[]⟩ : ByteArray) 0 ws).fst) (af 8) && true) (
 cond (List.all (byC (lsGo (⟨#[]⟩ : ByteArray) 0 ws).fst) (af 8) && true) (
 cond (cl (bsG1 [.pointer (some ⟨1000, 0, none⟩)] [some (.row ⟨[.pointer (some ⟨1000, 0, none⟩), .slice (some ⟨1001, 0, none⟩) (lsGo (⟨#[]⟩ : ByteArray) 0 ws).fst.size (lsGo (⟨#[]⟩ : ByteArray) 0 ws).fst.size], 79, (0, 0), 0, false, false⟩), some (.row ⟨byC (lsGo (⟨#[]⟩ : ByteArray) 0 ws).fst, 5, (0, 0), 1, false, false⟩)] (lsGo (⟨#[]⟩ : ByteArray) 0 ws).fst.size (byC (lsGo (⟨#[]⟩ : ByteArray) 0 ws).fst))) (
 cond (List.all (byC (lsGo (⟨#[]⟩ : ByteArray) 0 ws).fst) (af 8) && true) (
 some (.tuple #[(.string (ofCells (byC (lsGo (⟨#[]⟩ : ByteArray) 0 ws).fst))), (.int .i64 0), (.int .i64 0)])) (
 none)) (
 none)) (
 none)) (
 none))) (
 cond ((lsGo (⟨#[]⟩ : ByteArray) 0 ws).snd.fst.beq 0) (
 some (.tuple #[(.string ((⟨#[]⟩ : ByteArray))), (.int .i64 ((↑(lsGo (⟨#[]⟩ : ByteArray) 0 ws).snd.fst : Int))), (.int .i64 6)])) (
 cond (List.all (byC (lsGo (⟨#[]⟩ : ByteArray) 0 ws).fst) (af 8) && true) (
 some (.tuple #[(.string ((⟨#[]⟩ : ByteArray))), (.int .i64 ((↑(lsGo (⟨#[]⟩ : ByteArray) 0 ws).snd.fst : Int))), (.int .i64 6)])) (
 none)))) (
 none)) := by kernel_rfl
set_option maxRecDepth 100000 in
theorem r_listFN (gl : Gl) (off c : Nat) (ws : List Int) : callSK noSy Tryd.prog gl exB (HLsF off c ws) 100 40 40 (.fn 21) [.slice none 0 0] LS.start flatR =
 cond (cl (([.int .i64 0, .pointer (some ⟨1000, 0, none⟩), .slice none 0 0, goInt 0, .string (⟨#[]⟩ : ByteArray), .int .i64 0, .int .i64 0], [some (.row ⟨[.pointer none, .slice none 0 0], 79, (0, 0), 0, false, false⟩)]) = lsStN)) (
 cond (cl ([.pointer (some ⟨1000, 0, none⟩)] = [p0] ∧ [some (.row ⟨[.pointer none, .slice none 0 0], 79, (0, 0), 0, false, false⟩)] = [b0Row])) (
 some (.tuple #[(.string (ByteArray.empty)), (.int .i64 0), (.int .i64 0)])) (
 none)) (
 none) := by kernel_rfl
theorem listF_eq (gl : Gl) (off c : Nat) {ws : List Int} (hc : ws.length ≤ c) (hl : ws.length ≤ 2000) (hw : InW ws) :
    callSK noSy Tryd.prog gl exB (HLsF off c ws) 100 40 40 (.fn 21) [.slice (some ⟨902, off, none⟩) ws.length c] LS.start flatR = some (lsVal ws) := by
  rw [r_listF]
  unfold lsVal lsValF sS sI sE sR
  by_cases hn : (ws.length : Int) > 1024
  · rw [decide_eq_true hn]; rfl
  rw [decide_eq_false hn]
  refine condE rfl (condI (cl_t ⟨rfl, hc, hl, hw⟩) ?_)
  obtain ⟨h4, h5, h6, h7⟩ := lsGo_bd ws ⟨#[]⟩ 0
  have hs0 : (⟨#[]⟩ : ByteArray).size = 0 := rfl
  rw [hs0] at h6 h7
  generalize lsGo ⟨#[]⟩ 0 ws = R at *
  obtain ⟨B, i, b⟩ := R
  simp only at h4 h5 h6 h7
  cases b with
  | true =>
    cases i with
    | zero =>
      have : B = ⟨#[]⟩ := (empty_iff B).2 (by omega)
      subst this
      exact condI rfl (condI rfl (condI (cl_t ⟨rfl, rfl⟩) rfl))
    | succ i =>
      refine condI rfl (condE rfl (condI (andI (byC_all _) rfl) (condI (andI (byC_all _) rfl) (condI (cl_t ⟨_, rfl, rfl, rfl, rfl, ?_, ?_⟩) (condI (andI (byC_all _) rfl) ?_)))))
      · show 1 ≤ B.size; omega
      · show B.size ≤ 1000000000; omega
      · rw [ofCells_by]
        rfl
  | false =>
    cases i with
    | zero => exact condE rfl (condI rfl rfl)
    | succ i => exact condE rfl (condE rfl (condI (andI (byC_all _) rfl) rfl))
/-- Where words are, in a world. -/
def WAt (w : World) (ws : List Int) (aa : Option Addr) (c : Nat) : Prop := ws.length ≤ c ∧ (aa = none → ws.length = 0 ∧ c = 0) ∧ ∀ ad, aa = some ad → ad.spot = none ∧ ad.block < w.heap.size ∧ ∀ j u, (wC ws)[j]? = some u → w.cell? (ad.add j) = some u
theorem list_calls {φ : Phi} {w : World} {ws : List Int} {aa : Option Addr} {c : Nat} (hr : Rel Tryd.prog glC φ LS.start w) (hφ : φ 902 = none) (hw : InW ws) (hl : ws.length ≤ 2000) (h : WAt w ws aa c) :
    Calls Tryd.prog 21 #[.slice aa ws.length c] w (fun e w' => e = .returned (lsVal ws) ∧ Below w.heap.size w w') := by
  obtain ⟨hc, hn, hk⟩ := h
  have hg := tglob
  cases aa with
  | none =>
    obtain ⟨h1, h2⟩ := hn rfl
    have : ws = [] := List.length_eq_zero_iff.1 h1
    subst this
    subst h2
    have hr2 : Rel Tryd.prog (glK glC 902 0 (wC [])) φ LS.start w := noCells hr
    exact flatSR noSy_ok goodB (glKC_low 0 []) tglob (HLsF_ok (off := 0) (c := 0) glKC_F (glKC_low 0 []) glKC_P) ((r_listFN _ 0 0 []).trans (condI (cl_t rfl) (condI (cl_t ⟨rfl, rfl⟩) rfl))) hr2 (LR.cons (.nilSlice 0 0) (LR.nil _))
  | some ad =>
    obtain ⟨h1, h2, h3⟩ := hk ad rfl
    obtain ⟨blk, off, spot⟩ := ad
    simp only at h1 h2
    subst h1
    have hcs : ∀ (i : Nat) x, (wC ws)[i]? = some x → w.cell? ⟨blk, off + i, none⟩ = some x := fun i x hx => by
      have := h3 i x hx
      rwa [addr_add] at this
    have hr2 := hr.addK tglob (b := 902) (off := off) (blk := blk) (by decide) (by decide) hφ (wC_plain ws) hcs h2
    exact flatSR noSy_ok goodB (glKC_low off ws) tglob (HLsF_ok glKC_F (glKC_low off ws) glKC_P) (listF_eq _ off c hc hl hw) hr2 (LR.cons (.slice _ _ _ _ _ ⟨rfl, rfl, ⟨blk, none⟩, by simp [Phi.set], rfl, fun _ => ⟨rfl, rfl⟩, fun S z h => by cases h⟩) (LR.nil _))
theorem glC_af {g k : Nat} {v : Value} (h : glC g k = some v) : af 8 v = true := by
  unfold glC at h
  simp only [glOf] at h
  rw [Bool.cond_eq_ite] at h
  split at h
  · rw [List.getElem?_map] at h
    obtain ⟨x, _, rfl⟩ := Option.map_eq_some_iff.1 h
    rfl
  · rw [Bool.cond_eq_ite] at h
    split at h
    · rw [List.getElem?_map] at h
      obtain ⟨x, _, rfl⟩ := Option.map_eq_some_iff.1 h
      rfl
    · cases h
/-- The tables alone, with a block's number free. -/
theorem rel_free {gl : Gl} {φ : Phi} {σ : LS} {w : World} (hm : ∀ g k v, glC g k = some v → gl g k = some v) (hgl : Low gl) (hr : Rel Tryd.prog gl φ σ w) : ∃ φ', φ' 902 = none ∧ Rel Tryd.prog glC φ' LS.start w := by
  have hg := tglob
  have h := (hr.low hgl tglob).gl_mono hm
  refine ⟨fun i => if i = 902 then none else φ.low i, if_pos rfl, ⟨fun i o e => (by rw [start_get] at e; cases e), fun i j o o' r r' e => (by rw [start_get] at e; cases e), fun i hi => ?_, fun i r e => ?_, fun i o r e => (by rw [start_get] at e; cases e), fun g k v e => ?_, fun g hg2 => ?_, h.size⟩⟩
  · show (if i = 902 then none else φ.low i) = none
    split
    · rfl
    · exact h.fresh i hi
  · have e : (if i = 902 then none else φ.low i) = some r := e
    split at e
    · cases e
    · exact h.bound i r e
  · obtain ⟨b, h1, v', h2, h3⟩ := h.glob g k v e
    have hne : g ≠ 902 := fun q => by
      subst q
      rw [glC_hi (by decide)] at e
      cases e
    have e1 := VR.of_af 8 (glC_af e) h3
    subst e1
    exact ⟨b, by rw [if_neg hne]; exact h1, v', h2, VR.af_refl 8 (glC_af e)⟩
  · show (if g = 902 then none else φ.low g) = _
    rw [if_neg (by omega)]
    exact h.stat g hg2
theorem one_arg {φ : Phi} {v : Value} {args' : Array Value} (hl : LR φ [v] args'.toList) : ∃ v', args' = #[v'] ∧ VR φ v v' := by
  obtain ⟨hl0, hl1⟩ := hl
  obtain ⟨x0, e0⟩ : ∃ x0, args'.toList = [x0] := by
    match hq : args'.toList, hl0 with
    | [x0], _ => exact ⟨x0, rfl⟩
  exact ⟨x0, by rw [← Array.toArray_toList (xs := args'), e0], hl1 0 _ x0 rfl (by rw [e0]; rfl)⟩
end Go.Proofs.YtgohnfkidkomhaaDoor
