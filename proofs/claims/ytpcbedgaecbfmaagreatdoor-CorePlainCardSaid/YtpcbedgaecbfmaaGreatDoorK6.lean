/- CorePlain answers true, of any plan, any row of words, any number of steps and any stamp, where the listed variables start as the program's text lays them. -/
import Derived.Test.YtpcbedgaecbfmaaGreatDoorK2
import Derived.Test.YtpcbedgaecbfmaaGreatDoorK1
import Derived.Test.YtpcbedgaecbfmaaGreatDoorK5
import Derived.ChangeMaps5
import Derived.OpenShut
import Derived.Deep.DeepHandedRow
noncomputable section
namespace Go.Proofs.YtpcbedgaecbfmaaGreatDoor
open Go.Proofs.YtpcbedgaecbfmaaGreatDoor.Ev Go.RowKit

/-! undertowlaw24: the listed variables; works: true. -/
def pow10L : List Int := [1, 10, 100, 1000, 10000, 100000, 1000000, 10000000, 100000000, 1000000000, 10000000000, 100000000000, 1000000000000, 10000000000000, 100000000000000, 1000000000000000, 10000000000000000, 100000000000000000, 1000000000000000000, 10000000000000000000]
def db32L : List Int := [0,1,28,2,29,14,24,3,30,22,20,15,25,17,4,8,31,27,13,23,21,19,16,7,26,12,18,6,11,5,10,9]
def db64L : List Int := [0,1,56,2,57,49,28,3,61,58,42,50,38,29,17,4,62,47,59,36,45,43,51,22,53,39,33,30,24,18,12,5,63,55,48,27,60,41,37,16,46,35,44,21,52,32,23,11,54,26,40,15,34,20,31,10,25,14,19,9,13,8,7,6]
def glC (u0 o0 u1 o1 : Nat) : Gl := glOf [(6, [.iface u0 (.pointer (some ⟨900, o0, none⟩))]), (5, [.iface u1 (.pointer (some ⟨901, o1, none⟩))]), (7, pow10L.map (.int .u64)), (0, formsL.map (.int .i64)), (1, db32L.map (.int .u8)), (8, db64L.map (.int .u8))]
theorem glC_low (u0 o0 u1 o1 : Nat) : Low (glC u0 o0 u1 o1) := lowTabs (by rfl)
theorem glC_F (u0 o0 u1 o1 : Nat) : GlF (glC u0 o0 u1 o1) := fun i z h => by
  show (formsL.map (Value.int .i64))[i]? = _
  rw [List.getElem?_map, h]
  rfl
def exC : Ext := extOf [(213, .flat Extern.BytealgCount.count), (229, .flat Extern.BytealgIndex.index), (241, .flat Extern.BytealgIndexByte.indexByte)]
theorem xCt : XkOK Tryz.prog 213 (.flat Extern.BytealgCount.count) := ⟨Tryz.f213, Tryz.func213, by kernel_rfl, by kernel_rfl, (show Extern.find Tryz.f213 = some Extern.BytealgCount.count by kernel_rfl)⟩
theorem xIx : XkOK Tryz.prog 229 (.flat Extern.BytealgIndex.index) := ⟨Tryz.f229, Tryz.func229, by kernel_rfl, by kernel_rfl, (show Extern.find Tryz.f229 = some Extern.BytealgIndex.index by kernel_rfl)⟩
theorem xIb : XkOK Tryz.prog 241 (.flat Extern.BytealgIndexByte.indexByte) := ⟨Tryz.f241, Tryz.func241, by kernel_rfl, by kernel_rfl, (show Extern.find Tryz.f241 = some Extern.BytealgIndexByte.indexByte by kernel_rfl)⟩
theorem goodC : Go.Proofs.YtpcbedgaecbfmaaGreatDoor.Ev.Good Tryz.prog exC := good_of (by kernel_rfl) (by kernel_rfl) (by
  intro x hx
  simp only [List.mem_cons, List.not_mem_nil, or_false] at hx
  rcases hx with rfl | rfl | rfl
  · exact xCt
  · exact xIx
  · exact xIb)
set_option maxRecDepth 100000 in
theorem works24_0 (u0 o0 u1 o1 : Nat) : isT (callF Tryz.prog (glC u0 o0 u1 o1) exC [] 5000 100 40 (.fn 6) [] LS.start) = true := by kernel_rfl
theorem memo24 (u0 o0 u1 o1 : Nat) : MemoOK Tryz.prog (glC u0 o0 u1 o1) 6 := memoM_ok goodC (glC_low u0 o0 u1 o1) tglob (fun f hf => by cases hf) (works24_0 u0 o0 u1 o1)
theorem memo_mono {gl gl' : Gl} {f : FuncId} (h : ∀ g k v, gl g k = some v → gl' g k = some v) (hm : MemoOK Tryz.prog gl f) : MemoOK Tryz.prog gl' f := fun φ σ w hr => hm φ σ w (hr.gl_mono h)
end Go.Proofs.YtpcbedgaecbfmaaGreatDoor

namespace Go.Proofs.YtpcbedgaecbfmaaGreatDoor
open Go.Proofs.YtpcbedgaecbfmaaGreatDoor.Ev Go.RowKit

/-! CorePlain: true, of any plan, any words, any steps. -/
theorem fn_memo {gl : Gl} {f : FuncId} (hgl : ∀ g k v, gl g k = some v → g < 1000 ∧ lowV 8 v = true) (hm : MemoOK Tryz.prog gl f) : FnOK Tryz.prog gl f afW := FnOK.flat hgl tglob fun args σ v h => by
  unfold afW at h
  split at h
  · cases h
    refine ⟨rfl, rfl, fun w hw => ?_⟩
    obtain ⟨φ, hr⟩ := hw
    exact hm φ LS.start w hr
  · cases h
theorem gHn_sub {gl : Gl} {f : FuncId} {t : List Value → Rws → Bool} {o : Out} (h : SubOK Tryz.prog gl f (gH t o)) : SubOK Tryz.prog gl f (gHn t o) := fun vs rows u e v rows' h1 h2 => by
  unfold gHn at h1
  split at h1
  · cases h1
  · exact h vs rows u e v rows' h1 h2
theorem sub_coNewN {gl : Gl} (hgl : Low gl) {c : Cfg} {id : Int} {r : Rws} (hm : isMemN r c.blocks = true) (hid : planOk c = true → 0 ≤ id ∧ id < c.cores) :
    SubOK Tryz.prog gl 9 (gH (atS [cfgV c, .int .i64 id, .slice none 0 0, pK 1000] (bx r)) (cnOut c id [] r)) := by
  have hm' := hm
  simp only [isMemN, Bool.and_eq_true, beq_iff_eq] at hm'
  obtain ⟨hm1, hm2⟩ := hm'
  refine atB hgl (HCn_ok hgl (cn_loopN hgl c id r)) (pl := plM) ((r_cNewN _ _ _ _ _ _ _ _ gl c id r).trans ?_)
  simp only [qs_eq]
  cases hp : planOk c with
  | false =>
    refine condI (by unfold mayE; rw [hp]; rfl) ?_
    unfold cnOut cnE
    rw [hp]; rfl
  | true =>
    obtain ⟨i0, i1⟩ := hid hp
    have g1 : nrOk (c, id) = true := andI hp (andI (decide_eq_true i0) (decide_eq_true i1))
    have g2 : ggC r (c, id) = true := andI hp (andI hm (andI (decide_eq_true i0) (decide_eq_true i1)))
    have g3 : (((mOf r).n : Int) != c.blocks) = false := by rw [hm2]; exact bneI_self _
    refine condE (by rw [mayE_t hp]; rfl) (condI hm1 (condE g3 (condI (atS_self _ _) (condI g1 (condI g2 ?_)))))
    unfold cnOut cnE
    rw [hp]; rfl
def memE (n : Int) : Int := cond (decide (n < 1)) 2 (cond (decide (n > 256)) 2 0)
def memN (n : Int) : Rws := memR ⟨n.toNat, List.replicate (n.toNat * 16) 0⟩
theorem memE_0 {n : Int} (h : (memE n == 0) = true) : 1 ≤ n ∧ n ≤ 256 := by
  unfold memE at h
  cases h1 : decide (n < 1) with
  | true => rw [h1] at h; cases h
  | false =>
    cases h2 : decide (n > 256) with
    | true => rw [h1, h2] at h; cases h
    | false =>
      have h1 := of_decide_eq_false h1
      have h2 := of_decide_eq_false h2
      omega
theorem memN_ok {n : Int} (h : 1 ≤ n ∧ n ≤ 256) : isMemN (memN n) n = true := by
  have hk : MemS.ok ⟨n.toNat, List.replicate (n.toNat * 16) 0⟩ := ⟨by simp, by show 1 ≤ n.toNat; omega, by show n.toNat ≤ 256; omega⟩
  unfold isMemN memN
  rw [isMem_t hk, mOf_eq hk]
  show (true && ((n.toNat : Int) == n)) = true
  rw [show ((n.toNat : Nat) : Int) = n by omega, beq_self_eq_true]; rfl
theorem HLw_ok {gl : Gl} (hgl : Low gl) (hWk : FnOK Tryz.prog gl 6 afW) {tN t0 t1 : List Value → Rws → Bool} {oN o0 o1 : Out} {out0 out1 : List Nat} (hN : SubOK Tryz.prog gl 9 (gH tN oN))
    (h0 : LpOK Tryz.prog gl 3 0 ⟨[43, 9, 41, 3, 2, 1, 4, 42], out0, gH t0 o0⟩) (h1 : LpOK Tryz.prog gl 3 1 ⟨[16, 111, 18, 19, 9, 3, 110], out1, gH t1 o1⟩) : (HLw (fun _ => true) memE memN tN oN out0 t0 o0 out1 t1 o1).OK Tryz.prog gl :=
  hsOf_ok (fun p hp => by
    simp only [List.mem_cons, List.not_mem_nil, or_false] at hp
    subst hp; exact hWk) (fun p hp => by
    simp only [List.mem_cons, List.not_mem_nil, or_false] at hp
    rcases hp with rfl | rfl
    · exact sub_mNew hgl
    · exact gHn_sub hN) (fun p hp q hq => by
    simp only [List.mem_singleton] at hp; subst hp
    simp only [List.mem_cons, List.not_mem_nil, or_false] at hq
    rcases hq with rfl | rfl
    · exact h0
    · exact h1)
theorem plAt_full {c : Cfg} {z : Int} {l : List Int} : plAt c (z :: l) (z :: l).length = [some (cfgRow c), some (codeRow (cdsL ((z :: l).map tkS)) 5)] := by
  show [some (cfgRow c), some (codeRow (cdsL (((z :: l).take (z :: l).length).map tkS)) 5)] = _
  rw [List.take_length]
def TrueL (gl : Gl) (c : Cfg) (sl : Value) (steps st : Int) : Prop := ∃ H : Hs, H.OK Tryz.prog gl ∧ evLw gl H c sl steps st = some (.bool true)
theorem cnOut_bad {c : Cfg} {zs : List Int} {r : Rws} (h : (cnE c zs == 0) = false) : cnOut c 0 zs r = (.normal, [.tuple #[.pointer none, .int .i64 2]], [some (.box r [])]) := by unfold cnOut; rw [h]; rfl
theorem cnOut_ok {c : Cfg} {zs : List Int} {r : Rws} (h : (cnE c zs == 0) = true) : cnOut c 0 zs r = (.normal, [.tuple #[pK 1001, .int .i64 0]], [some (.box r []), some (.box (coP c zs w0 0 false 0) [1000])]) := by unfold cnOut; rw [h]; rfl
theorem cnE_len {c : Cfg} {zs : List Int} (h : (cnE c zs == 0) = true) : zs.length ≤ 1024 := by
  unfold cnE at h
  cases hp : planOk c with
  | false => rw [hp] at h; cases h
  | true =>
    cases hd : decide ((zs.length : Int) > 1024) with
    | true => rw [hp, hd] at h; cases h
    | false =>
      have := of_decide_eq_false hd
      omega
theorem plan_core {c : Cfg} (h : planOk c = true) : (0 : Int) ≤ 0 ∧ 0 < c.cores := by
  obtain ⟨⟨h1, _⟩, _⟩ := planOk_iff.1 h
  omega
theorem lawN {gl : Gl} (hF : GlF gl) (hgl : Low gl) (hWk : FnOK Tryz.prog gl 6 afW) (c : Cfg) (steps st : Int) : TrueL gl c (.slice none 0 0) steps st := by
  by_cases a2 : steps < 0
  · exact ⟨_, HLw_ok hgl hWk sub_never lp_none lp_none, (r_lwDN gl _ _ _ (fun _ _ => false) (fun _ _ => false) (fun _ _ => false) c steps st  []).trans (condI (decide_eq_true a2) rfl)⟩
  by_cases a3 : steps > 500
  · exact ⟨_, HLw_ok hgl hWk sub_never lp_none lp_none, (r_lwDN gl _ _ _ (fun _ _ => false) (fun _ _ => false) (fun _ _ => false) c steps st  []).trans (condE (decide_eq_false a2) (condI (decide_eq_true a3) rfl))⟩
  cases a4 : st == 0 with
  | true => exact ⟨_, HLw_ok hgl hWk sub_never lp_none lp_none, (r_lwDN gl _ _ _ (fun _ _ => false) (fun _ _ => false) (fun _ _ => false) c steps st  []).trans (condE (decide_eq_false a2) (condE (decide_eq_false a3) (condI a4 rfl)))⟩
  | false =>
    have pre : ∀ {A B C D E r : Option Value}, E = r → cond (decide (steps < 0)) A (cond (decide (steps > 500)) B (cond (st == 0) C E)) = r := fun h => condE (decide_eq_false a2) (condE (decide_eq_false a3) (condE a4 h))
    have hl := pl_loopN hgl c steps st
    cases he : memE c.blocks == 0 with
    | false => exact ⟨_, HLw_ok hgl hWk sub_never hl lp_none, (r_lwDN gl _ _ _ (fun _ _ => false) _ (fun _ _ => false) c steps st []).trans (pre (D := none) (condI (atS_self _ _) (condI rfl (condE he (condI (by simpa [bne] using he) rfl)))))⟩
    | true =>
      have hm := memN_ok (memE_0 he)
      have hN := sub_coNewN hgl (id := 0) hm plan_core
      cases hc : cnE c [] == 0 with
      | false =>
        rw [cnOut_bad hc] at hN
        exact ⟨_, HLw_ok hgl hWk hN hl lp_none, (r_lwDN gl _ _ _ _ _ (fun _ _ => false) c steps st (memN c.blocks)).trans (pre (D := none) (condI (atS_self _ _) (condI rfl (condI he (condI (atS_self _ _) rfl)))))⟩
      | true =>
        rw [cnOut_ok hc] at hN
        by_cases hz : steps = 0
        · subst hz
          exact ⟨_, HLw_ok hgl hWk hN hl (sp_loopI0 hgl c (memN c.blocks)), (r_lwEN gl _ _ _ _ _ _ c 0 st (memN c.blocks) _ _ w0).trans (pre (D := none) (condI (atS_self _ _) (condI rfl (condI he (condI (atS_self _ _) (condI (atS_self _ _) rfl))))))⟩
        · exact ⟨_, HLw_ok hgl hWk hN hl (sp_loopX0 hF hgl hWk c (memN c.blocks) a4 (by omega)), (r_lwFN gl _ _ _ _ _ _ c steps st (memN c.blocks) _ _ w0).trans (pre (D := none) (condI (atS_self _ _) (condI rfl (condI he (condI (atS_self _ _) (condI (atS_self _ _) rfl))))))⟩
theorem lawW {gl : Gl} (hF : GlF gl) (hgl : Low gl) (hWk : FnOK Tryz.prog gl 6 afW) {zs : List Int} {off cap : Nat} (hW : GlW gl 902 off zs) (hcap : zs.length ≤ cap) (hz : WordsOk zs) (c : Cfg) (steps st : Int) : TrueL gl c (wSl 902 off zs.length cap) steps st := by
  by_cases a1 : (zs.length : Int) > 1100
  · exact ⟨_, HLw_ok hgl hWk sub_never lp_none lp_none, (r_lwD0 gl _ _ _ (fun _ _ => false) (fun _ _ => false) (fun _ _ => false) c steps st off zs.length cap []).trans (condI (decide_eq_true a1) rfl)⟩
  by_cases a2 : steps < 0
  · exact ⟨_, HLw_ok hgl hWk sub_never lp_none lp_none, (r_lwD0 gl _ _ _ (fun _ _ => false) (fun _ _ => false) (fun _ _ => false) c steps st off zs.length cap []).trans (condE (decide_eq_false a1) (condI (decide_eq_true a2) rfl))⟩
  by_cases a3 : steps > 500
  · exact ⟨_, HLw_ok hgl hWk sub_never lp_none lp_none, (r_lwD0 gl _ _ _ (fun _ _ => false) (fun _ _ => false) (fun _ _ => false) c steps st off zs.length cap []).trans (condE (decide_eq_false a1) (condE (decide_eq_false a2) (condI (decide_eq_true a3) rfl)))⟩
  cases a4 : st == 0 with
  | true => exact ⟨_, HLw_ok hgl hWk sub_never lp_none lp_none, (r_lwD0 gl _ _ _ (fun _ _ => false) (fun _ _ => false) (fun _ _ => false) c steps st off zs.length cap []).trans (condE (decide_eq_false a1) (condE (decide_eq_false a2) (condE (decide_eq_false a3) (condI a4 rfl))))⟩
  | false =>
    have pre : ∀ {A B C D E r : Option Value}, E = r → cond (decide ((zs.length : Int) > 1100)) D (cond (decide (steps < 0)) A (cond (decide (steps > 500)) B (cond (st == 0) C E))) = r := fun h => condE (decide_eq_false a1) (condE (decide_eq_false a2) (condE (decide_eq_false a3) (condE a4 h)))
    cases hp : zs.all plainW with
    | false =>
      obtain ⟨j, hj, b1, b2⟩ := first_bad hp
      exact ⟨_, HLw_ok hgl hWk sub_never (pl_loopB hF hgl hWk hW hcap (by omega) hz hj b1 b2 c steps st) lp_none, (r_lwB0 gl _ _ _ (fun _ _ => false) _ (fun _ _ => false) c steps st off zs.length cap).trans (pre (condI (atS_self _ _) rfl))⟩
    | true =>
      have hok : ∀ x ∈ zs, plainW x = true := fun x hx => List.all_eq_true.1 hp x hx
      have hl := pl_loopO hF hgl hWk hW hcap (by omega) hz hok c steps st
      have hm := fun h => memN_ok (memE_0 (n := c.blocks) h)
      have hN := fun h => sub_coNew hF hgl hW hcap hz (c := c) (id := 0) (hm h) plan_core
      cases zs with
      | nil =>
        cases he : memE c.blocks == 0 with
        | false => exact ⟨_, HLw_ok hgl hWk sub_never hl lp_none, (r_lwD0 gl _ _ _ (fun _ _ => false) _ (fun _ _ => false) c steps st off 0 cap []).trans (pre (condI (atS_self _ _) (condI rfl (condE he (condI (by simpa [bne] using he) rfl)))))⟩
        | true =>
          have hN := hN he
          cases hc : cnE c [] == 0 with
          | false =>
            rw [cnOut_bad hc] at hN
            exact ⟨_, HLw_ok hgl hWk hN hl lp_none, (r_lwD0 gl _ _ _ _ _ (fun _ _ => false) c steps st off 0 cap (memN c.blocks)).trans (pre (condI (atS_self _ _) (condI rfl (condI he (condI (atS_self _ _) rfl)))))⟩
          | true =>
            rw [cnOut_ok hc] at hN
            by_cases hz : steps = 0
            · subst hz
              exact ⟨_, HLw_ok hgl hWk hN hl (sp_loopI0 hgl c (memN c.blocks)), (r_lwE0 gl _ _ _ _ _ _ c 0 st off 0 cap (memN c.blocks) _ _ w0).trans (pre (condI (atS_self _ _) (condI rfl (condI he (condI (atS_self _ _) (condI (atS_self _ _) rfl))))))⟩
            · exact ⟨_, HLw_ok hgl hWk hN hl (sp_loopX0 hF hgl hWk c (memN c.blocks) a4 (by omega)), (r_lwF0 gl _ _ _ _ _ _ c steps st off 0 cap (memN c.blocks) _ _ w0).trans (pre (condI (atS_self _ _) (condI rfl (condI he (condI (atS_self _ _) (condI (atS_self _ _) rfl))))))⟩
      | cons z l =>
        rw [plAt_full] at hl
        have haf : ((cdsL ((z :: l).map tkS)).all (af 8) && true) = true := by rw [cdsL_af]; rfl
        cases he : memE c.blocks == 0 with
        | false => exact ⟨_, HLw_ok hgl hWk sub_never hl lp_none, (r_lwD1 gl _ _ _ (fun _ _ => false) _ (fun _ _ => false) c steps st off (z :: l).length cap (z :: l).length (cdsL ((z :: l).map tkS)) []).trans (pre (condI (atS_self _ _) (condI haf (condI rfl (condE he (condI (by simpa [bne] using he) rfl))))))⟩
        | true =>
          have hN := hN he
          cases hc : cnE c (z :: l) == 0 with
          | false =>
            rw [cnOut_bad hc] at hN
            exact ⟨_, HLw_ok hgl hWk hN hl lp_none, (r_lwD1 gl _ _ _ _ _ (fun _ _ => false) c steps st off (z :: l).length cap (z :: l).length (cdsL ((z :: l).map tkS)) (memN c.blocks)).trans (pre (condI (atS_self _ _) (condI haf (condI rfl (condI he (condI (atS_self _ _) rfl))))))⟩
          | true =>
            rw [cnOut_ok hc] at hN
            have hn := cnE_len hc
            rcases first_not (inR (z :: l)) steps.toNat with hr | ⟨j, j1, j2, j3⟩
            · exact ⟨_, HLw_ok hgl hWk hN hl (sp_loopI hF hgl hWk c (memN c.blocks) a4 (by omega) (by omega) hn hok hr), (r_lwE1 gl _ _ _ _ _ _ c steps st off (z :: l).length cap (z :: l).length (cdsL ((z :: l).map tkS)) (memN c.blocks) _ _ (stN (z :: l) steps.toNat).1).trans (pre (condI (atS_self _ _) (condI haf (condI rfl (condI he (condI (atS_self _ _) (condI haf (condI (atS_self _ _) (condI haf rfl)))))))))⟩
            · exact ⟨_, HLw_ok hgl hWk hN hl (sp_loopX hF hgl hWk c (memN c.blocks) a4 (by omega) hn hok j1 j2 j3), (r_lwF1 gl _ _ _ _ _ _ c steps st off (z :: l).length cap (z :: l).length (cdsL ((z :: l).map tkS)) (memN c.blocks) _ _ (stN (z :: l) j).1).trans (pre (condI (atS_self _ _) (condI haf (condI rfl (condI he (condI (atS_self _ _) (condI haf (condI (atS_self _ _) (condI haf rfl)))))))))⟩
end Go.Proofs.YtpcbedgaecbfmaaGreatDoor

namespace Go.Proofs.YtpcbedgaecbfmaaGreatDoor
open Go.ChangeShapes Go.WideShapes Go.ChangeAt Go.RowKit Go.Proofs.YtpcbedgaecbfmaaGreatDoor.Ev

/-! What comes in: rows of words, plans. -/
theorem addr_add (blk off n : Nat) : (⟨blk, off, none⟩ : Addr).add n = ⟨blk, off + n, none⟩ := by
  unfold Addr.add
  split
  · rename_i h; subst h; rfl
  · rfl
theorem list_of {α : Type} {Q : Nat → α → Prop} : ∀ n : Nat, (∀ i, i < n → ∃ e, Q i e) → ∃ zs : List α, zs.length = n ∧ ∀ i e, zs[i]? = some e → Q i e
  | 0, _ => ⟨[], rfl, fun i e h => by simp at h⟩
  | n + 1, h => by
    obtain ⟨zs, h1, h2⟩ := list_of n fun i hi => h i (by omega)
    obtain ⟨e, he⟩ := h n (by omega)
    refine ⟨zs ++ [e], by simp [h1], fun i e' h3 => ?_⟩
    rcases Nat.lt_or_ge i n with hi | hi
    · rw [List.getElem?_append_left (by omega)] at h3
      exact h2 i e' h3
    · rw [List.getElem?_append_right (by omega), h1] at h3
      rcases Nat.eq_or_lt_of_le hi with rfl | hi
      · simp at h3; subst h3; exact he
      · rw [List.getElem?_eq_none (by simp; omega)] at h3; cases h3
set_option maxRecDepth 100000 in
/-- A parameter that is a row: nil, or its elements' cells. -/
theorem open_rows {H : Type} {enc : TypeId × Value → H} {w : World} {sp : Nat → Bool} {held : Bool} {rc : Reach} {base : Nat} {v : Value} {d : DataW H} {p : List MemPlace} {t e n : Nat} (ht : Tryz.prog.underlying t = some (.slice e)) (hn : Tryz.prog.cellsOf e = n)
    (hv : Value.okWide Tryz.prog w rc base t v) (h : DataW.Trod enc Tryz.prog w 0 sp held t v d p) :
    v = .slice none 0 0 ∨ ∃ (blk off len cap : Nat) (m : Nat), v = .slice (some ⟨blk, off, none⟩) len cap ∧ len ≤ cap ∧ cap ≤ maxLen ∧ blk < w.heap.size ∧ ∀ i, i < len → ∃ cs x, cs.length = n ∧ (∀ j, j < n → ∃ y, cs[j]? = some y ∧ w.cell? ⟨blk, off + i * n + j, none⟩ = some y) ∧ DataW.trod enc Tryz.prog w 0 sp held m e cs = some x := by
  obtain ⟨a, len, cap, rfl⟩ := okWide_slice ht hv
  obtain ⟨fuel, h⟩ := h
  rcases DataW.trod_slice ht h with ⟨hn, _⟩ | ⟨a', len', cap', elems, rest, m, _, hcs, _, _, hlc, hcm, hel, hi, _⟩
  · left
    simpa [Value.cells] using hn
  · right
    have e0 : Value.slice a len cap = .slice (some a') len' cap' := by simpa [Value.cells] using hcs
    cases e0
    have hok : Cell.ok Tryz.prog w rc base t (.slice (some a') len cap) := by
      simpa only [Value.okWide, Cell.okWide, ht] using hv
    have hhas : w.has Tryz.prog rc base a' e cap := by
      simp only [Cell.ok, ht] at hok
      exact hok.2.2
    obtain ⟨_, hs, row, cells, hsh, _⟩ := hhas
    obtain ⟨blk, off, spot⟩ := a'
    simp only at hs
    subst hs
    have hb : blk < w.heap.size := by
      rcases Nat.lt_or_ge blk w.heap.size with h1 | h1
      · exact h1
      · simp [World.shape?, Array.getElem?_eq_none h1] at hsh
    refine ⟨blk, off, len, cap, m, rfl, hlc, hcm, hb, fun i hlt => ?_⟩
    have h1 := hi i hlt
    rw [List.getElem?_eq_getElem (by omega)] at h1
    obtain ⟨cs, h2, h3⟩ := Option.bind_eq_some_iff.1 h1
    rw [hn] at h2
    obtain ⟨_, hl, hat⟩ := World.cells?_some h2
    refine ⟨cs, _, hl, fun j hj => ⟨cs[j]'(by omega), List.getElem?_eq_getElem (by omega), ?_⟩, h3⟩
    have := hat j (by omega)
    rw [addr_add, addr_add] at this
    rw [this]
    exact List.getElem?_eq_getElem (by omega)
theorem fieldI {P : Program} {H : Type} {enc : TypeId × Value → H} {w : World} {base : Nat} {sp : Nat → Bool} {held : Bool} {n : Nat} {t : TypeId} {k : IntKind} {cs : List Value} {xs : List (DataW H × List MemPlace)} {i : Nat}
    (ht : P.underlying t = some (.int k)) (hi : i < xs.length) (h : DataW.trod enc P w base sp held n t cs = xs[i]?) : ∃ m, cs = [.int k m] ∧ (Lit.int k m).wf = true := by
  rw [List.getElem?_eq_getElem hi] at h
  obtain ⟨m, h1, _, h2⟩ := DataW.trod_int ht h
  exact ⟨m, h1, h2⟩
theorem u32_bounds {n : Int} (h : (Lit.int .u32 n).wf = true) : 0 ≤ n ∧ n < 4294967296 := by
  simp only [Lit.wf, Bool.and_eq_true, decide_eq_true_eq] at h
  have e1 : IntKind.min .u32 = 0 := by decide +kernel
  have e2 : IntKind.max .u32 = 4294967295 := by decide +kernel
  rw [e1, e2] at h
  omega
set_option maxRecDepth 100000 in
theorem open_u32s {H : Type} {enc : TypeId × Value → H} {w : World} {sp : Nat → Bool} {held : Bool} {rc : Reach} {base : Nat} {v : Value} {d : DataW H} {p : List MemPlace}
    (hv : Value.okWide Tryz.prog w rc base 24 v) (h : DataW.Trod enc Tryz.prog w 0 sp held 24 v d p) :
    v = .slice none 0 0 ∨ ∃ (blk off cap : Nat) (ws : List Int), v = .slice (some ⟨blk, off, none⟩) ws.length cap ∧ ws.length ≤ cap ∧ ws.length ≤ 9223372036854775807 ∧ (∀ (i : Nat) x, (ws.map (Value.int .u32))[i]? = some x → w.cell? ⟨blk, off + i, none⟩ = some x) ∧ WordsOk ws ∧ blk < w.heap.size := by
  rcases open_rows (n := 1) Tryz.underlying24 (by kernel_rfl) hv h with h | ⟨blk, off, len, cap, m, rfl, hlc, hcm, hb, hi⟩
  · exact .inl h
  · obtain ⟨ws, hl, hq⟩ := list_of (Q := fun i (x : Int) => w.cell? ⟨blk, off + i, none⟩ = some (.int .u32 x) ∧ 0 ≤ x ∧ x < 4294967296) len fun i hlt => by
      obtain ⟨cs, y, h1, h2, h3⟩ := hi i hlt
      obtain ⟨z, g1, _, g2⟩ := DataW.trod_int Tryz.underlying28 h3
      subst g1
      obtain ⟨y', h4, h5⟩ := h2 0 (by decide)
      cases h4
      rw [Nat.mul_one, Nat.add_zero] at h5
      have hz := u32_bounds g2
      exact ⟨z, h5, hz.1, hz.2⟩
    subst hl
    have hmx : maxLen = 9223372036854775807 := by kernel_rfl
    refine .inr ⟨blk, off, cap, ws, rfl, hlc, by omega, fun i x hx => ?_, fun x hx => ?_, hb⟩
    · rw [List.getElem?_map] at hx
      obtain ⟨z, hz, rfl⟩ := Option.map_eq_some_iff.1 hx
      exact (hq i z hz).1
    · obtain ⟨i, hi2⟩ := List.getElem?_of_mem hx
      exact (hq i x hi2).2
set_option maxRecDepth 100000 in
theorem open_cfg {H : Type} {enc : TypeId × Value → H} {W : World} {rc : Reach} {base : Nat} {v : Value} {d : DataW H} {p : List MemPlace} (hv : Value.okWide Tryz.prog W rc base 23 v) (h : DataW.Trod enc Tryz.prog W 0 (fun _ => true) true 23 v d p) : ∃ c : Cfg, v = cfgV c := by
  obtain ⟨cs, rfl, hcs⟩ := okWide_struct Tryz.underlying23 hv
  obtain ⟨fuel, h1⟩ := h
  obtain ⟨xs, n, _, _, hl, hlen, hf⟩ := DataW.trod_struct Tryz.underlying23 h1
  have h8 : Tryz.prog.cellsOf 23 = 8 := by kernel_rfl
  have e3 : Tryz.prog.cellsOf 3 = 1 := by kernel_rfl
  have hlen : xs.length = 8 := hlen
  rw [h8] at hcs
  obtain ⟨l⟩ := cs
  obtain ⟨v0, v1, v2, v3, v4, v5, v6, v7, rfl⟩ : ∃ v0 v1 v2 v3 v4 v5 v6 v7, l = [v0, v1, v2, v3, v4, v5, v6, v7] := by
    match l, hcs with
    | [v0, v1, v2, v3, v4, v5, v6, v7], _ => exact ⟨v0, v1, v2, v3, v4, v5, v6, v7, rfl⟩
  have f0 := hf 0 _ rfl
  have f1 := hf 1 _ rfl
  have f2 := hf 2 _ rfl
  have f3 := hf 3 _ rfl
  have f4 := hf 4 _ rfl
  have f5 := hf 5 _ rfl
  have f6 := hf 6 _ rfl
  have f7 := hf 7 _ rfl
  have f0 : DataW.trod enc Tryz.prog W 0 (fun _ => true) true n 3 (([v0, v1, v2, v3, v4, v5, v6, v7].drop 0).take (Tryz.prog.cellsOf 3)) = xs[0]? := f0
  have f1 : DataW.trod enc Tryz.prog W 0 (fun _ => true) true n 3 (([v0, v1, v2, v3, v4, v5, v6, v7].drop 1).take (Tryz.prog.cellsOf 3)) = xs[1]? := f1
  have f2 : DataW.trod enc Tryz.prog W 0 (fun _ => true) true n 3 (([v0, v1, v2, v3, v4, v5, v6, v7].drop 2).take (Tryz.prog.cellsOf 3)) = xs[2]? := f2
  have f3 : DataW.trod enc Tryz.prog W 0 (fun _ => true) true n 3 (([v0, v1, v2, v3, v4, v5, v6, v7].drop 3).take (Tryz.prog.cellsOf 3)) = xs[3]? := f3
  have f4 : DataW.trod enc Tryz.prog W 0 (fun _ => true) true n 3 (([v0, v1, v2, v3, v4, v5, v6, v7].drop 4).take (Tryz.prog.cellsOf 3)) = xs[4]? := f4
  have f5 : DataW.trod enc Tryz.prog W 0 (fun _ => true) true n 3 (([v0, v1, v2, v3, v4, v5, v6, v7].drop 5).take (Tryz.prog.cellsOf 3)) = xs[5]? := f5
  have f6 : DataW.trod enc Tryz.prog W 0 (fun _ => true) true n 3 (([v0, v1, v2, v3, v4, v5, v6, v7].drop 6).take (Tryz.prog.cellsOf 3)) = xs[6]? := f6
  have f7 : DataW.trod enc Tryz.prog W 0 (fun _ => true) true n 3 (([v0, v1, v2, v3, v4, v5, v6, v7].drop 7).take (Tryz.prog.cellsOf 3)) = xs[7]? := f7
  rw [e3] at f0 f1 f2 f3 f4 f5 f6 f7
  obtain ⟨n0, g0, _⟩ := fieldI Tryz.underlying3 (by omega) f0
  obtain ⟨n1, g1, _⟩ := fieldI Tryz.underlying3 (by omega) f1
  obtain ⟨n2, g2, _⟩ := fieldI Tryz.underlying3 (by omega) f2
  obtain ⟨n3, g3, _⟩ := fieldI Tryz.underlying3 (by omega) f3
  obtain ⟨n4, g4, _⟩ := fieldI Tryz.underlying3 (by omega) f4
  obtain ⟨n5, g5, _⟩ := fieldI Tryz.underlying3 (by omega) f5
  obtain ⟨n6, g6, _⟩ := fieldI Tryz.underlying3 (by omega) f6
  obtain ⟨n7, g7, _⟩ := fieldI Tryz.underlying3 (by omega) f7
  cases g0; cases g1; cases g2; cases g3; cases g4; cases g5; cases g6; cases g7
  exact ⟨⟨n0, n1, n2, n3, n4, n5, n6, n7⟩, rfl⟩
/-! CorePlain's call. -/
theorem glK_up {u0 o0 u1 o1 off : Nat} {cs : List Value} : ∀ g k v, glC u0 o0 u1 o1 g k = some v → glK (glC u0 o0 u1 o1) 902 off cs g k = some v := fun g k v h => by
  unfold glK
  cases hg : Nat.beq g 902 with
  | false => exact h
  | true =>
    rw [Nat.eq_of_beq_eq_true hg] at h
    have : glC u0 o0 u1 o1 902 k = none := rfl
    rw [this] at h; cases h
theorem u32_plain (zs : List Int) : Plain (zs.map (Value.int .u32)) := fun v hv => by
  obtain ⟨z, _, rfl⟩ := List.mem_map.1 hv
  exact ⟨rfl, rfl⟩
theorem glK_W {gl : Gl} {off : Nat} {zs : List Int} : GlW (glK gl 902 off (zs.map (Value.int .u32))) 902 off zs := fun i z h => by
  show cond (Nat.beq 902 902) (cond (Nat.ble off (off + i)) (zs.map (Value.int .u32))[off + i - off]? none) _ = _
  rw [nbl (show off ≤ off + i by omega), show off + i - off = i by omega, List.getElem?_map, h]
  rfl
theorem corePlain_calls {u0 o0 u1 o1 : Nat} {bs : List Nat} (hbs : bs.length = 2) {W : World} (hr : Rel Tryz.prog (glC u0 o0 u1 o1) (phi0 Tryz.prog.globals.size bs) LS.start W) (c : Cfg) {v : Value}
    (hv : v = .slice none 0 0 ∨ ∃ (blk off cap : Nat) (ws : List Int), v = .slice (some ⟨blk, off, none⟩) ws.length cap ∧ ws.length ≤ cap ∧ ws.length ≤ 9223372036854775807 ∧ (∀ (i : Nat) x, (ws.map (Value.int .u32))[i]? = some x → W.cell? ⟨blk, off + i, none⟩ = some x) ∧ WordsOk ws ∧ blk < W.heap.size) (steps st : Int) :
    Calls Tryz.prog 3 #[cfgV c, v, .int .i64 steps, .int .u64 st] W (fun e W' => e = .returned (.bool true) ∧ Below W.heap.size W W') := by
  have hg := tglob
  rcases hv with rfl | ⟨blk, off, cap, ws, rfl, h1, _, h3, h4, h5⟩
  · have hgl := glC_low u0 o0 u1 o1
    obtain ⟨H, hH, he⟩ := lawN (glC_F u0 o0 u1 o1) hgl (fn_memo hgl (memo24 u0 o0 u1 o1)) c steps st
    exact flatSR noSy_ok goodT hgl tglob hH he hr (LR.cons (VR.af_refl 8 rfl) (LR.cons (.nilSlice 0 0) (LR.cons (.int _ _) (LR.cons (.int _ _) (LR.nil _)))))
  · have hφ : phi0 Tryz.prog.globals.size bs 902 = none := phi0_none (by omega) (by omega)
    have hr2 := hr.addK tglob (b := 902) (off := off) (blk := blk) (by decide) (by decide) hφ (u32_plain ws) h3 h5
    have hgl : Low (glK (glC u0 o0 u1 o1) 902 off (ws.map (Value.int .u32))) := glK_low (glC_low u0 o0 u1 o1) (by decide) (u32_plain ws)
    obtain ⟨H, hH, he⟩ := lawW (fun i z h => glK_up _ _ _ (glC_F u0 o0 u1 o1 i z h)) hgl (fn_memo hgl (memo_mono glK_up (memo24 u0 o0 u1 o1))) (glK_W (zs := ws)) h1 h4 c steps st
    exact flatSR noSy_ok goodT hgl tglob hH he hr2 (LR.cons (VR.af_refl 8 rfl) (LR.cons (.slice _ _ _ _ _ ⟨rfl, rfl, ⟨blk, none⟩, by simp [Phi.set], rfl, fun _ => ⟨rfl, rfl⟩, fun S z h => by cases h⟩) (LR.cons (.int _ _) (LR.cons (.int _ _) (LR.nil _)))))
end Go.Proofs.YtpcbedgaecbfmaaGreatDoor
