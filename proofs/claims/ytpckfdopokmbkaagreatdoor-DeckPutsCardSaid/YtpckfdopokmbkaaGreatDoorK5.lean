/- Homes made anew. No condition. -/
import Derived.Test.YtpckfdopokmbkaaGreatDoorK4
import Derived.Test.YtpckfdopokmbkaaGreatDoorK3
noncomputable section
namespace Go.Proofs.YtpckfdopokmbkaaGreatDoor.Ev
open Go
open Go.Proofs Go.RowKit

/-! Homes: what is made anew. -/
open Classical in
def repHd (S : Nat → List Value) : Hd := fun vs rows => match vs with
  | [_, .int .i64 n] => some (.br (cl (vs = [slK_t 1000 1, .int .i64 n] ∧ rows = [some (entRow entZ)] ∧ 1 ≤ n ∧ n ≤ 255)) (.ret (.normal, [slK_t 1001 n.toNat], [some (entRow entZ), some (entRow (S n.toNat))])) .fail)
  | _ => none
theorem sub_rep {gl : Gl} (hgl : Low gl) : SubOK Tryz.prog gl 56 (repHd fun k => repl k entZ) := sub_ofB goodT hgl tglob fun vs rows t r h1 h2 => by
  unfold repHd at h1
  split at h1
  case h_2 => cases h1
  rename_i x n
  cases h1
  obtain ⟨h3, h4⟩ := condT (show cond (cl _) _ none = some r from h2)
  obtain ⟨e1, rfl, e2, e3⟩ := of_cl h3
  refine ⟨noSy, H0, 100, 40, 40, noPlan, noSy_ok, H0_ok, ?_⟩
  rw [e1]
  have h := rp255 gl (n.toNat - 1) (by omega)
  rw [show n.toNat - 1 + 1 = n.toNat from by omega] at h
  have e4 : ((n.toNat : Nat) : Int) = n := by omega
  unfold repF at h
  rw [e4] at h
  refine Eq.trans h ?_
  rw [← h4]
  rfl
def HFr : AF := fun args _ => match args with
  | [] => some (true, .agg ⟨entZ⟩)
  | _ => none
theorem fn_free {gl : Gl} (hgl : Low gl) : FnOK Tryz.prog gl 57 HFr := fn_res hgl H0_ok fun args σ v h => by
  unfold HFr at h
  split at h
  · cases h; exact ⟨rfl, by kernel_rfl⟩
  · cases h
def HHm (m d : Cfg → Int) (g : Int → Bool) (pr : Int → Rws) (gm : Rws → Bool) (nb : Rws → Int) (S : Nat → List Value) : Hs := hsOf [(20, afC ttC fun c => .int .i64 (m c)), (22, afC ttC fun c => .int .i64 (d c)), (57, HFr)]
  [(55, hdN (decI .i64) g (fun _ => 0) pr), (54, hdM dec0 (fun r _ => gm r) (fun r _ => .int .i64 (nb r)) fun r _ => r), (56, repHd S)] []
set_option maxRecDepth 100000 in
theorem r_hmNew (gl : Gl) (m d : Cfg → Int) (g : Int → Bool) (pr : Int → Rws) (gm : Rws → Bool) (nb : Rws → Int) (S : Nat → List Value) (c : Cfg) (r : Rws) : cB gl (HHm m d g pr gm nb S) 36 [cfgV c, pK 1000] (bx r) plM =
 cond (m c != 0) (
 qs [c.cores, c.sets, c.ways, c.blocks, c.logs, c.backs, c.nest, c.tries] (
 some (.normal, ([(.tuple #[(.pointer none), (.int .i64 2)])], [some (.box (.raw r) [])])))) (
 cond (gm r) (
 cond (nb r != c.blocks) (
 qs [c.blocks, c.blocks, c.cores, c.sets, c.ways, c.blocks, c.logs, c.backs, c.nest, c.tries] (
 some (.normal, ([(.tuple #[(.pointer none), (.int .i64 2)])], [some (.box (.raw r) [])])))) (
 qs [c.blocks, c.blocks, c.cores, c.sets, c.ways, c.blocks, c.logs, c.backs, c.nest, c.tries] (
 cond (g (IntKind.i64.wrap (c.cores * IntKind.i64.wrap (c.backs + 1)))) (
 cond (cl ([.slice (some ⟨1000, 0, none⟩) 1 1, .int .i64 (d c)] = [slK_t 1000 1, .int .i64 (d c)] ∧ [some (.row ⟨splice (repl 1 [.int .i64 0, .int .u32 0]) 0 entZ, 134, (0, 0), 0, false, false⟩)] = [some (entRow entZ)] ∧ 1 ≤ d c ∧ d c ≤ 255)) (
 cond (List.all (S (d c).toNat) (af 8) && true) (
 qs [c.cores, c.sets, c.ways, c.blocks, c.logs, c.backs, c.nest, c.tries, c.cores, c.sets, c.ways, c.blocks, c.logs, c.backs, c.nest, c.tries, c.cores, c.sets, c.ways, c.blocks, c.logs, c.backs, c.nest, c.tries, c.cores, c.sets, c.ways, c.blocks, c.logs, c.backs, c.nest, c.tries, c.cores, c.sets, c.ways, c.blocks, c.logs, c.backs, c.nest, c.tries, c.cores, c.sets, c.ways, c.blocks, c.logs, c.backs, c.nest, c.tries] (
 cond (List.all (S (d c).toNat) (af 8) && true && true) (
 some (.normal, ([(.tuple #[(.pointer (some ⟨1001, 0, none⟩)), (.int .i64 0)])], [some (.box (.raw r) []), some (.box (.raw ([some (.row ⟨[(.int .i64 (c.cores)), (.int .i64 (c.sets)), (.int .i64 (c.ways)), (.int .i64 (c.blocks)), (.int .i64 (c.logs)), (.int .i64 (c.backs)), (.int .i64 (c.nest)), (.int .i64 (c.tries)), (.pointer (some ⟨1004, 0, none⟩)), (.slice (some ⟨1001, 0, none⟩) ((d c).toNat) ((d c).toNat)), (.map (some 1002)), (.pointer (some ⟨1003, 0, none⟩))], 138, (0, 0), 0, false, false⟩), some (.row ⟨(S (d c).toNat), 134, (0, 0), 0, false, false⟩), some (.map ([]) 0), some (.box (.raw (pr (IntKind.i64.wrap (c.cores * IntKind.i64.wrap (c.backs + 1))))) [])] ++ [none])) [1000])]))) (
 none))) (
 none)) (
 none)) (
 none)))) (
 none)) := by kernel_rfl
def homeX (c : Cfg) (n : Nat) (es : List Value) (js : List (Value × Value × Nat)) (clk : Nat) (pr : Rws) : Rws := [some (.row ⟨cfgL c ++ [pK 1004, slK_t 1001 n, .map (some 1002), pK 1003], 138, (0, 0), 0, false, false⟩), some (entRow es), some (.map js clk), some (.box pr [])]
def homeN (c : Cfg) : Rws := homeX c (dataI c).toNat (repl (dataI c).toNat entZ) [] 0 (poolNR ⟨c.cores * (c.backs + 1), true, [], []⟩)
theorem HHm_ok {gl : Gl} (hgl : Low gl) : (HHm mayE dataP poolOk (fun n => poolNR ⟨n, true, [], []⟩) isMem (fun r => ((mOf r).n : Int)) fun k => repl k entZ).OK Tryz.prog gl := hsOf_ok (fun p hp => by
  simp only [List.mem_cons, List.not_mem_nil, or_false] at hp
  rcases hp with rfl | rfl | rfl
  · exact fn_pMay hgl
  · exact fn_pData hgl
  · exact fn_free hgl) (fun p hp => by
  simp only [List.mem_cons, List.not_mem_nil, or_false] at hp
  rcases hp with rfl | rfl | rfl
  · exact sub_pn hgl
  · exact sub_mBlk hgl
  · exact sub_rep hgl) (fun _ h => nomatch h)
theorem sub_hmNew {gl : Gl} (hgl : Low gl) : SubOK Tryz.prog gl 36 (hdNM decHm (fun r c => planOk c && isMemN r c.blocks) (fun _ _ => 0) fun _ c => homeN c) := hdNM_sub fun r c hx => by
  simp only [isMemN, Bool.and_eq_true, beq_iff_eq] at hx
  obtain ⟨hc, hm, hb⟩ := hx
  exact atB hgl (HHm_ok hgl) (pl := plM) ((r_hmNew gl mayE dataP poolOk _ isMem _ _ c r).trans (by
    obtain ⟨⟨h1, h2, _, _, _, _, _, _, _, _, h3, h4, _⟩, _⟩ := planOk_iff.1 hc
    obtain ⟨d1, d2, _⟩ := data_bd hc
    have k1 : 1 * 2 ≤ c.cores * (c.backs + 1) := Int.mul_le_mul h1 (by omega) (by omega) (by omega)
    have k2 : c.cores * (c.backs + 1) ≤ 16 * 5 := Int.mul_le_mul h2 (by omega) (by omega) (by omega)
    rw [hm, hb, bneI_self, mayE_t hc, dataP_t hc, wrap_id (c.backs + 1) (by omega), wrap_id (c.cores * (c.backs + 1)) (by omega), poolOk_t (n := c.cores * (c.backs + 1)) (by omega)]
    simp only [qs_eq, repl_af_t _ entZ rfl, Bool.and_self]
    refine Eq.trans (b := cond (cl _) _ none) rfl ?_
    rw [cl_t (by first | exact ⟨rfl, rfl, d1, d2⟩ | exact ⟨trivial, rfl, d1, d2⟩ | simp [d1, d2])]
    rfl))
end Go.Proofs.YtpckfdopokmbkaaGreatDoor.Ev
