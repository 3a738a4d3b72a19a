/- What a core is made of; registers; words come in. Where the forms stand as the program's text lays them. -/
import Derived.Test.YtpckfdopokmbkaaGreatDoorK2
import Derived.Test.YtpckfdopokmbkaaGreatDoorK1
noncomputable section
namespace Go.Proofs.YtpckfdopokmbkaaGreatDoor.Ev
open Go
open Go.Proofs Go.RowKit

/-! Homes, logs, a core's side: what is made anew. -/
def HBk (m d : Cfg → Int) (g : Int → Bool) (pr : Int → Rws) : Hs := hsOf [(20, afC ttC fun c => .int .i64 (m c)), (22, afC ttC fun c => .int .i64 (d c))] [(81, hdN (decI .i64) g (fun _ => 0) pr)] []
def HNt (m : Cfg → Int) (g : Int → Bool) (pr : Int → Rws) : Hs := hsOf [(20, afC ttC fun c => .int .i64 (m c))] [(55, hdN (decI .i64) g (fun _ => 0) pr)] []
def HLg (lf ln le : Cfg → Int → Int) (gm : Rws → Bool) (nb : Rws → Int) : Hs := hsOf [(73, afCi .i64 ttCi fun c n => .tuple #[.int .i64 (lf c n), .int .i64 (ln c n), .int .i64 (le c n)])] [(54, hdM dec0 (fun r _ => gm r) (fun r _ => .int .i64 (nb r)) fun r _ => r)] []
def HNr (m : Cfg → Int) (g : Cfg → Bool) (gd : Int → Bool) (cr br kr : Cfg → Rws) (dr : Int → Rws) : Hs := hsOf [(20, afC ttC fun c => .int .i64 (m c))] [(69, hdN decC g (fun _ => 0) cr), (70, hdN decC g (fun _ => 0) br), (71, hdN decC g (fun _ => 0) kr), (72, hdN (decI .i64) gd (fun _ => 0) dr)] []
/-- What is made anew beside a box, and knows it. -/
def plM : Plan := ⟨[], fun v => match v with
  | .tuple ⟨[.pointer (some a), _]⟩ => [(a.block, [1000])]
  | _ => []⟩
set_option maxRecDepth 100000 in
theorem r_bNew (gl : Gl) (m d : Cfg → Int) (g : Int → Bool) (pr : Int → Rws) (c : Cfg) : cB gl (HBk m d g pr) 70 [cfgV c] [] plN =
 cond (m c != 0) (
 some (.normal, ([(.tuple #[(.pointer none), (.int .i64 (m c))])], []))) (
 cond (g c.backs) (
 some (.normal, ([(.tuple #[(.pointer (some ⟨1000, 0, none⟩)), (.int .i64 0)])], [some (.box (.raw ([some (.row ⟨[(.int .i64 (d c)), (.pointer (some ⟨1001, 0, none⟩))], 233, (0, 0), 0, false, false⟩), some (.box (.raw (pr c.backs)) [])] ++ [])) [])]))) (
 none)) := by kernel_rfl
set_option maxRecDepth 100000 in
theorem r_ntNew (gl : Gl) (m : Cfg → Int) (g : Int → Bool) (pr : Int → Rws) (c : Cfg) (n : Int) : cB gl (HNt m g pr) 37 [cfgV c, .int .i64 n] [] plN =
 cond (m c != 0) (
 some (.normal, ([(.tuple #[(.pointer none), (.int .i64 2)])], []))) (
 cond (decide (n < 1)) (
 some (.normal, ([(.tuple #[(.pointer none), (.int .i64 2)])], []))) (
 cond (decide (n > 1024)) (
 some (.normal, ([(.tuple #[(.pointer none), (.int .i64 2)])], []))) (
 cond (g 52224) (
 some (.normal, ([(.tuple #[(.pointer (some ⟨1000, 0, none⟩)), (.int .i64 0)])], [some (.box (.raw ([some (.row ⟨[(.int .i64 (c.cores)), (.int .i64 (c.sets)), (.int .i64 (c.ways)), (.int .i64 (c.blocks)), (.int .i64 (c.logs)), (.int .i64 (c.backs)), (.int .i64 (c.nest)), (.int .i64 (c.tries)), (.int .i64 (n)), (.pointer (some ⟨1001, 0, none⟩)), (.int .i64 0)], 140, (0, 0), 0, false, false⟩), some (.box (.raw (pr 52224)) [])] ++ [])) [])]))) (
 none)))) := by kernel_rfl
set_option maxRecDepth 100000 in
theorem r_lgNew (gl : Gl) (lf ln le : Cfg → Int → Int) (gm : Rws → Bool) (nb : Rws → Int) (c : Cfg) (r : Rws) (n : Int) : cB gl (HLg lf ln le gm nb) 60 [cfgV c, pK 1000, .int .i64 n] (bx r) plM =
 cond (le c n != 0) (
 some (.normal, ([(.tuple #[(.pointer none), (.int .i64 (le c n))])], [some (.box (.raw r) [])]))) (
 cond (gm r) (
 cond (nb r != c.blocks) (
 qs [c.blocks, c.blocks] (
 some (.normal, ([(.tuple #[(.pointer none), (.int .i64 2)])], [some (.box (.raw r) [])])))) (
 qs [c.blocks, c.blocks] (
 some (.normal, ([(.tuple #[(.pointer (some ⟨1001, 0, none⟩)), (.int .i64 0)])], [some (.box (.raw r) []), some (.box (.raw ([some (.row ⟨[(.int .i64 (c.cores)), (.int .i64 (c.sets)), (.int .i64 (c.ways)), (.int .i64 (c.blocks)), (.int .i64 (c.logs)), (.int .i64 (c.backs)), (.int .i64 (c.nest)), (.int .i64 (c.tries)), (.pointer (some ⟨1001, 0, none⟩)), (.int .i64 (lf c n)), (.int .i64 (IntKind.i64.wrap ((IntKind.i64.wrap (ln c n * 16)).tdiv 2))), (.int .i64 0)], 200, (0, 0), 0, false, false⟩)] ++ [none])) [1000])]))))) (
 none)) := by kernel_rfl
set_option maxRecDepth 100000 in
theorem r_nrNew (gl : Gl) (m : Cfg → Int) (g : Cfg → Bool) (gd : Int → Bool) (cr br kr : Cfg → Rws) (dr : Int → Rws) (c : Cfg) (n : Int) : cB gl (HNr m g gd cr br kr dr) 59 [cfgV c, .int .i64 n] [] plN =
 cond (m c != 0) (
 some (.normal, ([(.tuple #[(.pointer none), (.int .i64 (m c))])], []))) (
 cond (decide (n < 0)) (
 some (.normal, ([(.tuple #[(.pointer none), (.int .i64 5)])], []))) (
 cond (decide (n ≥ c.cores)) (
 some (.normal, ([(.tuple #[(.pointer none), (.int .i64 5)])], []))) (
 cond (g c) (
 cond (g c) (
 cond (g c) (
 cond (gd c.nest) (
 some (.normal, ([(.tuple #[(.pointer (some ⟨1000, 0, none⟩)), (.int .i64 0)])], [some (.box (.raw ([some (.row ⟨[(.int .i64 (c.cores)), (.int .i64 (c.sets)), (.int .i64 (c.ways)), (.int .i64 (c.blocks)), (.int .i64 (c.logs)), (.int .i64 (c.backs)), (.int .i64 (c.nest)), (.int .i64 (c.tries)), (.int .i64 (n)), (.pointer (some ⟨1001, 0, none⟩)), (.pointer (some ⟨1002, 0, none⟩)), (.pointer (some ⟨1003, 0, none⟩)), (.pointer (some ⟨1004, 0, none⟩)), (.int .u8 0), (.int .i64 0), (.int .i64 0), (.int .i64 0), (.int .u64 0), (.int .u8 0), (.bool false), (.bool false), (.int .u32 0), (.int .u32 0), (.int .u32 0), (.int .u32 0), (.int .u32 0), (.int .u32 0), (.int .u32 0), (.int .u32 0), (.int .u32 0), (.int .u32 0), (.int .u32 0), (.int .u32 0), (.int .u32 0), (.int .u32 0), (.int .u32 0), (.int .u32 0), (.bool false)], 187, (0, 0), 0, false, false⟩), some (.box (.raw (cr c)) []), some (.box (.raw (br c)) []), some (.box (.raw (kr c)) []), some (.box (.raw (dr c.nest)) [])] ++ [])) [])]))) (
 none)) (
 none)) (
 none)) (
 none)))) := by kernel_rfl
end Go.Proofs.YtpckfdopokmbkaaGreatDoor.Ev

namespace Go.Proofs.YtpckfdopokmbkaaGreatDoor.Ev
open Go
open Go.Proofs Go.RowKit

/-! Homes, logs, nets, a core's side: what is made anew, as it is answered. -/
theorem hdN_weak {gl : Gl} {f : FuncId} {α : Type} {D : Dec α} {g g' : α → Bool} {e e' : α → Int} {n : α → Rws} (hs : SubOK Tryz.prog gl f (hdN D g e n)) (h : ∀ x, g' x = true → g x = true ∧ e' x = e x) : SubOK Tryz.prog gl f (hdN D g' e' n) := by
  intro vs rows t ex u rows' h1 h2
  unfold hdN at h1
  split at h1
  case h_2 => cases h1
  obtain ⟨x, h5, h6⟩ := Option.map_eq_some_iff.1 h1
  subst h6
  obtain ⟨h7, h8⟩ := condT (show cond (g' x) _ none = some (ex, [u], rows') from h2)
  obtain ⟨k1, k2⟩ := h x h7
  rw [k2] at h8
  refine hs vs [] (.br (g x) (.br (e x == 0) (.ret (.normal, [.tuple #[pK 1000, .int .i64 0]], [some (.box (n x) [])])) (.ret (.normal, [.tuple #[.pointer none, .int .i64 (e x)]], []))) .fail) ex u rows' ?_ ?_
  · show (D.dec vs).map _ = some _
    rw [h5]; rfl
  · show cond (g x) _ none = _
    rw [k1]; exact h8
/-- What is made anew beside a box: refused, or a box that knows the first one. -/
def hdNM {α : Type} (D : Dec α) (g : Rws → α → Bool) (e : Rws → α → Int) (n : Rws → α → Rws) : Hd := fun vs rows => match rows with
  | [some (.box (.raw r) [])] => (D.dec vs).map fun x => .br (g r x) (.br (e r x == 0) (.ret (.normal, [.tuple #[pK 1001, .int .i64 0]], [some (.box r []), some (.box (.raw (n r x ++ [none])) [1000])])) (.ret (.normal, [.tuple #[.pointer none, .int .i64 (e r x)]], [some (.box r [])]))) .fail
  | _ => none
theorem hdNM_sub {gl : Gl} {f : FuncId} {α : Type} {D : Dec α} {g : Rws → α → Bool} {e : Rws → α → Int} {n : Rws → α → Rws} (h : ∀ r x, g r x = true → SubOK Tryz.prog gl f (gH (atS (D.enc x) (bx r)) (cond (e r x == 0) (.normal, [.tuple #[pK 1001, .int .i64 0]], [some (.box r []), some (.box (.raw (n r x ++ [none])) [1000])]) (.normal, [.tuple #[.pointer none, .int .i64 (e r x)]], [some (.box r [])])))) : SubOK Tryz.prog gl f (hdNM D g e n) := by
  intro vs rows t ex u rows' h1 h2
  unfold hdNM at h1
  split at h1
  case h_2 => cases h1
  rename_i r
  obtain ⟨x, h5, h6⟩ := Option.map_eq_some_iff.1 h1
  subst h6
  have e1 : vs = D.enc x := D.ok _ _ h5
  subst e1
  obtain ⟨h7, h8⟩ := condT (show cond (g r x) _ none = some (ex, [u], rows') from h2)
  refine h r x h7 _ _ (.br (atS (D.enc x) (bx r) _ _) (.ret (cond (e r x == 0) (.normal, [.tuple #[pK 1001, .int .i64 0]], [some (.box r []), some (.box (.raw (n r x ++ [none])) [1000])]) (.normal, [.tuple #[.pointer none, .int .i64 (e r x)]], [some (.box r [])]))) .fail) ex u rows' rfl ?_
  show cond (atS (D.enc x) (bx r) (D.enc x) (bx r)) (some _) none = _
  rw [atS_self]
  cases he : e r x == 0 with
  | true => rw [he] at h8; exact h8
  | false => rw [he] at h8; exact h8
def isK (a : Addr) : Bool := Nat.beq a.block 1000 && Nat.beq a.off 0 && a.spot.isNone
theorem isK_t {a : Addr} (h : isK a = true) : a = ⟨1000, 0, none⟩ := by
  obtain ⟨b, o, s⟩ := a
  simp only [isK, Bool.and_eq_true] at h
  obtain ⟨⟨k1, k2⟩, k3⟩ := h
  have k1 := Nat.eq_of_beq_eq_true k1
  have k2 := Nat.eq_of_beq_eq_true k2
  cases s with
  | some _ => cases k3
  | none => rw [k1, k2]
def decHm : Dec Cfg := ⟨fun vs => match vs with
  | [.agg ⟨[.int .i64 a, .int .i64 b, .int .i64 c, .int .i64 d, .int .i64 e, .int .i64 f, .int .i64 g, .int .i64 h]⟩, .pointer (some p)] => cond (isK p) (some ⟨a, b, c, d, e, f, g, h⟩) none
  | _ => none, fun c => [cfgV c, pK 1000], fun vs a h => by
  split at h
  · obtain ⟨h1, h2⟩ := condT h
    cases h2
    rw [isK_t h1]; rfl
  · cases h⟩
def decLg : Dec (Cfg × Int) := ⟨fun vs => match vs with
  | [.agg ⟨[.int .i64 a, .int .i64 b, .int .i64 c, .int .i64 d, .int .i64 e, .int .i64 f, .int .i64 g, .int .i64 h]⟩, .pointer (some p), .int .i64 n] => cond (isK p) (some (⟨a, b, c, d, e, f, g, h⟩, n)) none
  | _ => none, fun x => [cfgV x.1, pK 1000, .int .i64 x.2], fun vs a h => by
  split at h
  · obtain ⟨h1, h2⟩ := condT h
    cases h2
    rw [isK_t h1]; rfl
  · cases h⟩
def isMemN (r : Rws) (n : Int) : Bool := isMem r && ((mOf r).n : Int) == n
theorem sub_mBlk {gl : Gl} (hgl : Low gl) : SubOK Tryz.prog gl 54 (hdM dec0 (fun r _ => isMem r) (fun r _ => .int .i64 ((mOf r).n : Int)) fun r _ => r) := hdM_sub fun r x hr => by
  obtain ⟨m, hm, rfl⟩ := of_cl hr
  rw [mOf_eq hm]
  exact atBs hgl H0_ok (pl := plR) ((r_mBlocks gl m.n (u32L m.ws)).trans (by simp only [u32_af, Bool.and_self, cond_true]; rfl))
theorem mayE_t {c : Cfg} (h : planOk c = true) : mayE c = 0 := by unfold mayE; rw [h]; rfl
theorem dataP_t {c : Cfg} (h : planOk c = true) : dataP c = dataI c := by unfold dataP; rw [h]; rfl
theorem data_bd {c : Cfg} (h : planOk c = true) : 1 ≤ dataI c ∧ dataI c ≤ 255 ∧ dataI c = c.blocks - c.cores * c.logs := by
  obtain ⟨⟨h1, h2, _, _, _, _, h7, h8, h9, h10, _⟩, _, _, h3⟩ := planOk_iff.1 h
  have k1 : 1 * 1 ≤ c.cores * c.logs := Int.mul_le_mul h1 h9 (by omega) (by omega)
  have k2 : c.cores * c.logs ≤ 16 * 4 := Int.mul_le_mul h2 h10 (by omega) (by omega)
  have e : dataI c = c.blocks - c.cores * c.logs := by
    unfold dataI
    rw [wrap_id (c.cores * c.logs) (by omega), wrap_id _ (by omega)]
  exact ⟨h3, by omega, e⟩
def poolOk (n : Int) : Bool := decide (1 ≤ n) && decide (n ≤ 65536)
theorem poolOk_t {n : Int} (h : 1 ≤ n ∧ n ≤ 65536) : poolOk n = true := by unfold poolOk; rw [decide_eq_true h.1, decide_eq_true h.2]; rfl
theorem poolE_t {n : Int} (h : poolOk n = true) : 0 = pnNewE n := by
  simp only [poolOk, Bool.and_eq_true, decide_eq_true_eq] at h
  unfold pnNewE
  rw [decide_eq_false (show ¬ n < 1 by omega), decide_eq_false (show ¬ n > 65536 by omega)]
  rfl
theorem sub_pn {gl : Gl} (hgl : Low gl) : SubOK Tryz.prog gl 55 (hdN (decI .i64) poolOk (fun _ => 0) fun n => poolNR ⟨n, true, [], []⟩) := hdN_weak (sub_pnNew hgl) fun _ h => ⟨rfl, poolE_t h⟩
def poolBN (n : Int) : Rws := [some (poolBRow n (.slice none 0 0))]
theorem sub_pb {gl : Gl} (hgl : Low gl) : SubOK Tryz.prog gl 81 (hdN (decI .i64) poolOk (fun _ => 0) poolBN) := hdN_weak (sub_pbNew hgl) fun _ h => ⟨rfl, poolE_t h⟩
/-! Backs. -/
def backsX (d : Int) (pr : Rws) : Rws := [some (.row ⟨[.int .i64 d, pK 1001], 233, (0, 0), 0, false, false⟩), some (.box pr [])]
def backsN (c : Cfg) : Rws := backsX (dataI c) (poolBN c.backs)
theorem HBk_ok {gl : Gl} (hgl : Low gl) : (HBk mayE dataP poolOk poolBN).OK Tryz.prog gl := hsOf_ok (fun p hp => by
  simp only [List.mem_cons, List.not_mem_nil, or_false] at hp
  rcases hp with rfl | rfl
  · exact fn_pMay hgl
  · exact fn_pData hgl) (fun p hp => by
  simp only [List.mem_cons, List.not_mem_nil, or_false] at hp
  subst hp; exact sub_pb hgl) (fun _ h => nomatch h)
theorem sub_bNew {gl : Gl} (hgl : Low gl) : SubOK Tryz.prog gl 70 (hdN decC planOk (fun _ => 0) backsN) := hdN_sub fun c hc => atB hgl (HBk_ok hgl) (pl := plN) ((r_bNew gl mayE dataP poolOk poolBN c).trans (by
  obtain ⟨⟨_, _, _, _, _, _, _, _, _, _, h1, h2, _⟩, _⟩ := planOk_iff.1 hc
  rw [mayE_t hc, dataP_t hc, poolOk_t (n := c.backs) (by omega)]
  rfl))
theorem sub_c {gl : Gl} (hgl : Low gl) : SubOK Tryz.prog gl 69 (hdN decC planOk (fun _ => 0) cacheN) := hdN_weak (sub_cNew hgl) fun _ h => ⟨rfl, (mayE_t h).symm⟩
theorem sub_k {gl : Gl} (hgl : Low gl) : SubOK Tryz.prog gl 71 (hdN decC planOk (fun _ => 0) fun c => marksX (dataP c) [] 0) := hdN_weak (sub_kNew hgl) fun _ h => ⟨rfl, (mayE_t h).symm⟩
def nestOk (n : Int) : Bool := decide (1 ≤ n) && decide (n ≤ 8)
theorem sub_d {gl : Gl} (hgl : Low gl) : SubOK Tryz.prog gl 72 (hdN (decI .i64) nestOk (fun _ => 0) fun n => dealR (dNew n)) := hdN_weak (sub_dNew hgl) fun n h => by
  simp only [nestOk, Bool.and_eq_true, decide_eq_true_eq] at h
  refine ⟨rfl, ?_⟩
  unfold dNewE
  rw [decide_eq_false (show ¬ n < 1 by omega), decide_eq_false (show ¬ n > 8 by omega)]
  rfl
/-! Nets, homes, logs. -/
def netX (c : Cfg) (room : Int) (pr : Rws) (hops : Int) : Rws := [some (.row ⟨cfgL c ++ [.int .i64 room, pK 1001, .int .i64 hops], 140, (0, 0), 0, false, false⟩), some (.box pr [])]
def netN (c : Cfg) (n : Int) : Rws := netX c n (poolNR ⟨52224, true, [], []⟩) 0
theorem HNt_ok {gl : Gl} (hgl : Low gl) : (HNt mayE poolOk fun n => poolNR ⟨n, true, [], []⟩).OK Tryz.prog gl := hsOf_ok (fun p hp => by
  simp only [List.mem_cons, List.not_mem_nil, or_false] at hp
  subst hp; exact fn_pMay hgl) (fun p hp => by
  simp only [List.mem_cons, List.not_mem_nil, or_false] at hp
  subst hp; exact sub_pn hgl) (fun _ h => nomatch h)
def ntOk1 (x : Cfg × Int) : Bool := planOk x.1 && (decide (1 ≤ x.2) && decide (x.2 ≤ 1024))
theorem sub_ntNew {gl : Gl} (hgl : Low gl) : SubOK Tryz.prog gl 37 (hdN decCi ntOk1 (fun _ => 0) fun x => netN x.1 x.2) := hdN_sub fun x hx => by
  obtain ⟨c, n⟩ := x
  simp only [ntOk1, Bool.and_eq_true, decide_eq_true_eq] at hx
  exact atB hgl (HNt_ok hgl) (pl := plN) ((r_ntNew gl mayE poolOk _ c n).trans (by
    rw [mayE_t hx.1, decide_eq_false (show ¬ n < 1 by omega), decide_eq_false (show ¬ n > 1024 by omega), poolOk_t (n := 52224) (by omega)]
    rfl))
theorem bneI_self (n : Int) : (n != n) = false := by simp
def logX (c : Cfg) (first room many : Int) : Rws := [some (.row ⟨cfgL c ++ [pK 1001, .int .i64 first, .int .i64 room, .int .i64 many], 200, (0, 0), 0, false, false⟩)]
def lgN (c : Cfg) (n : Int) : Rws := logX c (dataI c + n * c.logs) (c.logs * 8) 0
theorem HLg_ok {gl : Gl} (hgl : Low gl) : (HLg logF logN logE isMem fun r => ((mOf r).n : Int)).OK Tryz.prog gl := hsOf_ok (fun p hp => by
  simp only [List.mem_cons, List.not_mem_nil, or_false] at hp
  subst hp; exact fn_pLog hgl) (fun p hp => by
  simp only [List.mem_cons, List.not_mem_nil, or_false] at hp
  subst hp; exact sub_mBlk hgl) (fun _ h => nomatch h)
theorem sub_lgNew {gl : Gl} (hgl : Low gl) : SubOK Tryz.prog gl 60 (hdNM decLg (fun r x => planOk x.1 && (isMemN r x.1.blocks && (decide (0 ≤ x.2) && decide (x.2 < x.1.cores)))) (fun _ _ => 0) fun _ x => lgN x.1 x.2) := hdNM_sub fun r x hx => by
  obtain ⟨c, n⟩ := x
  simp only [isMemN, Bool.and_eq_true, beq_iff_eq, decide_eq_true_eq] at hx
  obtain ⟨hc, ⟨hm, hb⟩, n0, n1⟩ := hx
  exact atB hgl (HLg_ok hgl) (pl := plM) ((r_lgNew gl logF logN logE isMem _ c r n).trans (by
    obtain ⟨⟨h1, h2, _, _, _, _, _, _, h3, h4, _⟩, _⟩ := planOk_iff.1 hc
    obtain ⟨d1, d2, _⟩ := data_bd hc
    have k1 : 0 ≤ n * c.logs := Int.mul_nonneg n0 (by omega)
    have k2 : n * c.logs ≤ 16 * 4 := Int.mul_le_mul (by omega) h4 (by omega) (by omega)
    have e1 : logE c n = 0 := by
      unfold logE
      rw [hc, decide_eq_false (show ¬ n < 0 by omega), decide_eq_false (show ¬ n ≥ c.cores by omega)]; rfl
    have e2 : logF c n = dataI c + n * c.logs := by
      unfold logF
      rw [e1, wrap_id (n * c.logs) (by omega), wrap_id _ (by omega)]; rfl
    have e3 : logN c n = c.logs := by
      unfold logN
      rw [e1]; rfl
    have e4 : IntKind.i64.wrap ((IntKind.i64.wrap (c.logs * 16)).tdiv 2) = c.logs * 8 := by
      rw [wrap_id (c.logs * 16) (by omega), show c.logs * 16 = c.logs * 8 * 2 from by omega, Int.mul_tdiv_cancel _ (by decide), wrap_id _ (by omega)]
    rw [hm, hb, bneI_self, e1, e2, e3, e4]
    simp only [qs_eq]
    rfl))
/-! A core's side. -/
def nearX (c : Cfg) (core : Int) (ask : NoteS) (waits : Bool) (cr br kr dr : Rws) : Rws := [some (.row ⟨cfgL c ++ (.int .i64 core :: pK 1001 :: pK 1002 :: pK 1003 :: pK 1004 :: (noteL ask ++ [.bool waits])), 187, (0, 0), 0, false, false⟩), some (.box cr []), some (.box br []), some (.box kr []), some (.box dr [])]
def nearN (c : Cfg) (n : Int) : Rws := nearX c n note0 false (cacheN c) (backsN c) (marksX (dataP c) [] 0) (dealR (dNew c.nest))
theorem HNr_ok {gl : Gl} (hgl : Low gl) : (HNr mayE planOk nestOk cacheN backsN (fun c => marksX (dataP c) [] 0) fun n => dealR (dNew n)).OK Tryz.prog gl := hsOf_ok (fun p hp => by
  simp only [List.mem_cons, List.not_mem_nil, or_false] at hp
  subst hp; exact fn_pMay hgl) (fun p hp => by
  simp only [List.mem_cons, List.not_mem_nil, or_false] at hp
  rcases hp with rfl | rfl | rfl | rfl
  · exact sub_c hgl
  · exact sub_bNew hgl
  · exact sub_k hgl
  · exact sub_d hgl) (fun _ h => nomatch h)
def nrOk (x : Cfg × Int) : Bool := planOk x.1 && (decide (0 ≤ x.2) && decide (x.2 < x.1.cores))
theorem sub_nrNew {gl : Gl} (hgl : Low gl) : SubOK Tryz.prog gl 59 (hdN decCi nrOk (fun _ => 0) fun x => nearN x.1 x.2) := hdN_sub fun x hx => by
  obtain ⟨c, n⟩ := x
  simp only [nrOk, Bool.and_eq_true, decide_eq_true_eq] at hx
  obtain ⟨hc, n0, n1⟩ := hx
  exact atB hgl (HNr_ok hgl) (pl := plN) ((r_nrNew gl mayE planOk nestOk _ _ _ _ c n).trans (by
    obtain ⟨⟨_, _, _, _, _, _, _, _, _, _, _, _, h1, h2, _⟩, _⟩ := planOk_iff.1 hc
    have e : nestOk c.nest = true := by unfold nestOk; rw [decide_eq_true h1, decide_eq_true h2]; rfl
    rw [mayE_t hc, hc, e, decide_eq_false (show ¬ n < 0 by omega), decide_eq_false (show ¬ n ≥ c.cores by omega)]
    rfl))
end Go.Proofs.YtpckfdopokmbkaaGreatDoor.Ev

namespace Go.Proofs.YtpckfdopokmbkaaGreatDoor.Ev
open Go
open Go.Proofs Go.RowKit

/-! Which way goes; the lines of a cache. -/
abbrev noV : PlanV := ⟨[], fun _ => []⟩
end Go.Proofs.YtpckfdopokmbkaaGreatDoor.Ev

namespace Go.Proofs.YtpckfdopokmbkaaGreatDoor.Ev
open Go
open Go.Proofs Go.RowKit

/-! Steps that ask nothing of memory: registers, instructions. -/
theorem fnWeak {gl : Gl} {f : FuncId} {g g' : AF} (hs : FnOK Tryz.prog gl f g) (h : ∀ args σ v, g' args σ = some (true, v) → g args σ = some (true, v)) : FnOK Tryz.prog gl f g' := fun args σ c v e hc => by
  subst hc
  exact hs args σ true v (h args σ v e) rfl
end Go.Proofs.YtpckfdopokmbkaaGreatDoor.Ev

namespace Go.Proofs.YtpckfdopokmbkaaGreatDoor.Ev
open Go
open Go.Proofs Go.RowKit

/-! Steps that ask nothing of memory: each instruction's. -/
def w0 : W16 := ⟨0, 0, 0, 0, 0, 0, 0, 0, 0, 0, 0, 0, 0, 0, 0, 0⟩
def r0 (r : W16) : W16 := { r with a0 := 0 }
end Go.Proofs.YtpckfdopokmbkaaGreatDoor.Ev

namespace Go.Proofs.YtpckfdopokmbkaaGreatDoor.Ev
open Go
open Go.Proofs Go.RowKit

/-! Steps that ask nothing of memory: what they are. -/
end Go.Proofs.YtpckfdopokmbkaaGreatDoor.Ev

namespace Go.Proofs.YtpckfdopokmbkaaGreatDoor.Ev
open Go
open Go.Proofs Go.RowKit

/-! Words that come in; instructions that they are; a core made anew. -/
abbrev cdL (k : CodeS) : List Value := [.int .u8 k.op, .int .i64 k.a, .int .i64 k.b, .int .i64 k.c, .int .i64 k.n]
def symW (off : Nat) (zs : List Int) : Sym := ⟨[], fun _ o => nthI zs (o - off), fun _ => ByteArray.empty, fun k o => decide (k = .u32) && (Nat.ble off o && Nat.ble (o - off + 1) zs.length), fun _ => false, fun _ => false, fun _ => false, fun _ => .nilFunc, fun _ => false, false⟩
def GlW (gl : Gl) (b off : Nat) (zs : List Int) : Prop := ∀ (i : Nat) z, zs[i]? = some z → gl b (off + i) = some (.int .u32 z)
def syW (b off : Nat) (zs : List Int) (l : List (Nat × Value)) : Sy := fun i => cond (Nat.beq i b) (some (symW off zs)) (syG l i)
def afTk (g : Int → Bool) (e o a b c n : Int → Int) : AF := fun args _ => match args with
  | [.int .u32 x] => some (g x, .tuple #[.agg #[.int .u8 (o x), .int .i64 (a x), .int .i64 (b x), .int .i64 (c x), .int .i64 (n x)], .int .i64 (e x)])
  | _ => none
def cfgRow (c : Cfg) : LObj := .row ⟨cfgL c, 23, (0, 0), 0, false, false⟩
/-- A core's row, by its fields. -/
def coreRow (c : Cfg) (id : Int) (pr : Value) (r : W16) (at_ : Int) (nr lg : Value) (count : Int) (halted : Bool) (fault : Int) : LObj := .row ⟨cfgL c ++ (.int .i64 id :: pr :: w16C r (.int .i64 at_ :: nr :: lg :: .int .i64 count :: .bool halted :: [.int .u32 fault])), 147, (0, 0), 0, false, false⟩
def codeRow (cs : List Value) (z : Nat) : LObj := .row ⟨cs, 65, (0, 0), z, false, false⟩
def wX (off : Nat) (zs : List Int) (i : Int) : Int := (symW off zs).int .u32 (off + i.toNat * 1)
end Go.Proofs.YtpckfdopokmbkaaGreatDoor.Ev

namespace Go.Proofs.YtpckfdopokmbkaaGreatDoor.Ev
open Go
open Go.Proofs Go.RowKit

/-! A core made anew: the contract. -/
def CodeS.may (k : CodeS) : Bool := cmay k.op k.a k.b k.c k.n
def cdRd : Value → CodeS × Int
  | .tuple ⟨[.agg ⟨[.int _ o, .int _ a, .int _ b, .int _ c, .int _ n]⟩, .int _ e]⟩ => (⟨o, a, b, c, n⟩, e)
  | _ => (⟨0, 0, 0, 0, 0⟩, 0)
def tkS (x : Int) : CodeS := (cdRd (takeV x)).1
def tkE (x : Int) : Int := (cdRd (takeV x)).2
def CdP (v : Value) : Prop := v = .tuple #[.agg ⟨cdL (cdRd v).1⟩, .int .i64 (cdRd v).2] ∧ ((cdRd v).2 = 0 → (cdRd v).1.may = true) ∧ ((cdRd v).2 = 0 ∨ (cdRd v).2 = 6)
theorem tkV_P (x op a b c n : Int) : CdP (tkV x op a b c n) := by
  unfold tkV
  cases hc : cmay op a b c n && decide (wordN op a b c n = x) with
  | true => exact ⟨rfl, fun _ => ((Bool.and_eq_true _ _).mp hc).1, .inl rfl⟩
  | false => exact ⟨rfl, fun h => (by cases h), .inr rfl⟩
theorem take_P (x : Int) : CdP (takeV x) := by
  unfold takeV
  split <;> exact tkV_P ..
theorem takeC_eq (x : Int) : takeV x = .tuple #[.agg ⟨cdL (tkS x)⟩, .int .i64 (tkE x)] := (take_P x).1
def wordG (x : Int) : Bool := decide (0 ≤ x) && decide (x < 4294967296)
theorem fn_tk {gl : Gl} (hF : GlF gl) (hgl : Low gl) : FnOK Tryz.prog gl 25 (afTk wordG tkE (fun x => (tkS x).op) (fun x => (tkS x).a) (fun x => (tkS x).b) (fun x => (tkS x).c) (fun x => (tkS x).n)) := fnWeak (fn_ctake hF hgl) fun args σ v h => by
  unfold afTk at h
  split at h
  · rename_i x
    simp only [Option.some.injEq, Prod.mk.injEq] at h
    obtain ⟨h1, rfl⟩ := h
    unfold afTake
    simp only [takeC_eq]
    unfold wordG at h1
    rw [h1]
  · cases h
theorem symW_of {gl : Gl} {b off : Nat} {zs : List Int} (h : GlW gl b off zs) : (symW off zs).Of (gl b) where
  int := fun k o h1 => by
    simp only [symW, Bool.and_eq_true, decide_eq_true_eq] at h1 ⊢
    obtain ⟨rfl, h2, h3⟩ := h1
    have h2 := Nat.le_of_ble_eq_true h2
    have h3 := Nat.le_of_ble_eq_true h3
    have := h (o - off) _ (nthI_get h3)
    rwa [show off + (o - off) = o from by omega] at this
  str := fun o h1 => by cases h1
  bool := fun o h1 => by cases h1
  val := fun o h1 => by cases h1
theorem syW_ok {gl : Gl} {b off : Nat} {zs : List Int} {l : List (Nat × Value)} (hb : b < 1000) (h : GlW gl b off zs) : SyOK gl (syW b off zs l) := fun i S e => by
  unfold syW at e
  rw [Bool.cond_eq_ite] at e
  split at e
  · rename_i q
    cases e
    rw [nbeq] at q
    subst q
    exact ⟨fun hl => by omega, fun _ => symW_of h⟩
  · exact syG_ok l i S e
theorem wX_eq {off : Nat} {zs : List Int} {i : Nat} (h : i < zs.length) : wX off zs (i : Int) = zs[i] := by
  have e : wX off zs (i : Int) = nthI zs (off + i * 1 - off) := rfl
  rw [e, show off + i * 1 - off = i from by omega]
  have := nthI_get (show i + 1 ≤ zs.length by omega)
  rw [List.getElem?_eq_getElem h] at this
  exact (Option.some.inj this).symm
theorem symW_t {off : Nat} {zs : List Int} {i : Nat} (h : i < zs.length) : (symW off zs).okI .u32 (off + i * 1) = true := by
  show (decide (IntKind.u32 = IntKind.u32) && (Nat.ble off (off + i * 1) && Nat.ble (off + i * 1 - off + 1) zs.length)) = true
  rw [nbl (show off ≤ off + i * 1 by omega), nbl (show off + i * 1 - off + 1 ≤ zs.length by omega)]
  rfl
theorem winL_all {n : Nat} {l : List Value} (h : l.length = n) : winL 0 n l = l := by
  unfold winL
  rw [List.drop_zero, List.take_of_length_le (by omega)]
end Go.Proofs.YtpckfdopokmbkaaGreatDoor.Ev

namespace Go.Proofs.YtpckfdopokmbkaaGreatDoor.Ev
open Go
open Go.Proofs Go.RowKit

/-! Reading cells, one behind the other. -/
structure Par (α : Type) where
  run : List Value → Option (α × List Value)
  enc : α → List Value → List Value
  ok : ∀ l a r, run l = some (a, r) → l = enc a r
def pI (k : IntKind) : Par Int := ⟨fun l => match l with
  | .int j n :: r => cond (decide (j = k)) (some (n, r)) none
  | _ => none, fun n r => .int k n :: r, fun l a r h => by
  split at h
  · obtain ⟨h1, h2⟩ := condT h
    cases h2
    rw [of_decide_eq_true h1]
  · cases h⟩
def pB : Par Bool := ⟨fun l => match l with
  | .bool b :: r => some (b, r)
  | _ => none, fun n r => .bool n :: r, fun l a r h => by
  split at h
  · cases h; rfl
  · cases h⟩
def pP (n : Nat) : Par Unit := ⟨fun l => match l with
  | .pointer (some a) :: r => cond (Nat.beq a.block n && Nat.beq a.off 0 && a.spot.isNone) (some ((), r)) none
  | _ => none, fun _ r => pK n :: r, fun l a r h => by
  split at h
  · rename_i a _
    obtain ⟨h1, h2⟩ := condT h
    cases h2
    simp only [Bool.and_eq_true, Option.isNone_iff_eq_none] at h1
    obtain ⟨⟨k1, k2⟩, k3⟩ := h1
    have k1 := Nat.eq_of_beq_eq_true k1
    have k2 := Nat.eq_of_beq_eq_true k2
    obtain ⟨b, o, s⟩ := a
    simp only at k1 k2 k3
    rw [k1, k2, k3]
  · cases h⟩
def Par.s {α β : Type} (p : Par α) (q : Par β) : Par (α × β) := ⟨fun l => (p.run l).bind fun x => (q.run x.2).map fun y => ((x.1, y.1), y.2), fun x r => p.enc x.1 (q.enc x.2 r), fun l a r h => by
  obtain ⟨x, h1, h2⟩ := Option.bind_eq_some_iff.1 h
  obtain ⟨y, h3, h4⟩ := Option.map_eq_some_iff.1 h2
  cases h4
  rw [p.ok _ _ _ h1, q.ok _ _ _ h3]⟩
def Par.m {α β : Type} (p : Par α) (f : α → β) (g : β → α) (hg : ∀ a, g (f a) = a) : Par β := ⟨fun l => (p.run l).map fun x => (f x.1, x.2), fun b r => p.enc (g b) r, fun l a r h => by
  obtain ⟨x, h1, h2⟩ := Option.map_eq_some_iff.1 h
  cases h2
  rw [hg]; exact p.ok _ _ _ h1⟩
def pNil : Par Unit := ⟨fun l => match l with
  | .slice none n c :: r => cond (Nat.beq n 0 && Nat.beq c 0) (some ((), r)) none
  | _ => none, fun _ r => .slice none 0 0 :: r, fun l a r h => by
  split at h
  · rename_i n c _
    obtain ⟨h1, h2⟩ := condT h
    cases h2
    simp only [Bool.and_eq_true] at h1
    rw [show n = 0 from Nat.eq_of_beq_eq_true h1.1, show c = 0 from Nat.eq_of_beq_eq_true h1.2]
  · cases h⟩
def pNP : Par Unit := ⟨fun l => match l with
  | .pointer none :: r => some ((), r)
  | _ => none, fun _ r => .pointer none :: r, fun l a r h => by
  split at h
  · cases h; rfl
  · cases h⟩
def pi64 : Par Int := pI .i64
def pu32 : Par Int := pI .u32
def pCfg : Par Cfg := (pi64.s (pi64.s (pi64.s (pi64.s (pi64.s (pi64.s (pi64.s pi64))))))).m (fun x => ⟨x.1, x.2.1, x.2.2.1, x.2.2.2.1, x.2.2.2.2.1, x.2.2.2.2.2.1, x.2.2.2.2.2.2.1, x.2.2.2.2.2.2.2⟩) (fun c => (c.cores, c.sets, c.ways, c.blocks, c.logs, c.backs, c.nest, c.tries)) fun _ => rfl
def pW4 : Par (Int × Int × Int × Int) := pu32.s (pu32.s (pu32.s pu32))
def pW16 : Par W16 := (pW4.s (pW4.s (pW4.s pW4))).m (fun x => ⟨x.1.1, x.1.2.1, x.1.2.2.1, x.1.2.2.2, x.2.1.1, x.2.1.2.1, x.2.1.2.2.1, x.2.1.2.2.2, x.2.2.1.1, x.2.2.1.2.1, x.2.2.1.2.2.1, x.2.2.1.2.2.2, x.2.2.2.1, x.2.2.2.2.1, x.2.2.2.2.2.1, x.2.2.2.2.2.2⟩)
  (fun r => ((r.a0, r.a1, r.a2, r.a3), (r.a4, r.a5, r.a6, r.a7), (r.a8, r.a9, r.a10, r.a11), r.a12, r.a13, r.a14, r.a15)) fun _ => rfl
/-- A row of a struct: a row of its type, whose size is known. -/
abbrev rowT (t : Nat) (cs : List Value) : LObj := .row ⟨cs, t, (0, 0), 0, false, false⟩
def isRow (t : Nat) (b : LBlk) : Bool := Nat.beq b.elem t && Nat.beq b.fz.1 0 && Nat.beq b.fz.2 0 && Nat.beq b.esz 0 && !b.ro && !b.tail
theorem isRow_eq {t : Nat} {b : LBlk} (h : isRow t b = true) : LObj.row b = rowT t b.cells := by
  obtain ⟨cs, e, ⟨f1, f2⟩, z, ro, tl⟩ := b
  unfold isRow at h
  simp only [Bool.and_eq_true, Bool.not_eq_true'] at h
  obtain ⟨⟨⟨⟨⟨h1, h2⟩, h3⟩, h4⟩, h5⟩, h6⟩ := h
  rw [show e = t from Nat.eq_of_beq_eq_true h1, show f1 = 0 from Nat.eq_of_beq_eq_true h2, show f2 = 0 from Nat.eq_of_beq_eq_true h3, show z = 0 from Nat.eq_of_beq_eq_true h4, h5, h6]
def rowP {α : Type} (t : Nat) (p : Par α) (b : LBlk) : Option α := cond (isRow t b) ((p.run b.cells).bind fun x => match x.2 with
  | [] => some x.1
  | _ => none) none
theorem rowP_ok {α : Type} {t : Nat} {p : Par α} {b : LBlk} {a : α} (h : rowP t p b = some a) : LObj.row b = rowT t (p.enc a []) := by
  obtain ⟨h1, h2⟩ := condT h
  obtain ⟨⟨x, l⟩, h3, h4⟩ := Option.bind_eq_some_iff.1 h2
  simp only at h4
  split at h4
  · cases h4
    rw [isRow_eq h1, p.ok _ _ _ h3]
  · cases h4

/-! How states are laid. -/
structure Lay (S : Type) where
  p : Rws → Option S
  t : S → Rws
  ok : ∀ r s, p r = some s → r = t s
def hLd {S A : Type} (L : Lay S) (D : Dec A) (vs : List Value) (r : Rws) : Option (S × A) := match vs with
  | .pointer (some a) :: args => cond (Nat.beq a.block 1000 && Nat.beq a.off 0 && a.spot.isNone) ((L.p r).bind fun k => (D.dec args).map fun x => (k, x)) none
  | _ => none
/-- A method of what is laid so. -/
def hL {S A B : Type} (L : Lay S) (D : Dec A) (sp : S → A → DT B) (w : B → Out) : Hd := hS (hLd L D) (fun q => sp q.1 q.2) w
theorem sx0 {gl : Gl} : ∀ p ∈ ([] : List (FuncId × Hd)), SubOK Tryz.prog gl p.1 p.2 := fun _ h => nomatch h
theorem sxC {gl : Gl} {f : FuncId} {g : Hd} {l : List (FuncId × Hd)} (h : SubOK Tryz.prog gl f g) (t : ∀ p ∈ l, SubOK Tryz.prog gl p.1 p.2) : ∀ p ∈ (f, g) :: l, SubOK Tryz.prog gl p.1 p.2 := fun p hp => by
  rcases List.mem_cons.1 hp with rfl | hp
  · exact h
  · exact t p hp
theorem fx0 {gl : Gl} : ∀ p ∈ ([] : List (FuncId × AF)), FnOK Tryz.prog gl p.1 p.2 := fun _ h => nomatch h
theorem fxC {gl : Gl} {f : FuncId} {g : AF} {l : List (FuncId × AF)} (h : FnOK Tryz.prog gl f g) (t : ∀ p ∈ l, FnOK Tryz.prog gl p.1 p.2) : ∀ p ∈ (f, g) :: l, FnOK Tryz.prog gl p.1 p.2 := fun p hp => by
  rcases List.mem_cons.1 hp with rfl | hp
  · exact h
  · exact t p hp
theorem run_pure {α : Type} (a : α) : (pure a : DT α).run = some a := rfl
theorem run_bind {α β : Type} (t : DT α) (f : α → DT β) : (t >>= f).run = t.run.bind fun a => (f a).run := DT.run_bind t f
theorem chk_run (b : Bool) : (chk b).run = cond b (some ()) none := rfl
theorem run_br {α : Type} (b : Bool) (x y : DT α) : (DT.br b x y).run = cond b x.run y.run := rfl
def qsD : List Int → DT Unit
  | [] => pure ()
  | a :: l => .br (decide (a = a)) (qsD l) .fail
def qnD : List Nat → DT Unit
  | [] => pure ()
  | a :: l => .br (decide (a = a)) (qnD l) .fail
theorem qsD_run : ∀ l : List Int, (qsD l).run = some ()
  | [] => rfl
  | a :: l => by
    show cond (decide (a = a)) (qsD l).run none = _
    rw [decide_eq_true rfl]; exact qsD_run l
theorem qnD_run : ∀ l : List Nat, (qnD l).run = some ()
  | [] => rfl
  | a :: l => by
    show cond (decide (a = a)) (qnD l).run none = _
    rw [decide_eq_true rfl]; exact qnD_run l
abbrev Cfg.l (c : Cfg) : List Int := [c.cores, c.sets, c.ways, c.blocks, c.logs, c.backs, c.nest, c.tries]
theorem bl_run (b : Bool) : (bl b).run = some b := by cases b <;> rfl
end Go.Proofs.YtpckfdopokmbkaaGreatDoor.Ev
