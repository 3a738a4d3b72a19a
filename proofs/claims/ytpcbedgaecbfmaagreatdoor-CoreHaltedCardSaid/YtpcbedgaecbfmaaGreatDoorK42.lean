/- A home made anew. No condition. -/
import Derived.Test.YtpcbedgaecbfmaaGreatDoorK41
import Derived.Test.YtpcbedgaecbfmaaGreatDoorK31
noncomputable section
namespace Go.Proofs.YtpcbedgaecbfmaaGreatDoor
open Go.Proofs.YtpcbedgaecbfmaaGreatDoor.Ev Go.RowKit
open Classical in
def repHd (S:Nat→List Value):Hd:=fun vs rows=>match vs with
 |[_,.int .i64 n]=>some (.br (cl (vs=[slK 1000 1,.int .i64 n]∧rows=[some (entRow entZ)]∧1≤n∧n≤255)) (.ret (.normal,[slK 1001 n.toNat],[some (entRow entZ),some (entRow (S n.toNat))])) .fail)
 |_=>none
theorem sub_rep {gl:Gl}(hgl:Low gl):SubOK Tryz.prog gl 66 (repHd fun k=>repl k entZ):=sub_ofB goodT hgl tglob fun vs rows t r h1 h2=>by
 unfold repHd at h1
 split at h1
 case h_2=>cases h1
 rename_i x n
 cases h1
 obtain⟨h3,h4⟩:=condT (show cond (cl _) _ none=some r from h2)
 obtain⟨e1,rfl,e2,e3⟩:=of_cl h3
 refine⟨noSy,H0,100,40,40,noPlan,noSy_ok,H0_ok,?_⟩
 rw[e1]
 have h:=rp255 gl (n.toNat-1) (by omega)
 rw[show n.toNat-1+1=n.toNat from by omega]at h
 have e4:((n.toNat:Nat):Int)=n:=by omega
 unfold repF at h
 rw[e4]at h
 refine Eq.trans h ?_
 rw[←h4]
 rfl
def HFr:AF:=fun args _=>match args with
 |[]=>some (true,.agg ⟨entZ⟩)
 |_=>none
theorem fn_free {gl:Gl}(hgl:Low gl):FnOK Tryz.prog gl 67 HFr:=fn_res hgl H0_ok fun args σ v h=>by
 unfold HFr at h
 split at h
 ·cases h;exact⟨rfl,by kernel_rfl⟩
 ·cases h
def HHm (m d:Cfg→Int)(g:Int→Bool)(pr:Int→Rws)(gm:Rws→Bool)(nb:Rws→Int)(S:Nat→List Value):Hs:=hsOf [(29,afC ttC fun c=>.int .i64 (m c)),(42,afC ttC fun c=>.int .i64 (d c)),(67,HFr)]
 [(65,hdN (decI .i64) g (fun _=>0) pr),(30,hdM dec0 (fun r _=>gm r) (fun r _=>.int .i64 (nb r)) fun r _=>r),(66,repHd S)] []
set_option maxRecDepth 100000 in
theorem r_hmNew (gl:Gl)(m d:Cfg→Int)(g:Int→Bool)(pr:Int→Rws)(gm:Rws→Bool)(nb:Rws→Int)(S:Nat→List Value)(c:Cfg)(r:Rws):cB gl (HHm m d g pr gm nb S) 39 [cfgV c,pK 1000] (bx r) plM=
 letI A:Option Out:=some (.normal,([.tuple #[.pointer none,.int .i64 2]],[some (.box r [])]))
 letI B:=IntKind.i64.wrap (c.cores*IntKind.i64.wrap (c.backs+1))
 cond (m c !=0) (qs [c.cores,c.sets,c.ways,c.blocks,c.logs,c.backs,c.nest,c.tries] A) (cond (gm r) (cond (nb r !=c.blocks) (qs [c.blocks,c.blocks,c.cores,c.sets,c.ways,c.blocks,c.logs,c.backs,c.nest,c.tries] A) (qs [c.blocks,c.blocks,c.cores,c.sets,c.ways,c.blocks,c.logs,
 c.backs,c.nest,c.tries] (cond (g B) (cond (cl ([.slice (some ⟨1000,0,none⟩) 1 1,.int .i64 (d c)]=[slK 1000 1,.int .i64 (d c)]∧[some (.row ⟨splice (repl 1 [.int .i64 0,.int .u32 0]) 0 entZ,148,(0,0),0,false,false⟩)]=[some (entRow entZ)]∧1≤d c∧d c≤255)) (cond (List.all (S
 (d c).toNat) (af 8)&&true) (qs [c.cores,c.sets,c.ways,c.blocks,c.logs,c.backs,c.nest,c.tries,c.cores,c.sets,c.ways,c.blocks,c.logs,c.backs,c.nest,c.tries,c.cores,c.sets,c.ways,c.blocks,c.logs,c.backs,c.nest,c.tries,c.cores,c.sets,c.ways,c.blocks,c.logs,c.backs,
 c.nest,c.tries,c.cores,c.sets,c.ways,c.blocks,c.logs,c.backs,c.nest,c.tries,c.cores,c.sets,c.ways,c.blocks,c.logs,c.backs,c.nest,c.tries] (cond (List.all (S (d c).toNat) (af 8)&&true&&true) (some (.normal,([.tuple #[pK 1001,.int .i64 0]],[some (.box r []),some (.box ([some
 (.row ⟨[.int .i64 c.cores,.int .i64 c.sets,.int .i64 c.ways,.int .i64 c.blocks,.int .i64 c.logs,.int .i64 c.backs,.int .i64 c.nest,.int .i64 c.tries,pK 1004,.slice (some ⟨1001,0,none⟩) ((d c).toNat) ((d c).toNat),.map (some 1002),pK 1003],152,(0,0),0,false,false⟩),some (.row ⟨S
 (d c).toNat,148,(0,0),0,false,false⟩),some (.map ([]) 0),some (.box (pr B) [])]++[none]) [1000])]))) none)) none) none) none))) none):=by kernel_rfl
def homeX (c:Cfg)(n:Nat)(es:List Value)(js:List (Value×Value×Nat))(clk:Nat)(pr:Rws):Rws:=[some (.row ⟨cfgL c++[pK 1004,slK 1001 n,.map (some 1002),pK 1003],152,(0,0),0,false,false⟩),some (entRow es),some (.map js clk),some (.box pr [])]
def homeN (c:Cfg):Rws:=homeX c (dataI c).toNat (repl (dataI c).toNat entZ) [] 0 (poolNR ⟨c.cores*(c.backs+1),true,[],[]⟩)
theorem HHm_ok {gl:Gl}(hgl:Low gl):(HHm mayE dataP poolOk (fun n=>poolNR ⟨n,true,[],[]⟩) isMem (fun r=>((mOf r).n:Int)) fun k=>repl k entZ).OK Tryz.prog gl:=hsOf_ok (fun p hp=>by
 simp only[List.mem_cons,List.not_mem_nil,or_false]at hp
 rcases hp with rfl|rfl|rfl
 ·exact fn_pMay hgl
 ·exact fn_pData hgl
 ·exact fn_free hgl) (fun p hp=>by
 simp only[List.mem_cons,List.not_mem_nil,or_false]at hp
 rcases hp with rfl|rfl|rfl
 ·exact sub_pn hgl
 ·exact sub_mBlk hgl
 ·exact sub_rep hgl) (fun _ h=>nomatch h)
theorem sub_hmNew {gl:Gl}(hgl:Low gl):SubOK Tryz.prog gl 39 (hdNM decHm (fun r c=>planOk c&&isMemN r c.blocks) (fun _ _=>0) fun _ c=>homeN c):=hdNM_sub fun r c hx=>by
 simp only[isMemN,qa1,beq_iff_eq]at hx
 obtain⟨hc,hm,hb⟩:=hx
 exact atB hgl (HHm_ok hgl) (pl:=plM) ((r_hmNew gl mayE dataP poolOk _ isMem _ _ c r).trans (by
  obtain⟨⟨h1,h2,_,_,_,_,_,_,_,_,h3,h4,_⟩,_⟩:=planOk_iff.1 hc
  obtain⟨d1,d2,_⟩:=data_bd hc
  have k1:1*2≤c.cores*(c.backs+1):=Int.mul_le_mul h1 (by omega) (by omega) (by omega)
  have k2:c.cores*(c.backs+1)≤16*5:=Int.mul_le_mul h2 (by omega) (by omega) (by omega)
  rw[hm,hb,bneI_self,mayE_t hc,dataP_t hc,wrap_id (c.backs+1) (by omega),wrap_id (c.cores*(c.backs+1)) (by omega),poolOk_t (n:=c.cores*(c.backs+1)) (by omega)]
  simp only[qs_eq,repl_af _ entZ rfl,Bool.and_self]
  refine Eq.trans (b:=cond (cl _) _ none) rfl ?_
  rw[cl_t (by first|exact⟨rfl,rfl,d1,d2⟩|exact⟨trivial,rfl,d1,d2⟩|simp[d1,d2])]
  rfl))
end Go.Proofs.YtpcbedgaecbfmaaGreatDoor
