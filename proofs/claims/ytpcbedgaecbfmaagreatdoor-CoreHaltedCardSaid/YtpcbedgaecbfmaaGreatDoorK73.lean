/- A core laid open: what it does. Where the forms stand as the program's text lays them. -/
import Derived.Test.YtpcbedgaecbfmaaGreatDoorK72
noncomputable section
namespace Go.Proofs.YtpcbedgaecbfmaaGreatDoor
set_option maxRecDepth 100000
open Go.Proofs.YtpcbedgaecbfmaaGreatDoor.Ev Go.RowKit
theorem r_dn0 (gl:Gl)(gg:C5 Bool)(gt:W16→Int→Int)(r:W16)(at_ a b c n:Int):evF gl (HDo gg gt (fun _=>false) w0) 12 [w16V r,.int .i64 at_,cdV 0 a b c n]=
 letI A:Value:=.tuple #[w16V w0,.int .i64 0,.int .i64 2]
 cond (gg 0 a b c n) (cond (decide (at_<0)) (some A) (cond (decide (at_>1024)) (some A) (qs [b,b,r.a1,r.a2,r.a3,r.a4,r.a5,r.a6,r.a7,r.a8,r.a9,r.a10,r.a11,r.a12,r.a13,r.a14,r.a15,r.a1,r.a2,r.a3,r.a4,r.a5,r.a6,r.a7,r.a8,r.a9,r.a10,r.a11,r.a12,r.a13,r.a14,r.a15,a,
 r.a1,r.a2,r.a3,r.a4,r.a5,r.a6,r.a7,r.a8,r.a9,r.a10,r.a11,r.a12,r.a13,r.a14,r.a15] (some (.tuple #[w16V w0,.int .i64 0,.int .i64 4]))))) none:=by kernel_rfl
theorem r_dn9 (gl:Gl)(gg:C5 Bool)(gt:W16→Int→Int)(r:W16)(at_ a b c n:Int):evF gl (HDo gg gt (fun _=>false) w0) 12 [w16V r,.int .i64 at_,cdV 9 a b c n]=
 letI A:Value:=.tuple #[w16V w0,.int .i64 0,.int .i64 2]
 cond (gg 9 a b c n) (cond (decide (at_<0)) (some A) (cond (decide (at_>1024)) (some A) (qs [b,b,r.a1,r.a2,r.a3,r.a4,r.a5,r.a6,r.a7,r.a8,r.a9,r.a10,r.a11,r.a12,r.a13,r.a14,r.a15,r.a1,r.a2,r.a3,r.a4,r.a5,r.a6,r.a7,r.a8,r.a9,r.a10,r.a11,r.a12,r.a13,r.a14,r.a15,a,
 r.a1,r.a2,r.a3,r.a4,r.a5,r.a6,r.a7,r.a8,r.a9,r.a10,r.a11,r.a12,r.a13,r.a14,r.a15] (some (.tuple #[w16V w0,.int .i64 0,.int .i64 4]))))) none:=by kernel_rfl
theorem r_dn10 (gl:Gl)(gg:C5 Bool)(gt:W16→Int→Int)(r:W16)(at_ a b c n:Int):evF gl (HDo gg gt (fun _=>false) w0) 12 [w16V r,.int .i64 at_,cdV 10 a b c n]=
 letI A:Value:=.tuple #[w16V w0,.int .i64 0,.int .i64 2]
 cond (gg 10 a b c n) (cond (decide (at_<0)) (some A) (cond (decide (at_>1024)) (some A) (qs [b,b,r.a1,r.a2,r.a3,r.a4,r.a5,r.a6,r.a7,r.a8,r.a9,r.a10,r.a11,r.a12,r.a13,r.a14,r.a15,r.a1,r.a2,r.a3,r.a4,r.a5,r.a6,r.a7,r.a8,r.a9,r.a10,r.a11,r.a12,r.a13,r.a14,r.a15,a,
 r.a1,r.a2,r.a3,r.a4,r.a5,r.a6,r.a7,r.a8,r.a9,r.a10,r.a11,r.a12,r.a13,r.a14,r.a15] (some (.tuple #[w16V w0,.int .i64 0,.int .i64 4]))))) none:=by kernel_rfl
theorem r_dn11 (gl:Gl)(gg:C5 Bool)(gt:W16→Int→Int)(r:W16)(at_ a b c n:Int):evF gl (HDo gg gt (fun _=>false) w0) 12 [w16V r,.int .i64 at_,cdV 11 a b c n]=
 letI A:Value:=.tuple #[w16V w0,.int .i64 0,.int .i64 2]
 cond (gg 11 a b c n) (cond (decide (at_<0)) (some A) (cond (decide (at_>1024)) (some A) (qs [b,b,r.a1,r.a2,r.a3,r.a4,r.a5,r.a6,r.a7,r.a8,r.a9,r.a10,r.a11,r.a12,r.a13,r.a14,r.a15,r.a1,r.a2,r.a3,r.a4,r.a5,r.a6,r.a7,r.a8,r.a9,r.a10,r.a11,r.a12,r.a13,r.a14,r.a15,a,
 r.a1,r.a2,r.a3,r.a4,r.a5,r.a6,r.a7,r.a8,r.a9,r.a10,r.a11,r.a12,r.a13,r.a14,r.a15] (some (.tuple #[w16V w0,.int .i64 0,.int .i64 4]))))) none:=by kernel_rfl
theorem r_dn17 (gl:Gl)(gg:C5 Bool)(gt:W16→Int→Int)(r:W16)(at_ a b c n:Int):evF gl (HDo gg gt (fun _=>false) w0) 12 [w16V r,.int .i64 at_,cdV 17 a b c n]=
 letI A:Value:=.tuple #[w16V w0,.int .i64 0,.int .i64 2]
 cond (gg 17 a b c n) (cond (decide (at_<0)) (some A) (cond (decide (at_>1024)) (some A) (qs [b,b,r.a1,r.a2,r.a3,r.a4,r.a5,r.a6,r.a7,r.a8,r.a9,r.a10,r.a11,r.a12,r.a13,r.a14,r.a15,r.a1,r.a2,r.a3,r.a4,r.a5,r.a6,r.a7,r.a8,r.a9,r.a10,r.a11,r.a12,r.a13,r.a14,r.a15,a,
 r.a1,r.a2,r.a3,r.a4,r.a5,r.a6,r.a7,r.a8,r.a9,r.a10,r.a11,r.a12,r.a13,r.a14,r.a15] (some (.tuple #[w16V w0,.int .i64 0,.int .i64 4]))))) none:=by kernel_rfl
theorem r_dn18 (gl:Gl)(gg:C5 Bool)(gt:W16→Int→Int)(r:W16)(at_ a b c n:Int):evF gl (HDo gg gt (fun _=>false) w0) 12 [w16V r,.int .i64 at_,cdV 18 a b c n]=
 letI A:Value:=.tuple #[w16V w0,.int .i64 0,.int .i64 2]
 cond (gg 18 a b c n) (cond (decide (at_<0)) (some A) (cond (decide (at_>1024)) (some A) (qs [b,b,r.a1,r.a2,r.a3,r.a4,r.a5,r.a6,r.a7,r.a8,r.a9,r.a10,r.a11,r.a12,r.a13,r.a14,r.a15,r.a1,r.a2,r.a3,r.a4,r.a5,r.a6,r.a7,r.a8,r.a9,r.a10,r.a11,r.a12,r.a13,r.a14,r.a15,a,
 r.a1,r.a2,r.a3,r.a4,r.a5,r.a6,r.a7,r.a8,r.a9,r.a10,r.a11,r.a12,r.a13,r.a14,r.a15] (some (.tuple #[w16V w0,.int .i64 0,.int .i64 4]))))) none:=by kernel_rfl
theorem r_dn19 (gl:Gl)(gg:C5 Bool)(gt:W16→Int→Int)(r:W16)(at_ a b c n:Int):evF gl (HDo gg gt (fun _=>false) w0) 12 [w16V r,.int .i64 at_,cdV 19 a b c n]=
 letI A:Value:=.tuple #[w16V w0,.int .i64 0,.int .i64 2]
 cond (gg 19 a b c n) (cond (decide (at_<0)) (some A) (cond (decide (at_>1024)) (some A) (qs [b,b,r.a1,r.a2,r.a3,r.a4,r.a5,r.a6,r.a7,r.a8,r.a9,r.a10,r.a11,r.a12,r.a13,r.a14,r.a15,r.a1,r.a2,r.a3,r.a4,r.a5,r.a6,r.a7,r.a8,r.a9,r.a10,r.a11,r.a12,r.a13,r.a14,r.a15,a,
 r.a1,r.a2,r.a3,r.a4,r.a5,r.a6,r.a7,r.a8,r.a9,r.a10,r.a11,r.a12,r.a13,r.a14,r.a15] (some (.tuple #[w16V w0,.int .i64 0,.int .i64 4]))))) none:=by kernel_rfl
theorem r_dn20 (gl:Gl)(gg:C5 Bool)(gt:W16→Int→Int)(r:W16)(at_ a b c n:Int):evF gl (HDo gg gt (fun _=>false) w0) 12 [w16V r,.int .i64 at_,cdV 20 a b c n]=
 letI A:Value:=.tuple #[w16V w0,.int .i64 0,.int .i64 2]
 cond (gg 20 a b c n) (cond (decide (at_<0)) (some A) (cond (decide (at_>1024)) (some A) (qs [b,b,r.a1,r.a2,r.a3,r.a4,r.a5,r.a6,r.a7,r.a8,r.a9,r.a10,r.a11,r.a12,r.a13,r.a14,r.a15,r.a1,r.a2,r.a3,r.a4,r.a5,r.a6,r.a7,r.a8,r.a9,r.a10,r.a11,r.a12,r.a13,r.a14,r.a15,a,
 r.a1,r.a2,r.a3,r.a4,r.a5,r.a6,r.a7,r.a8,r.a9,r.a10,r.a11,r.a12,r.a13,r.a14,r.a15] (some (.tuple #[w16V w0,.int .i64 0,.int .i64 4]))))) none:=by kernel_rfl
theorem r_ad9 (gl:Gl)(gg:C5 Bool)(gt:W16→Int→Int)(r:W16)(a b c n:Int):evF gl (HDo gg gt (fun _=>false) w0) 155 [w16V r,cdV 9 a b c n]=
 cond (gg 9 a b c n) (qs (IntKind.u32.wrap n::(IntKind.u32.wrap n::(n::(n::(b::(w16Q r [])))))) (some (.tuple #[.int .u32 (IntKind.u32.wrap (gt r b+IntKind.u32.wrap n)),.int .i64 0]))) none:=by kernel_rfl
theorem r_ad10 (gl:Gl)(gg:C5 Bool)(gt:W16→Int→Int)(r:W16)(a b c n:Int):evF gl (HDo gg gt (fun _=>false) w0) 155 [w16V r,cdV 10 a b c n]=
 cond (gg 10 a b c n) (qs (IntKind.u32.wrap n::(IntKind.u32.wrap n::(n::(n::(b::(w16Q r [])))))) (some (.tuple #[.int .u32 (IntKind.u32.wrap (gt r b+IntKind.u32.wrap n)),.int .i64 0]))) none:=by kernel_rfl
theorem r_ad11 (gl:Gl)(gg:C5 Bool)(gt:W16→Int→Int)(r:W16)(a b c n:Int):evF gl (HDo gg gt (fun _=>false) w0) 155 [w16V r,cdV 11 a b c n]=
 cond (gg 11 a b c n) (qs (IntKind.u32.wrap n::(IntKind.u32.wrap n::(n::(n::(b::(w16Q r [])))))) (some (.tuple #[.int .u32 (IntKind.u32.wrap (gt r b+IntKind.u32.wrap n)),.int .i64 0]))) none:=by kernel_rfl
theorem sx0 {gl:Gl}: ∀p∈([]:List (FuncId×Hd)),SubOK Tryz.prog gl p.1 p.2:=fun _ h=>nomatch h
theorem sxC {gl:Gl}{f:FuncId}{g:Hd}{l:List (FuncId×Hd)}(h:SubOK Tryz.prog gl f g)(t: ∀p∈l,SubOK Tryz.prog gl p.1 p.2): ∀p∈(f,g)::l,SubOK Tryz.prog gl p.1 p.2:=fun p hp=>by
 rcases List.mem_cons.1 hp with rfl|hp
 ·exact h
 ·exact t p hp
theorem fx0 {gl:Gl}: ∀p∈([]:List (FuncId×AF)),FnOK Tryz.prog gl p.1 p.2:=fun _ h=>nomatch h
theorem fxC {gl:Gl}{f:FuncId}{g:AF}{l:List (FuncId×AF)}(h:FnOK Tryz.prog gl f g)(t: ∀p∈l,FnOK Tryz.prog gl p.1 p.2): ∀p∈(f,g)::l,FnOK Tryz.prog gl p.1 p.2:=fun p hp=>by
 rcases List.mem_cons.1 hp with rfl|hp
 ·exact h
 ·exact t p hp
theorem hdM_at {gl:Gl}{f:FuncId}{α:Type}{D:Dec α}{g:Rws→α→Bool}{v:Rws→α→Value}{n:Rws→α→Rws}(hs:SubOK Tryz.prog gl f (hdM D g v n)){r:Rws}{x:α}(hx:D.dec (D.enc x)=some x)(hg:g r x=true):
 SubOK Tryz.prog gl f (gH (atS (pK 1000::D.enc x) (bx r)) (.normal,[v r x],bx (n r x))):=fun vs rows t e u rows' h1 h2=>by
 obtain⟨rfl,rfl,h3⟩:=gH_run h1 h2
 refine hs _ _ (.br (g r x) (.ret (.normal,[v r x],[some (.box (n r x) [])])) .fail) e u rows' ?_ ?_
 ·unfold hdM
  show cond true ((D.dec (D.enc x)).map _) none=_
  rw[hx];rfl
 ·show cond (g r x) _ none=_
  rw[hg];exact congrArg some h3.symm
structure EvS where
 kind:Int
 core:Int
 count:Int
 cause:Int
abbrev evA (e:EvS):Value:=.agg ⟨[.int .u8 e.kind,.int .i64 e.core,.int .i64 e.count,.int .u32 e.cause]⟩
structure CoT where
 c:Cfg
 id:Int
 prog:List CodeS
 r:W16
 at_:Int
 count:Int
 hal:Bool
 fl:Int
 ne:NearS
 lf:Int
 lr:Int
 lm:Int
 me:MemS
abbrev CoT.lg (k:CoT):Rws:=[some (lgRow k.c k.lf k.lr k.lm)]
def coT (k:CoT):Rws:=coO k.c k.id k.prog.length k.r k.at_ k.count k.hal k.fl (cdsL k.prog) k.ne.c k.ne.id k.ne.ask k.ne.waits (cacheR k.ne.ca) (backsR k.ne.ba) (marksR k.ne.ma) (dealR k.ne.de) k.lg (memR k.me)
def dlD:DlF:=⟨isDeal,fun r=>(dOf r).depth,fun r _=>(dOf r).endE,fun r c=>dealR ((dOf r).failed c)⟩
theorem dlD_d {d:DealS}:dlD.d (dealR d)=d.depth:=by show(dOf (dealR d)).depth=_;rw[dOf_eq]
theorem dlD_fr {d:DealS}{c:Int}:dlD.fr (dealR d) c=dealR (d.failed c):=by show dealR ((dOf (dealR d)).failed c)=_;rw[dOf_eq]
theorem dlD_g (d:DealS):dlD.g (dealR d)=true:=isDeal_t d
theorem hDF_ok {gl:Gl}(hgl:Low gl){F:List (FuncId×AF)}{X:List (FuncId×Hd)}(hF: ∀p∈F,FnOK Tryz.prog gl p.1 p.2)(hX: ∀p∈X,SubOK Tryz.prog gl p.1 p.2):(hsOf F (hDF dlD++X) []).OK Tryz.prog gl:=
 hsOf_ok hF (fun p hp=>by
  rcases List.mem_append.1 hp with hp|hp
  ·simp only[List.mem_cons,List.not_mem_nil,or_false]at hp
   rcases hp with rfl|rfl
   ·exact hdMw (sub_dDepth hgl) fun r x h=>⟨h,rfl,(dealR_of h).symm⟩
   ·exact sub_dFail hgl
  ·exact hX p hp) (fun _ h=>nomatch h)
def CoT.opn (k:CoT):Bool:=decide (k.ne.de.depth>0)
def CoT.ev (k:CoT)(kind count cause:Int):EvS:=⟨kind,k.id,count,cause⟩
def CoT.setD (k:CoT)(d:DealS):CoT:={k with ne:={k.ne with de:=d}}
def CoT.fails (k:CoT)(why:Int):CoT×EvS:=(k.setD (k.ne.de.failed why),k.ev 5 0 why)
def fCause (f:Int):Int:=f*256+5
def CoT.faults (k:CoT)(f:Int):CoT×EvS:=cond k.opn (k.fails (fCause f)) ({k with hal:=true,fl:=f},k.ev 11 0 f)
def CoT.counted (k:CoT):CoT×EvS:=cond k.opn ({k with count:=IntKind.i64.wrap (k.count+1)},k.ev 3 0 0) (k,k.ev 1 0 0)
def CoT.next (k:CoT):CoT:={k with at_:=IntKind.i64.wrap (k.at_+1)}
def CoT.done (k:CoT):CoT×EvS:=k.next.counted
def CoT.haltR (k:CoT):CoT×EvS:=cond k.opn (k.faults 2) ({k with hal:=true},k.ev 10 0 0)
def CoT.begun (k:CoT)(n st:Int):CoT:=k.setD (k.ne.de.begun k.r (IntKind.i64.wrap (IntKind.i64.wrap (k.at_+1)+n)) st)
def CoT.beginR (k:CoT)(n st:Int):CoT×EvS:=cond (k.ne.de.beginE st==0) (cond k.opn (k.begun n st).done ({(k.begun n st).next with count:=1},k.ev 2 0 0)) (k.fails 4)
def CoT.committed (k:CoT):CoT:={k with ne:={k.ne with de:=k.ne.de.ended,ma:={k.ne.ma with l:=[]}},lm:=0}
def CoT.endR (k:CoT):CoT×EvS:=cond (k.ne.de.endE==0) (cond k.ne.de.endC (k.committed.next,k.ev 4 (IntKind.i64.wrap (k.count+1)) 0) (k.setD k.ne.de.ended).done) (k.faults 3)
def abCause (n:Int):Int:=IntKind.u32.wrap (↑(BitVec.ofInt 32 2|||BitVec.ofInt 32 (IntKind.u32.wrap (IntKind.u32.wrap n*256))).toNat:Int)
def CoT.abortR (k:CoT)(n:Int):CoT×EvS:=cond k.opn (k.fails (abCause n)) k.done
def CoT.put (k:CoT)(a x:Int):CoT:={k with r:=putR k.r a x}
def CoT.testR (k:CoT)(a:Int):CoT×EvS:=(k.put a (cond k.opn 1 0)).done
def coOut0 (p:CoT×EvS):Out:=(.normal,[.tuple #[.slice none 0 0,evA p.2,.int .i64 0]],coT p.1)
theorem haf (l:List CodeS):((cdsL l).all (af 8)&&true)=true:=by rw[cdsL_af];rfl
theorem coT_h {k:CoT}(h:k.hal=false):coT k=coO k.c k.id k.prog.length k.r k.at_ k.count false k.fl (cdsL k.prog) k.ne.c k.ne.id k.ne.ask k.ne.waits (cacheR k.ne.ca) (backsR k.ne.ba) (marksR k.ne.ma) (dealR k.ne.de) k.lg (memR k.me):=by unfold coT;rw[h]
theorem coOut0_h {p:CoT×EvS}(h:p.1.hal=false):coOut0 p=(.normal,[.tuple #[.slice none 0 0,evA p.2,.int .i64 0]],coO p.1.c p.1.id p.1.prog.length p.1.r p.1.at_ p.1.count false p.1.fl (cdsL p.1.prog) p.1.ne.c p.1.ne.id p.1.ne.ask p.1.ne.waits (cacheR p.1.ne.ca) (backsR p.1.ne.ba) (marksR p.1.ne.ma) (dealR p.1.ne.de) p.1.lg (memR p.1.me)):=by unfold coOut0;rw[coT_h h]
theorem endH {p:CoT×EvS}{o:Out}(h:p.1.hal=false)(e:o=(.normal,[.tuple #[.slice none 0 0,evA p.2,.int .i64 0]],coO p.1.c p.1.id p.1.prog.length p.1.r p.1.at_ p.1.count false p.1.fl (cdsL p.1.prog) p.1.ne.c p.1.ne.id p.1.ne.ask p.1.ne.waits (cacheR p.1.ne.ca) (backsR p.1.ne.ba) (marksR p.1.ne.ma) (dealR p.1.ne.de) p.1.lg (memR p.1.me))):some o=some (coOut0 p):=by rw[coOut0_h h,e]
abbrev cAt (k:CoT)(i:CodeS)(st:Int):List Value→Rws→Bool:=atS [pK 1000,.agg ⟨cdL i⟩,.int .u64 st] (coT k)
theorem sub_kHalt {gl:Gl}(hgl:Low gl){k:CoT}{i:CodeS}{st:Int}(h:k.hal=false):SubOK Tryz.prog gl 95 (gH (cAt k i st) (coOut0 k.haltR)):=by
 unfold cAt
 rw[coT_h h]
 refine atV hgl (hDF_ok hgl fx0 sx0) (pl:=noV) ((r_kHalt gl dlD k.c k.ne.c k.id k.ne.id _ k.r k.at_ k.count k.fl _ k.ne.ask k.ne.waits _ _ _ _ _ _ st i).trans ?_)
 simp only[dlD_d,dlD_fr,dlD_g,cond_true,haf]
 unfold CoT.haltR CoT.faults CoT.opn
 cases decide (k.ne.de.depth>0)with
 |true=>exact endH h rfl
 |false=>rfl
theorem sub_kTest {gl:Gl}(hgl:Low gl){k:CoT}{i:CodeS}{st:Int}(h:k.hal=false):SubOK Tryz.prog gl 99 (gH (cAt k i st) (coOut0 (k.testR i.a))):=by
 unfold cAt
 rw[coT_h h]
 cases ho:k.opn with
 |true=>
  have ho':decide (k.ne.de.depth>0)=true:=ho
  refine atV hgl (hDF_ok hgl (fxC (fn_put1 hgl k.r i.a 1) fx0) sx0) (pl:=noV) ((r_kTest gl dlD k.c k.ne.c k.id k.ne.id _ k.r k.at_ k.count k.fl _ k.ne.ask k.ne.waits _ _ _ _ _ _ st i _ _).trans ?_)
  simp only[dlD_d,dlD_g,cond_true,haf,qs_eq,ho']
  refine condI (cl_t rfl) ?_
  unfold CoT.testR CoT.done CoT.counted
  have e: ∀x,CoT.opn (CoT.next (k.put i.a x))=true:=fun _=>ho
  simp only[e,ho,cond_true]
  exact endH h rfl
 |false=>
  have ho':decide (k.ne.de.depth>0)=false:=ho
  refine atV hgl (hDF_ok hgl (fxC (fn_put1 hgl k.r i.a 0) fx0) sx0) (pl:=noV) ((r_kTest gl dlD k.c k.ne.c k.id k.ne.id _ k.r k.at_ k.count k.fl _ k.ne.ask k.ne.waits _ _ _ _ _ _ st i _ _).trans ?_)
  simp only[dlD_d,dlD_g,cond_true,cond_false,haf,qs_eq,ho']
  refine condI (cl_t rfl) ?_
  unfold CoT.testR CoT.done CoT.counted
  have e: ∀x,CoT.opn (CoT.next (k.put i.a x))=false:=fun _=>ho
  simp only[e,ho,cond_false]
  exact endH h rfl
theorem sub_kAbort {gl:Gl}(hgl:Low gl){k:CoT}{i:CodeS}{st:Int}(h:k.hal=false):SubOK Tryz.prog gl 98 (gH (cAt k i st) (coOut0 (k.abortR i.n))):=by
 unfold cAt
 rw[coT_h h]
 refine atV hgl (hDF_ok hgl fx0 sx0) (pl:=noV) ((r_kAbort gl dlD k.c k.ne.c k.id k.ne.id _ k.r k.at_ k.count k.fl _ k.ne.ask k.ne.waits _ _ _ _ _ _ st i).trans ?_)
 simp only[dlD_d,dlD_fr,dlD_g,cond_true,haf]
 unfold CoT.abortR CoT.done CoT.counted
 have e:CoT.opn (CoT.next k)=k.opn:=rfl
 rw[e]
 unfold CoT.opn
 cases decide (k.ne.de.depth>0)with
 |true=>exact endH h rfl
 |false=>exact endH h rfl
theorem beginE_cases {d:DealS}{st:Int}(h1:st≠0)(h2:d.failing=false):d.beginE st=0∨d.beginE st=7:=by
 unfold DealS.beginE
 rw[beq_eq_false_iff_ne.mpr h1,h2]
 cases d.depth==d.nest
 ·exact .inl rfl
 ·exact .inr rfl
theorem beginE_7 {d:DealS}{s:W16}{h st:Int}(h1:st≠0)(h2:d.failing=false)(he:d.beginE st=7):d.begun s h st=d:=by
 unfold DealS.beginE at he
 rw[beq_eq_false_iff_ne.mpr h1,h2]at he
 unfold DealS.begun
 rw[beq_eq_false_iff_ne.mpr h1,h2]
 cases hd:d.depth==d.nest with
 |false=>rw[hd]at he;cases he
 |true=>rfl
theorem sub_dBeginA {gl:Gl}(hgl:Low gl)(d:DealS)(s:W16)(h st e:Int)(he:d.beginE st=e):SubOK Tryz.prog gl 151 (gH (atS [pK 1000,svV s h,.int .u64 st] (bx (dealR d))) (.normal,[.int .i64 e],bx (dealR (d.begun s h st)))):=by
 have hs:=hdM_at (sub_dBegin hgl) (r:=dealR d) (x:=(s,h,st)) rfl (isDeal_t d)
 simp only[dOf_eq,he]at hs
 exact hs
theorem sub_dEndA {gl:Gl}(hgl:Low gl)(d:DealS)(b:Bool)(e:Int)(hb:d.endC=b)(he:d.endE=e):SubOK Tryz.prog gl 153 (gH (atS [pK 1000] (bx (dealR d))) (.normal,[.tuple #[.bool b,.int .i64 e]],bx (dealR d.ended))):=by
 have hs:=hdM_at (sub_dEnd hgl) (r:=dealR d) (x:=()) rfl (isDeal_t d)
 simp only[dOf_eq,he,hb]at hs
 exact hs
theorem begun_pos {d:DealS}{s:W16}{h st:Int}(h0:decide (d.depth>0)=true)(hn:d.depth≤8):decide ((d.begun s h st).depth>0)=true:=by
 have h0:=of_decide_eq_true h0
 unfold DealS.begun
 cases st==0 with
 |true=>exact qd1 h0
 |false=>
  cases d.failing with
  |true=>exact qd1 h0
  |false=>
   cases d.depth==d.nest with
   |true=>exact qd1 h0
   |false=>
    have hw:IntKind.i64.wrap (d.depth+1)=d.depth+1:=wrap_id _ (by omega)
    cases d.depth==0 with
    |true=>exact qd1 (by show IntKind.i64.wrap (d.depth+1)>0;rw[hw];omega)
    |false=>exact qd1 (by show IntKind.i64.wrap (d.depth+1)>0;rw[hw];omega)
theorem sub_kBegin {gl:Gl}(hgl:Low gl){k:CoT}{i:CodeS}{st:Int}(h:k.hal=false)(hst:st≠0)(hf:k.ne.de.failing=false)(hn:k.ne.de.depth≤8):SubOK Tryz.prog gl 96 (gH (cAt k i st) (coOut0 (k.beginR i.n st))):=by
 unfold cAt
 rw[coT_h h]
 rcases beginE_cases (d:=k.ne.de) hst hf with he|he
 ·have hB:=sub_dBeginA hgl k.ne.de k.r (IntKind.i64.wrap (IntKind.i64.wrap (k.at_+1)+i.n)) st 0 he
  refine atV hgl (hDF_ok hgl fx0 (sxC hB sx0)) (pl:=noV) ((r_kBeg gl dlD k.c k.ne.c k.id k.ne.id _ k.r k.at_ k.count k.fl _ k.ne.ask k.ne.waits _ _ _ _ _ _ st i _ _).trans ?_)
  simp only[dlD_d,dlD_g,cond_true,haf,qs_eq]
  unfold CoT.beginR
  rw[he]
  cases ho:k.opn with
  |true=>
   have ho':decide (k.ne.de.depth>0)=true:=ho
   refine condI ho' (condI (atS_self _ _) (condI (begun_pos ho' hn) ?_))
   have e:CoT.opn (CoT.next (k.begun i.n st))=true:=begun_pos ho' hn
   simp only[CoT.done,CoT.counted,e,cond_true,beq_self_eq_true]
   exact endH h rfl
  |false=>
   have ho':decide (k.ne.de.depth>0)=false:=ho
   refine condE ho' (condI (atS_self _ _) ?_)
   exact endH h rfl
 ·have hB:=sub_dBeginA hgl k.ne.de k.r (IntKind.i64.wrap (IntKind.i64.wrap (k.at_+1)+i.n)) st 7 he
  rw[beginE_7 hst hf he]at hB
  refine atV hgl (hDF_ok hgl fx0 (sxC hB sx0)) (pl:=noV) ((r_kBegE gl dlD k.c k.ne.c k.id k.ne.id _ k.r k.at_ k.count k.fl _ k.ne.ask k.ne.waits _ _ _ _ _ _ st i _ _).trans ?_)
  simp only[dlD_d,dlD_fr,dlD_g,cond_true,haf,qs_eq]
  unfold CoT.beginR
  rw[he]
  cases ho:k.opn with
  |true=>
   have ho':decide (k.ne.de.depth>0)=true:=ho
   refine condI ho' (condI (atS_self _ _) ?_)
   exact endH h rfl
  |false=>
   have ho':decide (k.ne.de.depth>0)=false:=ho
   refine condE ho' (condI (atS_self _ _) ?_)
   exact endH h rfl
theorem endE_cases {d:DealS}(h2:d.failing=false):(d.endE=0∧(d.depth==0)=false)∨(d.endE=8∧d.depth=0∧d.ended=d∧d.endC=false):=by
 unfold DealS.endE DealS.ended DealS.endC
 rw[h2]
 cases h:d.depth==0 with
 |true=>exact .inr ⟨rfl,eq_of_beq h,rfl,rfl⟩
 |false=>exact .inl ⟨rfl,rfl⟩
theorem ended_pos {d:DealS}(h2:d.failing=false)(h0:(d.depth==0)=false)(hc:d.endC=false):decide (d.ended.depth>0)=true:=by
 unfold DealS.endC at hc
 unfold DealS.ended
 rw[h0,h2]at hc ⊢
 have hc:(!decide (IntKind.i64.wrap (d.depth-1)>0))=false:=hc
 have hd:decide (IntKind.i64.wrap (d.depth-1)>0)=true:=by simpa using hc
 simp only[cond_false,hd,cond_true]
theorem sub_kEnd {gl:Gl}(hgl:Low gl){k:CoT}{i:CodeS}{st:Int}(h:k.hal=false)(hf:k.ne.de.failing=false):SubOK Tryz.prog gl 97 (gH (cAt k i st) (coOut0 k.endR)):=by
 unfold cAt
 rw[coT_h h]
 unfold CoT.endR
 rcases endE_cases hf with⟨he,hd⟩|⟨he,hd,hx,hcc⟩
 ·rw[he]
  cases hc:k.ne.de.endC with
  |true=>
   have hE:=sub_dEndA hgl k.ne.de true 0 hc he
   have hC:SubOK Tryz.prog gl 139 (gH (atS [pK 1000] (nearX k.ne.c k.ne.id k.ne.ask k.ne.waits (cacheR k.ne.ca) (backsR k.ne.ba) (marksR k.ne.ma) (dealR k.ne.de.ended))) (.normal,[.tuple #[]],nearX k.ne.c k.ne.id k.ne.ask k.ne.waits (cacheR k.ne.ca) (backsR k.ne.ba) (marksR {k.ne.ma with l:=[]}) (dealR k.ne.de.ended))):=sub_neClear hgl (k:={k.ne with de:=k.ne.de.ended})
   refine atV hgl (hDF_ok hgl fx0 (sxC hE (sxC hC (sxC (sub_lgClear hgl (c:=k.c) (first:=k.lf) (room:=k.lr) (many:=k.lm)) sx0)))) (pl:=noV) ((r_kEndC gl dlD k.c k.ne.c k.id k.ne.id _ k.r k.at_ k.count k.fl _ k.ne.ask k.ne.waits _ _ _ _ _ _ st i _ _ _ _ _ _).trans ?_)
   simp only[cond_true,haf,qs_eq]
   refine condI (atS_self _ _) (condI (atS_self _ _) (condI (atS_self _ _) ?_))
   exact endH h rfl
  |false=>
   have hE:=sub_dEndA hgl k.ne.de false 0 hc he
   refine atV hgl (hDF_ok hgl fx0 (sxC hE sx0)) (pl:=noV) ((r_kEndN gl dlD k.c k.ne.c k.id k.ne.id _ k.r k.at_ k.count k.fl _ k.ne.ask k.ne.waits _ _ _ _ _ _ st i _ _).trans ?_)
   have ho:=ended_pos hf hd hc
   simp only[dlD_d,dlD_g,cond_true,haf,ho]
   refine condI (atS_self _ _) ?_
   have e:CoT.opn (CoT.next (k.setD k.ne.de.ended))=true:=ho
   simp only[CoT.done,CoT.counted,e,cond_true,cond_false,beq_self_eq_true]
   exact endH h rfl
 ·have hE:=sub_dEndA hgl k.ne.de false 8 hcc he
  rw[hx]at hE
  refine atV hgl (hDF_ok hgl fx0 (sxC hE sx0)) (pl:=noV) ((r_kEndE gl dlD k.c k.ne.c k.id k.ne.id _ k.r k.at_ k.count k.fl _ k.ne.ask k.ne.waits _ _ _ _ _ _ st i _ _).trans ?_)
  have ho:decide (k.ne.de.depth>0)=false:=qd2 (by omega)
  have ho2:k.opn=false:=ho
  simp only[dlD_d,dlD_g,cond_true,cond_false,haf,ho]
  refine condI (atS_self _ _) ?_
  rw[he]
  simp only[CoT.faults,ho2,cond_false]
  rfl
theorem sub_nev {gl:Gl}{f:FuncId}{o:Out}:SubOK Tryz.prog gl f (gH (fun _ _=>false) o):=fun vs rows t e v rows' h1 h2=>by
 unfold gH at h1
 cases h1
 cases h2
theorem sub_dead {gl:Gl}{f:FuncId}:SubOK Tryz.prog gl f deadH:=fun vs rows t e v rows' h1 h2=>by
 unfold deadH at h1
 cases h1
 cases h2
theorem fn_nev {gl:Gl}{f:FuncId}{v:Value}:FnOK Tryz.prog gl f (afT (fun _=>false) v):=fun args σ c u e hc=>by
 subst hc
 unfold afT at e
 cases e
theorem flat_af {v u:Value}{σ1:LS}(h:flatR (u,σ1)=some v):af 8 v=true:=by
 unfold flatR at h
 obtain⟨h1,h2⟩:=condT h
 cases h2
 exact h1
theorem fn_addr {gl:Gl}(hF:GlF gl)(hgl:Low gl){r:W16}{op a b c n:Int}(hc:cmay op a b c n=true)(ho:op=9∨op=10∨op=11):
 FnOK Tryz.prog gl 155 (afT (fun l=>cl (l=[w16V r,cdV op a b c n])) (.tuple #[.int .u32 (IntKind.u32.wrap (getR r b+IntKind.u32.wrap n)),.int .i64 0])):=FnOK.flat hgl tglob fun args σ v h=>by
 unfold afT at h
 simp only[Option.some.injEq,Prod.mk.injEq]at h
 obtain⟨h1,rfl⟩:=h
 have h1:=of_cl h1
 subst h1
 have hq: ∃H:Hs,H.OK Tryz.prog gl∧evF gl H 155 [w16V r,cdV op a b c n]=some (.tuple #[.int .u32 (IntKind.u32.wrap (getR r b+IntKind.u32.wrap n)),.int .i64 0]):=by
  refine⟨HDo cmay getR (fun _=>false) w0,one_ok (fxC (fn_may0 hF hgl) (fxC (fn_sGet hgl) (fxC fn_nev fx0))),?_⟩
  rcases ho with rfl|rfl|rfl
  ·refine(r_ad9 gl _ _ r a b c n).trans (condI hc ?_);simp only[qs_eq]
  ·refine(r_ad10 gl _ _ r a b c n).trans (condI hc ?_);simp only[qs_eq]
  ·refine(r_ad11 gl _ _ r a b c n).trans (condI hc ?_);simp only[qs_eq]
 obtain⟨H,hH,e⟩:=hq
 obtain⟨⟨u,σ1⟩,_,h4⟩:=callSK_ok noSy_ok 40 (.fn 155) [w16V r,cdV op a b c n] LS.start _ _ e
 have hf:=flat_af h4
 exact⟨rfl,hf,fun w hw=>flatS noSy_ok goodT hgl tglob hH rfl e hw⟩
def askOp (op:Int):Bool:=decide (op=0)||(decide (op=9)||(decide (op=10)||(decide (op=11)||(decide (op=17)||(decide (op=18)||(decide (op=19)||decide (op=20)))))))
theorem ask_cases {op:Int}(h:askOp op=true):op=0∨op=9∨op=10∨op=11∨op=17∨op=18∨op=19∨op=20:=by
 simpa only[askOp,Bool.or_eq_true,decide_eq_true_eq]using h
theorem fn_doN {gl:Gl}(hF:GlF gl)(hgl:Low gl){r:W16}{at_ op a b c n:Int}(hc:cmay op a b c n=true)(ho:askOp op=true)(h0:0≤at_)(h1:at_≤1024):
 FnOK Tryz.prog gl 12 (afT (fun l=>cl (l=[w16V r,.int .i64 at_,cdV op a b c n])) (.tuple #[w16V w0,.int .i64 0,.int .i64 4])):=FnOK.flat hgl tglob fun args σ v h=>by
 unfold afT at h
 simp only[Option.some.injEq,Prod.mk.injEq]at h
 obtain⟨h2,rfl⟩:=h
 have h2:=of_cl h2
 subst h2
 have hq: ∃H:Hs,H.OK Tryz.prog gl∧evF gl H 12 [w16V r,.int .i64 at_,cdV op a b c n]=some (.tuple #[w16V w0,.int .i64 0,.int .i64 4]):=by
  refine⟨HDo cmay getR (fun _=>false) w0,one_ok (fxC (fn_may0 hF hgl) (fxC (fn_sGet hgl) (fxC fn_nev fx0))),?_⟩
  have d1:decide (at_<0)=false:=qd2 (by omega)
  have d2:decide (at_>1024)=false:=qd2 (by omega)
  rcases ask_cases ho with rfl|rfl|rfl|rfl|rfl|rfl|rfl|rfl
  ·exact(r_dn0 gl _ _ r at_ a b c n).trans (condI hc (condE d1 (condE d2 (by simp only[qs_eq]))))
  ·exact(r_dn9 gl _ _ r at_ a b c n).trans (condI hc (condE d1 (condE d2 (by simp only[qs_eq]))))
  ·exact(r_dn10 gl _ _ r at_ a b c n).trans (condI hc (condE d1 (condE d2 (by simp only[qs_eq]))))
  ·exact(r_dn11 gl _ _ r at_ a b c n).trans (condI hc (condE d1 (condE d2 (by simp only[qs_eq]))))
  ·exact(r_dn17 gl _ _ r at_ a b c n).trans (condI hc (condE d1 (condE d2 (by simp only[qs_eq]))))
  ·exact(r_dn18 gl _ _ r at_ a b c n).trans (condI hc (condE d1 (condE d2 (by simp only[qs_eq]))))
  ·exact(r_dn19 gl _ _ r at_ a b c n).trans (condI hc (condE d1 (condE d2 (by simp only[qs_eq]))))
  ·exact(r_dn20 gl _ _ r at_ a b c n).trans (condI hc (condE d1 (condE d2 (by simp only[qs_eq]))))
 obtain⟨H,hH,e⟩:=hq
 obtain⟨⟨u,σ1⟩,_,h4⟩:=callSK_ok noSy_ok 40 (.fn 12) [w16V r,.int .i64 at_,cdV op a b c n] LS.start _ _ e
 have hf:=flat_af h4
 exact⟨rfl,hf,fun w hw=>flatS noSy_ok goodT hgl tglob hH rfl e hw⟩
theorem fn_doP {gl:Gl}(hF:GlF gl)(hgl:Low gl){r:W16}{at_ op a b c n:Int}(h:doG at_ op a b c n=true):
 FnOK Tryz.prog gl 12 (afT (fun l=>cl (l=[w16V r,.int .i64 at_,cdV op a b c n])) (.tuple #[w16V (doR r op a b c n),.int .i64 (doA r at_ op a b n),.int .i64 0])):=fnWeak (fn_do hF hgl) fun args σ v h1=>by
 unfold afT at h1
 simp only[Option.some.injEq,Prod.mk.injEq]at h1
 obtain⟨h2,rfl⟩:=h1
 rw[of_cl h2]
 show some (doG at_ op a b c n,_)=_
 rw[h]
theorem fn_whereE {gl:Gl}(hgl:Low gl)(e:Int):FnOK Tryz.prog gl 140 (afCi .u32 (fun c n=>whE c n==e) fun c n=>.tuple #[.int .i64 (whB c n),.int .i64 (whW c n),.int .i64 e]):=fun args σ c v h hc=>by
 subst hc
 obtain⟨q,n,rfl,h1,rfl⟩:=afCi_inv h
 refine fn_pWhere hgl [cfgV q,.int .u32 n] σ true _ ?_ rfl
 have h1:(whE q n==e)=true:=h1
 show some (decide (IntKind.u32=IntKind.u32)&&true,Value.tuple #[.int .i64 (whB q n),.int .i64 (whW q n),.int .i64 (whE q n)])=_
 rw[eq_of_beq h1];rfl
theorem wh_ok {c:Cfg}{n:Int}(hp:planOk c=true)(h0:0≤n)(h1:n<4294967296)(he:whE c n=0):0≤whB c n∧whB c n<dataP c∧0≤whW c n∧whW c n<16:=by
 have hb:whB c n=blkI n:=by unfold whB;rw[he];rfl
 have hw:whW c n=wrdI n:=by unfold whW;rw[he];rfl
 rw[hb,hw,dataP_t hp]
 have q1:n.tdiv 64=n/64:=Int.tdiv_eq_ediv_of_nonneg h0
 have q2:n.tmod 64=n%64:=Int.tmod_eq_emod_of_nonneg h0
 have q3:(n%64).tdiv 4=n%64/4:=Int.tdiv_eq_ediv_of_nonneg (by omega)
 have u1: ∀x:Int,0≤x→x<4294967296→IntKind.i64.wrap (IntKind.u32.wrap x)=x:=fun x hx hy=>by
  have e:IntKind.u32.wrap x=x:=by
   simp only[IntKind.wrap,IntKind.bits,IntKind.signed]
   simp
   omega
  rw[e,wrap_id _ (by omega)]
 have k1:blkI n=n/64:=by unfold blkI;rw[q1,u1 _ (by omega) (by omega)]
 have k2:wrdI n=n%64/4:=by unfold wrdI;rw[q2,q3,u1 _ (by omega) (by omega)]
 unfold whE at he
 rw[hp]at he
 simp only[cond_true]at he
 cases h5:n.tmod 4 !=0 with
 |true=>rw[h5]at he;cases he
 |false=>
  rw[h5]at he
  simp only[cond_false]at he
  cases h6:decide (blkI n≥c.blocks)with
  |true=>rw[h6]at he;cases he
  |false=>
   rw[h6]at he
   simp only[cond_false]at he
   cases h7:decide (blkI n≥dataI c)with
   |true=>rw[h7]at he;cases he
   |false=>
    have h7:=of_decide_eq_false h7
    rw[k1]at h7 ⊢
    rw[k2]
    omega
theorem wrap32b (x:Int):0≤IntKind.u32.wrap x∧IntKind.u32.wrap x<4294967296:=by
 simp only[IntKind.wrap,IntKind.bits,IntKind.signed]
 simp
 omega
theorem askR_cases {k:NearS}{b:Int}{wr:Bool}:(k.askR b wr=(true,[],0,k)∧k.hit b wr=true)∨k.askR b wr=(false,[],110,k)∨ ∃n l k',k.askR b wr=(false,n::l,0,k')∧k'.c=k.c∧k'.id=k.id∧k'.ma=k.ma∧k'.de=k.de:=by
 unfold NearS.askR
 cases h:k.hit b wr with
 |true=>exact .inl ⟨rfl,rfl⟩
 |false=>
  cases hb:k.ba.is b with
  |true=>exact .inr (.inl rfl)
  |false=>
   cases hg:k.ca.goes b with
   |none=>exact .inr (.inr ⟨_,_,_,rfl,rfl,rfl,rfl,rfl⟩)
   |some l=>
    dsimp only[cond_false]
    cases l.state !=1 with
    |false=>exact .inr (.inr ⟨_,_,_,rfl,rfl,rfl,rfl,rfl⟩)
    |true=>
     cases k.ba.p.roomI==0 with
     |true=>exact .inr (.inl rfl)
     |false=>exact .inr (.inr ⟨_,_,_,rfl,rfl,rfl,rfl,rfl⟩)
def WkR:=CoT×List NoteS×EvS×Int
def one (p:CoT×EvS):WkR:=(p.1,[],p.2,0)
def ev0:EvS:=⟨0,0,0,0⟩
def wkOut (q:WkR):Out:=(.normal,[.tuple #[nsV 1009 q.2.1,evA q.2.2.1,.int .i64 q.2.2.2]],coT q.1++nsR q.2.1)
theorem wkOut_one (p:CoT×EvS):wkOut (one p)=coOut0 p:=by
 unfold wkOut one nsR nsV coOut0
 simp only[List.append_nil]
def CoT.setN (k:CoT)(n:NearS):CoT:={k with ne:=n}
def CoT.addr (k:CoT)(i:CodeS):Int:=IntKind.u32.wrap (getR k.r i.b+IntKind.u32.wrap i.n)
def CoT.full (k:CoT):Bool:=k.opn&&(k.lm==k.lr)
def CoT.was (k:CoT)(ad:Int):Int:=(k.ne.ca.line (whB k.c ad)).data.nth (whW k.c ad)
def CoT.stored (k:CoT)(ad x:Int):CoT:=cond k.opn {k with ne:=k.ne.stored (whB k.c ad) (whW k.c ad) x,lm:=k.lm+1,me:=k.me.log2 (lgPos k.lf k.lm) ad (k.was ad)} {k with ne:=k.ne.stored (whB k.c ad) (whW k.c ad) x}
def CoT.loaded (k:CoT)(ad:Int):CoT:={k with ne:=k.ne.loaded (whB k.c ad)}
def CoT.getsR (k:CoT)(i:CodeS)(ad:Int):CoT×EvS:=
 cond (i.op==10) (cond k.full (k.fails 3) (k.stored ad (getR k.r i.a)).done)
  (cond (i.op==11&&(k.was ad==getR k.r i.a)) (cond k.full (k.fails 3) ((k.stored ad (getR k.r i.c)).put i.a (k.was ad)).done) ((k.loaded ad).put i.a (k.was ad)).done)
def fltOf (e:Int):Int:=cond (e==50) 4 (cond (e==5) 5 6)
def CoT.memoR (k:CoT)(i:CodeS):WkR:=
 cond (whE k.c (k.addr i)==0)
  (cond (k.ne.askR (whB k.c (k.addr i)) (i.op !=9)).1 (one (k.getsR i (k.addr i)))
   (cond ((k.ne.askR (whB k.c (k.addr i)) (i.op !=9)).2.2.1==0) (k.setN (k.ne.askR (whB k.c (k.addr i)) (i.op !=9)).2.2.2,(k.ne.askR (whB k.c (k.addr i)) (i.op !=9)).2.1,k.ev 8 0 0,0) (k,[],ev0,110)))
  (one (k.faults (fltOf (whE k.c (k.addr i)))))
structure MemP (k:CoT):Prop where
 hal:k.hal=false
 ca:k.ne.ca.ok
 wf:k.ne.ca.wf
 ba:k.ne.ba.ok
 wt:k.ne.waits=false
 cc:k.ne.c=k.c
 pl:planOk k.c=true
 lg:LogP k.c k.lf k.lr k.me
 m0:0≤k.lm
 m1:k.lm≤k.lr
theorem MemP.ask {k:CoT}(h:MemP k){i:CodeS}(he:whE k.c (k.addr i)=0):AskP k.ne (whB k.c (k.addr i)):=by
 obtain⟨a,b,_⟩:=wh_ok h.pl (wrap32b _).1 (wrap32b _).2 he
 exact⟨h.ca,h.wf,h.ba,h.wt,a,by rw[h.cc];exact b⟩
theorem atV' {gl:Gl}(hgl:Low gl){H:Hs}(hH:H.OK Tryz.prog gl){f:FuncId}{vs:List Value}{rows:Rws}{l:List (Nat×Value)}{o:Out}(h:callV (syG l) Tryz.prog gl (fun _=>none) H 100 40 40 f vs rows noV=some o):SubOK Tryz.prog gl f (gH (atS vs rows) o):=
 sub_atV goodT hgl tglob ⟨syG l,H,100,40,40,noV,syG_ok _,hH,h⟩
theorem fltE {c:Cfg}{n:Int}(hp:planOk c=true)(h:(whE c n==0)=false):whE c n=50∨whE c n=5∨whE c n=51:=by
 unfold whE at h ⊢
 rw[hp]at h ⊢
 cases h5:n.tmod 4 !=0 with
 |true=>exact .inl rfl
 |false=>
  rw[h5]at h
  cases h6:decide (blkI n≥c.blocks)with
  |true=>exact .inr (.inl rfl)
  |false=>
   rw[h6]at h
   cases h7:decide (blkI n≥dataI c)with
   |true=>exact .inr (.inr rfl)
   |false=>rw[h7]at h;cases h
theorem opn_cases (k:CoT):(k.opn=true∧decide (k.ne.de.depth>0)=true)∨(k.opn=false∧decide (k.ne.de.depth>0)=false):=by
 unfold CoT.opn
 cases decide (k.ne.de.depth>0)
 ·exact .inr ⟨rfl,rfl⟩
 ·exact .inl ⟨rfl,rfl⟩
theorem endW {q:WkR}{o:Out}(h:q.1.hal=false)(e:o=(.normal,[.tuple #[nsV 1009 q.2.1,evA q.2.2.1,.int .i64 q.2.2.2]],coO q.1.c q.1.id q.1.prog.length q.1.r q.1.at_ q.1.count false q.1.fl (cdsL q.1.prog) q.1.ne.c q.1.ne.id q.1.ne.ask q.1.ne.waits (cacheR q.1.ne.ca) (backsR q.1.ne.ba) (marksR q.1.ne.ma) (dealR q.1.ne.de) q.1.lg (memR q.1.me)++nsR q.2.1)):some o=some (wkOut q):=by
 unfold wkOut
 rw[coT_h h,e]
theorem sub_memFlt {gl:Gl}(hF:GlF gl)(hgl:Low gl){k:CoT}{i:CodeS}{st:Int}(hp:MemP k)(hc:cmay i.op i.a i.b i.c i.n=true)(ho:i.op=9∨i.op=10∨i.op=11)(he:(whE k.c (k.addr i)==0)=false):SubOK Tryz.prog gl 100 (gH (cAt k i st) (wkOut (k.memoR i))):=by
 have hx:k.memoR i=one (k.faults (fltOf (whE k.c (k.addr i)))):=by unfold CoT.memoR;rw[he];rfl
 rw[hx,wkOut_one]
 unfold cAt
 rw[coT_h hp.hal]
 have hA:=fn_addr hF hgl (r:=k.r) hc ho
 have hcc:=opn_cases k
 rcases fltE hp.pl he with e|e|e
 ·refine atV hgl (hDF_ok hgl (fxC hA (fxC (fn_whereE hgl 50) fx0)) (sxC sub_dead sx0)) (pl:=noV) ((r_mFlt gl dlD k.c k.ne.c k.id k.ne.id _ k.r k.at_ k.count k.fl _ k.ne.ask k.ne.waits _ _ _ _ _ _ st i _ _ _ _ _ _).trans ?_)
  simp only[dlD_d,dlD_fr,dlD_g,cond_true,haf,qs_eq]
  refine condI (cl_t rfl) (condI (beq_of_eq e) ?_)
  rw[e]
  rcases hcc with⟨h1,h2⟩|⟨h1,h2⟩
  ·unfold CoT.faults
   rw[h1,h2]
   exact endH hp.hal rfl
  ·unfold CoT.faults
   rw[h1,h2]
   rfl
 ·refine atV hgl (hDF_ok hgl (fxC hA (fxC (fn_whereE hgl 5) fx0)) (sxC sub_dead sx0)) (pl:=noV) ((r_mFlt gl dlD k.c k.ne.c k.id k.ne.id _ k.r k.at_ k.count k.fl _ k.ne.ask k.ne.waits _ _ _ _ _ _ st i _ _ _ _ _ _).trans ?_)
  simp only[dlD_d,dlD_fr,dlD_g,cond_true,haf,qs_eq]
  refine condI (cl_t rfl) (condI (beq_of_eq e) ?_)
  rw[e]
  rcases hcc with⟨h1,h2⟩|⟨h1,h2⟩
  ·unfold CoT.faults
   rw[h1,h2]
   exact endH hp.hal rfl
  ·unfold CoT.faults
   rw[h1,h2]
   rfl
 ·refine atV hgl (hDF_ok hgl (fxC hA (fxC (fn_whereE hgl 51) fx0)) (sxC sub_dead sx0)) (pl:=noV) ((r_mFlt gl dlD k.c k.ne.c k.id k.ne.id _ k.r k.at_ k.count k.fl _ k.ne.ask k.ne.waits _ _ _ _ _ _ st i _ _ _ _ _ _).trans ?_)
  simp only[dlD_d,dlD_fr,dlD_g,cond_true,haf,qs_eq]
  refine condI (cl_t rfl) (condI (beq_of_eq e) ?_)
  rw[e]
  rcases hcc with⟨h1,h2⟩|⟨h1,h2⟩
  ·unfold CoT.faults
   rw[h1,h2]
   exact endH hp.hal rfl
  ·unfold CoT.faults
   rw[h1,h2]
   rfl
theorem not_hit {k:NearS}{b:Int}{wr:Bool}{q:Bool×List NoteS×Int×NearS}(h:k.askR b wr=q):askOut k b wr=(.normal,[.tuple #[.bool q.1,nsV 1005 q.2.1,.int .i64 q.2.2.1]],nearR q.2.2.2++nsR q.2.1):=by unfold askOut;rw[h]
theorem nearR_of {k k':NearS}(h1:k'.c=k.c)(h2:k'.id=k.id)(h3:k'.ma=k.ma)(h4:k'.de=k.de):nearR k'=nearX k.c k.id k'.ask k'.waits (cacheR k'.ca) (backsR k'.ba) (marksR k.ma) (dealR k.de):=by unfold nearR;rw[h1,h2,h3,h4]
theorem coR_of {k:CoT}{k':NearS}(h:k.hal=false)(h1:k'.c=k.ne.c)(h2:k'.id=k.ne.id)(h3:k'.ma=k.ne.ma)(h4:k'.de=k.ne.de):coT (k.setN k')=coO k.c k.id k.prog.length k.r k.at_ k.count false k.fl (cdsL k.prog) k.ne.c k.ne.id k'.ask k'.waits (cacheR k'.ca) (backsR k'.ba) (marksR k.ne.ma) (dealR k.ne.de) k.lg (memR k.me):=by
 rw[coT_h (k:=k.setN k') h]
 show coO k.c k.id k.prog.length k.r k.at_ k.count false k.fl (cdsL k.prog) k'.c k'.id _ _ _ _ (marksR k'.ma) (dealR k'.de) _ _=_
 rw[h1,h2,h3,h4];rfl
theorem sub_memAsk9 {gl:Gl}(hF:GlF gl)(hgl:Low gl){k:CoT}{a b c n st:Int}(hp:MemP k)(hc:cmay 9 a b c n=true)(he:whE k.c (k.addr ⟨9,a,b,c,n⟩)=0)(hh:k.ne.hit (whB k.c (k.addr ⟨9,a,b,c,n⟩)) false=false):SubOK Tryz.prog gl 100 (gH (cAt k ⟨9,a,b,c,n⟩ st) (wkOut (k.memoR ⟨9,a,b,c,n⟩))):=by
 have hN:=sub_neAsk hgl false (hp.ask he)
 have hA:=fn_addr hF hgl (r:=k.r) hc (by omega)
 have hx:k.memoR ⟨9,a,b,c,n⟩=cond (k.ne.askR (whB k.c (k.addr ⟨9,a,b,c,n⟩)) false).1 (one (k.getsR ⟨9,a,b,c,n⟩ (k.addr ⟨9,a,b,c,n⟩)))
  (cond ((k.ne.askR (whB k.c (k.addr ⟨9,a,b,c,n⟩)) false).2.2.1==0) (k.setN (k.ne.askR (whB k.c (k.addr ⟨9,a,b,c,n⟩)) false).2.2.2,(k.ne.askR (whB k.c (k.addr ⟨9,a,b,c,n⟩)) false).2.1,k.ev 8 0 0,0) (k,[],ev0,110)):=by
  unfold CoT.memoR;rw[he];rfl
 unfold cAt
 rw[coT_h hp.hal]
 rcases askR_cases (k:=k.ne) (b:=whB k.c (k.addr ⟨9,a,b,c,n⟩)) (wr:=false)with⟨_,h1⟩|h1|⟨n1,l,k',h1,e1,e2,e3,e4⟩
 ·rw[hh]at h1;cases h1
 ·rw[h1]at hx
  rw[not_hit h1]at hN
  have hx:k.memoR ⟨9,a,b,c,n⟩=(k,[],ev0,110):=hx
  rw[hx]
  refine atV hgl (hDF_ok hgl (fxC hA (fxC (fn_where0 hgl) fx0)) (sxC hN sx0)) (pl:=noV) ((r_mErr9 gl dlD k.c k.ne.c k.id k.ne.id _ k.r k.at_ k.count k.fl _ k.ne.ask k.ne.waits _ _ _ _ _ _ st ⟨9,a,b,c,n⟩ _ _ _ _ _ _ k.ne.ask k.ne.waits (cacheR k.ne.ca) (backsR k.ne.ba) (marksR k.ne.ma) (dealR k.ne.de)).trans ?_)
  simp only[haf,qs_eq]
  refine condI (cl_t rfl) (condI (beq_of_eq he) (condI (atS_self _ _) ?_))
  exact endW (q:=(k,[],ev0,110)) hp.hal rfl
 ·rw[h1]at hx
  rw[not_hit h1]at hN
  have hx:k.memoR ⟨9,a,b,c,n⟩=(k.setN k',n1::l,k.ev 8 0 0,0):=hx
  rw[hx]
  dsimp only at hN
  rw[nearR_of e1 e2 e3 e4]at hN
  refine atV hgl (hDF_ok hgl (fxC hA (fxC (fn_where0 hgl) fx0)) (sxC hN sx0)) (pl:=noV) ((r_mAsk9 gl dlD k.c k.ne.c k.id k.ne.id _ k.r k.at_ k.count k.fl _ k.ne.ask k.ne.waits _ _ _ _ _ _ st ⟨9,a,b,c,n⟩ _ _ _ _ _ _ k'.ask k'.waits (cacheR k'.ca) (backsR k'.ba) (marksR k.ne.ma) (dealR k.ne.de) (l.length+1) (notesL (n1::l))).trans ?_)
  simp only[cdsL_af,notesL_af,qs_eq,Bool.and_self,cond_true]
  refine condI (cl_t rfl) (condI (beq_of_eq he) (condI (atS_self _ _) ?_))
  unfold wkOut
  rw[coR_of hp.hal e1 e2 e3 e4]
  rfl
theorem sub_memAsk10 {gl:Gl}(hF:GlF gl)(hgl:Low gl){k:CoT}{a b c n st:Int}(hp:MemP k)(hc:cmay 10 a b c n=true)(he:whE k.c (k.addr ⟨10,a,b,c,n⟩)=0)(hh:k.ne.hit (whB k.c (k.addr ⟨10,a,b,c,n⟩)) true=false):SubOK Tryz.prog gl 100 (gH (cAt k ⟨10,a,b,c,n⟩ st) (wkOut (k.memoR ⟨10,a,b,c,n⟩))):=by
 have hN:=sub_neAsk hgl true (hp.ask he)
 have hA:=fn_addr hF hgl (r:=k.r) hc (by omega)
 have hx:k.memoR ⟨10,a,b,c,n⟩=cond (k.ne.askR (whB k.c (k.addr ⟨10,a,b,c,n⟩)) true).1 (one (k.getsR ⟨10,a,b,c,n⟩ (k.addr ⟨10,a,b,c,n⟩)))
  (cond ((k.ne.askR (whB k.c (k.addr ⟨10,a,b,c,n⟩)) true).2.2.1==0) (k.setN (k.ne.askR (whB k.c (k.addr ⟨10,a,b,c,n⟩)) true).2.2.2,(k.ne.askR (whB k.c (k.addr ⟨10,a,b,c,n⟩)) true).2.1,k.ev 8 0 0,0) (k,[],ev0,110)):=by
  unfold CoT.memoR;rw[he];rfl
 unfold cAt
 rw[coT_h hp.hal]
 rcases askR_cases (k:=k.ne) (b:=whB k.c (k.addr ⟨10,a,b,c,n⟩)) (wr:=true)with⟨_,h1⟩|h1|⟨n1,l,k',h1,e1,e2,e3,e4⟩
 ·rw[hh]at h1;cases h1
 ·rw[h1]at hx
  rw[not_hit h1]at hN
  have hx:k.memoR ⟨10,a,b,c,n⟩=(k,[],ev0,110):=hx
  rw[hx]
  refine atV hgl (hDF_ok hgl (fxC hA (fxC (fn_where0 hgl) fx0)) (sxC hN sx0)) (pl:=noV) ((r_mErr10 gl dlD k.c k.ne.c k.id k.ne.id _ k.r k.at_ k.count k.fl _ k.ne.ask k.ne.waits _ _ _ _ _ _ st ⟨10,a,b,c,n⟩ _ _ _ _ _ _ k.ne.ask k.ne.waits (cacheR k.ne.ca) (backsR k.ne.ba) (marksR k.ne.ma) (dealR k.ne.de)).trans ?_)
  simp only[haf,qs_eq]
  refine condI (cl_t rfl) (condI (beq_of_eq he) (condI (atS_self _ _) ?_))
  exact endW (q:=(k,[],ev0,110)) hp.hal rfl
 ·rw[h1]at hx
  rw[not_hit h1]at hN
  have hx:k.memoR ⟨10,a,b,c,n⟩=(k.setN k',n1::l,k.ev 8 0 0,0):=hx
  rw[hx]
  dsimp only at hN
  rw[nearR_of e1 e2 e3 e4]at hN
  refine atV hgl (hDF_ok hgl (fxC hA (fxC (fn_where0 hgl) fx0)) (sxC hN sx0)) (pl:=noV) ((r_mAsk10 gl dlD k.c k.ne.c k.id k.ne.id _ k.r k.at_ k.count k.fl _ k.ne.ask k.ne.waits _ _ _ _ _ _ st ⟨10,a,b,c,n⟩ _ _ _ _ _ _ k'.ask k'.waits (cacheR k'.ca) (backsR k'.ba) (marksR k.ne.ma) (dealR k.ne.de) (l.length+1) (notesL (n1::l))).trans ?_)
  simp only[cdsL_af,notesL_af,qs_eq,Bool.and_self,cond_true]
  refine condI (cl_t rfl) (condI (beq_of_eq he) (condI (atS_self _ _) ?_))
  unfold wkOut
  rw[coR_of hp.hal e1 e2 e3 e4]
  rfl
theorem sub_memAsk11 {gl:Gl}(hF:GlF gl)(hgl:Low gl){k:CoT}{a b c n st:Int}(hp:MemP k)(hc:cmay 11 a b c n=true)(he:whE k.c (k.addr ⟨11,a,b,c,n⟩)=0)(hh:k.ne.hit (whB k.c (k.addr ⟨11,a,b,c,n⟩)) true=false):SubOK Tryz.prog gl 100 (gH (cAt k ⟨11,a,b,c,n⟩ st) (wkOut (k.memoR ⟨11,a,b,c,n⟩))):=by
 have hN:=sub_neAsk hgl true (hp.ask he)
 have hA:=fn_addr hF hgl (r:=k.r) hc (by omega)
 have hx:k.memoR ⟨11,a,b,c,n⟩=cond (k.ne.askR (whB k.c (k.addr ⟨11,a,b,c,n⟩)) true).1 (one (k.getsR ⟨11,a,b,c,n⟩ (k.addr ⟨11,a,b,c,n⟩)))
  (cond ((k.ne.askR (whB k.c (k.addr ⟨11,a,b,c,n⟩)) true).2.2.1==0) (k.setN (k.ne.askR (whB k.c (k.addr ⟨11,a,b,c,n⟩)) true).2.2.2,(k.ne.askR (whB k.c (k.addr ⟨11,a,b,c,n⟩)) true).2.1,k.ev 8 0 0,0) (k,[],ev0,110)):=by
  unfold CoT.memoR;rw[he];rfl
 unfold cAt
 rw[coT_h hp.hal]
 rcases askR_cases (k:=k.ne) (b:=whB k.c (k.addr ⟨11,a,b,c,n⟩)) (wr:=true)with⟨_,h1⟩|h1|⟨n1,l,k',h1,e1,e2,e3,e4⟩
 ·rw[hh]at h1;cases h1
 ·rw[h1]at hx
  rw[not_hit h1]at hN
  have hx:k.memoR ⟨11,a,b,c,n⟩=(k,[],ev0,110):=hx
  rw[hx]
  refine atV hgl (hDF_ok hgl (fxC hA (fxC (fn_where0 hgl) fx0)) (sxC hN sx0)) (pl:=noV) ((r_mErr11 gl dlD k.c k.ne.c k.id k.ne.id _ k.r k.at_ k.count k.fl _ k.ne.ask k.ne.waits _ _ _ _ _ _ st ⟨11,a,b,c,n⟩ _ _ _ _ _ _ k.ne.ask k.ne.waits (cacheR k.ne.ca) (backsR k.ne.ba) (marksR k.ne.ma) (dealR k.ne.de)).trans ?_)
  simp only[haf,qs_eq]
  refine condI (cl_t rfl) (condI (beq_of_eq he) (condI (atS_self _ _) ?_))
  exact endW (q:=(k,[],ev0,110)) hp.hal rfl
 ·rw[h1]at hx
  rw[not_hit h1]at hN
  have hx:k.memoR ⟨11,a,b,c,n⟩=(k.setN k',n1::l,k.ev 8 0 0,0):=hx
  rw[hx]
  dsimp only at hN
  rw[nearR_of e1 e2 e3 e4]at hN
  refine atV hgl (hDF_ok hgl (fxC hA (fxC (fn_where0 hgl) fx0)) (sxC hN sx0)) (pl:=noV) ((r_mAsk11 gl dlD k.c k.ne.c k.id k.ne.id _ k.r k.at_ k.count k.fl _ k.ne.ask k.ne.waits _ _ _ _ _ _ st ⟨11,a,b,c,n⟩ _ _ _ _ _ _ k'.ask k'.waits (cacheR k'.ca) (backsR k'.ba) (marksR k.ne.ma) (dealR k.ne.de) (l.length+1) (notesL (n1::l))).trans ?_)
  simp only[cdsL_af,notesL_af,qs_eq,Bool.and_self,cond_true]
  refine condI (cl_t rfl) (condI (beq_of_eq he) (condI (atS_self _ _) ?_))
  unfold wkOut
  rw[coR_of hp.hal e1 e2 e3 e4]
  rfl
theorem writeE_of {k:NearS}{b w:Int}(h:k.hit b true=true)(h0:0≤w)(h1:w<16):(k.ca.writeE b w==0)=true:=by
 unfold NearS.hit at h
 obtain⟨h2,h3⟩:=andE h
 have h3:((k.ca.line b).state !=1)=true:=h3
 have h4:((k.ca.line b).state==1)=false:=by simpa[bne]using h3
 unfold CacheS.writeE
 rw[h2,qd2 (show¬w<0 by omega),qd2 (show¬w≥16 by omega),h4];rfl
theorem hit_is {k:NearS}{b:Int}{wr:Bool}(h:k.hit b wr=true):k.ca.is b=true:=(andE h).1
theorem neAskT {gl:Gl}(hgl:Low gl){k:NearS}{b:Int}(wr:Bool)(hp:AskP k b)(h:k.hit b wr=true):SubOK Tryz.prog gl 90 (gH (atS [pK 1000,.int .i64 b,.bool wr] (nearR k)) (.normal,[.tuple #[.bool true,.slice none 0 0,.int .i64 0]],nearR k)):=by
 have hN:=sub_neAsk hgl wr hp
 have h1:k.askR b wr=(true,[],0,k):=by unfold NearS.askR;rw[h];rfl
 rw[not_hit h1]at hN
 exact hN
theorem neLineT {gl:Gl}(hgl:Low gl){k:NearS}{b:Int}(hc:k.ca.ok)(hi:k.ca.is b=true):SubOK Tryz.prog gl 80 (gH (atS [pK 1000,.int .i64 b] (nearR k)) (.normal,[.tuple #[lnV (k.ca.line b),.bool true]],nearR k)):=by
 have h:=sub_neLine hgl b hc
 rw[hi]at h
 exact h
theorem memR_hit {k:CoT}{i:CodeS}(he:whE k.c (k.addr i)=0)(hh:k.ne.hit (whB k.c (k.addr i)) (i.op !=9)=true):k.memoR i=one (k.getsR i (k.addr i)):=by
 have h1:k.ne.askR (whB k.c (k.addr i)) (i.op !=9)=(true,[],0,k.ne):=by unfold NearS.askR;rw[hh];rfl
 unfold CoT.memoR
 rw[he,h1];rfl
theorem addr_ok {k:CoT}(hp:MemP k){i:CodeS}(he:whE k.c (k.addr i)=0):0≤whB k.c (k.addr i)∧whB k.c (k.addr i)<dataP k.c∧0≤whW k.c (k.addr i)∧whW k.c (k.addr i)<16:=wh_ok hp.pl (wrap32b _).1 (wrap32b _).2 he
theorem done_t {k:CoT}(h:k.opn=true):k.done=({k.next with count:=IntKind.i64.wrap (k.count+1)},k.ev 3 0 0):=by
 have e:k.next.opn=true:=h
 unfold CoT.done CoT.counted
 rw[e];rfl
theorem done_f {k:CoT}(h:k.opn=false):k.done=(k.next,k.ev 1 0 0):=by
 have e:k.next.opn=false:=h
 unfold CoT.done CoT.counted
 rw[e];rfl
theorem sub_memLd {gl:Gl}(hF:GlF gl)(hgl:Low gl){k:CoT}{a b c n st:Int}(hp:MemP k)(hc:cmay 9 a b c n=true)(he:whE k.c (k.addr ⟨9,a,b,c,n⟩)=0)(hh:k.ne.hit (whB k.c (k.addr ⟨9,a,b,c,n⟩)) false=true):SubOK Tryz.prog gl 100 (gH (cAt k ⟨9,a,b,c,n⟩ st) (wkOut (k.memoR ⟨9,a,b,c,n⟩))):=by
 rw[memR_hit he hh,wkOut_one]
 obtain⟨_,_,v0,v1⟩:=addr_ok hp he
 have hA:=fn_addr hF hgl (r:=k.r) hc (by omega)
 have hN:=neAskT hgl false (hp.ask he) hh
 generalize hz:k.addr ⟨9,a,b,c,n⟩=z at *
 have hi:=hit_is hh
 have hL:=neLineT hgl hp.ca hi
 have hD:=sub_neLoad hgl (k:=k.ne) hp.ca hi v0 v1
 obtain⟨l1,l2⟩:=lw_eq (k.ne.ca.line (whB k.c z)) v0 v1
 have hw:(decide (0≤whW k.c z)&&decide (whW k.c z<16))=true:=andI (qd1 v0) (qd1 v1)
 have hz':IntKind.u32.wrap (getR k.r b+IntKind.u32.wrap n)=z:=hz
 rw[hz']at hA
 have hx:k.getsR ⟨9,a,b,c,n⟩ z=((k.loaded z).put a (k.was z)).done:=rfl
 rw[hx]
 unfold cAt
 rw[coT_h hp.hal]
 refine atV' hgl (hDF_ok hgl (fxC hA (fxC (fn_where0 hgl) (fxC (fn_sGet hgl) (fxC (fn_put1 hgl k.r a (k.was z)) fx0)))) (sxC hN (sxC hL (sxC hD sx0)))) ((r_mLd gl dlD k.c k.ne.c k.id k.ne.id _ k.r k.at_ k.count k.fl _ k.ne.ask k.ne.waits _ _ _ _ _ _ st ⟨9,a,b,c,n⟩ _ _ z _ _ _ _ _ _ _ _ (fun _ _=>false) (fun _ _=>false) _ _ 0 _ _ [] []).trans ?_)
 simp only[dlD_d,dlD_g,haf,qs_eq,cond_true]
 refine condI (cl_t rfl) (condI (beq_of_eq he) (condI (atS_self _ _) (condI (atS_self _ _) (condI hw (condI l1 (condI l1 (condI l1 (condI (atS_self _ _) ?_))))))))
 rw[l2]
 refine condI (cl_t rfl) ?_
 rcases opn_cases k with⟨ho,ho'⟩|⟨ho,ho'⟩
 ·rw[done_t (by exact ho)]
  exact condI ho' (endH hp.hal rfl)
 ·rw[done_f (by exact ho)]
  exact condE ho' (endH hp.hal rfl)
theorem stored_t {k:CoT}{ad x:Int}(h:k.opn=true):k.stored ad x={k with ne:=k.ne.stored (whB k.c ad) (whW k.c ad) x,lm:=k.lm+1,me:=k.me.log2 (lgPos k.lf k.lm) ad (k.was ad)}:=by unfold CoT.stored;rw[h];rfl
theorem stored_f {k:CoT}{ad x:Int}(h:k.opn=false):k.stored ad x={k with ne:=k.ne.stored (whB k.c ad) (whW k.c ad) x}:=by unfold CoT.stored;rw[h];rfl
theorem full_t {k:CoT}(h:k.opn=true):k.full=(k.lm==k.lr):=by unfold CoT.full;rw[h];rfl
theorem full_f {k:CoT}(h:k.opn=false):k.full=false:=by unfold CoT.full;rw[h];rfl
theorem lgAdd_f {gl:Gl}(hgl:Low gl){k:CoT}(hp:MemP k){ad:Int}(he:whE k.c ad=0)(hf:(k.lm==k.lr)=true):SubOK Tryz.prog gl 198 (gH (atS [pK 1000,.int .u32 ad,.int .u32 (k.was ad)] (lgRows k.c k.lf k.lr k.lm (memR k.me))) (.normal,[.int .i64 7],lgRows k.c k.lf k.lr k.lm (memR k.me))):=by
 have h:=sub_lgAdd hgl (k.was ad) hp.lg hp.m0 hp.m1 (beq_of_eq he)
 rw[hf]at h
 exact h
theorem lgAdd_t {gl:Gl}(hgl:Low gl){k:CoT}(hp:MemP k){ad:Int}(he:whE k.c ad=0)(hf:(k.lm==k.lr)=false):SubOK Tryz.prog gl 198 (gH (atS [pK 1000,.int .u32 ad,.int .u32 (k.was ad)] (lgRows k.c k.lf k.lr k.lm (memR k.me))) (.normal,[.int .i64 0],lgRows k.c k.lf k.lr (k.lm+1) (memR (k.me.log2 (lgPos k.lf k.lm) ad (k.was ad))))):=by
 have h:=sub_lgAdd hgl (k.was ad) hp.lg hp.m0 hp.m1 (beq_of_eq he)
 rw[hf]at h
 exact h
theorem sub_memSt {gl:Gl}(hF:GlF gl)(hgl:Low gl){k:CoT}{a b c n st:Int}(hp:MemP k)(hc:cmay 10 a b c n=true)(he:whE k.c (k.addr ⟨10,a,b,c,n⟩)=0)(hh:k.ne.hit (whB k.c (k.addr ⟨10,a,b,c,n⟩)) true=true):SubOK Tryz.prog gl 100 (gH (cAt k ⟨10,a,b,c,n⟩ st) (wkOut (k.memoR ⟨10,a,b,c,n⟩))):=by
 rw[memR_hit he hh,wkOut_one]
 obtain⟨_,_,v0,v1⟩:=addr_ok hp he
 have hA:=fn_addr hF hgl (r:=k.r) hc (by omega)
 have hN:=neAskT hgl true (hp.ask he) hh
 generalize hz:k.addr ⟨10,a,b,c,n⟩=z at *
 have hi:=hit_is hh
 have hL:=neLineT hgl hp.ca hi
 have hS:=sub_neStore hgl (k:=k.ne) (getR k.r a) hp.ca hi (writeE_of hh v0 v1) v0 v1
 obtain⟨l1,l2⟩:=lw_eq (k.ne.ca.line (whB k.c z)) v0 v1
 have hw:(decide (0≤whW k.c z)&&decide (whW k.c z<16))=true:=andI (qd1 v0) (qd1 v1)
 have hx:k.getsR ⟨10,a,b,c,n⟩ z=cond k.full (k.fails 3) (k.stored z (getR k.r a)).done:=rfl
 have hz':IntKind.u32.wrap (getR k.r b+IntKind.u32.wrap n)=z:=hz
 rw[hz']at hA
 rw[hx]
 unfold cAt
 rw[coT_h hp.hal]
 rcases opn_cases k with⟨ho,ho'⟩|⟨ho,ho'⟩
 ·rw[full_t ho]
  cases hf:k.lm==k.lr with
  |true=>
   refine atV' hgl (hDF_ok hgl (fxC hA (fxC (fn_where0 hgl) (fxC (fn_sGet hgl) (fxC fn_nev fx0)))) (sxC hN (sxC hL (sxC sub_dead (sxC (lgAdd_f hgl hp he hf) sx0))))) ((r_mStF gl dlD k.c k.ne.c k.id k.ne.id _ k.r k.at_ k.count k.fl _ k.ne.ask k.ne.waits _ _ _ _ _ _ st ⟨10,a,b,c,n⟩ _ _ z _ _ _ _ w0 _ _ (fun _ _=>false) (fun _ _=>false) _ _ 0 0 [] [] _ _).trans ?_)
   simp only[dlD_d,dlD_fr,dlD_g,haf,qs_eq,cond_true]
   refine condI (cl_t rfl) (condI (beq_of_eq he) (condI (atS_self _ _) (condI (atS_self _ _) (condI hw (condI l1 (condI l1 (condI l1 (condI (atS_self _ _) (condI ho' (condI hw (condI l1 ?_)))))))))))
   rw[l2]
   exact condI (atS_self _ _) (condI l1 (endH hp.hal rfl))
  |false=>
   refine atV' hgl (hDF_ok hgl (fxC hA (fxC (fn_where0 hgl) (fxC (fn_sGet hgl) (fxC fn_nev fx0)))) (sxC hN (sxC hL (sxC hS (sxC (lgAdd_t hgl hp he hf) sx0))))) ((r_mSt gl dlD k.c k.ne.c k.id k.ne.id _ k.r k.at_ k.count k.fl _ k.ne.ask k.ne.waits _ _ _ _ _ _ st ⟨10,a,b,c,n⟩ _ _ z _ _ _ _ w0 _ _ (fun _ _=>false) _ _ _ 0 _ _ _ _ _).trans ?_)
   simp only[dlD_d,dlD_fr,dlD_g,haf,qs_eq,cond_true]
   refine condI (cl_t rfl) (condI (beq_of_eq he) (condI (atS_self _ _) (condI (atS_self _ _) (condI hw (condI l1 (condI l1 (condI l1 (condI (atS_self _ _) (condI ho' (condI hw (condI l1 ?_)))))))))))
   rw[l2]
   refine condI (atS_self _ _) (condI l1 (condI (atS_self _ _) (condI ho' ?_)))
   rw[stored_t ho,cond_false,done_t (by exact ho)]
   exact endH hp.hal rfl
 ·rw[full_f ho]
  refine atV' hgl (hDF_ok hgl (fxC hA (fxC (fn_where0 hgl) (fxC (fn_sGet hgl) (fxC fn_nev fx0)))) (sxC hN (sxC hL (sxC hS (sxC sub_nev sx0))))) ((r_mSt gl dlD k.c k.ne.c k.id k.ne.id _ k.r k.at_ k.count k.fl _ k.ne.ask k.ne.waits _ _ _ _ _ _ st ⟨10,a,b,c,n⟩ _ _ z _ _ _ _ w0 _ _ (fun _ _=>false) _ _ _ 0 _ _ _ [] []).trans ?_)
  simp only[dlD_d,dlD_fr,dlD_g,haf,qs_eq,cond_true]
  refine condI (cl_t rfl) (condI (beq_of_eq he) (condI (atS_self _ _) (condI (atS_self _ _) (condI hw (condI l1 (condI l1 (condI l1 (condI (atS_self _ _) (condE ho' (condI (atS_self _ _) (condE ho' ?_)))))))))))
  rw[stored_f ho,cond_false,done_f (by exact ho)]
  exact endH hp.hal rfl
theorem sub_memSw {gl:Gl}(hF:GlF gl)(hgl:Low gl){k:CoT}{a b c n st:Int}(hp:MemP k)(hc:cmay 11 a b c n=true)(he:whE k.c (k.addr ⟨11,a,b,c,n⟩)=0)(hh:k.ne.hit (whB k.c (k.addr ⟨11,a,b,c,n⟩)) true=true):SubOK Tryz.prog gl 100 (gH (cAt k ⟨11,a,b,c,n⟩ st) (wkOut (k.memoR ⟨11,a,b,c,n⟩))):=by
 rw[memR_hit he hh,wkOut_one]
 obtain⟨_,_,v0,v1⟩:=addr_ok hp he
 have hA:=fn_addr hF hgl (r:=k.r) hc (by omega)
 have hN:=neAskT hgl true (hp.ask he) hh
 generalize hz:k.addr ⟨11,a,b,c,n⟩=z at *
 have hi:=hit_is hh
 have hL:=neLineT hgl hp.ca hi
 have hD:=sub_neLoad hgl (k:=k.ne) hp.ca hi v0 v1
 have hS:=sub_neStore hgl (k:=k.ne) (getR k.r c) hp.ca hi (writeE_of hh v0 v1) v0 v1
 obtain⟨l1,l2⟩:=lw_eq (k.ne.ca.line (whB k.c z)) v0 v1
 have hw:(decide (0≤whW k.c z)&&decide (whW k.c z<16))=true:=andI (qd1 v0) (qd1 v1)
 have hx:k.getsR ⟨11,a,b,c,n⟩ z=cond (k.was z==getR k.r a) (cond k.full (k.fails 3) ((k.stored z (getR k.r c)).put a (k.was z)).done) ((k.loaded z).put a (k.was z)).done:=rfl
 have hz':IntKind.u32.wrap (getR k.r b+IntKind.u32.wrap n)=z:=hz
 have hP:=fn_put1 hgl k.r a (k.was z)
 have hG:=fn_sGet hgl
 have hW:=fn_where0 hgl
 rw[hz']at hA
 rw[hx]
 unfold cAt
 rw[coT_h hp.hal]
 cases hq:k.was z==getR k.r a with
 |false=>
  refine atV' hgl (hDF_ok hgl (fxC hA (fxC hW (fxC hG (fxC hP fx0)))) (sxC hN (sxC hL (sxC hD (sxC hS (sxC sub_nev sx0)))))) ((r_mSw gl dlD k.c k.ne.c k.id k.ne.id _ k.r k.at_ k.count k.fl _ k.ne.ask k.ne.waits _ _ _ _ _ _ st ⟨11,a,b,c,n⟩ _ _ z _ _ _ _ _ _ _ _ _ _ _ _ _ _ _ [] [] _ _).trans ?_)
  simp only[dlD_d,dlD_fr,dlD_g,haf,qs_eq,cond_true]
  refine condI (cl_t rfl) (condI (beq_of_eq he) (condI (atS_self _ _) (condI (atS_self _ _) (condI hw (condI l1 (condI l1 (condI l1 ?_)))))))
  rw[l2]
  refine condE hq (condI (atS_self _ _) (condI (cl_t rfl) ?_))
  rcases opn_cases k with⟨ho,ho'⟩|⟨ho,ho'⟩
  ·rw[cond_false,done_t (by exact ho)]
   exact condI ho' (endH hp.hal rfl)
  ·rw[cond_false,done_f (by exact ho)]
   exact condE ho' (endH hp.hal rfl)
 |true=>
  rw[cond_true]
  rcases opn_cases k with⟨ho,ho'⟩|⟨ho,ho'⟩
  ·rw[full_t ho]
   cases hf:k.lm==k.lr with
   |true=>
    refine atV' hgl (hDF_ok hgl (fxC hA (fxC hW (fxC hG (fxC hP fx0)))) (sxC hN (sxC hL (sxC sub_dead (sxC sub_dead (sxC (lgAdd_f hgl hp he hf) sx0)))))) ((r_mSwF gl dlD k.c k.ne.c k.id k.ne.id _ k.r k.at_ k.count k.fl _ k.ne.ask k.ne.waits _ _ _ _ _ _ st ⟨11,a,b,c,n⟩ _ _ z _ _ _ _ _ _ _ (fun _ _=>false) (fun _ _=>false) _ _ 0 0 [] [] _ _).trans ?_)
    simp only[dlD_d,dlD_fr,dlD_g,haf,qs_eq,cond_true]
    refine condI (cl_t rfl) (condI (beq_of_eq he) (condI (atS_self _ _) (condI (atS_self _ _) (condI hw (condI l1 (condI l1 (condI l1 ?_)))))))
    rw[l2]
    refine condI hq (condI (atS_self _ _) (condI ho' (condI hw (condI l1 (condI (atS_self _ _) (condI l1 ?_))))))
    exact endH hp.hal rfl
   |false=>
    refine atV' hgl (hDF_ok hgl (fxC hA (fxC hW (fxC hG (fxC hP fx0)))) (sxC hN (sxC hL (sxC hD (sxC hS (sxC (lgAdd_t hgl hp he hf) sx0)))))) ((r_mSw gl dlD k.c k.ne.c k.id k.ne.id _ k.r k.at_ k.count k.fl _ k.ne.ask k.ne.waits _ _ _ _ _ _ st ⟨11,a,b,c,n⟩ _ _ z _ _ _ _ _ _ _ _ _ _ _ _ _ _ _ _ _ _ _).trans ?_)
    simp only[dlD_d,dlD_fr,dlD_g,haf,qs_eq,cond_true]
    refine condI (cl_t rfl) (condI (beq_of_eq he) (condI (atS_self _ _) (condI (atS_self _ _) (condI hw (condI l1 (condI l1 (condI l1 ?_)))))))
    rw[l2]
    refine condI hq (condI (atS_self _ _) (condI ho' (condI hw (condI l1 (condI (atS_self _ _) (condI l1 (condI (atS_self _ _) (condI (cl_t rfl) (condI ho' ?_)))))))))
    rw[stored_t ho,cond_false,done_t (by exact ho)]
    exact endH hp.hal rfl
  ·rw[full_f ho]
   refine atV' hgl (hDF_ok hgl (fxC hA (fxC hW (fxC hG (fxC hP fx0)))) (sxC hN (sxC hL (sxC hD (sxC hS (sxC sub_nev sx0)))))) ((r_mSw gl dlD k.c k.ne.c k.id k.ne.id _ k.r k.at_ k.count k.fl _ k.ne.ask k.ne.waits _ _ _ _ _ _ st ⟨11,a,b,c,n⟩ _ _ z _ _ _ _ _ _ _ _ _ _ _ _ _ _ _ [] [] _ _).trans ?_)
   simp only[dlD_d,dlD_fr,dlD_g,haf,qs_eq,cond_true]
   refine condI (cl_t rfl) (condI (beq_of_eq he) (condI (atS_self _ _) (condI (atS_self _ _) (condI hw (condI l1 (condI l1 (condI l1 ?_)))))))
   rw[l2]
   refine condI hq (condI (atS_self _ _) (condE ho' (condI (atS_self _ _) (condI (cl_t rfl) (condE ho' ?_)))))
   rw[stored_f ho,cond_false,done_f (by exact ho)]
   exact endH hp.hal rfl
theorem hit_or (k:NearS)(b:Int)(w:Bool):k.hit b w=true∨k.hit b w=false:=by cases k.hit b w<;>simp
theorem sub_mem {gl:Gl}(hF:GlF gl)(hgl:Low gl){k:CoT}{i:CodeS}{st:Int}(hp:MemP k)(hc:cmay i.op i.a i.b i.c i.n=true)(ho:i.op=9∨i.op=10∨i.op=11):SubOK Tryz.prog gl 100 (gH (cAt k i st) (wkOut (k.memoR i))):=by
 cases he:whE k.c (k.addr i)==0 with
 |false=>exact sub_memFlt hF hgl hp hc ho he
 |true=>
  have he:=eq_of_beq he
  obtain⟨op,a,b,c,n⟩:=i
  rcases ho with rfl|rfl|rfl
  ·rcases hit_or k.ne (whB k.c (k.addr ⟨9,a,b,c,n⟩)) false with h|h
   ·exact sub_memLd hF hgl hp hc he h
   ·exact sub_memAsk9 hF hgl hp hc he h
  ·rcases hit_or k.ne (whB k.c (k.addr ⟨10,a,b,c,n⟩)) true with h|h
   ·exact sub_memSt hF hgl hp hc he h
   ·exact sub_memAsk10 hF hgl hp hc he h
  ·rcases hit_or k.ne (whB k.c (k.addr ⟨11,a,b,c,n⟩)) true with h|h
   ·exact sub_memSw hF hgl hp hc he h
   ·exact sub_memAsk11 hF hgl hp hc he h
def CoT.overR (k:CoT):CoT×EvS:=
 ({k with r:=putR k.ne.de.regs 15 k.ne.de.cause,at_:=k.ne.de.hand,ne:={k.ne with de:=k.ne.de.over,ma:={k.ne.ma with l:=[]}},hal:=c255 k.ne.de.cause==5,fl:=cond (c255 k.ne.de.cause==5) (k.ne.de.cause.fdiv 256) k.fl},k.ev 7 0 k.ne.de.cause)
def CoT.uA (k:CoT):Int:=(k.me.ent k.lf (k.lm-1)).1
def CoT.uO (k:CoT):Int:=(k.me.ent k.lf (k.lm-1)).2
def CoT.undone (k:CoT):CoT:={k with ne:=k.ne.stored (whB k.c k.uA) (whW k.c k.uA) k.uO,lm:=k.lm-1}
def CoT.undoR (k:CoT):WkR:=cond (k.lm==0) (one k.overR)
 (cond (k.ne.askR (whB k.c k.uA) true).1 (one (k.undone,k.ev 6 0 0))
  (cond ((k.ne.askR (whB k.c k.uA) true).2.2.1==0) (k.setN (k.ne.askR (whB k.c k.uA) true).2.2.2,(k.ne.askR (whB k.c k.uA) true).2.1,k.ev 8 0 0,0) (k,[],ev0,110)))
theorem lgLast_0 {gl:Gl}(hgl:Low gl){k:CoT}(hp:MemP k)(h:(k.lm==0)=true):SubOK Tryz.prog gl 87 (gH (atS [pK 1000] (lgRows k.c k.lf k.lr k.lm (memR k.me))) (.normal,[.tuple #[.int .u32 0,.int .u32 0,.int .i64 4]],lgRows k.c k.lf k.lr k.lm (memR k.me))):=by
 have hs:=sub_lgLast hgl hp.lg hp.m0 hp.m1
 rw[h]at hs
 exact hs
theorem lgLast_1 {gl:Gl}(hgl:Low gl){k:CoT}(hp:MemP k)(h:(k.lm==0)=false):SubOK Tryz.prog gl 87 (gH (atS [pK 1000] (lgRows k.c k.lf k.lr k.lm (memR k.me))) (.normal,[.tuple #[.int .u32 k.uA,.int .u32 k.uO,.int .i64 0]],lgRows k.c k.lf k.lr k.lm (memR k.me))):=by
 have hs:=sub_lgLast hgl hp.lg hp.m0 hp.m1
 rw[h]at hs
 exact hs
theorem sub_dOverA {gl:Gl}(hgl:Low gl){d:DealS}(h:d.failing=true):SubOK Tryz.prog gl 138 (gH (atS [pK 1000] (bx (dealR d))) (.normal,[.tuple #[svV d.regs d.hand,.int .u32 d.cause,.int .i64 0]],bx (dealR d.over))):=by
 have hs:=hdM_at (sub_dOver hgl) (r:=dealR d) (x:=()) rfl (isDeal_t d)
 simp only[dOf_eq,h,cond_true]at hs
 exact hs
structure UndP (k:CoT):Prop where
 mp:MemP k
 fa:k.ne.de.failing=true
 wh:k.lm≠0→whE k.c k.uA=0∧0≤k.uA∧k.uA<4294967296
theorem sub_undo {gl:Gl}(hgl:Low gl){k:CoT}(hu:UndP k):SubOK Tryz.prog gl 55 (gH (atS [pK 1000] (coT k)) (wkOut k.undoR)):=by
 obtain⟨hp,hf,hw⟩:=hu
 rw[coT_h hp.hal]
 have hx:k.undoR=cond (k.lm==0) (one k.overR) (cond (k.ne.askR (whB k.c k.uA) true).1 (one (k.undone,k.ev 6 0 0)) (cond ((k.ne.askR (whB k.c k.uA) true).2.2.1==0) (k.setN (k.ne.askR (whB k.c k.uA) true).2.2.2,(k.ne.askR (whB k.c k.uA) true).2.1,k.ev 8 0 0,0) (k,[],ev0,110))):=rfl
 cases h0:k.lm==0 with
 |true=>
  rw[h0,cond_true]at hx
  rw[hx,wkOut_one]
  have hC:SubOK Tryz.prog gl 139 (gH (atS [pK 1000] (nearX k.ne.c k.ne.id k.ne.ask k.ne.waits (cacheR k.ne.ca) (backsR k.ne.ba) (marksR k.ne.ma) (dealR k.ne.de.over))) (.normal,[.tuple #[]],nearX k.ne.c k.ne.id k.ne.ask k.ne.waits (cacheR k.ne.ca) (backsR k.ne.ba) (marksR {k.ne.ma with l:=[]}) (dealR k.ne.de.over))):=sub_neClear hgl (k:={k.ne with de:=k.ne.de.over})
  refine atV hgl (hDF_ok hgl (fxC (fn_put1 hgl k.ne.de.regs 15 k.ne.de.cause) fx0) (sxC (lgLast_0 hgl hp h0) (sxC (sub_dOverA hgl hf) (sxC hC sx0)))) (pl:=noV) ((r_uOver gl dlD k.c k.ne.c k.id k.ne.id _ k.r k.at_ k.count k.fl _ k.ne.ask k.ne.waits _ _ _ _ _ _ 0 _ _ _ _ _ _ _ _ _ _).trans ?_)
  simp only[haf,qs_eq,cond_true]
  refine condI (atS_self _ _) (condI (atS_self _ _) (condI (cl_t rfl) (condI (atS_self _ _) ?_)))
  unfold CoT.overR c255
  cases hq:IntKind.u32.wrap (↑(BitVec.ofInt 32 k.ne.de.cause&&&BitVec.ofInt 32 255).toNat:Int)==5 with
  |true=>rfl
  |false=>exact endH rfl rfl
 |false=>
  rw[h0,cond_false]at hx
  obtain⟨he,u0,u1⟩:=hw (by simpa using h0)
  obtain⟨b0,b1,v0,v1⟩:=wh_ok hp.pl u0 u1 he
  have hap:AskP k.ne (whB k.c k.uA):=⟨hp.ca,hp.wf,hp.ba,hp.wt,b0,by rw[hp.cc];exact b1⟩
  have hL:=lgLast_1 hgl hp h0
  have hW:=fn_where0 hgl
  rcases hit_or k.ne (whB k.c k.uA) true with hh|hh
  ·have h1:k.ne.askR (whB k.c k.uA) true=(true,[],0,k.ne):=by unfold NearS.askR;rw[hh];rfl
   rw[h1]at hx
   have hx:k.undoR=one (k.undone,k.ev 6 0 0):=hx
   rw[hx,wkOut_one]
   have hS:=sub_neStore hgl (k:=k.ne) k.uO hp.ca (hit_is hh) (writeE_of hh v0 v1) v0 v1
   have hr:=hp.lg.r32
   have hm:=hp.m0
   have hm1:=hp.m1
   have hPo:=sub_lgPop hgl (c:=k.c) (first:=k.lf) (room:=k.lr) (many:=k.lm) (mr:=memR k.me) (by have:k.lm≠0:=by simpa using h0
                                                                                                omega) (by omega)
   refine atV hgl (hDF_ok hgl (fxC hW fx0) (sxC hL (sxC (neAskT hgl true hap hh) (sxC hS (sxC hPo sx0))))) (pl:=noV) ((r_uSt gl dlD k.c k.ne.c k.id k.ne.id _ k.r k.at_ k.count k.fl _ k.ne.ask k.ne.waits _ _ _ _ _ _ 0 _ _ _ _ _ _ _ _ _ _ _ _ _).trans ?_)
   simp only[haf,cond_true]
   refine condI (atS_self _ _) (condI (beq_of_eq he) (condI (atS_self _ _) (condI (atS_self _ _) (condI (atS_self _ _) ?_))))
   exact endH hp.hal rfl
  ·have hN:=sub_neAsk hgl true hap
   rcases askR_cases (k:=k.ne) (b:=whB k.c k.uA) (wr:=true)with⟨_,h1⟩|h1|⟨n1,l,k',h1,e1,e2,e3,e4⟩
   ·rw[hh]at h1;cases h1
   ·rw[h1]at hx
    rw[not_hit h1]at hN
    have hx:k.undoR=(k,[],ev0,110):=hx
    rw[hx]
    refine atV hgl (hDF_ok hgl (fxC hW fx0) (sxC hL (sxC hN sx0))) (pl:=noV) ((r_uErr gl dlD k.c k.ne.c k.id k.ne.id _ k.r k.at_ k.count k.fl _ k.ne.ask k.ne.waits (cacheR k.ne.ca) (backsR k.ne.ba) (marksR k.ne.ma) (dealR k.ne.de) _ _ 0 _ _ _ _ _ _ _ (fun _ _=>false) (fun _ _=>false)).trans ?_)
    simp only[haf,cond_true]
    refine condI (atS_self _ _) (condI (beq_of_eq he) (condI (atS_self _ _) ?_))
    exact endW (q:=(k,[],ev0,110)) hp.hal rfl
   ·rw[h1]at hx
    rw[not_hit h1]at hN
    have hx:k.undoR=(k.setN k',n1::l,k.ev 8 0 0,0):=hx
    rw[hx]
    dsimp only at hN
    rw[nearR_of e1 e2 e3 e4]at hN
    refine atV hgl (hDF_ok hgl (fxC hW fx0) (sxC hL (sxC hN sx0))) (pl:=noV) ((r_uAsk gl dlD k.c k.ne.c k.id k.ne.id _ k.r k.at_ k.count k.fl _ k.ne.ask k.ne.waits _ _ _ _ _ _ 0 _ _ _ _ _ _ _ (fun _ _=>false) (fun _ _=>false) k'.ask k'.waits (cacheR k'.ca) (backsR k'.ba) (l.length+1) (notesL (n1::l))).trans ?_)
    simp only[cdsL_af,notesL_af,Bool.and_self,cond_true]
    refine condI (atS_self _ _) (condI (beq_of_eq he) (condI (atS_self _ _) ?_))
    unfold wkOut
    rw[coR_of hp.hal e1 e2 e3 e4]
    rfl
end Go.Proofs.YtpcbedgaecbfmaaGreatDoor
