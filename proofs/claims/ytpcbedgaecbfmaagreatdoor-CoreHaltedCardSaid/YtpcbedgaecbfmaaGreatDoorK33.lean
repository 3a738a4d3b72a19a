/- Steps that ask nothing of memory: what they come to. Where the forms stand as the program's text lays them. -/
import Derived.Test.YtpcbedgaecbfmaaGreatDoorK32
noncomputable section
namespace Go.Proofs.YtpcbedgaecbfmaaGreatDoor
open Go.Proofs.YtpcbedgaecbfmaaGreatDoor.Ev Go.RowKit
def aluX (r:W16)(op b c n:Int):Int:=
 if op=1 then IntKind.u32.wrap (getR r b+getR r c)else if op=2 then IntKind.u32.wrap (getR r b-getR r c)else
 if op=3 then IntKind.u32.wrap (↑(BitVec.ofInt 32 (getR r b)&&&BitVec.ofInt 32 (getR r c)).toNat:Int)else
 if op=4 then IntKind.u32.wrap (↑(BitVec.ofInt 32 (getR r b)|||BitVec.ofInt 32 (getR r c)).toNat:Int)else
 if op=5 then IntKind.u32.wrap (↑(BitVec.ofInt 32 (getR r b)^^^BitVec.ofInt 32 (getR r c)).toNat:Int)else
 if op=6 then cond (decide (getR r b<getR r c)) 1 0 else if op=7 then IntKind.u32.wrap (getR r b*getR r c)else
 if op=8 then IntKind.u32.wrap (getR r b+IntKind.u32.wrap n)else IntKind.u32.wrap n
def jmpB (r:W16)(op a b:Int):Bool:=
 if op=13 then getR r a==getR r b else if op=14 then getR r a !=getR r b else if op=15 then decide (getR r a<getR r b)else if op=16 then true else false
def doR (r:W16)(op a b c n:Int):W16:=if op<13 then putR (r0 r) a (aluX (r0 r) op b c n)else r0 r
def doA (r:W16)(at_ op a b n:Int):Int:=cond (jmpB (r0 r) op a b) (IntKind.i64.wrap (IntKind.i64.wrap (at_+n)+1)) (IntKind.i64.wrap (at_+1))
def plainOp (op:Int):Bool:=decide (op=1)||(decide (op=2)||(decide (op=3)||(decide (op=4)||(decide (op=5)||(decide (op=6)||(decide (op=7)||(decide (op=8)||(decide (op=12)||(decide (op=13)||(decide (op=14)||(decide (op=15)||(decide (op=16)||decide (op=21)))))))))))))
theorem plain_cases {op:Int}(h:plainOp op=true):op=1∨op=2∨op=3∨op=4∨op=5∨op=6∨op=7∨op=8∨op=12∨op=13∨op=14∨op=15∨op=16∨op=21:=by
 simpa only[plainOp,Bool.or_eq_true,decide_eq_true_eq]using h
def afDo (gg:Int→C5 Bool)(dr:W16→C5 W16)(da:W16→Int→C5 Int):AF:=fun args _=>match args with
 |[.agg ⟨[.int .u32 a0,.int .u32 a1,.int .u32 a2,.int .u32 a3,.int .u32 a4,.int .u32 a5,.int .u32 a6,.int .u32 a7,.int .u32 a8,.int .u32 a9,.int .u32 a10,.int .u32 a11,.int .u32 a12,.int .u32 a13,.int .u32 a14,.int .u32 a15]⟩,.int .i64 at_,.agg ⟨[.int .u8 op,.int .i64 a,.int .i64 b,.int .i64 c,.int .i64 n]⟩]=>some (gg at_ op a b c n,.tuple #[w16V (dr ⟨a0,a1,a2,a3,a4,a5,a6,a7,a8,a9,a10,a11,a12,a13,a14,a15⟩ op a b c n),.int .i64 (da ⟨a0,a1,a2,a3,a4,a5,a6,a7,a8,a9,a10,a11,a12,a13,a14,a15⟩ at_ op a b c n),.int .i64 0])
 |_=>none
theorem afDo_inv {gg:Int→C5 Bool}{dr:W16→C5 W16}{da:W16→Int→C5 Int}{args:List Value}{σ:LS}{c:Bool}{v:Value}(h:afDo gg dr da args σ=some (c,v)): ∃r at_ op a b c' n,args=[w16V r,.int .i64 at_,cdV op a b c' n]∧c=gg at_ op a b c' n∧v=.tuple #[w16V (dr r op a b c' n),.int .i64 (da r at_ op a b c' n),.int .i64 0]:=by
 unfold afDo at h
 split at h
 ·cases h;exact⟨⟨_,_,_,_,_,_,_,_,_,_,_,_,_,_,_,_⟩,_,_,_,_,_,_,rfl,rfl,rfl⟩
 ·cases h
def doG (at_ op a b c n:Int):Bool:=cmay op a b c n&&(plainOp op&&(decide (0≤at_)&&decide (at_≤1024)))
theorem fn_may0 {gl:Gl}(hF:GlF gl)(hgl:Low gl):FnOK Tryz.prog gl 35 (afCd cmay fun _ _ _ _ _=>.int .i64 0):=fnWeak (fn_cmay hF hgl) fun args σ v h=>by
 unfold afCd at h
 split at h
 ·simp only[Option.some.injEq,Prod.mk.injEq,qa1]at h
  obtain⟨⟨h1,h2⟩,rfl⟩:=h
  unfold afCd
  simp only[tt5,i5,cmayI,h1,h2,Bool.and_self,cond_true]
 ·cases h
theorem fn_put1 {gl:Gl}(hgl:Low gl)(r:W16)(a x:Int):FnOK Tryz.prog gl 38 (afT (fun l=>cl (l=[w16V r,.int .i64 a,.int .u32 x])) (w16V (putR r a x))):=fnWeak (fn_sPut hgl) fun args σ v h=>by
 unfold afT at h
 simp only[Option.some.injEq,Prod.mk.injEq]at h
 obtain⟨h1,rfl⟩:=h
 rw[of_cl h1]
 rfl
theorem HDo_ok {gl:Gl}(hF:GlF gl)(hgl:Low gl)(r:W16)(a x:Int):(HDo cmay getR (fun l=>cl (l=[w16V r,.int .i64 a,.int .u32 x])) (putR r a x)).OK Tryz.prog gl:=one_ok fun p hp=>by
 simp only[List.mem_cons,List.not_mem_nil,or_false]at hp
 rcases hp with rfl|rfl|rfl
 ·exact fn_may0 hF hgl
 ·exact fn_sGet hgl
 ·exact fn_put1 hgl r a x
theorem q_do {gl:Gl}(hF:GlF gl)(hgl:Low gl){r:W16}{at_ op a b c n:Int}(h:doG at_ op a b c n=true): ∃H:Hs,H.OK Tryz.prog gl∧evF gl H 12 [w16V r,.int .i64 at_,cdV op a b c n]=some (.tuple #[w16V (doR r op a b c n),.int .i64 (doA r at_ op a b n),.int .i64 0]):=by
 simp only[doG,qa1,decide_eq_true_eq]at h
 obtain⟨hc,hp,h0,h1⟩:=h
 refine⟨_,HDo_ok hF hgl (r0 r) a (aluX (r0 r) op b c n),?_⟩
 have d1:decide (at_<0)=false:=qd2 (by omega)
 have d2:decide (at_>1024)=false:=qd2 (by omega)
 rcases plain_cases hp with rfl|rfl|rfl|rfl|rfl|rfl|rfl|rfl|rfl|rfl|rfl|rfl|rfl|rfl
 ·refine(r_do1 gl _ _ _ _ r at_ a b c n).trans (condI hc (condE d1 (condE d2 ?_)))
  simp only[qs_eq]
  exact condI (cl_t rfl) rfl
 ·refine(r_do2 gl _ _ _ _ r at_ a b c n).trans (condI hc (condE d1 (condE d2 ?_)))
  simp only[qs_eq]
  exact condI (cl_t rfl) rfl
 ·refine(r_do3 gl _ _ _ _ r at_ a b c n).trans (condI hc (condE d1 (condE d2 ?_)))
  simp only[qs_eq]
  exact condI (cl_t rfl) rfl
 ·refine(r_do4 gl _ _ _ _ r at_ a b c n).trans (condI hc (condE d1 (condE d2 ?_)))
  simp only[qs_eq]
  exact condI (cl_t rfl) rfl
 ·refine(r_do5 gl _ _ _ _ r at_ a b c n).trans (condI hc (condE d1 (condE d2 ?_)))
  simp only[qs_eq]
  exact condI (cl_t rfl) rfl
 ·refine(r_do6 gl _ _ _ _ r at_ a b c n).trans (condI hc (condE d1 (condE d2 ?_)))
  simp only[qs_eq]
  have e:aluX (r0 r) 6 b c n=cond (decide (getR (r0 r) b<getR (r0 r) c)) 1 0:=rfl
  cases hd:decide (getR (r0 r) b<getR (r0 r) c)with
  |false=>rw[hd]at e;exact condE rfl (condI (cl_t (by rw[e];rfl)) rfl)
  |true=>rw[hd]at e;exact condI rfl (condI (cl_t (by rw[e];rfl)) rfl)
 ·refine(r_do7 gl _ _ _ _ r at_ a b c n).trans (condI hc (condE d1 (condE d2 ?_)))
  simp only[qs_eq]
  exact condI (cl_t rfl) rfl
 ·refine(r_do8 gl _ _ _ _ r at_ a b c n).trans (condI hc (condE d1 (condE d2 ?_)))
  simp only[qs_eq]
  exact condI (cl_t rfl) rfl
 ·refine(r_do12 gl _ _ _ _ r at_ a b c n).trans (condI hc (condE d1 (condE d2 ?_)))
  simp only[qs_eq]
  exact condI (cl_t rfl) rfl
 ·refine(r_do13 gl _ _ _ _ r at_ a b c n).trans (condI hc (condE d1 (condE d2 ?_)))
  simp only[qs_eq]
  show cond (getR (r0 r) a==getR (r0 r) b) _ _=some (Value.tuple #[w16V (r0 r),.int .i64 (cond (getR (r0 r) a==getR (r0 r) b) _ _),_])
  cases(getR (r0 r) a==getR (r0 r) b)<;>rfl
 ·refine(r_do14 gl _ _ _ _ r at_ a b c n).trans (condI hc (condE d1 (condE d2 ?_)))
  simp only[qs_eq]
  show cond (getR (r0 r) a !=getR (r0 r) b) _ _=some (Value.tuple #[w16V (r0 r),.int .i64 (cond (getR (r0 r) a !=getR (r0 r) b) _ _),_])
  cases(getR (r0 r) a !=getR (r0 r) b)<;>rfl
 ·refine(r_do15 gl _ _ _ _ r at_ a b c n).trans (condI hc (condE d1 (condE d2 ?_)))
  simp only[qs_eq]
  show cond (decide (getR (r0 r) a<getR (r0 r) b)) _ _=some (Value.tuple #[w16V (r0 r),.int .i64 (cond (decide (getR (r0 r) a<getR (r0 r) b)) _ _),_])
  cases(decide (getR (r0 r) a<getR (r0 r) b))<;>rfl
 ·refine(r_do16 gl _ _ _ _ r at_ a b c n).trans (condI hc (condE d1 (condE d2 ?_)))
  simp only[qs_eq]
  rfl
 ·refine(r_do21 gl _ _ _ _ r at_ a b c n).trans (condI hc (condE d1 (condE d2 ?_)))
  simp only[qs_eq]
  rfl
theorem fn_do {gl:Gl}(hF:GlF gl)(hgl:Low gl):FnOK Tryz.prog gl 12 (afDo doG doR fun r at_ op a b _ n=>doA r at_ op a b n):=FnOK.flat hgl tglob fun args σ v h=>by
 obtain⟨r,at_,op,a,b,c,n,rfl,hg,rfl⟩:=afDo_inv h
 obtain⟨H,hH,e⟩:=q_do hF hgl (r:=r) hg.symm
 obtain⟨⟨u,σ1⟩,_,h4⟩:=callSK_ok noSy_ok 40 (.fn 12) [w16V r,.int .i64 at_,cdV op a b c n] LS.start _ _ e
 obtain⟨_,hf⟩:=flat_end h4
 exact⟨rfl,hf,fun w hw=>flatS noSy_ok goodT hgl tglob hH rfl e hw⟩
end Go.Proofs.YtpcbedgaecbfmaaGreatDoor
