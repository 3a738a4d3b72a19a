/- A core: an instruction, a step, what arrives: what the code answers. Where the forms stand as the program's text lays them. -/
import Derived.Test.YtpcbedgaecbfmaaGreatDoorK73
noncomputable section
namespace Go.Proofs.YtpcbedgaecbfmaaGreatDoor
set_option maxRecDepth 100000
open Go.Proofs.YtpcbedgaecbfmaaGreatDoor.Ev Go.RowKit
def cdO (cs:List Value)(o:Nat):Bool:=(gS cs).okI .u8 (o+0)&&((gS cs).okI .i64 (o+1)&&((gS cs).okI .i64 (o+2)&&((gS cs).okI .i64 (o+3)&&((gS cs).okI .i64 (o+4)&&true))))
def cdC (cs:List Value)(o:Nat):CodeS:=⟨(gS cs).int .u8 (o+0),(gS cs).int .i64 (o+1),(gS cs).int .i64 (o+2),(gS cs).int .i64 (o+3),(gS cs).int .i64 (o+4)⟩
theorem cdc_get: ∀{l:List CodeS} {i j:Nat} (h:i<l.length),j<5→(cdsL l)[i*5+j]? =(cdL l[i])[j]?
 |[],_,_,h,_=>by simp at h
 |k::l,0,j,h,hj=>by
  rw[cdsL,Nat.zero_mul,Nat.zero_add,qx4 (by show j<5;exact hj)];rfl
 |k::l,i+1,j,h,hj=>by
  rw[cdsL,qx3 (by show 5≤_;omega),show(i+1)*5+j-(cdL k).length=i*5+j from by show(i+1)*5+j-5=_;omega]
  exact cdc_get (l:=l) (by simpa using h) hj
theorem cdc_at {l:List CodeS}{i:Nat}(h:i<l.length):cdO (cdsL l) (0+i*5)=true∧cdC (cdsL l) (0+i*5)=l[i]:=by
 have g: ∀j,j<5→(cdsL l)[0+i*5+j]? =(cdL l[i])[j]? :=fun j hj=>by rw[Nat.zero_add];exact cdc_get h hj
 unfold cdO cdC
 simp only[gS,genOf]
 rw[g 0 (by omega),g 1 (by omega),g 2 (by omega),g 3 (by omega),g 4 (by omega)]
 exact⟨rfl,rfl⟩
abbrev cvOi (gl:Gl)(H:Hs)(f:FuncId)(vs:List Value)(rows:Rws):Option Out:=callV (syG [(1001,.nilFunc)]) Tryz.prog gl (fun _=>none) H 100 40 40 f vs rows noV
structure OpT where
 h:List Value→Rws→Bool
 b:List Value→Rws→Bool
 e:List Value→Rws→Bool
 a:List Value→Rws→Bool
 t:List Value→Rws→Bool
 m:List Value→Rws→Bool
def ops (T:OpT)(o:Out):List (FuncId×Hd):=[(95,gH T.h o),(96,gH T.b o),(97,gH T.e o),(98,gH T.a o),(99,gH T.t o),(100,gH T.m o)]
theorem r_iP (gl:Gl)(D:DlF)(c c2:Cfg)(id id2:Int)(n:Nat)(r:W16)(at_ count fl:Int)(cs:List Value)(ask:NoteS)(ws:Bool)(cr br kr dl lg mr:Rws)(st:Int)(tD:List Value→Bool)(q:W16)(to:Int):cvOi gl (hsOf [(12,afT tD (.tuple #[w16V q,.int .i64 to,.int .i64 0]))] (hDF D) []) 56 [pK 1000,.int .u64 st] (coO c id n r at_ count false fl cs c2 id2 ask ws cr br kr dl lg mr)=
 letI B:=genOf (genSym Value.nilFunc) cs
 letI C:=List.all cs (af 8)&&true
 letI E:=0+at_.toNat*5
 letI F:=0+at_.toNat*5+(1+1+1+1)
 letI G:=0+at_.toNat*5+(1+1+1)
 letI H:=0+at_.toNat*5+(1+1)
 letI I:=0+at_.toNat*5+1
 letI J:=decide (D.d dl>0)
 letI A:Option Out:=cond (D.g dl) (cond J (cond (D.g dl) (cond C (some (.normal,([.tuple #[.slice none 0 0,.agg #[.int .u8 5,.int .i64 id,.int .i64 0,.int .u32 261],.int .i64 0]],[some (coreRow c id (.slice (some ⟨1001,0,none⟩) n n) r at_ (pK 1002) (pK 1003) count false fl),some (codeRow cs 5),some (nrRowP c2 id2 (pK 1004) (pK 1005) (pK 1006) (pK 1007) ask ws),some (.box (lg++[none]) [1008]),some (.box cr []),some (.box br []),some (.box kr []),some (.box (D.fr dl 261) []),some (.box mr [])]))) none) none) (cond C (some (.normal,([.tuple #[.slice none 0 0,.agg #[.int .u8 11,.int .i64 id,.int .i64 0,.int .u32 1],.int .i64 0]],(coO c id n r at_ count true 1 cs c2 id2 ask ws cr br kr dl lg mr)))) none)) none
 cond (decide (at_<0)) (qs [at_] A) (cond (decide (at_≥(↑n:Int))) (qs [(↑n:Int)] (qn [n,n] (qs [at_,at_] A))) (qs [(↑n:Int)] (qn [n,n] (qs [at_,at_] (cond (decide (0≤at_)&&(decide (at_<(↑n:Int)))&&(n.ble n)) (cond (cdO cs E) (cond (cdO cs E) (qs [(cdC cs E).op,B.int .i64 I,
 B.int .i64 H,B.int .i64 G,B.int .i64 F,at_] (qn [n,n] (cond (tD ([]++[w16V r,.int .i64 at_,.agg ⟨cdL (cdC cs E)⟩]++[])) (qs [(cdC cs E).op,B.int .i64 I,B.int .i64 H,B.int .i64 G,B.int .i64 F,at_,r.a0,r.a1,r.a2,r.a3,r.a4,r.a5,r.a6,r.a7,r.a8,r.a9,r.a10,r.a11,r.a12,r.a13,
 r.a14,r.a15] (cond (D.g dl) (cond J (cond C (some (.normal,([.tuple #[.slice none 0 0,.agg #[.int .u8 3,.int .i64 id,.int .i64 0,.int .u32 0],.int .i64 0]],(coO c id n q to (IntKind.i64.wrap (count+1)) false fl cs c2 id2 ask ws cr br kr dl lg mr)))) none) (cond C (some (.normal,([.tuple
 #[.slice none 0 0,.agg #[.int .u8 1,.int .i64 id,.int .i64 0,.int .u32 0],.int .i64 0]],(coO c id n q to count false fl cs c2 id2 ask ws cr br kr dl lg mr)))) none)) none)) none))) none) none) none))))):=by kernel_rfl
theorem r_iN (gl:Gl)(D:DlF)(c c2:Cfg)(id id2:Int)(n:Nat)(r:W16)(at_ count fl:Int)(cs:List Value)(ask:NoteS)(ws:Bool)(cr br kr dl lg mr:Rws)(st:Int)(tD:List Value→Bool)(T:OpT)(e:EvS)(er:Int)(r1:W16)(at1 count1:Int)(hal1:Bool)(fl1:Int)(ask1:NoteS)(ws1:Bool)(cr1 br1 kr1 dl1 lg1 mr1:Rws):cvOi gl (hsOf [(12,afT tD (.tuple #[w16V w0,.int .i64 0,.int .i64 4]))] (hDF D++ops T (.normal,[.tuple #[.slice none 0 0,evA e,.int .i64 er]],coO c id n r1 at1 count1 hal1 fl1 cs c2 id2 ask1 ws1 cr1 br1 kr1 dl1 lg1 mr1)) []) 56 [pK 1000,.int .u64 st] (coO c id n r at_ count false fl cs c2 id2 ask ws cr br kr dl lg mr)=
 letI E:=coO c id n r at_ count false fl cs c2 id2 ask ws cr br kr dl lg mr
 letI F:=List.all cs (af 8)&&true
 letI A:Option Out:=cond F (cond F (some (.normal,([.tuple #[.slice none 0 0,.agg #[.int .u8 e.kind,.int .i64 e.core,.int .i64 e.count,.int .u32 e.cause],.int .i64 er]],(coO c id n r1 at1 count1 hal1 fl1 cs c2 id2 ask1 ws1 cr1 br1 kr1 dl1 lg1 mr1)))) none) none
 letI B:Option Out:=cond (D.g dl) (cond (decide (D.d dl>0)) (cond (D.g dl) (cond F (some (.normal,([.tuple #[.slice none 0 0,.agg #[.int .u8 5,.int .i64 id,.int .i64 0,.int .u32 261],.int .i64 0]],[some (coreRow c id (.slice (some ⟨1001,0,none⟩) n n) r at_ (pK 1002) (pK 1003) count false fl),some (codeRow cs 5),some (nrRowP c2 id2 (pK 1004) (pK 1005) (pK 1006) (pK 1007) ask ws),some (.box (lg++[none]) [1008]),some (.box cr []),some (.box br []),some (.box kr []),some (.box (D.fr dl 261) []),some (.box mr [])]))) none) none) (cond F (some (.normal,([.tuple #[.slice none 0 0,.agg #[.int .u8 11,.int .i64 id,.int .i64 0,.int .u32 1],.int .i64 0]],(coO c id n r at_ count true 1 cs c2 id2 ask ws cr br kr dl lg mr)))) none)) none
 letI G:=genOf (genSym Value.nilFunc) cs
 letI I:=0+at_.toNat*5
 letI C:=cdC cs I
 letI H:List Value:=[pK 1000,.agg ⟨cdL C⟩,.int .u64 st]
 letI J:=0+at_.toNat*5+(1+1+1+1)
 letI K:=0+at_.toNat*5+(1+1+1)
 letI L:=0+at_.toNat*5+(1+1)
 letI M:=0+at_.toNat*5+1
 cond (decide (at_<0)) (qs [at_] B) (cond (decide (at_≥(↑n:Int))) (qs [(↑n:Int)] (qn [n,n] (qs [at_,at_] B))) (qs [(↑n:Int)] (qn [n,n] (qs [at_,at_] (cond (decide (0≤at_)&&(decide (at_<(↑n:Int)))&&(n.ble n)) (cond (cdO cs I) (cond (cdO cs I) (qs [C.op,G.int .i64 M,G.int
 .i64 L,G.int .i64 K,G.int .i64 J,at_] (qn [n,n] (cond (tD ([]++[w16V r,.int .i64 at_,.agg ⟨cdL C⟩]++[])) (qs [C.op,G.int .i64 M,G.int .i64 L,G.int .i64 K,G.int .i64 J,at_,r.a0,r.a1,r.a2,r.a3,r.a4,r.a5,r.a6,r.a7,r.a8,r.a9,r.a10,r.a11,r.a12,r.a13,r.a14,r.a15] (cond
 (C.op==0) (cond F (cond (T.h H E) A none) none) (cond (C.op==17) (cond F (cond (T.b H E) A none) none) (cond (C.op==18) (cond F (cond (T.e H E) A none) none) (cond (C.op==19) (cond F (cond (T.a H E) A none) none) (cond (C.op==20) (cond F (cond (T.t H E) A none) none) (cond F (cond (T.m H
 E) A none) none))))))) none))) none) none) none))))):=by kernel_rfl
theorem r_iA (gl:Gl)(D:DlF)(c c2:Cfg)(id id2:Int)(n:Nat)(r:W16)(at_ count fl:Int)(cs:List Value)(ask:NoteS)(ws:Bool)(cr br kr dl lg mr:Rws)(st:Int)(tD:List Value→Bool)(tM:List Value→Rws→Bool)(e:EvS)(er:Int)(ask1:NoteS)(ws1:Bool)(cr1 br1:Rws)(nn:Nat)(ns:List Value):cvOi gl (hsOf [(12,afT tD (.tuple #[w16V w0,.int .i64 0,.int .i64 4]))] (hDF D++[(95,deadH),(96,deadH),(97,deadH),(98,deadH),(99,deadH),(100,gH tM (.normal,[.tuple #[.slice (some ⟨1009,0,none⟩) nn nn,evA e,.int .i64 er]],coO c id n r at_ count false fl cs c2 id2 ask1 ws1 cr1 br1 kr dl lg mr++[some (notesRow ns 24)]))]) []) 56 [pK 1000,.int .u64 st] (coO c id n r at_ count false fl cs c2 id2 ask ws cr br kr dl lg mr)=
 letI B:=genOf (genSym Value.nilFunc) cs
 letI E:=List.all cs (af 8)&&true
 letI F:=coreRow c id (.slice (some ⟨1001,0,none⟩) n n) r at_ (pK 1002) (pK 1003) count false fl
 letI G:Option Out:=cond E none none
 letI H:=List.all cs (af 8)&&(List.all ns (af 8)&&true)
 letI I:=0+at_.toNat*5
 letI C:=cdC cs I
 letI J:=0+at_.toNat*5+(1+1+1+1)
 letI K:=0+at_.toNat*5+(1+1+1)
 letI L:=0+at_.toNat*5+(1+1)
 letI M:=0+at_.toNat*5+1
 letI N:LObj:=.box (lg++[none]) [1008]
 letI A:Option Out:=cond (D.g dl) (cond (decide (D.d dl>0)) (cond (D.g dl) (cond E (some (.normal,([.tuple #[.slice none 0 0,.agg #[.int .u8 5,.int .i64 id,.int .i64 0,.int .u32 261],.int .i64 0]],[some F,some (codeRow cs 5),some (nrRowP c2 id2 (pK 1004) (pK 1005) (pK 1006) (pK 1007) ask ws),some N,some (.box cr []),some (.box br []),some (.box kr []),some (.box (D.fr dl 261) []),some (.box mr [])]))) none) none) (cond E (some (.normal,([.tuple #[.slice none 0 0,.agg #[.int .u8 11,.int .i64 id,.int .i64 0,.int .u32 1],.int .i64 0]],(coO c id n r at_ count true 1 cs c2 id2 ask ws cr br kr dl lg mr)))) none)) none
 cond (decide (at_<0)) (qs [at_] A) (cond (decide (at_≥(↑n:Int))) (qs [(↑n:Int)] (qn [n,n] (qs [at_,at_] A))) (qs [(↑n:Int)] (qn [n,n] (qs [at_,at_] (cond (decide (0≤at_)&&(decide (at_<(↑n:Int)))&&(n.ble n)) (cond (cdO cs I) (cond (cdO cs I) (qs [C.op,B.int .i64 M,B.int
 .i64 L,B.int .i64 K,B.int .i64 J,at_] (qn [n,n] (cond (tD ([]++[w16V r,.int .i64 at_,.agg ⟨cdL C⟩]++[])) (qs [C.op,B.int .i64 M,B.int .i64 L,B.int .i64 K,B.int .i64 J,at_,r.a0,r.a1,r.a2,r.a3,r.a4,r.a5,r.a6,r.a7,r.a8,r.a9,r.a10,r.a11,r.a12,r.a13,r.a14,r.a15] (cond
 (C.op==0) G (cond (C.op==17) G (cond (C.op==18) G (cond (C.op==19) G (cond (C.op==20) G (cond E (cond (tM [pK 1000,.agg ⟨cdL C⟩,.int .u64 st] (coO c id n r at_ count false fl cs c2 id2 ask ws cr br kr dl lg mr)) (cond H (cond H (some (.normal,([.tuple #[.slice (some ⟨1009,0,none⟩) nn
 nn,.agg #[.int .u8 e.kind,.int .i64 e.core,.int .i64 e.count,.int .u32 e.cause],.int .i64 er]],[some F,some (codeRow cs 5),some (nrRowP c2 id2 (pK 1004) (pK 1005) (pK 1006) (pK 1007) ask1 ws1),some N,some (.box cr1 []),some (.box br1 []),some (.box kr []),some (.box dl []),some (.box
 mr []),some (.row ⟨ns,94,(0,0),24,false,false⟩)]))) none) none) none) none))))))) none))) none) none) none))))):=by kernel_rfl
def CoT.stepped (k:CoT)(i:CodeS):CoT×EvS:={k with r:=doR k.r i.op i.a i.b i.c i.n,at_:=doA k.r k.at_ i.op i.a i.b i.n}.counted
def CoT.opR (k:CoT)(i:CodeS)(st:Int):WkR:=
 cond (plainOp i.op) (one (k.stepped i)) (cond (i.op==0) (one k.haltR) (cond (i.op==17) (one (k.beginR i.n st)) (cond (i.op==18) (one k.endR) (cond (i.op==19) (one (k.abortR i.n)) (cond (i.op==20) (one (k.testR i.a)) (k.memoR i))))))
def CoT.code (k:CoT):Option CodeS:=cond (decide (0≤k.at_)) k.prog[k.at_.toNat]? none
def CoT.instR (k:CoT)(st:Int):WkR:=match k.code with
 |some i=>k.opR i st
 |none=>one (k.faults 1)
structure InsP (k:CoT)(st:Int):Prop where
 mp:MemP k
 nf:k.ne.de.failing=false
 s0:st≠0
 de:k.ne.de.depth≤8
 pr: ∀i∈k.prog,cmay i.op i.a i.b i.c i.n=true
 pn:k.prog.length≤1024
theorem op_cases {op a b c n:Int}(h:cmay op a b c n=true):plainOp op=true∨(askOp op=true∧plainOp op=false):=by
 unfold cmay at h
 simp only[qa1,decide_eq_true_eq]at h
 obtain⟨⟨h0,h1⟩,_⟩:=h
 have:op=0∨op=1∨op=2∨op=3∨op=4∨op=5∨op=6∨op=7∨op=8∨op=9∨op=10∨op=11∨op=12∨op=13∨op=14∨op=15∨op=16∨op=17∨op=18∨op=19∨op=20∨op=21:=by omega
 rcases this with rfl|rfl|rfl|rfl|rfl|rfl|rfl|rfl|rfl|rfl|rfl|rfl|rfl|rfl|rfl|rfl|rfl|rfl|rfl|rfl|rfl|rfl<;>first|exact .inl rfl|exact .inr ⟨rfl,rfl⟩
abbrev noT:List Value→Rws→Bool:=fun _ _=>false
theorem code_none {k:CoT}(h:k.code=none):decide (k.at_<0)=true∨(decide (k.at_<0)=false∧decide (k.at_≥(k.prog.length:Int))=true):=by
 unfold CoT.code at h
 by_cases h0:k.at_<0
 ·exact .inl (qd1 h0)
 ·rw[qd1 (show 0≤k.at_ by omega),cond_true]at h
  have:=List.getElem?_eq_none_iff.1 h
  exact .inr ⟨qd2 h0,qd1 (by omega)⟩
theorem sub_instP {gl:Gl}(hgl:Low gl){k:CoT}{st:Int}(hh:k.hal=false)(hc:k.code=none):SubOK Tryz.prog gl 56 (gH (atS [pK 1000,.int .u64 st] (coT k)) (wkOut (k.instR st))):=by
 have hx:k.instR st=one (k.faults 1):=by unfold CoT.instR;rw[hc]
 rw[hx,wkOut_one,coT_h hh]
 have hd:=hDF_ok (F:=[(12,afT (fun _=>false) (.tuple #[w16V w0,.int .i64 0,.int .i64 0]))]) hgl (fxC fn_nev fx0) sx0
 rw[List.append_nil]at hd
 refine atV' hgl hd ((r_iP gl dlD k.c k.ne.c k.id k.ne.id _ k.r k.at_ k.count k.fl _ k.ne.ask k.ne.waits _ _ _ _ _ _ st _ _ _).trans ?_)
 simp only[dlD_d,dlD_fr,dlD_g,cond_true,haf,qs_eq,qn_eq]
 unfold CoT.faults
 rcases code_none hc with h1|⟨h1,h2⟩
 ·refine condI h1 ?_
  rcases opn_cases k with⟨ho,ho'⟩|⟨ho,ho'⟩
  ·rw[ho];exact condI ho' (endH hh rfl)
  ·rw[ho];exact condE ho' rfl
 ·refine condE h1 (condI h2 ?_)
  rcases opn_cases k with⟨ho,ho'⟩|⟨ho,ho'⟩
  ·rw[ho];exact condI ho' (endH hh rfl)
  ·rw[ho];exact condE ho' rfl
theorem code_some {k:CoT}{i:CodeS}(h:k.code=some i): ∃h':k.at_.toNat<k.prog.length,0≤k.at_∧k.prog[k.at_.toNat]=i:=by
 unfold CoT.code at h
 obtain⟨h0,h1⟩:=condT h
 obtain⟨h2,h3⟩:=qx1.1 h1
 exact⟨h2,of_decide_eq_true h0,h3⟩
structure AtP (k:CoT)(i:CodeS):Prop where
 h0:decide (k.at_<0)=false
 h1:decide (k.at_≥(k.prog.length:Int))=false
 h2:(decide (0≤k.at_)&&decide (k.at_<(k.prog.length:Int))&&k.prog.length.ble k.prog.length)=true
 ok:cdO (cdsL k.prog) (0+k.at_.toNat*5)=true
 eq:cdC (cdsL k.prog) (0+k.at_.toNat*5)=i
 m:i∈k.prog
 a0:0≤k.at_
 a1:k.at_<(k.prog.length:Int)
theorem at_p {k:CoT}{i:CodeS}(h:k.code=some i):AtP k i:=by
 obtain⟨h',h0,rfl⟩:=code_some h
 obtain⟨c1,c2⟩:=cdc_at h'
 exact⟨qd2 (by omega),qd2 (by omega),andI (andI (qd1 h0) (qd1 (by omega))) (nbl (Nat.le_refl _)),c1,c2,List.getElem_mem h',h0,by omega⟩
theorem wkOut_nil {q:WkR}(h:q.2.1=[]):wkOut q=(.normal,[.tuple #[.slice none 0 0,evA q.2.2.1,.int .i64 q.2.2.2]],coT q.1):=by
 unfold wkOut
 rw[h]
 show(Ex.normal,_,coT q.1++[])=_
 rw[List.append_nil];rfl
structure SameC (k k':CoT):Prop where
 c:k'.c=k.c
 id:k'.id=k.id
 pr:k'.prog=k.prog
 nc:k'.ne.c=k.ne.c
 ni:k'.ne.id=k.ne.id
theorem coT_same {k k':CoT}(h:SameC k k'):coT k'=coO k.c k.id k.prog.length k'.r k'.at_ k'.count k'.hal k'.fl (cdsL k.prog) k.ne.c k.ne.id k'.ne.ask k'.ne.waits (cacheR k'.ne.ca) (backsR k'.ne.ba) (marksR k'.ne.ma) (dealR k'.ne.de) k'.lg (memR k'.me):=by
 unfold coT
 rw[h.c,h.id,h.pr,h.nc,h.ni]
theorem SameC.rf (k:CoT):SameC k k:=⟨rfl,rfl,rfl,rfl,rfl⟩
theorem SameC.tr {a b c:CoT}(h:SameC a b)(g:SameC b c):SameC a c:=⟨g.c.trans h.c,g.id.trans h.id,g.pr.trans h.pr,g.nc.trans h.nc,g.ni.trans h.ni⟩
theorem sm_counted (k:CoT):SameC k k.counted.1:=by unfold CoT.counted;cases k.opn<;>exact⟨rfl,rfl,rfl,rfl,rfl⟩
theorem sm_done (k:CoT):SameC k k.done.1:=SameC.tr (b:=k.next) ⟨rfl,rfl,rfl,rfl,rfl⟩ (sm_counted _)
theorem sm_fails (k:CoT)(w:Int):SameC k (k.fails w).1:=⟨rfl,rfl,rfl,rfl,rfl⟩
theorem sm_faults (k:CoT)(w:Int):SameC k (k.faults w).1:=by unfold CoT.faults;cases k.opn<;>exact⟨rfl,rfl,rfl,rfl,rfl⟩
theorem sm_halt (k:CoT):SameC k k.haltR.1:=by
 unfold CoT.haltR
 cases k.opn
 ·exact⟨rfl,rfl,rfl,rfl,rfl⟩
 ·exact sm_faults k 2
theorem sm_begin (k:CoT)(n st:Int):SameC k (k.beginR n st).1:=by
 unfold CoT.beginR
 cases k.ne.de.beginE st==0
 ·exact sm_fails k 4
 cases k.opn
 ·exact⟨rfl,rfl,rfl,rfl,rfl⟩
 ·exact SameC.tr (b:=k.begun n st) ⟨rfl,rfl,rfl,rfl,rfl⟩ (sm_done _)
theorem sm_end (k:CoT):SameC k k.endR.1:=by
 unfold CoT.endR
 cases k.ne.de.endE==0
 ·exact sm_faults k 3
 cases k.ne.de.endC
 ·exact SameC.tr (b:=k.setD k.ne.de.ended) ⟨rfl,rfl,rfl,rfl,rfl⟩ (sm_done _)
 ·exact⟨rfl,rfl,rfl,rfl,rfl⟩
theorem sm_abort (k:CoT)(n:Int):SameC k (k.abortR n).1:=by
 unfold CoT.abortR
 cases k.opn
 ·exact sm_done k
 ·exact sm_fails k _
theorem sm_test (k:CoT)(a:Int):SameC k (k.testR a).1:=SameC.tr (b:=k.put a (cond k.opn 1 0)) ⟨rfl,rfl,rfl,rfl,rfl⟩ (sm_done _)
theorem sm_stored (k:CoT)(ad x:Int):SameC k (k.stored ad x):=by unfold CoT.stored;cases k.opn<;>exact⟨rfl,rfl,rfl,rfl,rfl⟩
theorem sm_gets (k:CoT)(i:CodeS)(ad:Int):SameC k (k.getsR i ad).1:=by
 unfold CoT.getsR
 cases i.op==10
 ·cases i.op==11&&(k.was ad==getR k.r i.a)
  ·exact SameC.tr (b:=(k.loaded ad).put i.a (k.was ad)) ⟨rfl,rfl,rfl,rfl,rfl⟩ (sm_done _)
  ·cases k.full
   ·exact SameC.tr (sm_stored k ad (getR k.r i.c)) (SameC.tr (b:=(k.stored ad (getR k.r i.c)).put i.a (k.was ad)) ⟨rfl,rfl,rfl,rfl,rfl⟩ (sm_done _))
   ·exact sm_fails k 3
 ·cases k.full
  ·exact SameC.tr (sm_stored k ad (getR k.r i.a)) (sm_done _)
  ·exact sm_fails k 3
theorem memo_cases (k:CoT)(i:CodeS):((k.memoR i).2.1=[]∧SameC k (k.memoR i).1)∨ ∃n l k',k.memoR i=(k.setN k',n::l,k.ev 8 0 0,0)∧k'.c=k.ne.c∧k'.id=k.ne.id∧k'.ma=k.ne.ma∧k'.de=k.ne.de:=by
 unfold CoT.memoR
 cases whE k.c (k.addr i)==0 with
 |false=>exact .inl ⟨rfl,sm_faults k _⟩
 |true=>
  rcases askR_cases (k:=k.ne) (b:=whB k.c (k.addr i)) (wr:=i.op !=9)with⟨h1,_⟩|h1|⟨n1,l,k',h1,e⟩
  ·rw[h1];exact .inl ⟨rfl,sm_gets k i _⟩
  ·rw[h1];exact .inl ⟨rfl,SameC.rf k⟩
  ·rw[h1];exact .inr ⟨n1,l,k',rfl,e⟩
abbrev iAt (k:CoT)(i:CodeS)(st:Int):List Value→Rws→Bool:=atS [pK 1000,.agg ⟨cdL i⟩,.int .u64 st] (coO k.c k.id k.prog.length k.r k.at_ k.count false k.fl (cdsL k.prog) k.ne.c k.ne.id k.ne.ask k.ne.waits (cacheR k.ne.ca) (backsR k.ne.ba) (marksR k.ne.ma) (dealR k.ne.de) k.lg (memR k.me))
theorem iAt_of {gl:Gl}{k:CoT}{i:CodeS}{st:Int}{f:FuncId}{o:Out}(hh:k.hal=false)(h:SubOK Tryz.prog gl f (gH (cAt k i st) o)):SubOK Tryz.prog gl f (gH (iAt k i st) o):=by
 unfold cAt at h
 rw[coT_h hh]at h
 exact h
def tOp (T:OpT)(op:Int)(vs:List Value)(r:Rws):Bool:=cond (op==0) (T.h vs r) (cond (op==17) (T.b vs r) (cond (op==18) (T.e vs r) (cond (op==19) (T.a vs r) (cond (op==20) (T.t vs r) (T.m vs r)))))
theorem sub_instN {gl:Gl}(hF:GlF gl)(hgl:Low gl){k:CoT}{i:CodeS}{st:Int}(hp:InsP k st)(hi:k.code=some i)(ho:askOp i.op=true){q:WkR}(hq:q.2.1=[])(hs:SameC k q.1)(T:OpT)
 (hX: ∀p∈ops T (wkOut q),SubOK Tryz.prog gl p.1 p.2) (hT:tOp T i.op [pK 1000,.agg ⟨cdL i⟩,.int .u64 st] (coO k.c k.id k.prog.length k.r k.at_ k.count false k.fl (cdsL k.prog) k.ne.c k.ne.id k.ne.ask k.ne.waits (cacheR k.ne.ca) (backsR k.ne.ba) (marksR k.ne.ma) (dealR k.ne.de) k.lg (memR k.me))=true):
 SubOK Tryz.prog gl 56 (gH (atS [pK 1000,.int .u64 st] (coT k)) (wkOut q)):=by
 obtain⟨h0,h1,h2,ok,eq,m,a0,a1⟩:=at_p hi
 have hpn:=hp.pn
 rw[wkOut_nil hq,coT_same hs]at hX ⊢
 rw[coT_h hp.mp.hal]
 refine atV' hgl (hDF_ok hgl (fxC (fn_doN hF hgl (r:=k.r) (at_:=k.at_) (hp.pr i m) ho a0 (by omega)) fx0) hX) ((r_iN gl dlD k.c k.ne.c k.id k.ne.id _ k.r k.at_ k.count k.fl _ k.ne.ask k.ne.waits _ _ _ _ _ _ st _ T _ _ _ _ _ _ _ _ _ _ _ _ _ _ _).trans ?_)
 simp only[dlD_g,cond_true,haf,qs_eq,qn_eq]
 rw[eq]
 refine condE h0 (condE h1 (condI h2 (condI ok (condI ok (condI (cl_t rfl) ?_)))))
 unfold tOp at hT
 cases e0:i.op==0 with
 |true=>rw[e0]at hT;exact condI rfl (condI hT rfl)
 |false=>
  rw[e0]at hT
  refine condE rfl ?_
  cases e1:i.op==17 with
  |true=>rw[e1]at hT;exact condI rfl (condI hT rfl)
  |false=>
   rw[e1]at hT
   refine condE rfl ?_
   cases e2:i.op==18 with
   |true=>rw[e2]at hT;exact condI rfl (condI hT rfl)
   |false=>
    rw[e2]at hT
    refine condE rfl ?_
    cases e3:i.op==19 with
    |true=>rw[e3]at hT;exact condI rfl (condI hT rfl)
    |false=>
     rw[e3]at hT
     refine condE rfl ?_
     cases e4:i.op==20 with
     |true=>rw[e4]at hT;exact condI rfl (condI hT rfl)
     |false=>rw[e4]at hT;exact condE rfl (condI hT rfl)
theorem code_instR {k:CoT}{i:CodeS}{st:Int}(hi:k.code=some i):k.instR st=k.opR i st:=by unfold CoT.instR;rw[hi]
theorem sub_inst {gl:Gl}(hF:GlF gl)(hgl:Low gl){k:CoT}{st:Int}(hp:InsP k st):SubOK Tryz.prog gl 56 (gH (atS [pK 1000,.int .u64 st] (coT k)) (wkOut (k.instR st))):=by
 have hh:=hp.mp.hal
 cases hi:k.code with
 |none=>exact sub_instP hgl hh hi
 |some i=>
  rw[code_instR hi]
  have hm:=at_p hi
  have hc:=hp.pr i hm.m
  have hpn:=hp.pn
  rcases op_cases hc with hpl|⟨ho,hpl⟩
  ·have hx:k.opR i st=one (k.stepped i):=by unfold CoT.opR;rw[hpl];rfl
   rw[hx,wkOut_one]
   obtain⟨h0,h1,h2,ok,eq,m,a0,a1⟩:=hm
   have hd:=hDF_ok hgl (fxC (fn_doP hF hgl (r:=k.r) (andI hc (andI hpl (andI (qd1 a0) (qd1 (show k.at_≤1024 by omega)))))) fx0) sx0
   rw[List.append_nil]at hd
   rw[coT_h hh]
   refine atV' hgl hd ((r_iP gl dlD k.c k.ne.c k.id k.ne.id _ k.r k.at_ k.count k.fl _ k.ne.ask k.ne.waits _ _ _ _ _ _ st _ _ _).trans ?_)
   simp only[dlD_d,dlD_fr,dlD_g,cond_true,haf,qs_eq,qn_eq]
   rw[eq]
   refine condE h0 (condE h1 (condI h2 (condI ok (condI ok (condI (cl_t rfl) ?_)))))
   unfold CoT.stepped CoT.counted
   have e:CoT.opn {k with r:=doR k.r i.op i.a i.b i.c i.n,at_:=doA k.r k.at_ i.op i.a i.b i.n}=k.opn:=rfl
   rw[e]
   rcases opn_cases k with⟨ho,ho'⟩|⟨ho,ho'⟩
   ·rw[ho];exact condI ho' (endH hh rfl)
   ·rw[ho];exact condE ho' (endH hh rfl)
  ·have s:=fun{f:FuncId} {o:Out} (h:SubOK Tryz.prog gl f (gH (cAt k i st) o))=>iAt_of hh h
   have hx:k.opR i st=cond (i.op==0) (one k.haltR) (cond (i.op==17) (one (k.beginR i.n st)) (cond (i.op==18) (one k.endR) (cond (i.op==19) (one (k.abortR i.n)) (cond (i.op==20) (one (k.testR i.a)) (k.memoR i))))):=by unfold CoT.opR;rw[hpl];rfl
   have nv:=fun{f:FuncId} {o:Out}=>sub_nev (gl:=gl) (f:=f) (o:=o)
   rw[hx]
   have hmem:i.op=9∨i.op=10∨i.op=11→SubOK Tryz.prog gl 56 (gH (atS [pK 1000,.int .u64 st] (coT k)) (wkOut (k.memoR i))):=fun h9=>by
    have hM:=s (sub_mem hF hgl (st:=st) hp.mp hc h9)
    rcases memo_cases k i with⟨q1,q2⟩|⟨n1,l,k',hq,e1,e2,e3,e4⟩
    ·refine sub_instN hF hgl hp hi ho q1 q2 ⟨noT,noT,noT,noT,noT,iAt k i st⟩ (sxC nv (sxC nv (sxC nv (sxC nv (sxC nv (sxC hM sx0)))))) ?_
     unfold tOp
     rcases h9 with h|h|h<;>rw[h]<;>exact atS_self _ _
    ·rw[hq]at hM ⊢
     obtain⟨h0,h1,h2,ok,eq,m,a0,a1⟩:=hm
     have hw:wkOut (k.setN k',n1::l,k.ev 8 0 0,0)=(.normal,[.tuple #[.slice (some ⟨1009,0,none⟩) (l.length+1) (l.length+1),evA (k.ev 8 0 0),.int .i64 0]],coO k.c k.id k.prog.length k.r k.at_ k.count false k.fl (cdsL k.prog) k.ne.c k.ne.id k'.ask k'.waits (cacheR k'.ca) (backsR k'.ba) (marksR k.ne.ma) (dealR k.ne.de) k.lg (memR k.me)++[some (notesRow (notesL (n1::l)) 24)]):=by
      unfold wkOut
      rw[coR_of hh e1 e2 e3 e4];rfl
     rw[hw]at hM ⊢
     rw[coT_h hh]
     refine atV' hgl (hDF_ok hgl (fxC (fn_doN hF hgl (r:=k.r) (at_:=k.at_) hc ho a0 (by omega)) fx0) (sxC sub_dead (sxC sub_dead (sxC sub_dead (sxC sub_dead (sxC sub_dead (sxC hM sx0))))))) ((r_iA gl dlD k.c k.ne.c k.id k.ne.id _ k.r k.at_ k.count k.fl _ k.ne.ask k.ne.waits _ _ _ _ _ _ st _ _ _ _ _ _ _ _ _ _).trans ?_)
     simp only[dlD_g,cond_true,cdsL_af,notesL_af,Bool.and_self,qs_eq,qn_eq]
     rw[eq]
     refine condE h0 (condE h1 (condI h2 (condI ok (condI ok (condI (cl_t rfl) ?_)))))
     rcases h9 with h|h|h<;>rw[h]<;>exact condE rfl (condE rfl (condE rfl (condE rfl (condE rfl (condI (atS_self _ _) rfl)))))
   rcases ask_cases ho with h|h|h|h|h|h|h|h<;>rw[h]
   ·exact sub_instN hF hgl hp hi ho (q:=one k.haltR) rfl (sm_halt k) ⟨iAt k i st,noT,noT,noT,noT,noT⟩ (sxC (by rw[wkOut_one];exact s (sub_kHalt hgl hh)) (sxC nv (sxC nv (sxC nv (sxC nv (sxC nv sx0)))))) (by unfold tOp;rw[h];exact atS_self _ _)
   ·exact hmem (.inl h)
   ·exact hmem (.inr (.inl h))
   ·exact hmem (.inr (.inr h))
   ·exact sub_instN hF hgl hp hi ho (q:=one (k.beginR i.n st)) rfl (sm_begin k _ _) ⟨noT,iAt k i st,noT,noT,noT,noT⟩ (sxC nv (sxC (by rw[wkOut_one];exact s (sub_kBegin hgl hh hp.s0 hp.nf hp.de)) (sxC nv (sxC nv (sxC nv (sxC nv sx0)))))) (by unfold tOp;rw[h];exact atS_self _ _)
   ·exact sub_instN hF hgl hp hi ho (q:=one k.endR) rfl (sm_end k) ⟨noT,noT,iAt k i st,noT,noT,noT⟩ (sxC nv (sxC nv (sxC (by rw[wkOut_one];exact s (sub_kEnd hgl hh hp.nf)) (sxC nv (sxC nv (sxC nv sx0)))))) (by unfold tOp;rw[h];exact atS_self _ _)
   ·exact sub_instN hF hgl hp hi ho (q:=one (k.abortR i.n)) rfl (sm_abort k _) ⟨noT,noT,noT,iAt k i st,noT,noT⟩ (sxC nv (sxC nv (sxC nv (sxC (by rw[wkOut_one];exact s (sub_kAbort hgl hh)) (sxC nv (sxC nv sx0)))))) (by unfold tOp;rw[h];exact atS_self _ _)
   ·exact sub_instN hF hgl hp hi ho (q:=one (k.testR i.a)) rfl (sm_test k _) ⟨noT,noT,noT,noT,iAt k i st,noT⟩ (sxC nv (sxC nv (sxC nv (sxC nv (sxC (by rw[wkOut_one];exact s (sub_kTest hgl hh)) (sxC nv sx0)))))) (by unfold tOp;rw[h];exact atS_self _ _)
theorem r_sN (gl:Gl)(c c2:Cfg)(id id2:Int)(n:Nat)(r:W16)(at_ count fl:Int)(cs:List Value)(ask:NoteS)(cr br kr dl lg mr:Rws)(st:Int)(fg:Rws→Bool)(fb:Bool)(tU tI:List Value→Rws→Bool)(e:EvS)(er:Int)(r1:W16)(at1 count1:Int)(hal1:Bool)(fl1:Int)(ask1:NoteS)(ws1:Bool)(cr1 br1 kr1 dl1 lg1 mr1:Rws):cV noSy gl (hsOf [] [hFa fb fg,(55,gH tU (.normal,[.tuple #[.slice none 0 0,evA e,.int .i64 er]],coO c id n r1 at1 count1 hal1 fl1 cs c2 id2 ask1 ws1 cr1 br1 kr1 dl1 lg1 mr1)),(56,gH tI (.normal,[.tuple #[.slice none 0 0,evA e,.int .i64 er]],coO c id n r1 at1 count1 hal1 fl1 cs c2 id2 ask1 ws1 cr1 br1 kr1 dl1 lg1 mr1))] []) 10 [pK 1000,.int .u64 st] [some (.box (coX c id n r at_ count false fl cs (nearX c2 id2 ask false cr br kr dl) lg++[none]) [1001]),some (.box mr [])] plS=
 letI B:=coO c id n r at_ count false fl cs c2 id2 ask false cr br kr dl lg mr
 letI C:=List.all cs (af 8)&&true
 letI D:=List.all cs (af 8)&&true&&true
 letI E:Value:=.slice (some ⟨1001,0,none⟩) n n
 letI A:Option Out:=cond C (cond D (some (.normal,([.tuple #[.slice none 0 0,.agg #[.int .u8 e.kind,.int .i64 e.core,.int .i64 e.count,.int .u32 e.cause],.int .i64 er]],[some (.box ([some (coreRow c id E r1 at1 (pK 1002) (pK 1003) count1 hal1 fl1),some (codeRow cs 5),some (.box ((nearX c2 id2 ask1 ws1 cr1 br1 kr1 dl1)++[]) []),some (.box (lg1++[none]) [1004])]++[none]) [1001]),some (.box mr1 [])]))) none) none
 cond (List.all cs (af 8)&&true&&true&&true&&true&&true) (cond (st==0) (cond D (some (.normal,([.tuple #[.slice none 0 0,.agg #[.int .u8 0,.int .i64 0,.int .i64 0,.int .u32 0],.int .i64 2]],[some (.box ([some (coreRow c id E r at_ (pK 1002) (pK 1003) count false fl),some (codeRow
 cs 5),some (.box ((nearX c2 id2 ask false cr br kr dl)++[]) []),some (.box (lg++[none]) [1004])]++[none]) [1001]),some (.box mr [])]))) none) (cond (fg dl) (cond fb (cond C (cond (tU [pK 1000] B) A none) none) (cond C (cond (tI [pK 1000,.int .u64 st] B) A none) none)) none)) none:=by kernel_rfl
theorem r_sA (gl:Gl)(c c2:Cfg)(id id2:Int)(n:Nat)(r:W16)(at_ count fl:Int)(cs:List Value)(ask:NoteS)(cr br kr dl lg mr:Rws)(st:Int)(fg:Rws→Bool)(fb:Bool)(tU tI:List Value→Rws→Bool)(e:EvS)(er:Int)(r1:W16)(at1 count1:Int)(hal1:Bool)(fl1:Int)(ask1:NoteS)(ws1:Bool)(cr1 br1 kr1 dl1 lg1 mr1:Rws)(nn:Nat)(ns:List Value):cV noSy gl (hsOf [] [hFa fb fg,(55,gH tU (.normal,[.tuple #[.slice (some ⟨1009,0,none⟩) nn nn,evA e,.int .i64 er]],coO c id n r1 at1 count1 hal1 fl1 cs c2 id2 ask1 ws1 cr1 br1 kr1 dl1 lg1 mr1++[some (notesRow ns 24)])),(56,gH tI (.normal,[.tuple #[.slice (some ⟨1009,0,none⟩) nn nn,evA e,.int .i64 er]],coO c id n r1 at1 count1 hal1 fl1 cs c2 id2 ask1 ws1 cr1 br1 kr1 dl1 lg1 mr1++[some (notesRow ns 24)]))] []) 10 [pK 1000,.int .u64 st] [some (.box (coX c id n r at_ count false fl cs (nearX c2 id2 ask false cr br kr dl) lg++[none]) [1001]),some (.box mr [])] plS=
 letI B:=coO c id n r at_ count false fl cs c2 id2 ask false cr br kr dl lg mr
 letI C:=List.all cs (af 8)&&true&&true
 letI D:Value:=.slice (some ⟨1001,0,none⟩) n n
 letI E:=List.all cs (af 8)&&true
 letI F:=List.all ns (af 8)&&true
 letI A:Option Out:=cond (List.all cs (af 8)&&F) (cond C (cond F (some (.normal,([.tuple #[.slice (some ⟨1002,0,none⟩) nn nn,.agg #[.int .u8 e.kind,.int .i64 e.core,.int .i64 e.count,.int .u32 e.cause],.int .i64 er]],[some (.box ([some (coreRow c id D r1 at1 (pK 1002) (pK 1003) count1 hal1 fl1),some (codeRow cs 5),some (.box ((nearX c2 id2 ask1 ws1 cr1 br1 kr1 dl1)++[]) []),some (.box (lg1++[none]) [1004])]++[none]) [1001]),some (.box mr1 []),some (.row ⟨ns,94,(0,0),24,false,false⟩)]))) none) none) none
 cond (List.all cs (af 8)&&true&&true&&true&&true&&true) (cond (st==0) (cond C (some (.normal,([.tuple #[.slice none 0 0,.agg #[.int .u8 0,.int .i64 0,.int .i64 0,.int .u32 0],.int .i64 2]],[some (.box ([some (coreRow c id D r at_ (pK 1002) (pK 1003) count false fl),some (codeRow
 cs 5),some (.box ((nearX c2 id2 ask false cr br kr dl)++[]) []),some (.box (lg++[none]) [1004])]++[none]) [1001]),some (.box mr [])]))) none) (cond (fg dl) (cond fb (cond E (cond (tU [pK 1000] B) A none) none) (cond E (cond (tI [pK 1000,.int .u64 st] B) A none) none)) none)) none:=by kernel_rfl
theorem r_sE (gl:Gl)(c c2:Cfg)(id id2:Int)(n:Nat)(r:W16)(at_ count fl:Int)(cs:List Value)(ask:NoteS)(ws hal:Bool)(cr br kr dl lg mr:Rws)(st:Int)(fg:Rws→Bool):cV noSy gl (hsOf [] [hFa false fg,(55,deadH),(56,deadH)] []) 10 [pK 1000,.int .u64 st] [some (.box (coX c id n r at_ count hal fl cs (nearX c2 id2 ask ws cr br kr dl) lg++[none]) [1001]),some (.box mr [])] plS=
 letI A:Rws:=[some (.box ([some (coreRow c id (.slice (some ⟨1001,0,none⟩) n n) r at_ (pK 1002) (pK 1003) count hal fl),some (codeRow cs 5),some (.box ((nearX c2 id2 ask ws cr br kr dl)++[]) []),some (.box (lg++[none]) [1004])]++[none]) [1001]),some (.box mr [])]
 letI C:=List.all cs (af 8)&&true&&true
 letI B:Option Out:=cond C (some (.normal,([.tuple #[.slice none 0 0,.agg #[.int .u8 0,.int .i64 0,.int .i64 0,.int .u32 0],.int .i64 8]],A))) none
 cond (List.all cs (af 8)&&true&&true&&true&&true&&true) (cond (st==0) (cond C (some (.normal,([.tuple #[.slice none 0 0,.agg #[.int .u8 0,.int .i64 0,.int .i64 0,.int .u32 0],.int .i64 2]],A))) none) (cond ws B (cond hal B (cond (fg dl) (cond (List.all cs (af 8)&&true) none
 none) none)))) none:=by kernel_rfl
theorem r_t8 (gl:Gl)(c c2:Cfg)(id id2:Int)(n:Nat)(r:W16)(at_ count fl:Int)(cs:List Value)(ask:NoteS)(ws hal:Bool)(cr br kr dl lg mr:Rws)(st:Int)(nt:NoteS)(tT:List Value→Rws→Bool)(br1:Rws):cV noSy gl (hsOf [] [(76,gH tT (.normal,[.tuple #[.slice none 0 0,.bool false,.int .i64 0]],nearX c2 id2 ask ws cr br1 kr dl)),(55,deadH),(56,deadH)] []) 41 [pK 1000,noteV {nt with kind:=8},.int .u64 st] [some (.box (coX c id n r at_ count hal fl cs (nearX c2 id2 ask ws cr br kr dl) lg++[none]) [1001]),some (.box mr [])] plS=
 letI A:=coreRow c id (.slice (some ⟨1001,0,none⟩) n n) r at_ (pK 1002) (pK 1003) count hal fl
 letI B:=List.all cs (af 8)&&true&&true
 letI C:=nearX c2 id2 ask ws cr br kr dl
 letI D:LObj:=.box (lg++[none]) [1004]
 cond (List.all cs (af 8)&&true&&true&&true&&true&&true) (cond (st==0) (cond B (some (.normal,([.tuple #[.slice none 0 0,.agg #[.int .u8 0,.int .i64 0,.int .i64 0,.int .u32 0],.int .i64 2]],[some (.box ([some A,some (codeRow cs 5),some (.box (C++[]) []),some D]++[none])
 [1001]),some (.box mr [])]))) none) (cond (tT [pK 1000,.agg #[.int .u8 8,.int .i64 nt.frm,.int .i64 nt.too,.int .i64 nt.block,.int .u64 nt.stamp,.int .u8 nt.state,.bool nt.has,.bool nt.stick,.int .u32 nt.data.a0,.int .u32 nt.data.a1,.int .u32 nt.data.a2,.int .u32 nt.data.a3,.int .u32
 nt.data.a4,.int .u32 nt.data.a5,.int .u32 nt.data.a6,.int .u32 nt.data.a7,.int .u32 nt.data.a8,.int .u32 nt.data.a9,.int .u32 nt.data.a10,.int .u32 nt.data.a11,.int .u32 nt.data.a12,.int .u32 nt.data.a13,.int .u32 nt.data.a14,.int .u32 nt.data.a15]] C) (qs [nt.frm,nt.too,nt.block,
 nt.stamp,nt.state] (qb [nt.has,nt.stick] (qs (w16Q nt.data []) (cond B (some (.normal,([.tuple #[.slice none 0 0,.agg #[.int .u8 12,.int .i64 id,.int .i64 0,.int .u32 0],.int .i64 0]],[some (.box ([some A,some (codeRow cs 5),some (.box ((nearX c2 id2 ask ws cr br1 kr dl)++[]) []),some
 D]++[none]) [1001]),some (.box mr [])]))) none)))) none)) none:=by kernel_rfl
theorem r_t6N (gl:Gl)(c c2:Cfg)(id id2:Int)(n:Nat)(r:W16)(at_ count fl:Int)(cs:List Value)(ask:NoteS)(cr br kr dl lg mr:Rws)(st:Int)(nt:NoteS)(tT:List Value→Rws→Bool)(crT:Rws)(nd:NoteS)(fg:Rws→Bool)(fb:Bool)(tU tI:List Value→Rws→Bool)(e:EvS)(er:Int)(r1:W16)(at1 count1:Int)(hal1:Bool)(fl1:Int)(ask1:NoteS)(ws1:Bool)(cr1 br1 kr1 dl1 lg1 mr1:Rws):cV noSy gl (hsOf [] [(76,gH tT (.normal,[.tuple #[.slice (some ⟨1005,0,none⟩) 1 1,.bool false,.int .i64 0]],nearX c2 id2 ask false crT br kr dl++[some (notesRow (notesL [nd]) 0)])),hFa fb fg,(55,gH tU (.normal,[.tuple #[.slice none 0 0,evA e,.int .i64 er]],coO c id n r1 at1 count1 hal1 fl1 cs c2 id2 ask1 ws1 cr1 br1 kr1 dl1 lg1 mr1)),(56,gH tI (.normal,[.tuple #[.slice none 0 0,evA e,.int .i64 er]],coO c id n r1 at1 count1 hal1 fl1 cs c2 id2 ask1 ws1 cr1 br1 kr1 dl1 lg1 mr1))] []) 41 [pK 1000,noteV {nt with kind:=6},.int .u64 st] [some (.box (coX c id n r at_ count false fl cs (nearX c2 id2 ask true cr br kr dl) lg++[none]) [1001]),some (.box mr [])] plS=
 letI B:=coO c id n r at_ count false fl cs c2 id2 ask false crT br kr dl lg mr
 letI C:=List.all cs (af 8)&&true
 letI D:=List.all cs (af 8)&&true&&true
 letI E:=nearX c2 id2 ask true cr br kr dl
 letI F:Value:=.slice (some ⟨1001,0,none⟩) n n
 letI A:Option Out:=cond C (qs [e.kind,e.core,e.count,e.cause,e.kind,e.core,e.count,e.cause] (cond D (some (.normal,([.tuple #[.slice (some ⟨1002,0,none⟩) 1 1,.agg #[.int .u8 e.kind,.int .i64 e.core,.int .i64 e.count,.int .u32 e.cause],.int .i64 0]],[some (.box ([some (coreRow c id F r1 at1 (pK 1002) (pK 1003) count1 hal1 fl1),some (codeRow cs 5),some (.box ((nearX c2 id2 ask1 ws1 cr1 br1 kr1 dl1)++[]) []),some (.box (lg1++[none]) [1004])]++[none]) [1001]),some (.box mr1 []),some (notesRow (notesL [nd]) 0)]))) none)) none
 cond (List.all cs (af 8)&&true&&true&&true&&true&&true) (cond (st==0) (cond D (some (.normal,([.tuple #[.slice none 0 0,.agg #[.int .u8 0,.int .i64 0,.int .i64 0,.int .u32 0],.int .i64 2]],[some (.box ([some (coreRow c id F r at_ (pK 1002) (pK 1003) count false fl),some (codeRow
 cs 5),some (.box (E++[]) []),some (.box (lg++[none]) [1004])]++[none]) [1001]),some (.box mr [])]))) none) (cond (tT [pK 1000,.agg #[.int .u8 6,.int .i64 nt.frm,.int .i64 nt.too,.int .i64 nt.block,.int .u64 nt.stamp,.int .u8 nt.state,.bool nt.has,.bool nt.stick,.int .u32
 nt.data.a0,.int .u32 nt.data.a1,.int .u32 nt.data.a2,.int .u32 nt.data.a3,.int .u32 nt.data.a4,.int .u32 nt.data.a5,.int .u32 nt.data.a6,.int .u32 nt.data.a7,.int .u32 nt.data.a8,.int .u32 nt.data.a9,.int .u32 nt.data.a10,.int .u32 nt.data.a11,.int .u32 nt.data.a12,.int .u32
 nt.data.a13,.int .u32 nt.data.a14,.int .u32 nt.data.a15]] E) (qs [nt.frm,nt.too,nt.block,nt.stamp,nt.state] (qb [nt.has,nt.stick] (qs (w16Q nt.data []) (cond (fg dl) (cond fb (cond C (cond (tU [pK 1000] B) A none) none) (cond C (cond (tI [pK 1000,.int .u64 st] B) A none) none)) none))))
 none)) none:=by kernel_rfl
theorem r_sE0 (gl:Gl)(c c2:Cfg)(id id2:Int)(r:W16)(at_ count fl:Int)(ask:NoteS)(ws hal:Bool)(cr br kr dl lg mr:Rws)(st:Int)(fg:Rws→Bool):cV noSy gl (hsOf [] [hFa false fg,(55,deadH),(56,deadH)] []) 10 [pK 1000,.int .u64 st] [some (.box (coX0 c id r at_ count hal fl (nearX c2 id2 ask ws cr br kr dl) lg++[none]) [1001]),some (.box mr [])] plS0=
 letI A:Rws:=[some (.box ([some (coreRow c id (.slice none 0 0) r at_ (pK 1001) (pK 1002) count hal fl),some (.box ((nearX c2 id2 ask ws cr br kr dl)++[]) []),some (.box (lg++[none]) [1003])]++[none]) [1001]),some (.box mr [])]
 letI B:Option Out:=some (.normal,([.tuple #[.slice none 0 0,.agg #[.int .u8 0,.int .i64 0,.int .i64 0,.int .u32 0],.int .i64 8]],A))
 cond (st==0) (some (.normal,([.tuple #[.slice none 0 0,.agg #[.int .u8 0,.int .i64 0,.int .i64 0,.int .u32 0],.int .i64 2]],A))) (cond ws B (cond hal B (cond (fg dl) none none))):=by kernel_rfl
def CoT.cx (k:CoT):Rws:=coX k.c k.id k.prog.length k.r k.at_ k.count k.hal k.fl (cdsL k.prog) (nearR k.ne) k.lg++[none]
def coC (k:CoT):Rws:=[some (.box k.cx [1001]),some (.box (memR k.me) [])]
def stOut (q:WkR):Out:=(.normal,[.tuple #[nsV 1002 q.2.1,evA q.2.2.1,.int .i64 q.2.2.2]],coC q.1++nsR q.2.1)
def CoT.workR (k:CoT)(st:Int):WkR:=cond k.ne.de.failing k.undoR (k.instR st)
structure StepP (k:CoT)(st:Int):Prop where
 mp:MemP k
 s0:st≠0
 un:k.ne.de.failing=true→UndP k
 ins:k.ne.de.failing=false→InsP k st
theorem undo_cases (k:CoT):((k.undoR).2.1=[]∧SameC k (k.undoR).1)∨ ∃n l k',k.undoR=(k.setN k',n::l,k.ev 8 0 0,0)∧k'.c=k.ne.c∧k'.id=k.ne.id∧k'.ma=k.ne.ma∧k'.de=k.ne.de:=by
 unfold CoT.undoR
 cases k.lm==0 with
 |true=>exact .inl ⟨rfl,rfl,rfl,rfl,rfl,rfl⟩
 |false=>
  rcases askR_cases (k:=k.ne) (b:=whB k.c k.uA) (wr:=true)with⟨h1,_⟩|h1|⟨n1,l,k',h1,e⟩
  ·rw[h1];exact .inl ⟨rfl,rfl,rfl,rfl,rfl,rfl⟩
  ·rw[h1];exact .inl ⟨rfl,SameC.rf k⟩
  ·rw[h1];exact .inr ⟨n1,l,k',rfl,e⟩
theorem inst_cases (k:CoT)(st:Int):((k.instR st).2.1=[]∧SameC k (k.instR st).1)∨ ∃n l k',k.instR st=(k.setN k',n::l,k.ev 8 0 0,0)∧k'.c=k.ne.c∧k'.id=k.ne.id∧k'.ma=k.ne.ma∧k'.de=k.ne.de:=by
 unfold CoT.instR
 cases k.code with
 |none=>exact .inl ⟨rfl,sm_faults k _⟩
 |some i=>
  show((k.opR i st).2.1=[]∧SameC k (k.opR i st).1)∨ ∃n l k',k.opR i st=_∧_
  unfold CoT.opR
  cases plainOp i.op
  case true=>exact .inl ⟨rfl,SameC.tr (b:={k with r:=doR k.r i.op i.a i.b i.c i.n,at_:=doA k.r k.at_ i.op i.a i.b i.n}) ⟨rfl,rfl,rfl,rfl,rfl⟩ (sm_counted _)⟩
  cases i.op==0
  case true=>exact .inl ⟨rfl,sm_halt k⟩
  cases i.op==17
  case true=>exact .inl ⟨rfl,sm_begin k _ _⟩
  cases i.op==18
  case true=>exact .inl ⟨rfl,sm_end k⟩
  cases i.op==19
  case true=>exact .inl ⟨rfl,sm_abort k _⟩
  cases i.op==20
  case true=>exact .inl ⟨rfl,sm_test k _⟩
  exact memo_cases k i
theorem work_cases (k:CoT)(st:Int):((k.workR st).2.1=[]∧SameC k (k.workR st).1)∨ ∃n l k',k.workR st=(k.setN k',n::l,k.ev 8 0 0,0)∧k'.c=k.ne.c∧k'.id=k.ne.id∧k'.ma=k.ne.ma∧k'.de=k.ne.de:=by
 unfold CoT.workR
 cases k.ne.de.failing
 ·exact inst_cases k st
 ·exact undo_cases k
def gFa (x:Bool)(r:Rws):Bool:=isDeal r&&(dOf r).failing==x
theorem sub_fa {gl:Gl}(hgl:Low gl)(x:Bool):SubOK Tryz.prog gl (hFa x (gFa x)).1 (hFa x (gFa x)).2:=hdMw (sub_dFailing hgl) fun r _ h=>⟨(andE h).1,by rw[eq_of_beq (andE h).2],(dealR_of (andE h).1).symm⟩
theorem gFa_t {d:DealS}{x:Bool}(h:d.failing=x):gFa x (dealR d)=true:=by unfold gFa;rw[isDeal_t,dOf_eq,h,beq_self_eq_true];rfl
theorem hs_ok {gl:Gl}{X:List (FuncId×Hd)}(h: ∀p∈X,SubOK Tryz.prog gl p.1 p.2):(hsOf [] X []).OK Tryz.prog gl:=hsOf_ok (fun _ h=>nomatch h) h (fun _ h=>nomatch h)
theorem coC_w {k:CoT}(h1:k.hal=false)(h2:k.ne.waits=false):coC k=[some (.box (coX k.c k.id k.prog.length k.r k.at_ k.count false k.fl (cdsL k.prog) (nearX k.ne.c k.ne.id k.ne.ask false (cacheR k.ne.ca) (backsR k.ne.ba) (marksR k.ne.ma) (dealR k.ne.de)) k.lg++[none]) [1001]),some (.box (memR k.me) [])]:=by
 unfold coC CoT.cx nearR
 rw[h1,h2]
theorem coC_same {k k':CoT}(h:SameC k k'):coC k'=[some (.box (coX k.c k.id k.prog.length k'.r k'.at_ k'.count k'.hal k'.fl (cdsL k.prog) (nearX k.ne.c k.ne.id k'.ne.ask k'.ne.waits (cacheR k'.ne.ca) (backsR k'.ne.ba) (marksR k'.ne.ma) (dealR k'.ne.de)) k'.lg++[none]) [1001]),some (.box (memR k'.me) [])]:=by
 unfold coC CoT.cx nearR
 rw[h.c,h.id,h.pr,h.nc,h.ni]
abbrev uAt (k:CoT):List Value→Rws→Bool:=atS [pK 1000] (coO k.c k.id k.prog.length k.r k.at_ k.count false k.fl (cdsL k.prog) k.ne.c k.ne.id k.ne.ask false (cacheR k.ne.ca) (backsR k.ne.ba) (marksR k.ne.ma) (dealR k.ne.de) k.lg (memR k.me))
abbrev nAt (k:CoT)(st:Int):List Value→Rws→Bool:=atS [pK 1000,.int .u64 st] (coO k.c k.id k.prog.length k.r k.at_ k.count false k.fl (cdsL k.prog) k.ne.c k.ne.id k.ne.ask false (cacheR k.ne.ca) (backsR k.ne.ba) (marksR k.ne.ma) (dealR k.ne.de) k.lg (memR k.me))
theorem coT_w {k:CoT}(h1:k.hal=false)(h2:k.ne.waits=false):coT k=coO k.c k.id k.prog.length k.r k.at_ k.count false k.fl (cdsL k.prog) k.ne.c k.ne.id k.ne.ask false (cacheR k.ne.ca) (backsR k.ne.ba) (marksR k.ne.ma) (dealR k.ne.de) k.lg (memR k.me):=by
 unfold coT;rw[h1,h2]
theorem sub_works {gl:Gl}(hF:GlF gl)(hgl:Low gl){k:CoT}{st:Int}(hp:StepP k st):(k.ne.de.failing=true∧SubOK Tryz.prog gl 55 (gH (uAt k) (wkOut (k.workR st))))∨(k.ne.de.failing=false∧SubOK Tryz.prog gl 56 (gH (nAt k st) (wkOut (k.workR st)))):=by
 unfold CoT.workR
 cases hf:k.ne.de.failing with
 |true=>
  have h:=sub_undo hgl (hp.un hf)
  rw[coT_w hp.mp.hal hp.mp.wt]at h
  exact .inl ⟨rfl,h⟩
 |false=>
  have h:=sub_inst hF hgl (hp.ins hf)
  rw[coT_w hp.mp.hal hp.mp.wt]at h
  exact .inr ⟨rfl,h⟩
theorem wkOut_ns {q:WkR}{n:NoteS}{l:List NoteS}(h:q.2.1=n::l):wkOut q=(.normal,[.tuple #[.slice (some ⟨1009,0,none⟩) (l.length+1) (l.length+1),evA q.2.2.1,.int .i64 q.2.2.2]],coT q.1++[some (notesRow (notesL (n::l)) 24)]):=by
 unfold wkOut
 rw[h];rfl
theorem stOut_nil {q:WkR}(h:q.2.1=[]):stOut q=(.normal,[.tuple #[.slice none 0 0,evA q.2.2.1,.int .i64 q.2.2.2]],coC q.1):=by
 unfold stOut
 rw[h]
 show(Ex.normal,_,coC q.1++[])=_
 rw[List.append_nil];rfl
theorem stOut_ns {q:WkR}{n:NoteS}{l:List NoteS}(h:q.2.1=n::l):stOut q=(.normal,[.tuple #[.slice (some ⟨1002,0,none⟩) (l.length+1) (l.length+1),evA q.2.2.1,.int .i64 q.2.2.2]],coC q.1++[some (notesRow (notesL (n::l)) 24)]):=by
 unfold stOut
 rw[h];rfl
theorem sub_step {gl:Gl}(hF:GlF gl)(hgl:Low gl){k:CoT}{st:Int}(hp:StepP k st):SubOK Tryz.prog gl 10 (gH (atS [pK 1000,.int .u64 st] (coC k)) (stOut (k.workR st))):=by
 have hs:(st==0)=false:=beq_eq_false_iff_ne.mpr hp.s0
 have hw:=sub_works hF hgl hp
 rw[coC_w hp.mp.hal hp.mp.wt]
 rcases work_cases k st with⟨hq,hsm⟩|⟨n1,l,k',hq,e1,e2,e3,e4⟩
 ·generalize k.workR st=q at *
  rw[stOut_nil hq,coC_same hsm]
  rw[wkOut_nil hq,coT_same hsm]at hw
  rcases hw with⟨hf,hw⟩|⟨hf,hw⟩
  ·refine atV hgl (hs_ok (sxC (sub_fa hgl true) (sxC hw (sxC sub_nev sx0)))) ((r_sN gl k.c k.ne.c k.id k.ne.id _ k.r k.at_ k.count k.fl _ k.ne.ask _ _ _ _ _ _ st _ _ _ _ _ _ _ _ _ _ _ _ _ _ _ _ _ _ _).trans ?_)
   simp only[cdsL_af,Bool.and_self,cond_true]
   exact condE hs (condI (gFa_t hf) (condI (atS_self _ _) rfl))
  ·refine atV hgl (hs_ok (sxC (sub_fa hgl false) (sxC sub_nev (sxC hw sx0)))) ((r_sN gl k.c k.ne.c k.id k.ne.id _ k.r k.at_ k.count k.fl _ k.ne.ask _ _ _ _ _ _ st _ _ _ _ _ _ _ _ _ _ _ _ _ _ _ _ _ _ _).trans ?_)
   simp only[cdsL_af,Bool.and_self,cond_true,cond_false]
   exact condE hs (condI (gFa_t hf) (condI (atS_self _ _) rfl))
 ·have hsm:SameC k (k.setN k'):=⟨rfl,rfl,rfl,e1,e2⟩
  have hq1:(k.workR st).2.1=n1::l:=by rw[hq]
  have hs1:SameC k (k.workR st).1:=by rw[hq];exact hsm
  generalize k.workR st=q at *
  rw[stOut_ns hq1,coC_same hs1]
  rw[wkOut_ns hq1,coT_same hs1]at hw
  rcases hw with⟨hf,hw⟩|⟨hf,hw⟩
  ·refine atV hgl (hs_ok (sxC (sub_fa hgl true) (sxC hw (sxC sub_nev sx0)))) ((r_sA gl k.c k.ne.c k.id k.ne.id _ k.r k.at_ k.count k.fl _ k.ne.ask _ _ _ _ _ _ st _ _ _ _ _ _ _ _ _ _ _ _ _ _ _ _ _ _ _ _ _).trans ?_)
   simp only[cdsL_af,notesL_af,Bool.and_self,cond_true]
   exact condE hs (condI (gFa_t hf) (condI (atS_self _ _) rfl))
  ·refine atV hgl (hs_ok (sxC (sub_fa hgl false) (sxC sub_nev (sxC hw sx0)))) ((r_sA gl k.c k.ne.c k.id k.ne.id _ k.r k.at_ k.count k.fl _ k.ne.ask _ _ _ _ _ _ st _ _ _ _ _ _ _ _ _ _ _ _ _ _ _ _ _ _ _ _ _).trans ?_)
   simp only[cdsL_af,notesL_af,Bool.and_self,cond_true,cond_false]
   exact condE hs (condI (gFa_t hf) (condI (atS_self _ _) rfl))
theorem coC_e (k:CoT):coC k=[some (.box (coX k.c k.id k.prog.length k.r k.at_ k.count k.hal k.fl (cdsL k.prog) (nearX k.ne.c k.ne.id k.ne.ask k.ne.waits (cacheR k.ne.ca) (backsR k.ne.ba) (marksR k.ne.ma) (dealR k.ne.de)) k.lg++[none]) [1001]),some (.box (memR k.me) [])]:=rfl
theorem sub_stepE {gl:Gl}(hgl:Low gl){k:CoT}{st:Int}(hs:st≠0)(h:k.ne.waits=true∨k.hal=true):SubOK Tryz.prog gl 10 (gH (atS [pK 1000,.int .u64 st] (coC k)) (.normal,[.tuple #[.slice none 0 0,evA ev0,.int .i64 8]],coC k)):=by
 have hs:(st==0)=false:=beq_eq_false_iff_ne.mpr hs
 rw[coC_e]
 refine atV hgl (hs_ok (sxC (sub_fa hgl false) (sxC sub_dead (sxC sub_dead sx0)))) ((r_sE gl k.c k.ne.c k.id k.ne.id _ k.r k.at_ k.count k.fl _ k.ne.ask k.ne.waits k.hal _ _ _ _ _ _ st _).trans ?_)
 simp only[cdsL_af,Bool.and_self,cond_true]
 refine condE hs ?_
 cases hw:k.ne.waits with
 |true=>exact condI rfl rfl
 |false=>
  rw[hw]at h
  rcases h with h|h
  ·cases h
  ·rw[h];exact condE rfl (condI rfl rfl)
theorem sub_take6 {gl:Gl}(hF:GlF gl)(hgl:Low gl){k:CoT}{st:Int}{n:NoteS}(hh:k.hal=false)(hf:k.ne.fits {n with kind:=6}=true)(hw:k.ne.waits=true)(hb:(k.ne.ask.block==n.block)=true)(hs:(n.state==3)=(k.ne.ask.kind==2))(hpE:(k.ne.ca.putE ⟨n.block,n.state,n.data⟩ !=0)=false)(hc:k.ne.ca.ok)
 {q:WkR} (hq:(k.setN (k.ne.given n)).workR st=q) (hp:StepP (k.setN (k.ne.given n)) st) (hn:q.2.1=[]) (hsm:SameC k q.1):
 SubOK Tryz.prog gl 41 (gH (atS [pK 1000,noteV {n with kind:=6},.int .u64 st] (coC k)) (.normal,[.tuple #[.slice (some ⟨1002,0,none⟩) 1 1,evA q.2.2.1,.int .i64 0]],coC q.1++[some (notesRow (notesL [k.ne.noteN 11 n.block]) 0)])):=by
 have h0:(st==0)=false:=beq_eq_false_iff_ne.mpr hp.s0
 have hT:=sub_neT6 hgl hc hf hw hb hs hpE
 have hW:=sub_works hF hgl hp
 have hfa:(k.setN (k.ne.given n)).ne.de.failing=k.ne.de.failing:=rfl
 rw[hq,wkOut_nil hn,coT_same hsm,hfa]at hW
 rw[coC_same hsm,coC_e]
 rw[hh]
 have hnr:nearR k.ne=nearX k.ne.c k.ne.id k.ne.ask true (cacheR k.ne.ca) (backsR k.ne.ba) (marksR k.ne.ma) (dealR k.ne.de):=nearR_wt hw
 rw[hnr]at hT
 rw[hw]
 rcases hW with⟨hf,hW⟩|⟨hf,hW⟩
 ·refine atV hgl (hs_ok (sxC hT (sxC (sub_fa hgl true) (sxC hW (sxC sub_nev sx0))))) ((r_t6N gl k.c k.ne.c k.id k.ne.id _ k.r k.at_ k.count k.fl _ k.ne.ask _ _ _ _ _ _ st n _ _ _ _ _ _ _ _ _ _ _ _ _ _ _ _ _ _ _ _ _ _).trans ?_)
  simp only[cdsL_af,Bool.and_self,cond_true,qs_eq,qb_eq]
  exact condE h0 (condI (atS_self _ _) (condI (gFa_t hf) (condI (atS_self _ _) rfl)))
 ·refine atV hgl (hs_ok (sxC hT (sxC (sub_fa hgl false) (sxC sub_nev (sxC hW sx0))))) ((r_t6N gl k.c k.ne.c k.id k.ne.id _ k.r k.at_ k.count k.fl _ k.ne.ask _ _ _ _ _ _ st n _ _ _ _ _ _ _ _ _ _ _ _ _ _ _ _ _ _ _ _ _ _).trans ?_)
  simp only[cdsL_af,Bool.and_self,cond_true,cond_false,qs_eq,qb_eq]
  exact condE h0 (condI (atS_self _ _) (condI (gFa_t hf) (condI (atS_self _ _) rfl)))
theorem sub_take8 {gl:Gl}(hgl:Low gl){k:CoT}{st:Int}{n:NoteS}(hs:st≠0)(hk:k.ne.ba.ok)(hf:k.ne.fits {n with kind:=8}=true)(hi:k.ne.ba.is n.block=true):
 SubOK Tryz.prog gl 41 (gH (atS [pK 1000,noteV {n with kind:=8},.int .u64 st] (coC k)) (.normal,[.tuple #[.slice none 0 0,evA (k.ev 12 0 0),.int .i64 0]],coC (k.setN (k.ne.taken n.block)))):=by
 have h0:(st==0)=false:=beq_eq_false_iff_ne.mpr hs
 have hT:=sub_neT8 hgl hk hf hi
 rw[coC_e]
 refine atV hgl (hs_ok (sxC hT (sxC sub_dead (sxC sub_dead sx0)))) ((r_t8 gl k.c k.ne.c k.id k.ne.id _ k.r k.at_ k.count k.fl _ k.ne.ask k.ne.waits k.hal _ _ _ _ _ _ st n _ _).trans ?_)
 simp only[cdsL_af,Bool.and_self,cond_true,qs_eq,qb_eq]
 exact condE h0 (condI (atS_self _ _) rfl)
end Go.Proofs.YtpcbedgaecbfmaaGreatDoor
