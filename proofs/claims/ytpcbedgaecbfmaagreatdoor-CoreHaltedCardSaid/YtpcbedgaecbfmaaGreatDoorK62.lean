/- A core's side: its state, what it asks. No condition. -/
import Derived.Test.YtpcbedgaecbfmaaGreatDoorK61
noncomputable section
namespace Go.Proofs.YtpcbedgaecbfmaaGreatDoor
open Go.Proofs.YtpcbedgaecbfmaaGreatDoor.Ev Go.RowKit
theorem hdMw {gl:Gl}{f:FuncId}{α:Type}{D:Dec α}{g g':Rws→α→Bool}{v v':Rws→α→Value}{n n':Rws→α→Rws}(hs:SubOK Tryz.prog gl f (hdM D g v n))(h: ∀r x,g' r x=true→g r x=true∧v' r x=v r x∧n' r x=n r x):SubOK Tryz.prog gl f (hdM D g' v' n'):=by
 intro vs rows t e u rows' h1 h2
 unfold hdM at h1
 split at h1
 case h_2=>cases h1
 rename_i a args r
 obtain⟨h3,h4⟩:=condT h1
 obtain⟨x,h5,h6⟩:=qm1.1 h4
 subst h6
 obtain⟨h7,h8⟩:=condT (show cond (g' r x) (some (.normal,[v' r x],[some (.box (n' r x) [])])) none=some (e,[u],rows')from h2)
 obtain⟨k1,k2,k3⟩:=h r x h7
 rw[k2,k3]at h8
 refine hs (.pointer (some a)::args) [some (.box r [])] (.br (g r x) (.ret (.normal,[v r x],[some (.box (n r x) [])])) .fail) e u rows' ?_ ?_
 ·unfold hdM
  simp only[h3,cond_true,h5,Option.map_some]
 ·show cond (g r x) _ none=_
  rw[k1];exact h8
def CacheS.drop (k:CacheS)(b:Int):CacheS:=match k.ix b with
 |some j=>k.setL b j ln0
 |none=>k
def BacksS.drop (k:BacksS)(b:Int):BacksS:=match k.ix b with
 |some j=>{k with p:=k.p.take (j:Int)}
 |none=>k
theorem cacheR_of {r:Rws}(h:isCache r=true):cacheR (cOf r)=r:=by
 obtain⟨k,_,rfl⟩:=of_cl h
 rw[cOf_eq]
theorem backsR_of {r:Rws}(h:isBacks r=true):backsR (bkOf r)=r:=by
 obtain⟨k,hk,rfl⟩:=of_cl h
 rw[bkOf_eq hk]
theorem marksR_of {r:Rws}(h:isMarks r=true):marksR (kOf r)=r:=by
 obtain⟨k,rfl⟩:=of_cl h
 rw[kOf_eq]
theorem dealR_of {r:Rws}(h:isDeal r=true):dealR (dOf r)=r:=by
 obtain⟨d,rfl⟩:=of_cl h
 rw[dOf_eq]
def nF:NrF where
 cf:=fun r _=>isCache r
 cl:=fun r b=>(cOf r).line b
 ci:=fun r b=>(cOf r).is b
 gf:=fun r _=>isCache r
 cgl:=fun r b=>(cOf r).gone b
 cgi:=fun r b=>(cOf r).goesB b
 df:=fun r _=>isCache r
 cb:=fun r b=>(cOf r).is b
 cd:=fun r b=>cacheR ((cOf r).drop b)
 uf:=fun r b=>isCache r&&(cOf r).is b
 cu:=fun r b=>cacheR ((cOf r).use b)
 cg:=isCache
 ct:=fun r x=>cacheR ((cOf r).turn x.1 x.2)
 ctE:=fun r x=>(cOf r).turnE x.1 x.2
 wf:=fun r x=>isCache r&&(cOf r).writeE x.1 x.2.1==0
 cw:=fun r x=>cacheR ((cOf r).write x.1 x.2.1 x.2.2)
 cp:=fun r x=>cacheR ((cOf r).put x)
 cpE:=fun r x=>(cOf r).putE x
 bf:=fun r _=>isBacks r
 be:=fun r b=>(bkOf r).e b
 bi:=fun r b=>(bkOf r).is b
 bg:=isBacks
 bx:=fun r _=>isBacks r
 bb:=fun r b=>(bkOf r).is b
 bd:=fun r b=>backsR ((bkOf r).drop b)
 bp:=fun r x=>backsR ((bkOf r).put x.1 x.2)
 bpE:=fun r x=>(bkOf r).putE x.1
 kx:=fun r b=>isBacks r&&((bkOf r).e b).live
 bk:=fun r b=>backsR ((bkOf r).kill b)
 br:=fun r=>(bkOf r).p.roomI
 kf:=fun r _=>isMarks r
 kr:=fun r b=>(kOf r).r b
 kw:=fun r b=>(kOf r).w b
 mf:=fun r _=>isMarks r
 km:=fun r x=>(kOf r).meets x.1 x.2
 kg:=isMarks
 kR:=fun r b=>marksR ((kOf r).put b true false)
 kW:=fun r b=>marksR ((kOf r).put b false true)
 kE:=fun r b=>(kOf r).putE b
 kc:=fun r=>marksR {kOf r with l:=[]}
 dg:=isDeal
 dd:=fun r=>(dOf r).depth
 ds:=fun r=>(dOf r).st
 af:=fun r _=>isDeal r
 da:=fun r x=>dealR ((dOf r).asked x.1 x.2)
 dr:=fun r x=>(dOf r).refuses x.1
 ff:=fun r _=>isDeal r
 fx:=fun r x=>(dOf r).gives x
structure NrOk (F:NrF):Prop where
 find: ∀r b,F.cf r b=true→isCache r=true∧F.cl r b=(cOf r).line b∧F.ci r b=(cOf r).is b
 goes: ∀r b,F.gf r b=true→isCache r=true∧F.cgl r b=(cOf r).gone b∧F.cgi r b=(cOf r).goesB b
 drop: ∀r b,F.df r b=true→isCache r=true∧F.cb r b=(cOf r).is b
 back: ∀r b,F.bf r b=true→isBacks r=true∧F.be r b=(bkOf r).e b∧F.bi r b=(bkOf r).is b
 has: ∀r b,F.kf r b=true→isMarks r=true∧F.kr r b=(kOf r).r b∧F.kw r b=(kOf r).w b
 meets: ∀r x,F.mf r x=true→isMarks r=true∧F.km r x=(kOf r).meets x.1 x.2
 bdrop: ∀r b,F.bx r b=true→isBacks r=true∧F.bb r b=(bkOf r).is b
 asked: ∀r x,F.af r x=true→isDeal r=true∧F.dr r x=(dOf r).refuses x.1
 refused: ∀r x,F.ff r x=true→isDeal r=true∧F.fx r x=(dOf r).gives x
 rest:F={nF with cf:=F.cf,cl:=F.cl,ci:=F.ci,gf:=F.gf,cgl:=F.cgl,cgi:=F.cgi,df:=F.df,cb:=F.cb,bf:=F.bf,be:=F.be,bi:=F.bi,kf:=F.kf,kr:=F.kr,kw:=F.kw,mf:=F.mf,km:=F.km,bx:=F.bx,bb:=F.bb,af:=F.af,dr:=F.dr,ff:=F.ff,fx:=F.fx}
theorem HNe_ok {gl:Gl}(hgl:Low gl){F:NrF}(h:NrOk F):(HNe noteE dataP F).OK Tryz.prog gl:=by
 have hr:=h.rest
 refine hsOf_ok (fun p hp=>?_) (fun p hp=>?_) (fun _ h=>nomatch h)
 ·simp only[List.mem_cons,List.not_mem_nil,or_false]at hp
  rcases hp with rfl|rfl
  ·exact fn_nMay hgl
  ·exact fn_pData hgl
 simp only[List.mem_cons,List.not_mem_nil,or_false]at hp
 rcases hp with rfl|rfl|rfl|rfl|rfl|rfl|rfl|rfl|rfl|rfl|rfl|rfl|rfl|rfl|rfl|rfl|rfl|rfl|rfl|rfl|rfl
 ·exact hdMw (sub_caFind hgl) fun r b q=>let⟨a,e1,e2⟩:=h.find r b q;⟨a,by rw[e1,e2],(cacheR_of a).symm⟩
 ·exact hdMw (sub_caGoes hgl) fun r b q=>let⟨a,e1,e2⟩:=h.goes r b q;⟨a,by rw[e1,e2],(cacheR_of a).symm⟩
 ·exact hdMw (sub_caDrop hgl) fun r b q=>let⟨a,e1⟩:=h.drop r b q;⟨a,by rw[e1],by rw[hr];show cacheR ((cOf r).drop b)=_;unfold CacheS.drop;rfl⟩
 ·exact hdMw (sub_caUse hgl) fun r b q=>by
   rw[hr]at q
   obtain⟨a,e⟩:=(qa1 _ _).mp (show(isCache r&&(cOf r).is b)=true from q)
   exact⟨a,by rw[e],by rw[hr];rfl⟩
 ·exact hdMw (sub_caTurn hgl) fun r x q=>⟨by rw[hr]at q;exact q,by rw[hr];rfl,by rw[hr];rfl⟩
 ·exact hdMw (sub_caWrite hgl) fun r x q=>by
   rw[hr]at q
   obtain⟨a,e⟩:=(qa1 _ _).mp (show(isCache r&&(cOf r).writeE x.1 x.2.1==0)=true from q)
   exact⟨a,by rw[eq_of_beq e],by rw[hr];rfl⟩
 ·exact hdMw (sub_caPut hgl) fun r x q=>⟨by rw[hr]at q;exact q,by rw[hr];rfl,by rw[hr];rfl⟩
 ·exact hdMw (sub_baFind hgl) fun r b q=>let⟨a,e1,e2⟩:=h.back r b q;⟨a,by rw[e1,e2],(backsR_of a).symm⟩
 ·exact hdMw (sub_baDrop hgl) fun r b q=>let⟨a,e1⟩:=h.bdrop r b q;⟨a,by rw[e1],by rw[hr];show backsR ((bkOf r).drop b)=_;unfold BacksS.drop;rfl⟩
 ·exact hdMw (sub_baPut hgl) fun r x q=>⟨by rw[hr]at q;exact q,by rw[hr];rfl,by rw[hr];rfl⟩
 ·exact hdMw (sub_baKill hgl) fun r b q=>by
   rw[hr]at q
   obtain⟨a,e⟩:=(qa1 _ _).mp (show(isBacks r&&((bkOf r).e b).live)=true from q)
   exact⟨a,by rw[e],by rw[hr];rfl⟩
 ·exact hdMw (sub_baRoom hgl) fun r x q=>by
   rw[hr]at q
   exact⟨q,by rw[hr];rfl,(backsR_of q).symm⟩
 ·exact hdMw (sub_kHas hgl) fun r b q=>let⟨a,e1,e2⟩:=h.has r b q;⟨a,by rw[e1,e2],(marksR_of a).symm⟩
 ·exact hdMw (sub_kMeets hgl) fun r x q=>let⟨a,e1⟩:=h.meets r x q;⟨a,by rw[e1],(marksR_of a).symm⟩
 ·exact hdMw (sub_kRead hgl) fun r x q=>⟨by rw[hr]at q;exact q,by rw[hr];rfl,by rw[hr];rfl⟩
 ·exact hdMw (sub_kWrite hgl) fun r x q=>⟨by rw[hr]at q;exact q,by rw[hr];rfl,by rw[hr];rfl⟩
 ·exact hdMw (sub_kClear hgl) fun r x q=>⟨by rw[hr]at q;exact q,rfl,by rw[hr];rfl⟩
 ·exact hdMw (sub_dDepth hgl) fun r x q=>by
   rw[hr]at q
   exact⟨q,by rw[hr];rfl,(dealR_of q).symm⟩
 ·exact hdMw (sub_dStamp hgl) fun r x q=>by
   rw[hr]at q
   exact⟨q,by rw[hr];rfl,(dealR_of q).symm⟩
 ·exact hdMw (sub_dAsked hgl) fun r x q=>let⟨a,e1⟩:=h.asked r x q;⟨a,by rw[e1],by rw[hr];rfl⟩
 ·exact hdMw (sub_dRefused hgl) fun r x q=>let⟨a,e1⟩:=h.refused r x q;⟨a,by rw[e1],(dealR_of a).symm⟩
structure NearS where
 c:Cfg
 id:Int
 ask:NoteS
 waits:Bool
 ca:CacheS
 ba:BacksS
 ma:MarksS
 de:DealS
def nearR (k:NearS):Rws:=nearX k.c k.id k.ask k.waits (cacheR k.ca) (backsR k.ba) (marksR k.ma) (dealR k.de)
theorem ixFrom_none {α:Type}{p:α→Bool}: ∀{L:List α} {s:Nat},ixFrom p L s=none→ ∀x∈L,p x=false
 |[],_,_,x,hx=>by cases hx
 |l::L,s,h,x,hx=>by
  simp only[ixFrom]at h
  cases hp:p l with
  |true=>rw[hp]at h;cases h
  |false=>
   rw[hp]at h
   rcases List.mem_cons.1 hx with rfl|hx
   ·exact hp
   ·exact ixFrom_none (s:=s+1) h x hx
theorem ixFrom_isSome {α:Type}{p:α→Bool}: ∀{L:List α} {s:Nat} {x:α},x∈L→p x=true→(ixFrom p L s).isSome=true
 |[],_,x,hx,_=>by cases hx
 |l::L,s,x,hx,hp=>by
  simp only[ixFrom]
  cases hl:p l with
  |true=>rfl
  |false=>
   rcases List.mem_cons.1 hx with rfl|hx
   ·rw[hp]at hl;cases hl
   ·exact ixFrom_isSome hx hp
def CacheS.wf (k:CacheS):Prop:= ∀(i:Nat) l,k.lines[i]? =some l→l.state≠0→mbI l.block=true∧k.lo l.block≤i∧i<k.lo l.block+k.w
theorem seg_mem {L:List LineS}{a n j:Nat}{l:LineS}(hj:j<n)(h:L[a+j]? =some l):l∈seg L a n:=by
 unfold seg
 refine List.mem_of_getElem? (i:=j) ?_
 rw[List.getElem?_take,if_pos hj,List.getElem?_drop,h]
theorem lo_eq {k:CacheS}{a b:Int}{j:Nat}(hj:j<k.w)(h1:k.lo a≤k.lo b+j)(h2:k.lo b+j<k.lo a+k.w):k.lo a=k.lo b:=by
 unfold CacheS.lo at *
 have:k.sn a=k.sn b:=by
  rcases Nat.lt_trichotomy (k.sn a) (k.sn b)with h|h|h
  ·have:=Nat.mul_le_mul_right k.w (show k.sn a+1≤k.sn b from h)
   rw[Nat.add_mul,Nat.one_mul]at this;omega
  ·exact h
  ·have:=Nat.mul_le_mul_right k.w (show k.sn b+1≤k.sn a from h)
   rw[Nat.add_mul,Nat.one_mul]at this;omega
 rw[this]
theorem goes_some {k:CacheS}(hk:k.ok)(hw:k.wf){b:Int}{l:LineS}(h:k.goes b=some l):l.state≠0∧k.is l.block=true∧k.is b=false∧mbI l.block=true:=by
 unfold CacheS.goes at h
 cases hm:mbI b with
 |false=>rw[hm]at h;cases h
 |true=>
  rw[hm]at h
  cases hf:k.fi b with
  |some j=>rw[hf]at h;cases h
  |none=>
   rw[hf]at h
   cases hr:k.fr b with
   |some j=>rw[hr]at h;cases h
   |none=>
    rw[hr]at h
    simp only[cond_true]at h
    obtain⟨j,e1,e2,_⟩:=gn_bd hk b
    rw[e1,Int.toNat_natCast]at h
    have hmem:=seg_mem (a:=k.lo b) e2 h
    have hs:l.state≠0:=fun q=>by
     have:=ixFrom_none hr l hmem
     unfold freP at this
     rw[q]at this;cases this
    obtain⟨w1,w2,w3⟩:=hw _ l h hs
    have he:=lo_eq e2 w2 w3
    refine⟨hs,?_,?_,w1⟩
    ·unfold CacheS.is CacheS.ix
     rw[w1]
     show(k.fi l.block).isSome=true
     unfold CacheS.fi
     rw[he]
     refine ixFrom_isSome hmem ?_
     unfold hasP
     rw[beq_self_eq_true,Bool.and_true]
     simpa[bne]using hs
    ·unfold CacheS.is CacheS.ix
     rw[hm,hf];rfl
def wZ:W16:=⟨0,0,0,0,0,0,0,0,0,0,0,0,0,0,0,0⟩
def NearS.askN (k:NearS)(b:Int)(wr:Bool):NoteS:=⟨cond wr 2 1,k.id,-1,b,k.de.st,0,false,false,wZ⟩
def NearS.putN (k:NearS)(l:LineS):NoteS:=⟨3,k.id,-1,l.block,0,0,true,k.ma.r l.block||k.ma.w l.block,l.data⟩
def NearS.hit (k:NearS)(b:Int)(wr:Bool):Bool:=k.ca.is b&&(!wr||(k.ca.line b).state !=1)
def NearS.askR (k:NearS)(b:Int)(wr:Bool):Bool×List NoteS×Int×NearS:=cond (k.hit b wr) (true,[],0,k) (cond (k.ba.is b) (false,[],110,k) (match k.ca.goes b with
 |none=>(false,[k.askN b wr],0,{k with ask:=k.askN b wr,waits:=true})
 |some l=>cond (l.state !=1) (cond (k.ba.p.roomI==0) (false,[],110,k) (false,[k.putN l,k.askN b wr],0,{k with ask:=k.askN b wr,waits:=true,ca:=k.ca.drop l.block,ba:=k.ba.put l.block l.data}))
  (false,[k.askN b wr],0,{k with ask:=k.askN b wr,waits:=true,ca:=k.ca.drop l.block})))
def nsV (base:Nat)(l:List NoteS):Value:=match l with
 |[]=>.slice none 0 0
 |_::_=>.slice (some ⟨base,0,none⟩) l.length l.length
def nsR (l:List NoteS):Rws:=match l with
 |[]=>[]
 |_::_=>[some (notesRow (notesL l) 24)]
def askOut (k:NearS)(b:Int)(wr:Bool):Out:=(.normal,[.tuple #[.bool (k.askR b wr).1,nsV 1005 (k.askR b wr).2.1,.int .i64 (k.askR b wr).2.2.1]],nearR (k.askR b wr).2.2.2++nsR (k.askR b wr).2.1)
def nFq (cP gP dP:CacheS→Int→Bool)(bP:BacksS→Int→Bool)(kP:MarksS→Int→Bool):NrF:={nF with cf:=fun r b=>isCache r&&cP (cOf r) b,gf:=fun r b=>isCache r&&gP (cOf r) b,df:=fun r b=>isCache r&&dP (cOf r) b,bf:=fun r b=>isBacks r&&bP (bkOf r) b,kf:=fun r b=>isMarks r&&kP (kOf r) b}
theorem be_no {k:BacksS}{b:Int}(h:k.is b=false):(k.e b).live=false:=by
 unfold BacksS.is at h
 unfold BacksS.e
 cases hx:k.ix b with
 |none=>rfl
 |some j=>rw[hx]at h;cases h
theorem andE {a b:Bool}(h:(a&&b)=true):a=true∧b=true:=(qa1 _ _).mp h
theorem notE {a:Bool}(h:(!a)=true):a=false:=by simpa using h
def ttP {α:Type}:α→Int→Bool:=fun _ _=>true
theorem ok_h:NrOk ((nFq (fun k b=>k.is b) ttP ttP ttP ttP).b true) where
 find:=fun r b h=>⟨(andE h).1,rfl,(andE h).2.symm⟩
 goes:=fun r b h=>⟨(andE h).1,rfl,rfl⟩
 drop:=fun r b h=>⟨(andE h).1,rfl⟩
 back:=fun r b h=>⟨(andE h).1,rfl,rfl⟩
 has:=fun r b h=>⟨(andE h).1,rfl,rfl⟩
 meets:=fun r x h=>⟨h,rfl⟩
 bdrop:=fun r b h=>⟨h,rfl⟩
 asked:=fun r x h=>⟨h,rfl⟩
 refused:=fun r x h=>⟨h,rfl⟩
 rest:=rfl
theorem ok_h2:NrOk ((((nFq (fun k b=>k.is b) ttP ttP (fun k b=>k.is b&&(k.e b).live) ttP).b true).i true).l true) where
 find:=fun r b h=>⟨(andE h).1,rfl,(andE h).2.symm⟩
 goes:=fun r b h=>⟨(andE h).1,rfl,rfl⟩
 drop:=fun r b h=>⟨(andE h).1,rfl⟩
 back:=fun r b h=>⟨(andE h).1,by
  have:=(andE (andE h).2).2
  show BackS.mk ((bkOf r).e b).block ((bkOf r).e b).data true=_
  rw[←this],(andE (andE h).2).1.symm⟩
 has:=fun r b h=>⟨(andE h).1,rfl,rfl⟩
 meets:=fun r x h=>⟨h,rfl⟩
 bdrop:=fun r b h=>⟨h,rfl⟩
 asked:=fun r x h=>⟨h,rfl⟩
 refused:=fun r x h=>⟨h,rfl⟩
 rest:=rfl
theorem ok_0bt:NrOk ((((nFq (fun k b=>!k.is b) ttP ttP (fun k b=>k.is b&&(k.e b).live) ttP).b false).i true).l true) where
 find:=fun r b h=>⟨(andE h).1,rfl,(notE (andE h).2).symm⟩
 goes:=fun r b h=>⟨(andE h).1,rfl,rfl⟩
 drop:=fun r b h=>⟨(andE h).1,rfl⟩
 back:=fun r b h=>⟨(andE h).1,by
  have:=(andE (andE h).2).2
  show BackS.mk ((bkOf r).e b).block ((bkOf r).e b).data true=_
  rw[←this],(andE (andE h).2).1.symm⟩
 has:=fun r b h=>⟨(andE h).1,rfl,rfl⟩
 meets:=fun r x h=>⟨h,rfl⟩
 bdrop:=fun r b h=>⟨h,rfl⟩
 asked:=fun r x h=>⟨h,rfl⟩
 refused:=fun r x h=>⟨h,rfl⟩
 rest:=rfl
theorem ok_0bf:NrOk ((((nFq (fun k b=>!k.is b) ttP ttP (fun k b=>k.is b&&!(k.e b).live) ttP).b false).i true).l false) where
 find:=fun r b h=>⟨(andE h).1,rfl,(notE (andE h).2).symm⟩
 goes:=fun r b h=>⟨(andE h).1,rfl,rfl⟩
 drop:=fun r b h=>⟨(andE h).1,rfl⟩
 back:=fun r b h=>⟨(andE h).1,by
  have:=notE (andE (andE h).2).2
  show BackS.mk ((bkOf r).e b).block ((bkOf r).e b).data false=_
  rw[←this],(andE (andE h).2).1.symm⟩
 has:=fun r b h=>⟨(andE h).1,rfl,rfl⟩
 meets:=fun r x h=>⟨h,rfl⟩
 bdrop:=fun r b h=>⟨h,rfl⟩
 asked:=fun r x h=>⟨h,rfl⟩
 refused:=fun r x h=>⟨h,rfl⟩
 rest:=rfl
theorem ok_0n:NrOk (((((nFq (fun k b=>!k.is b) (fun k b=>!k.goesB b) ttP (fun k b=>!k.is b) ttP).b false).i false).l false).g false) where
 find:=fun r b h=>⟨(andE h).1,rfl,(notE (andE h).2).symm⟩
 goes:=fun r b h=>⟨(andE h).1,rfl,(notE (andE h).2).symm⟩
 drop:=fun r b h=>⟨(andE h).1,rfl⟩
 back:=fun r b h=>⟨(andE h).1,by
  have:=be_no (notE (andE h).2)
  show BackS.mk ((bkOf r).e b).block ((bkOf r).e b).data false=_
  rw[←this],(notE (andE h).2).symm⟩
 has:=fun r b h=>⟨(andE h).1,rfl,rfl⟩
 meets:=fun r x h=>⟨h,rfl⟩
 bdrop:=fun r b h=>⟨h,rfl⟩
 asked:=fun r x h=>⟨h,rfl⟩
 refused:=fun r x h=>⟨h,rfl⟩
 rest:=rfl
theorem ok_0gt:NrOk ((((((((nFq (fun k b=>!k.is b) (fun k b=>k.goesB b) (fun k b=>k.is b) (fun k b=>!k.is b) (fun k b=>k.r b&&k.w b)).b false).i false).l false).g true).d true).r true).v true) where
 find:=fun r b h=>⟨(andE h).1,rfl,(notE (andE h).2).symm⟩
 goes:=fun r b h=>⟨(andE h).1,rfl,(andE h).2.symm⟩
 drop:=fun r b h=>⟨(andE h).1,(andE h).2.symm⟩
 back:=fun r b h=>⟨(andE h).1,by
  have:=be_no (notE (andE h).2)
  show BackS.mk ((bkOf r).e b).block ((bkOf r).e b).data false=_
  rw[←this],(notE (andE h).2).symm⟩
 has:=fun r b h=>⟨(andE h).1,(andE (andE h).2).1.symm,(andE (andE h).2).2.symm⟩
 meets:=fun r x h=>⟨h,rfl⟩
 bdrop:=fun r b h=>⟨h,rfl⟩
 asked:=fun r x h=>⟨h,rfl⟩
 refused:=fun r x h=>⟨h,rfl⟩
 rest:=rfl
theorem ok_0gs:NrOk ((((((((nFq (fun k b=>!k.is b) (fun k b=>k.goesB b) (fun k b=>k.is b) (fun k b=>!k.is b) (fun k b=>k.r b&&!k.w b)).b false).i false).l false).g true).d true).r true).v false) where
 find:=fun r b h=>⟨(andE h).1,rfl,(notE (andE h).2).symm⟩
 goes:=fun r b h=>⟨(andE h).1,rfl,(andE h).2.symm⟩
 drop:=fun r b h=>⟨(andE h).1,(andE h).2.symm⟩
 back:=fun r b h=>⟨(andE h).1,by
  have:=be_no (notE (andE h).2)
  show BackS.mk ((bkOf r).e b).block ((bkOf r).e b).data false=_
  rw[←this],(notE (andE h).2).symm⟩
 has:=fun r b h=>⟨(andE h).1,(andE (andE h).2).1.symm,(notE (andE (andE h).2).2).symm⟩
 meets:=fun r x h=>⟨h,rfl⟩
 bdrop:=fun r b h=>⟨h,rfl⟩
 asked:=fun r x h=>⟨h,rfl⟩
 refused:=fun r x h=>⟨h,rfl⟩
 rest:=rfl
theorem ok_0gw:NrOk ((((((((nFq (fun k b=>!k.is b) (fun k b=>k.goesB b) (fun k b=>k.is b) (fun k b=>!k.is b) (fun k b=>!k.r b&&k.w b)).b false).i false).l false).g true).d true).r false).v true) where
 find:=fun r b h=>⟨(andE h).1,rfl,(notE (andE h).2).symm⟩
 goes:=fun r b h=>⟨(andE h).1,rfl,(andE h).2.symm⟩
 drop:=fun r b h=>⟨(andE h).1,(andE h).2.symm⟩
 back:=fun r b h=>⟨(andE h).1,by
  have:=be_no (notE (andE h).2)
  show BackS.mk ((bkOf r).e b).block ((bkOf r).e b).data false=_
  rw[←this],(notE (andE h).2).symm⟩
 has:=fun r b h=>⟨(andE h).1,(notE (andE (andE h).2).1).symm,(andE (andE h).2).2.symm⟩
 meets:=fun r x h=>⟨h,rfl⟩
 bdrop:=fun r b h=>⟨h,rfl⟩
 asked:=fun r x h=>⟨h,rfl⟩
 refused:=fun r x h=>⟨h,rfl⟩
 rest:=rfl
theorem ok_0gu:NrOk ((((((((nFq (fun k b=>!k.is b) (fun k b=>k.goesB b) (fun k b=>k.is b) (fun k b=>!k.is b) (fun k b=>!k.r b&&!k.w b)).b false).i false).l false).g true).d true).r false).v false) where
 find:=fun r b h=>⟨(andE h).1,rfl,(notE (andE h).2).symm⟩
 goes:=fun r b h=>⟨(andE h).1,rfl,(andE h).2.symm⟩
 drop:=fun r b h=>⟨(andE h).1,(andE h).2.symm⟩
 back:=fun r b h=>⟨(andE h).1,by
  have:=be_no (notE (andE h).2)
  show BackS.mk ((bkOf r).e b).block ((bkOf r).e b).data false=_
  rw[←this],(notE (andE h).2).symm⟩
 has:=fun r b h=>⟨(andE h).1,(notE (andE (andE h).2).1).symm,(notE (andE (andE h).2).2).symm⟩
 meets:=fun r x h=>⟨h,rfl⟩
 bdrop:=fun r b h=>⟨h,rfl⟩
 asked:=fun r x h=>⟨h,rfl⟩
 refused:=fun r x h=>⟨h,rfl⟩
 rest:=rfl
theorem ok_2bt:NrOk (((((nFq (fun k b=>k.is b&&(k.line b).state==1) ttP ttP (fun k b=>k.is b&&(k.e b).live) ttP).b true).s true).i true).l true) where
 find:=fun r b h=>⟨(andE h).1,by
  have:=eq_of_beq (andE (andE h).2).2
  show LineS.mk ((cOf r).line b).block 1 ((cOf r).line b).data=_
  rw[←this],(andE (andE h).2).1.symm⟩
 goes:=fun r b h=>⟨(andE h).1,rfl,rfl⟩
 drop:=fun r b h=>⟨(andE h).1,rfl⟩
 back:=fun r b h=>⟨(andE h).1,by
  have:=(andE (andE h).2).2
  show BackS.mk ((bkOf r).e b).block ((bkOf r).e b).data true=_
  rw[←this],(andE (andE h).2).1.symm⟩
 has:=fun r b h=>⟨(andE h).1,rfl,rfl⟩
 meets:=fun r x h=>⟨h,rfl⟩
 bdrop:=fun r b h=>⟨h,rfl⟩
 asked:=fun r x h=>⟨h,rfl⟩
 refused:=fun r x h=>⟨h,rfl⟩
 rest:=rfl
theorem ok_2bf:NrOk (((((nFq (fun k b=>k.is b&&(k.line b).state==1) ttP ttP (fun k b=>k.is b&&!(k.e b).live) ttP).b true).s true).i true).l false) where
 find:=fun r b h=>⟨(andE h).1,by
  have:=eq_of_beq (andE (andE h).2).2
  show LineS.mk ((cOf r).line b).block 1 ((cOf r).line b).data=_
  rw[←this],(andE (andE h).2).1.symm⟩
 goes:=fun r b h=>⟨(andE h).1,rfl,rfl⟩
 drop:=fun r b h=>⟨(andE h).1,rfl⟩
 back:=fun r b h=>⟨(andE h).1,by
  have:=notE (andE (andE h).2).2
  show BackS.mk ((bkOf r).e b).block ((bkOf r).e b).data false=_
  rw[←this],(andE (andE h).2).1.symm⟩
 has:=fun r b h=>⟨(andE h).1,rfl,rfl⟩
 meets:=fun r x h=>⟨h,rfl⟩
 bdrop:=fun r b h=>⟨h,rfl⟩
 asked:=fun r x h=>⟨h,rfl⟩
 refused:=fun r x h=>⟨h,rfl⟩
 rest:=rfl
theorem ok_2n:NrOk ((((((nFq (fun k b=>k.is b&&(k.line b).state==1) (fun k b=>!k.goesB b) ttP (fun k b=>!k.is b) ttP).b true).s true).i false).l false).g false) where
 find:=fun r b h=>⟨(andE h).1,by
  have:=eq_of_beq (andE (andE h).2).2
  show LineS.mk ((cOf r).line b).block 1 ((cOf r).line b).data=_
  rw[←this],(andE (andE h).2).1.symm⟩
 goes:=fun r b h=>⟨(andE h).1,rfl,(notE (andE h).2).symm⟩
 drop:=fun r b h=>⟨(andE h).1,rfl⟩
 back:=fun r b h=>⟨(andE h).1,by
  have:=be_no (notE (andE h).2)
  show BackS.mk ((bkOf r).e b).block ((bkOf r).e b).data false=_
  rw[←this],(notE (andE h).2).symm⟩
 has:=fun r b h=>⟨(andE h).1,rfl,rfl⟩
 meets:=fun r x h=>⟨h,rfl⟩
 bdrop:=fun r b h=>⟨h,rfl⟩
 asked:=fun r x h=>⟨h,rfl⟩
 refused:=fun r x h=>⟨h,rfl⟩
 rest:=rfl
structure AskP (k:NearS)(b:Int):Prop where
 c:k.ca.ok
 w:k.ca.wf
 bk:k.ba.ok
 f:k.waits=false
 l:0≤b
 h:b<dataP k.c
theorem AskP.d1 {k:NearS}{b:Int}(h:AskP k b):decide (b<0)=false:=qd2 (by have:=h.l;omega)
theorem AskP.d2 {k:NearS}{b:Int}(h:AskP k b):decide (b≥dataP k.c)=false:=qd2 (by have:=h.h;omega)
theorem nearR_w {k:NearS}(h:k.waits=false):nearR k=nearX k.c k.id k.ask false (cacheR k.ca) (backsR k.ba) (marksR k.ma) (dealR k.de):=by unfold nearR;rw[h]
theorem gC {k:CacheS}{P:CacheS→Int→Bool}{b:Int}(hk:k.ok)(h:P k b=true):(isCache (cacheR k)&&P (cOf (cacheR k)) b)=true:=by rw[isCache_t hk,cOf_eq,h];rfl
theorem gB {k:BacksS}{P:BacksS→Int→Bool}{b:Int}(hk:k.ok)(h:P k b=true):(isBacks (backsR k)&&P (bkOf (backsR k)) b)=true:=by rw[isBacks_t hk,bkOf_eq hk,h];rfl
theorem gM {k:MarksS}{P:MarksS→Int→Bool}{b:Int}(h:P k b=true):(isMarks (marksR k)&&P (kOf (marksR k)) b)=true:=by rw[isMarks_t,kOf_eq,h];rfl
theorem notT {a:Bool}(h:a=false):(!a)=true:=by rw[h];rfl
theorem neA {gl:Gl}(hgl:Low gl){k:NearS}{b:Int}{wr:Bool}{F:NrF}(hF:NrOk F)(hp:AskP k b){o:Out}(h:cV noSy gl (HNe noteE dataP F) 90 [pK 1000,.int .i64 b,.bool wr] (nearX k.c k.id k.ask false (cacheR k.ca) (backsR k.ba) (marksR k.ma) (dealR k.de)) noV=some o):SubOK Tryz.prog gl 90 (gH (atS [pK 1000,.int .i64 b,.bool wr] (nearR k)) o):=by
 rw[nearR_w hp.f]
 exact atV hgl (HNe_ok hgl hF) h
theorem neA_hit {gl:Gl}(hgl:Low gl){k:NearS}{b:Int}{wr:Bool}(hp:AskP k b)(h:k.hit b wr=true):SubOK Tryz.prog gl 90 (gH (atS [pK 1000,.int .i64 b,.bool wr] (nearR k)) (askOut k b wr)):=by
 have ho:askOut k b wr=(.normal,[.tuple #[.bool true,.slice none 0 0,.int .i64 0]],nearX k.c k.id k.ask false (cacheR k.ca) (backsR k.ba) (marksR k.ma) (dealR k.de)):=by
  unfold askOut NearS.askR
  rw[h,←nearR_w hp.f]
  simp only[cond_true,nsR,nsV,List.append_nil]
 obtain⟨h1,h2⟩:=andE h
 rw[ho]
 cases wr with
 |false=>exact neA hgl ok_h hp ((r_neAh gl noteE dataP _ k.c k.id k.ask _ _ _ _ b).trans (condE hp.d1 (condE hp.d2 (condI (gC (P:=fun k b=>k.is b) hp.c h1) rfl))))
 |true=>
  have h2:((k.ca.line b).state !=1)=true:=h2
  exact neA hgl ok_h2 hp ((r_neAh2 gl noteE dataP _ k.c k.id k.ask _ _ _ _ b).trans (condE hp.d1 (condE hp.d2 (condI (gC (P:=fun k b=>k.is b) hp.c h1) (condI (by show(((cOf (cacheR k.ca)).line b).state !=1)=true;rw[cOf_eq];exact h2) rfl)))))
theorem hit_no {k:NearS}{b:Int}{wr:Bool}(h:k.hit b wr=false):k.ca.is b=false∨(wr=true∧k.ca.is b=true∧((k.ca.line b).state==1)=true):=by
 unfold NearS.hit at h
 cases h1:k.ca.is b with
 |false=>exact .inl rfl
 |true=>
  rw[h1]at h
  cases wr with
  |false=>cases h
  |true=>exact .inr ⟨rfl,rfl,by simpa[bne]using h⟩
theorem nFq_cgl {a b c d e}{k:CacheS}{x:Int}:(nFq a b c d e).cgl (cacheR k) x=k.gone x:=by show(cOf (cacheR k)).gone x=_;rw[cOf_eq]
theorem nFq_cd {a b c d e}{k:CacheS}{x:Int}:(nFq a b c d e).cd (cacheR k) x=cacheR (k.drop x):=by show cacheR ((cOf (cacheR k)).drop x)=_;rw[cOf_eq]
theorem nFq_br {a b c d e}{k:BacksS}(h:k.ok):(nFq a b c d e).br (backsR k)=k.p.roomI:=by show(bkOf (backsR k)).p.roomI=_;rw[bkOf_eq h]
theorem nFq_bp {a b c d e}{k:BacksS}(h:k.ok){x:Int×W16}:(nFq a b c d e).bp (backsR k) x=backsR (k.put x.1 x.2):=by show backsR ((bkOf (backsR k)).put x.1 x.2)=_;rw[bkOf_eq h]
theorem nFq_ds {a b c d e}{q:DealS}:(nFq a b c d e).ds (dealR q)=q.st:=by show(dOf (dealR q)).st=_;rw[dOf_eq]
theorem neA_busy {gl:Gl}(hgl:Low gl){k:NearS}{b:Int}{wr:Bool}(hp:AskP k b)(h:k.hit b wr=false)(hb:k.ba.is b=true):SubOK Tryz.prog gl 90 (gH (atS [pK 1000,.int .i64 b,.bool wr] (nearR k)) (askOut k b wr)):=by
 have ho:askOut k b wr=(.normal,[.tuple #[.bool false,.slice none 0 0,.int .i64 110]],nearX k.c k.id k.ask false (cacheR k.ca) (backsR k.ba) (marksR k.ma) (dealR k.de)):=by
  unfold askOut NearS.askR
  rw[h,hb,←nearR_w hp.f]
  simp only[cond_true,cond_false,nsR,nsV,List.append_nil]
 rw[ho]
 cases hl:(k.ba.e b).live with
 |true=>
  have hB:=gB (P:=fun k b=>k.is b&&(k.e b).live) hp.bk (b:=b) (by rw[hb,hl];rfl)
  rcases hit_no h with h1|⟨rfl,h1,h2⟩
  ·have hC:=gC (P:=fun k b=>!k.is b) hp.c (b:=b) (notT h1)
   cases wr with
   |false=>exact neA hgl ok_0bt hp ((r_neA0bt gl noteE dataP _ k.c k.id k.ask _ _ _ _ b).trans (condE hp.d1 (condE hp.d2 (condI hC (condI hB rfl)))))
   |true=>exact neA hgl ok_0bt hp ((r_neA1bt gl noteE dataP _ k.c k.id k.ask _ _ _ _ b).trans (condE hp.d1 (condE hp.d2 (condI hC (condI hB rfl)))))
  ·have hC:=gC (P:=fun k b=>k.is b&&(k.line b).state==1) hp.c (b:=b) (andI h1 h2)
   exact neA hgl ok_2bt hp ((r_neA2bt gl noteE dataP _ k.c k.id k.ask _ _ _ _ b).trans (condE hp.d1 (condE hp.d2 (condI hC (condI hB rfl)))))
 |false=>
  have hB:=gB (P:=fun k b=>k.is b&&!(k.e b).live) hp.bk (b:=b) (by rw[hb,hl];rfl)
  rcases hit_no h with h1|⟨rfl,h1,h2⟩
  ·have hC:=gC (P:=fun k b=>!k.is b) hp.c (b:=b) (notT h1)
   cases wr with
   |false=>exact neA hgl ok_0bf hp ((r_neA0bf gl noteE dataP _ k.c k.id k.ask _ _ _ _ b).trans (condE hp.d1 (condE hp.d2 (condI hC (condI hB rfl)))))
   |true=>exact neA hgl ok_0bf hp ((r_neA1bf gl noteE dataP _ k.c k.id k.ask _ _ _ _ b).trans (condE hp.d1 (condE hp.d2 (condI hC (condI hB rfl)))))
  ·have hC:=gC (P:=fun k b=>k.is b&&(k.line b).state==1) hp.c (b:=b) (andI h1 h2)
   exact neA hgl ok_2bf hp ((r_neA2bf gl noteE dataP _ k.c k.id k.ask _ _ _ _ b).trans (condE hp.d1 (condE hp.d2 (condI hC (condI hB rfl)))))
theorem goesB_no {k:CacheS}{b:Int}(h:k.goes b=none):(!k.goesB b)=true:=by unfold CacheS.goesB;rw[h];rfl
theorem neA_none {gl:Gl}(hgl:Low gl){k:NearS}{b:Int}{wr:Bool}(hp:AskP k b)(h:k.hit b wr=false)(hb:k.ba.is b=false)(hg:k.ca.goes b=none):SubOK Tryz.prog gl 90 (gH (atS [pK 1000,.int .i64 b,.bool wr] (nearR k)) (askOut k b wr)):=by
 have ho:askOut k b wr=(.normal,[.tuple #[.bool false,.slice (some ⟨1005,0,none⟩) 1 1,.int .i64 0]],nearX k.c k.id (k.askN b wr) true (cacheR k.ca) (backsR k.ba) (marksR k.ma) (dealR k.de)++[some (notesRow (notesL [k.askN b wr]) 24)]):=by
  unfold askOut NearS.askR
  rw[h,hb,hg]
  simp only[cond_false]
  rfl
 rw[ho]
 have hB:=gB (P:=fun k b=>!k.is b) hp.bk (b:=b) (notT hb)
 have hG:=gC (P:=fun k b=>!k.goesB b) hp.c (b:=b) (goesB_no hg)
 rcases hit_no h with h1|⟨rfl,h1,h2⟩
 ·have hC:=gC (P:=fun k b=>!k.is b) hp.c (b:=b) (notT h1)
  cases wr with
  |false=>
   refine neA hgl ok_0n hp ((r_neA0n gl noteE dataP _ k.c k.id k.ask _ _ _ _ b).trans ?_)
   simp only[nFq_ds]
   exact condE hp.d1 (condE hp.d2 (condI hC (condI hB (condI hG (condI (isDeal_t _) rfl)))))
  |true=>
   refine neA hgl ok_0n hp ((r_neA1n gl noteE dataP _ k.c k.id k.ask _ _ _ _ b).trans ?_)
   simp only[nFq_ds]
   exact condE hp.d1 (condE hp.d2 (condI hC (condI hB (condI hG (condI (isDeal_t _) rfl)))))
 ·have hC:=gC (P:=fun k b=>k.is b&&(k.line b).state==1) hp.c (b:=b) (andI h1 h2)
  refine neA hgl ok_2n hp ((r_neA2n gl noteE dataP _ k.c k.id k.ask _ _ _ _ b).trans ?_)
  simp only[nFq_ds]
  exact condE hp.d1 (condE hp.d2 (condI hC (condI hB (condI hG (condI (isDeal_t _) rfl)))))
structure GoP (k:NearS)(b:Int)(l:LineS):Prop where
 g:k.ca.goes b=some l
 gone:k.ca.gone b=l
 gb:k.ca.goesB b=true
 no:k.ca.is b=false
 is:k.ca.is l.block=true
theorem goP {k:NearS}{b:Int}{l:LineS}(hp:AskP k b)(hg:k.ca.goes b=some l):GoP k b l:=by
 obtain⟨_,h2,h3,_⟩:=goes_some hp.c hp.w hg
 exact⟨hg,by unfold CacheS.gone;rw[hg];rfl,by unfold CacheS.goesB;rw[hg];rfl,h3,h2⟩
theorem neA_got {gl:Gl}(hgl:Low gl){k:NearS}{b:Int}{wr:Bool}(hp:AskP k b)(h:k.hit b wr=false)(hb:k.ba.is b=false){l:LineS}(hg:GoP k b l)(hr:k.ma.r l.block=true)(hw:k.ma.w l.block=true):SubOK Tryz.prog gl 90 (gH (atS [pK 1000,.int .i64 b,.bool wr] (nearR k)) (askOut k b wr)):=by
 have hC:=gC (P:=fun k b=>!k.is b) hp.c (b:=b) (notT hg.no)
 have hB:=gB (P:=fun k b=>!k.is b) hp.bk (b:=b) (notT hb)
 have hG:=gC (P:=fun k b=>k.goesB b) hp.c (b:=b) hg.gb
 have hD:=gC (P:=fun k b=>k.is b) hp.c (b:=l.block) hg.is
 have hM:=gM (P:=fun k b=>k.r b&&k.w b) (k:=k.ma) (b:=l.block) (by rw[hr,hw];rfl)
 have hBk:=isBacks_t hp.bk
 have ho:askOut k b wr=cond (l.state !=1) (cond (k.ba.p.roomI==0) (.normal,[.tuple #[.bool false,.slice none 0 0,.int .i64 110]],nearX k.c k.id k.ask false (cacheR k.ca) (backsR k.ba) (marksR k.ma) (dealR k.de))
  (.normal,[.tuple #[.bool false,.slice (some ⟨1005,0,none⟩) 2 2,.int .i64 0]],nearX k.c k.id (k.askN b wr) true (cacheR (k.ca.drop l.block)) (backsR (k.ba.put l.block l.data)) (marksR k.ma) (dealR k.de)++[some (notesRow (notesL [k.putN l,k.askN b wr]) 24)]))
  (.normal,[.tuple #[.bool false,.slice (some ⟨1005,0,none⟩) 1 1,.int .i64 0]],nearX k.c k.id (k.askN b wr) true (cacheR (k.ca.drop l.block)) (backsR k.ba) (marksR k.ma) (dealR k.de)++[some (notesRow (notesL [k.askN b wr]) 24)]):=by
  unfold askOut NearS.askR
  rw[h,hb,hg.g]
  simp only[cond_false]
  cases l.state !=1 with
  |false=>rfl
  |true=>
   cases k.ba.p.roomI==0 with
   |false=>rfl
   |true=>simp only[cond_true,nsR,nsV,List.append_nil,nearR_w hp.f]
 have hN:k.putN l=⟨3,k.id,-1,l.block,0,0,true,true,l.data⟩:=by unfold NearS.putN;rw[hr,hw];rfl
 rw[ho,hN]
 cases wr with
 |false=>
  refine neA hgl ok_0gt hp ((r_neA0gr gl noteE dataP _ k.c k.id k.ask _ _ _ _ b).trans ?_)
  simp only[nFq_ds,nFq_cgl,nFq_cd,nFq_br hp.bk,nFq_bp hp.bk,qs_eq,hg.gone]
  refine condE hp.d1 (condE hp.d2 (condI hC (condI hB (condI hG ?_))))
  cases l.state !=1 with
  |false=>exact condE rfl (condI hD (condI (isDeal_t _) rfl))
  |true=>
   refine condI rfl (condI hBk ?_)
   cases k.ba.p.roomI==0 with
   |true=>exact condI rfl rfl
   |false=>exact condE rfl (condI hBk (condI hM (condI hD (condI (isDeal_t _) rfl))))
 |true=>
  refine neA hgl ok_0gt hp ((r_neA1gr gl noteE dataP _ k.c k.id k.ask _ _ _ _ b).trans ?_)
  simp only[nFq_ds,nFq_cgl,nFq_cd,nFq_br hp.bk,nFq_bp hp.bk,qs_eq,hg.gone]
  refine condE hp.d1 (condE hp.d2 (condI hC (condI hB (condI hG ?_))))
  cases l.state !=1 with
  |false=>exact condE rfl (condI hD (condI (isDeal_t _) rfl))
  |true=>
   refine condI rfl (condI hBk ?_)
   cases k.ba.p.roomI==0 with
   |true=>exact condI rfl rfl
   |false=>exact condE rfl (condI hBk (condI hM (condI hD (condI (isDeal_t _) rfl))))
theorem neA_gos {gl:Gl}(hgl:Low gl){k:NearS}{b:Int}{wr:Bool}(hp:AskP k b)(h:k.hit b wr=false)(hb:k.ba.is b=false){l:LineS}(hg:GoP k b l)(hr:k.ma.r l.block=true)(hw:k.ma.w l.block=false):SubOK Tryz.prog gl 90 (gH (atS [pK 1000,.int .i64 b,.bool wr] (nearR k)) (askOut k b wr)):=by
 have hC:=gC (P:=fun k b=>!k.is b) hp.c (b:=b) (notT hg.no)
 have hB:=gB (P:=fun k b=>!k.is b) hp.bk (b:=b) (notT hb)
 have hG:=gC (P:=fun k b=>k.goesB b) hp.c (b:=b) hg.gb
 have hD:=gC (P:=fun k b=>k.is b) hp.c (b:=l.block) hg.is
 have hM:=gM (P:=fun k b=>k.r b&&!k.w b) (k:=k.ma) (b:=l.block) (by rw[hr,hw];rfl)
 have hBk:=isBacks_t hp.bk
 have ho:askOut k b wr=cond (l.state !=1) (cond (k.ba.p.roomI==0) (.normal,[.tuple #[.bool false,.slice none 0 0,.int .i64 110]],nearX k.c k.id k.ask false (cacheR k.ca) (backsR k.ba) (marksR k.ma) (dealR k.de))
  (.normal,[.tuple #[.bool false,.slice (some ⟨1005,0,none⟩) 2 2,.int .i64 0]],nearX k.c k.id (k.askN b wr) true (cacheR (k.ca.drop l.block)) (backsR (k.ba.put l.block l.data)) (marksR k.ma) (dealR k.de)++[some (notesRow (notesL [k.putN l,k.askN b wr]) 24)]))
  (.normal,[.tuple #[.bool false,.slice (some ⟨1005,0,none⟩) 1 1,.int .i64 0]],nearX k.c k.id (k.askN b wr) true (cacheR (k.ca.drop l.block)) (backsR k.ba) (marksR k.ma) (dealR k.de)++[some (notesRow (notesL [k.askN b wr]) 24)]):=by
  unfold askOut NearS.askR
  rw[h,hb,hg.g]
  simp only[cond_false]
  cases l.state !=1 with
  |false=>rfl
  |true=>
   cases k.ba.p.roomI==0 with
   |false=>rfl
   |true=>simp only[cond_true,nsR,nsV,List.append_nil,nearR_w hp.f]
 have hN:k.putN l=⟨3,k.id,-1,l.block,0,0,true,true,l.data⟩:=by unfold NearS.putN;rw[hr,hw];rfl
 rw[ho,hN]
 cases wr with
 |false=>
  refine neA hgl ok_0gs hp ((r_neA0gs gl noteE dataP _ k.c k.id k.ask _ _ _ _ b).trans ?_)
  simp only[nFq_ds,nFq_cgl,nFq_cd,nFq_br hp.bk,nFq_bp hp.bk,qs_eq,hg.gone]
  refine condE hp.d1 (condE hp.d2 (condI hC (condI hB (condI hG ?_))))
  cases l.state !=1 with
  |false=>exact condE rfl (condI hD (condI (isDeal_t _) rfl))
  |true=>
   refine condI rfl (condI hBk ?_)
   cases k.ba.p.roomI==0 with
   |true=>exact condI rfl rfl
   |false=>exact condE rfl (condI hBk (condI hM (condI hD (condI (isDeal_t _) rfl))))
 |true=>
  refine neA hgl ok_0gs hp ((r_neA1gs gl noteE dataP _ k.c k.id k.ask _ _ _ _ b).trans ?_)
  simp only[nFq_ds,nFq_cgl,nFq_cd,nFq_br hp.bk,nFq_bp hp.bk,qs_eq,hg.gone]
  refine condE hp.d1 (condE hp.d2 (condI hC (condI hB (condI hG ?_))))
  cases l.state !=1 with
  |false=>exact condE rfl (condI hD (condI (isDeal_t _) rfl))
  |true=>
   refine condI rfl (condI hBk ?_)
   cases k.ba.p.roomI==0 with
   |true=>exact condI rfl rfl
   |false=>exact condE rfl (condI hBk (condI hM (condI hD (condI (isDeal_t _) rfl))))
theorem neA_gow {gl:Gl}(hgl:Low gl){k:NearS}{b:Int}{wr:Bool}(hp:AskP k b)(h:k.hit b wr=false)(hb:k.ba.is b=false){l:LineS}(hg:GoP k b l)(hr:k.ma.r l.block=false)(hw:k.ma.w l.block=true):SubOK Tryz.prog gl 90 (gH (atS [pK 1000,.int .i64 b,.bool wr] (nearR k)) (askOut k b wr)):=by
 have hC:=gC (P:=fun k b=>!k.is b) hp.c (b:=b) (notT hg.no)
 have hB:=gB (P:=fun k b=>!k.is b) hp.bk (b:=b) (notT hb)
 have hG:=gC (P:=fun k b=>k.goesB b) hp.c (b:=b) hg.gb
 have hD:=gC (P:=fun k b=>k.is b) hp.c (b:=l.block) hg.is
 have hM:=gM (P:=fun k b=>!k.r b&&k.w b) (k:=k.ma) (b:=l.block) (by rw[hr,hw];rfl)
 have hBk:=isBacks_t hp.bk
 have ho:askOut k b wr=cond (l.state !=1) (cond (k.ba.p.roomI==0) (.normal,[.tuple #[.bool false,.slice none 0 0,.int .i64 110]],nearX k.c k.id k.ask false (cacheR k.ca) (backsR k.ba) (marksR k.ma) (dealR k.de))
  (.normal,[.tuple #[.bool false,.slice (some ⟨1005,0,none⟩) 2 2,.int .i64 0]],nearX k.c k.id (k.askN b wr) true (cacheR (k.ca.drop l.block)) (backsR (k.ba.put l.block l.data)) (marksR k.ma) (dealR k.de)++[some (notesRow (notesL [k.putN l,k.askN b wr]) 24)]))
  (.normal,[.tuple #[.bool false,.slice (some ⟨1005,0,none⟩) 1 1,.int .i64 0]],nearX k.c k.id (k.askN b wr) true (cacheR (k.ca.drop l.block)) (backsR k.ba) (marksR k.ma) (dealR k.de)++[some (notesRow (notesL [k.askN b wr]) 24)]):=by
  unfold askOut NearS.askR
  rw[h,hb,hg.g]
  simp only[cond_false]
  cases l.state !=1 with
  |false=>rfl
  |true=>
   cases k.ba.p.roomI==0 with
   |false=>rfl
   |true=>simp only[cond_true,nsR,nsV,List.append_nil,nearR_w hp.f]
 have hN:k.putN l=⟨3,k.id,-1,l.block,0,0,true,true,l.data⟩:=by unfold NearS.putN;rw[hr,hw];rfl
 rw[ho,hN]
 cases wr with
 |false=>
  refine neA hgl ok_0gw hp ((r_neA0gw gl noteE dataP _ k.c k.id k.ask _ _ _ _ b).trans ?_)
  simp only[nFq_ds,nFq_cgl,nFq_cd,nFq_br hp.bk,nFq_bp hp.bk,qs_eq,hg.gone]
  refine condE hp.d1 (condE hp.d2 (condI hC (condI hB (condI hG ?_))))
  cases l.state !=1 with
  |false=>exact condE rfl (condI hD (condI (isDeal_t _) rfl))
  |true=>
   refine condI rfl (condI hBk ?_)
   cases k.ba.p.roomI==0 with
   |true=>exact condI rfl rfl
   |false=>exact condE rfl (condI hBk (condI hM (condI hD (condI (isDeal_t _) rfl))))
 |true=>
  refine neA hgl ok_0gw hp ((r_neA1gw gl noteE dataP _ k.c k.id k.ask _ _ _ _ b).trans ?_)
  simp only[nFq_ds,nFq_cgl,nFq_cd,nFq_br hp.bk,nFq_bp hp.bk,qs_eq,hg.gone]
  refine condE hp.d1 (condE hp.d2 (condI hC (condI hB (condI hG ?_))))
  cases l.state !=1 with
  |false=>exact condE rfl (condI hD (condI (isDeal_t _) rfl))
  |true=>
   refine condI rfl (condI hBk ?_)
   cases k.ba.p.roomI==0 with
   |true=>exact condI rfl rfl
   |false=>exact condE rfl (condI hBk (condI hM (condI hD (condI (isDeal_t _) rfl))))
theorem neA_gou {gl:Gl}(hgl:Low gl){k:NearS}{b:Int}{wr:Bool}(hp:AskP k b)(h:k.hit b wr=false)(hb:k.ba.is b=false){l:LineS}(hg:GoP k b l)(hr:k.ma.r l.block=false)(hw:k.ma.w l.block=false):SubOK Tryz.prog gl 90 (gH (atS [pK 1000,.int .i64 b,.bool wr] (nearR k)) (askOut k b wr)):=by
 have hC:=gC (P:=fun k b=>!k.is b) hp.c (b:=b) (notT hg.no)
 have hB:=gB (P:=fun k b=>!k.is b) hp.bk (b:=b) (notT hb)
 have hG:=gC (P:=fun k b=>k.goesB b) hp.c (b:=b) hg.gb
 have hD:=gC (P:=fun k b=>k.is b) hp.c (b:=l.block) hg.is
 have hM:=gM (P:=fun k b=>!k.r b&&!k.w b) (k:=k.ma) (b:=l.block) (by rw[hr,hw];rfl)
 have hBk:=isBacks_t hp.bk
 have ho:askOut k b wr=cond (l.state !=1) (cond (k.ba.p.roomI==0) (.normal,[.tuple #[.bool false,.slice none 0 0,.int .i64 110]],nearX k.c k.id k.ask false (cacheR k.ca) (backsR k.ba) (marksR k.ma) (dealR k.de))
  (.normal,[.tuple #[.bool false,.slice (some ⟨1005,0,none⟩) 2 2,.int .i64 0]],nearX k.c k.id (k.askN b wr) true (cacheR (k.ca.drop l.block)) (backsR (k.ba.put l.block l.data)) (marksR k.ma) (dealR k.de)++[some (notesRow (notesL [k.putN l,k.askN b wr]) 24)]))
  (.normal,[.tuple #[.bool false,.slice (some ⟨1005,0,none⟩) 1 1,.int .i64 0]],nearX k.c k.id (k.askN b wr) true (cacheR (k.ca.drop l.block)) (backsR k.ba) (marksR k.ma) (dealR k.de)++[some (notesRow (notesL [k.askN b wr]) 24)]):=by
  unfold askOut NearS.askR
  rw[h,hb,hg.g]
  simp only[cond_false]
  cases l.state !=1 with
  |false=>rfl
  |true=>
   cases k.ba.p.roomI==0 with
   |false=>rfl
   |true=>simp only[cond_true,nsR,nsV,List.append_nil,nearR_w hp.f]
 have hN:k.putN l=⟨3,k.id,-1,l.block,0,0,true,false,l.data⟩:=by unfold NearS.putN;rw[hr,hw];rfl
 rw[ho,hN]
 cases wr with
 |false=>
  refine neA hgl ok_0gu hp ((r_neA0gu gl noteE dataP _ k.c k.id k.ask _ _ _ _ b).trans ?_)
  simp only[nFq_ds,nFq_cgl,nFq_cd,nFq_br hp.bk,nFq_bp hp.bk,qs_eq,hg.gone]
  refine condE hp.d1 (condE hp.d2 (condI hC (condI hB (condI hG ?_))))
  cases l.state !=1 with
  |false=>exact condE rfl (condI hD (condI (isDeal_t _) rfl))
  |true=>
   refine condI rfl (condI hBk ?_)
   cases k.ba.p.roomI==0 with
   |true=>exact condI rfl rfl
   |false=>exact condE rfl (condI hBk (condI hM (condI hD (condI (isDeal_t _) rfl))))
 |true=>
  refine neA hgl ok_0gu hp ((r_neA1gu gl noteE dataP _ k.c k.id k.ask _ _ _ _ b).trans ?_)
  simp only[nFq_ds,nFq_cgl,nFq_cd,nFq_br hp.bk,nFq_bp hp.bk,qs_eq,hg.gone]
  refine condE hp.d1 (condE hp.d2 (condI hC (condI hB (condI hG ?_))))
  cases l.state !=1 with
  |false=>exact condE rfl (condI hD (condI (isDeal_t _) rfl))
  |true=>
   refine condI rfl (condI hBk ?_)
   cases k.ba.p.roomI==0 with
   |true=>exact condI rfl rfl
   |false=>exact condE rfl (condI hBk (condI hM (condI hD (condI (isDeal_t _) rfl))))
theorem sub_neAsk {gl:Gl}(hgl:Low gl){k:NearS}{b:Int}(wr:Bool)(hp:AskP k b):SubOK Tryz.prog gl 90 (gH (atS [pK 1000,.int .i64 b,.bool wr] (nearR k)) (askOut k b wr)):=by
 cases h:k.hit b wr with
 |true=>exact neA_hit hgl hp h
 |false=>
  cases hb:k.ba.is b with
  |true=>exact neA_busy hgl hp h hb
  |false=>
   cases hg:k.ca.goes b with
   |none=>exact neA_none hgl hp h hb hg
   |some l=>
    have hq:=goP hp hg
    cases hr:k.ma.r l.block<;>cases hw:k.ma.w l.block
    ·exact neA_gou hgl hp h hb hq hr hw
    ·exact neA_gow hgl hp h hb hq hr hw
    ·exact neA_gos hgl hp h hb hq hr hw
    ·exact neA_got hgl hp h hb hq hr hw
end Go.Proofs.YtpcbedgaecbfmaaGreatDoor
