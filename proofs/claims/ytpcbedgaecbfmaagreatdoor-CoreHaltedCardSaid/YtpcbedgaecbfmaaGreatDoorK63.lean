/- A core's side and its log: what their code answers. No condition. -/
import Derived.Test.YtpcbedgaecbfmaaGreatDoorK62
noncomputable section
namespace Go.Proofs.YtpcbedgaecbfmaaGreatDoor
set_option maxRecDepth 100000
open Go.Proofs.YtpcbedgaecbfmaaGreatDoor.Ev Go.RowKit
def HNt2 (nm:NoteS→Int)(pd:Cfg→Int)(F:NrF)(g:Rws→NoteS→Bool):Hs:=⟨(HNe nm pd F).mf,fun f=>cond (Nat.beq f 118) (some (hdO decNote g (fun _ _=>.bool true) fun r _=>r)) ((HNe nm pd F).hf f),(HNe nm pd F).hl⟩
theorem r_neFits (gl:Gl)(nm:NoteS→Int)(pd:Cfg→Int)(F:NrF)(c:Cfg)(id:Int)(ask:NoteS)(ws:Bool)(cr br kr dr:Rws)(n:NoteS):cV noSy gl (HNe nm pd F) 118 [pK 1000,noteV n] (nearX c id ask ws cr br kr dr) noV=
 letI B:=nearX c id ask ws cr br kr dr
 letI A:=qb [n.has,n.stick] (qs (w16Q n.data []) (some (.normal,([.bool false],B))))
 cond (nm n==0) (cond (n.too==id) (cond (decide (n.block<pd c)) (qs [c.cores,c.sets,c.ways,c.blocks,c.logs,c.backs,c.nest,c.tries,n.block,n.block,id,n.too,n.kind,n.frm,n.too,n.block,n.stamp,n.state] (qb [n.has,n.stick] (qs (w16Q n.data []) (some (.normal,([.bool true],
 B)))))) (qs [c.cores,c.sets,c.ways,c.blocks,c.logs,c.backs,c.nest,c.tries,n.block,n.block,id,n.too,n.kind,n.frm,n.too,n.block,n.stamp,n.state] A)) (qs [id,n.too,n.kind,n.frm,n.too,n.block,n.stamp,n.state] A)) (qs [n.kind,n.frm,n.too,n.block,n.stamp,n.state] A):=by kernel_rfl
theorem r_neT6 (gl:Gl)(nm:NoteS→Int)(pd:Cfg→Int)(F:NrF)(g:Rws→NoteS→Bool)(c:Cfg)(id:Int)(ask:NoteS)(cr br kr dr:Rws)(n:NoteS):cV noSy gl (HNt2 nm pd F g) 76 [pK 1000,noteV {n with kind:=6}] (nearX c id ask true cr br kr dr) noV=
 letI C:=F.cp cr {block:=n.block,state:=n.state,data:=n.data}
 letI A:Option Out:=qs [ask.kind,n.state,n.block] (cond (F.cg cr) (qs (w16Q n.data (n.state::(n.block::[]))) (cond (F.cpE cr {block:=n.block,state:=n.state,data:=n.data} !=0) (some (.normal,([.tuple #[.slice none 0 0,.bool false,.int .i64 (F.cpE cr {block:=n.block,state:=n.state,data:=n.data})]],(nearX c id ask true C br kr dr)))) (some (.normal,([.tuple #[.slice (some ⟨1005,0,none⟩) 1 1,.bool false,.int .i64 0]],((nearX c id ask false C br kr dr)++[some (notesRow (notesL [⟨11,id,-1,n.block,0,0,false,false,⟨0,0,0,0,0,0,0,0,0,0,0,0,0,0,0,0⟩⟩]) 0)])))))) none)
 letI D:=nearX c id ask true cr br kr dr
 letI B:Option Out:=some (.normal,([.tuple #[.slice none 0 0,.bool false,.int .i64 8]],D))
 letI E:Option Out:=qs [ask.kind,n.state,n.block] B
 cond (g D {n with kind:=6}) (cond (ask.block==n.block) (cond (n.state==3) (cond (ask.kind==2) A E) (cond (ask.kind==2) E A)) (qs [n.block] B)) none:=by kernel_rfl
theorem r_neT8 (gl:Gl)(nm:NoteS→Int)(pd:Cfg→Int)(F:NrF)(g:Rws→NoteS→Bool)(c:Cfg)(id:Int)(ask:NoteS)(ws:Bool)(cr br kr dr:Rws)(n:NoteS):cV noSy gl (HNt2 nm pd (F.o true) g) 76 [pK 1000,noteV {n with kind:=8}] (nearX c id ask ws cr br kr dr) noV=
 cond (g (nearX c id ask ws cr br kr dr) {n with kind:=8}) (cond (F.bx br n.block) (qs [n.block] (some (.normal,([.tuple #[.slice none 0 0,.bool false,.int .i64 0]],(nearX c id ask ws cr (F.bd br n.block) kr dr))))) none) none:=by kernel_rfl
theorem r_neLine (gl:Gl)(nm:NoteS→Int)(pd:Cfg→Int)(F:NrF)(c:Cfg)(id:Int)(ask:NoteS)(ws:Bool)(cr br kr dr:Rws)(b:Int):cV noSy gl (HNe nm pd F) 80 [pK 1000,.int .i64 b] (nearX c id ask ws cr br kr dr) noV=
 letI A:=nearX c id ask ws cr br kr dr
 letI B:=(F.cl cr b).data.a10
 letI C:=(F.cl cr b).data.a11
 letI D:=(F.cl cr b).data.a12
 letI E:=(F.cl cr b).data.a13
 letI G:=(F.cl cr b).data.a14
 letI H:=(F.cl cr b).data.a15
 letI I:=(F.cl cr b).data.a0
 letI J:=(F.cl cr b).data.a1
 letI K:=(F.cl cr b).data.a2
 letI L:=(F.cl cr b).data.a3
 letI M:=(F.cl cr b).data.a4
 letI N:=(F.cl cr b).data.a5
 letI O:=(F.cl cr b).data.a6
 letI P:=(F.cl cr b).data.a7
 letI Q:=(F.cl cr b).data.a8
 letI R:=(F.cl cr b).data.a9
 letI S:=(F.cl cr b).block
 letI T:=(F.cl cr b).state
 cond (F.cf cr b) (cond (F.ci cr b) (some (.normal,([.tuple #[.agg #[.int .i64 S,.int .u8 T,.int .u32 I,.int .u32 J,.int .u32 K,.int .u32 L,.int .u32 M,.int .u32 N,.int .u32 O,.int .u32 P,.int .u32 Q,.int .u32 R,.int .u32 B,.int .u32 C,.int .u32 D,.int .u32 E,.int .u32 G,.int .u32
 H],.bool true]],A))) (some (.normal,([.tuple #[.agg #[.int .i64 S,.int .u8 T,.int .u32 I,.int .u32 J,.int .u32 K,.int .u32 L,.int .u32 M,.int .u32 N,.int .u32 O,.int .u32 P,.int .u32 Q,.int .u32 R,.int .u32 B,.int .u32 C,.int .u32 D,.int .u32 E,.int .u32 G,.int .u32 H],.bool
 false]],A)))) none:=by kernel_rfl
theorem r_neClear (gl:Gl)(nm:NoteS→Int)(pd:Cfg→Int)(F:NrF)(c:Cfg)(id:Int)(ask:NoteS)(ws:Bool)(cr br kr dr:Rws):cV noSy gl (HNe nm pd F) 139 [pK 1000] (nearX c id ask ws cr br kr dr) noV=
 cond (F.kg kr) (some (.normal,([.tuple #[]],(nearX c id ask ws cr br (F.kc kr) dr)))) none:=by kernel_rfl
def W16.nth (r:W16)(w:Int):Int:=if w=0 then r.a0 else if w=1 then r.a1 else if w=2 then r.a2 else if w=3 then r.a3 else if w=4 then r.a4 else if w=5 then r.a5 else if w=6 then r.a6 else if w=7 then r.a7 else if w=8 then r.a8 else if w=9 then r.a9 else if w=10 then r.a10 else if w=11 then r.a11 else if w=12 then r.a12 else if w=13 then r.a13 else if w=14 then r.a14 else if w=15 then r.a15 else 0
theorem w_cases {w:Int}(h0:0≤w)(h1:w<16):w=0∨w=1∨w=2∨w=3∨w=4∨w=5∨w=6∨w=7∨w=8∨w=9∨w=10∨w=11∨w=12∨w=13∨w=14∨w=15:=by omega
theorem lw_eq (l:LineS){w:Int}(h0:0≤w)(h1:w<16):lwOk l w=true∧lwI l w=l.data.nth w:=by
 rcases w_cases h0 h1 with rfl|rfl|rfl|rfl|rfl|rfl|rfl|rfl|rfl|rfl|rfl|rfl|rfl|rfl|rfl|rfl<;>exact⟨rfl,rfl⟩
def NearS.mark (k:NearS)(b:Int)(r w:Bool):MarksS:=cond (decide (k.de.depth>0)) (k.ma.put b r w) k.ma
def NearS.loaded (k:NearS)(b:Int):NearS:={k with ca:=k.ca.use b,ma:=k.mark b true false}
def NearS.stored (k:NearS)(b w x:Int):NearS:={k with ca:=k.ca.write b w x,ma:=k.mark b false true}
theorem nF_ok:NrOk nF where
 find:=fun r b h=>⟨h,rfl,rfl⟩
 goes:=fun r b h=>⟨h,rfl,rfl⟩
 drop:=fun r b h=>⟨h,rfl⟩
 back:=fun r b h=>⟨h,rfl,rfl⟩
 has:=fun r b h=>⟨h,rfl,rfl⟩
 meets:=fun r x h=>⟨h,rfl⟩
 bdrop:=fun r b h=>⟨h,rfl⟩
 asked:=fun r x h=>⟨h,rfl⟩
 refused:=fun r x h=>⟨h,rfl⟩
 rest:=rfl
theorem isT {k:CacheS}{b:Int}(hk:k.ok)(h:k.is b=true):(isCache (cacheR k)&&(cOf (cacheR k)).is b)=true:=gC (P:=fun k b=>k.is b) hk h
abbrev FIs:NrF:=nFq (fun k b=>k.is b) ttP ttP ttP ttP
theorem FIs_cl {k:CacheS}{x:Int}:FIs.cl (cacheR k) x=k.line x:=by show(cOf (cacheR k)).line x=_;rw[cOf_eq]
theorem FIs_cu {k:CacheS}{x:Int}:FIs.cu (cacheR k) x=cacheR (k.use x):=by show cacheR ((cOf (cacheR k)).use x)=_;rw[cOf_eq]
theorem FIs_cw {k:CacheS}{x:Int×Int×Int}:FIs.cw (cacheR k) x=cacheR (k.write x.1 x.2.1 x.2.2):=by show cacheR ((cOf (cacheR k)).write x.1 x.2.1 x.2.2)=_;rw[cOf_eq]
theorem FIs_kR {k:MarksS}{x:Int}:FIs.kR (marksR k) x=marksR (k.put x true false):=by show marksR ((kOf (marksR k)).put x true false)=_;rw[kOf_eq]
theorem FIs_kW {k:MarksS}{x:Int}:FIs.kW (marksR k) x=marksR (k.put x false true):=by show marksR ((kOf (marksR k)).put x false true)=_;rw[kOf_eq]
theorem FIs_dd {k:DealS}:FIs.dd (dealR k)=k.depth:=by show(dOf (dealR k)).depth=_;rw[dOf_eq]
theorem sub_neLoad {gl:Gl}(hgl:Low gl){k:NearS}{b w:Int}(hc:k.ca.ok)(hi:k.ca.is b=true)(h0:0≤w)(h1:w<16):
 SubOK Tryz.prog gl 157 (gH (atS [pK 1000,.int .i64 b,.int .i64 w] (nearR k)) (.normal,[.tuple #[.int .u32 ((k.ca.line b).data.nth w),.int .i64 0]],nearR (k.loaded b))):=by
 obtain⟨l1,l2⟩:=lw_eq (k.ca.line b) h0 h1
 have hw:(decide (0≤w)&&decide (w<16))=true:=andI (qd1 h0) (qd1 h1)
 refine sub_atV goodT hgl tglob ⟨sy5,_,100,40,40,noV,syG_ok _,HNe_ok hgl ok_h,(r_neLoad gl noteE dataP FIs k.c k.id k.ask k.waits _ _ _ _ b w).trans ?_⟩
 simp only[FIs_cl,FIs_cu,FIs_kR,FIs_dd,l1,l2,hw]
 refine condI (gC (P:=fun k b=>k.is b) hc hi) (condE (qd2 (by omega)) (condE (qd2 (by omega)) (condI (isT hc hi) (condI (isDeal_t _) ?_))))
 unfold NearS.loaded NearS.mark nearR
 cases decide (k.de.depth>0)with
 |true=>exact condI rfl (condI (isMarks_t _) rfl)
 |false=>exact condE rfl rfl
theorem writeT {k:CacheS}{b w x:Int}(hk:k.ok)(h:(k.writeE b w==0)=true):(isCache (cacheR k)&&(cOf (cacheR k)).writeE (b,w,x).1 (b,w,x).2.1==0)=true:=by rw[isCache_t hk,cOf_eq];exact h
theorem sub_neStore {gl:Gl}(hgl:Low gl){k:NearS}{b w:Int}(x:Int)(hc:k.ca.ok)(hi:k.ca.is b=true)(he:(k.ca.writeE b w==0)=true)(h0:0≤w)(h1:w<16):
 SubOK Tryz.prog gl 91 (gH (atS [pK 1000,.int .i64 b,.int .i64 w,.int .u32 x] (nearR k)) (.normal,[.tuple #[.int .u32 ((k.ca.line b).data.nth w),.int .i64 0]],nearR (k.stored b w x))):=by
 obtain⟨l1,l2⟩:=lw_eq (k.ca.line b) h0 h1
 have hw:(decide (0≤w)&&decide (w<16))=true:=andI (qd1 h0) (qd1 h1)
 refine sub_atV goodT hgl tglob ⟨sy5,_,100,40,40,noV,syG_ok _,HNe_ok hgl ok_h,(r_neStore gl noteE dataP FIs k.c k.id k.ask k.waits _ _ _ _ b w x).trans ?_⟩
 simp only[FIs_cl,FIs_cw,FIs_kW,FIs_dd,l1,l2,hw]
 refine condI (gC (P:=fun k b=>k.is b) hc hi) (condI (writeT hc he) (condI (isDeal_t _) ?_))
 unfold NearS.stored NearS.mark nearR
 cases decide (k.de.depth>0)with
 |true=>exact condI rfl (condI (isMarks_t _) rfl)
 |false=>exact condE rfl rfl
def NearS.fits (k:NearS)(n:NoteS):Bool:=noteE n==0&&(n.too==k.id&&decide (n.block<dataP k.c))
def gFit (r:Rws)(n:NoteS):Bool:=cl (∃k:NearS,r=nearR k∧k.fits n=true)
theorem gFit_t {k:NearS}{n:NoteS}(h:k.fits n=true):gFit (nearR k) n=true:=cl_t ⟨k,rfl,h⟩
theorem sub_neFits {gl:Gl}(hgl:Low gl):SubOK Tryz.prog gl 118 (hdO decNote gFit (fun _ _=>.bool true) fun r _=>r):=hdO_sub fun r n hr=>by
 obtain⟨k,rfl,h⟩:=of_cl hr
 obtain⟨h1,h2⟩:=andE h
 obtain⟨h2,h3⟩:=andE h2
 refine atV hgl (HNe_ok hgl nF_ok) ((r_neFits gl noteE dataP nF k.c k.id k.ask k.waits _ _ _ _ n).trans ?_)
 simp only[qs_eq,qb_eq]
 exact condI h1 (condI h2 (condI h3 rfl))
theorem HNt2_ok {gl:Gl}(hgl:Low gl){F:NrF}(h:NrOk F):(HNt2 noteE dataP F gFit).OK Tryz.prog gl:=by
 have hh:=HNe_ok hgl h
 refine⟨hh.mf,fun f g hg=>?_,hh.hl⟩
 have hg:cond (Nat.beq f 118) (some (hdO decNote gFit (fun _ _=>.bool true) fun r _=>r)) ((HNe noteE dataP F).hf f)=some g:=hg
 cases hf:Nat.beq f 118 with
 |true=>
  rw[hf]at hg
  cases hg
  rw[qe1 hf]
  exact sub_neFits hgl
 |false=>
  rw[hf]at hg
  exact hh.hf f g hg
def NearS.noteN (k:NearS)(kind b:Int):NoteS:=⟨kind,k.id,-1,b,0,0,false,false,wZ⟩
def NearS.given (k:NearS)(n:NoteS):NearS:={k with waits:=false,ca:=k.ca.put ⟨n.block,n.state,n.data⟩}
theorem nF_cpE {k:CacheS}{x:LineS}:nF.cpE (cacheR k) x=k.putE x:=by show(cOf (cacheR k)).putE x=_;rw[cOf_eq]
theorem nF_cp {k:CacheS}{x:LineS}:nF.cp (cacheR k) x=cacheR (k.put x):=by show cacheR ((cOf (cacheR k)).put x)=_;rw[cOf_eq]
theorem nearR_wt {k:NearS}(h:k.waits=true):nearR k=nearX k.c k.id k.ask true (cacheR k.ca) (backsR k.ba) (marksR k.ma) (dealR k.de):=by unfold nearR;rw[h]
theorem sub_neT6 {gl:Gl}(hgl:Low gl){k:NearS}{n:NoteS}(hc:k.ca.ok)(hf:k.fits {n with kind:=6}=true)(hw:k.waits=true)(hb:(k.ask.block==n.block)=true)(hs:(n.state==3)=(k.ask.kind==2))(hp:(k.ca.putE ⟨n.block,n.state,n.data⟩ !=0)=false):
 SubOK Tryz.prog gl 76 (gH (atS [pK 1000,noteV {n with kind:=6}] (nearR k)) (.normal,[.tuple #[.slice (some ⟨1005,0,none⟩) 1 1,.bool false,.int .i64 0]],nearR (k.given n)++[some (notesRow (notesL [k.noteN 11 n.block]) 0)])):=by
 have hg:=gFit_t hf
 rw[nearR_wt hw]at hg ⊢
 refine atV hgl (HNt2_ok hgl nF_ok) ((r_neT6 gl noteE dataP nF gFit k.c k.id k.ask _ _ _ _ n).trans ?_)
 simp only[qs_eq,nF_cpE,nF_cp]
 refine condI hg (condI hb ?_)
 cases h3:n.state==3 with
 |true=>
  rw[h3]at hs
  exact condI rfl (condI hs.symm (condI (isCache_t hc) (condE hp rfl)))
 |false=>
  rw[h3]at hs
  exact condE rfl (condE hs.symm (condI (isCache_t hc) (condE hp rfl)))
def NearS.taken (k:NearS)(b:Int):NearS:={k with ba:=k.ba.drop b}
theorem okO8:NrOk (({nF with bx:=fun r b=>isBacks r&&(bkOf r).is b}:NrF).o true) where
 find:=fun r b h=>⟨h,rfl,rfl⟩
 goes:=fun r b h=>⟨h,rfl,rfl⟩
 drop:=fun r b h=>⟨h,rfl⟩
 back:=fun r b h=>⟨h,rfl,rfl⟩
 has:=fun r b h=>⟨h,rfl,rfl⟩
 meets:=fun r x h=>⟨h,rfl⟩
 bdrop:=fun r b h=>⟨(andE h).1,(andE h).2.symm⟩
 asked:=fun r x h=>⟨h,rfl⟩
 refused:=fun r x h=>⟨h,rfl⟩
 rest:=rfl
theorem sub_neT8 {gl:Gl}(hgl:Low gl){k:NearS}{n:NoteS}(hk:k.ba.ok)(hf:k.fits {n with kind:=8}=true)(hi:k.ba.is n.block=true):
 SubOK Tryz.prog gl 76 (gH (atS [pK 1000,noteV {n with kind:=8}] (nearR k)) (.normal,[.tuple #[.slice none 0 0,.bool false,.int .i64 0]],nearR (k.taken n.block))):=by
 refine atV hgl (HNt2_ok hgl okO8) ((r_neT8 gl noteE dataP _ gFit k.c k.id k.ask k.waits _ _ _ _ n).trans ?_)
 simp only[qs_eq]
 refine condI (gFit_t hf) (condI (gB (P:=fun k b=>k.is b) hk hi) ?_)
 show some (Ex.normal,_,nearX k.c k.id k.ask k.waits (cacheR k.ca) (backsR ((bkOf (backsR k.ba)).drop n.block)) (marksR k.ma) (dealR k.de))=_
 rw[bkOf_eq hk];rfl
theorem sub_neLine {gl:Gl}(hgl:Low gl){k:NearS}(b:Int)(hc:k.ca.ok):SubOK Tryz.prog gl 80 (gH (atS [pK 1000,.int .i64 b] (nearR k)) (.normal,[.tuple #[lnV (k.ca.line b),.bool (k.ca.is b)]],nearR k)):=by
 refine atV hgl (HNe_ok hgl nF_ok) ((r_neLine gl noteE dataP nF k.c k.id k.ask k.waits _ _ _ _ b).trans ?_)
 have h1:nF.ci (cacheR k.ca) b=k.ca.is b:=by show(cOf (cacheR k.ca)).is b=_;rw[cOf_eq]
 have h2:nF.cl (cacheR k.ca) b=k.ca.line b:=by show(cOf (cacheR k.ca)).line b=_;rw[cOf_eq]
 simp only[h1,h2]
 refine condI (isCache_t hc) ?_
 cases k.ca.is b<;>rfl
theorem sub_neClear {gl:Gl}(hgl:Low gl){k:NearS}:SubOK Tryz.prog gl 139 (gH (atS [pK 1000] (nearR k)) (.normal,[.tuple #[]],nearR {k with ma:={k.ma with l:=[]}})):=by
 refine atV hgl (HNe_ok hgl nF_ok) ((r_neClear gl noteE dataP nF k.c k.id k.ask k.waits _ _ _ _).trans (condI (isMarks_t _) ?_))
 show some (Ex.normal,_,nearX k.c k.id k.ask k.waits (cacheR k.ca) (backsR k.ba) (marksR {kOf (marksR k.ma)with l:=[]}) (dealR k.de))=_
 rw[kOf_eq];rfl
def lgRow (c:Cfg)(first room many:Int):LObj:=.row ⟨cfgL c++[pK 1001,.int .i64 first,.int .i64 room,.int .i64 many],109,(0,0),0,false,false⟩
def HLm (gg:Cfg→Int→Bool)(wb ww:Cfg→Int→Int)(gs:Rws→Int×Int×Int→Bool)(ms:Rws→Int×Int×Int→Rws)(gw:Rws→Int×Int→Bool)(mw:Rws→Int×Int→Int):Hs:=hsOf [(140,afCi .u32 gg fun c n=>.tuple #[.int .i64 (wb c n),.int .i64 (ww c n),.int .i64 0])]
 [(223,hdM decI2u gs (fun _ _=>.int .i64 0) ms),(81,hdM decI2 gw (fun r x=>.tuple #[.int .u32 (mw r x),.int .i64 0]) fun r _=>r)] []
def plLg:PlanV:=⟨[.op 1000],fun _=>[.cl 1000 [1001]]⟩
def lgRows (c:Cfg)(first room many:Int)(mr:Rws):Rws:=[some (.box ([some (lgRow c first room many)]++[none]) [1001]),some (.box mr [])]
theorem r_lgAdd (gl:Gl)(gg:Cfg→Int→Bool)(wb ww:Cfg→Int→Int)(gs:Rws→Int×Int×Int→Bool)(ms:Rws→Int×Int×Int→Rws)(gw:Rws→Int×Int→Bool)(mw:Rws→Int×Int→Int)(c:Cfg)(first room many a o:Int)(mr:Rws):cV noSy gl (HLm gg wb ww gs ms gw mw) 198 [pK 1000,.int .u32 a,.int .u32 o] (lgRows c first room many mr) plLg=
 letI A:=IntKind.i64.wrap (IntKind.i64.wrap (many*2)+0)
 letI B:=IntKind.i64.wrap (IntKind.i64.wrap (many*2)+1)
 letI D:=first+IntKind.i64.wrap (A.tdiv 16)
 letI C:=ms mr (IntKind.i64.wrap D,A.tmod 16,a)
 letI E:=first+IntKind.i64.wrap (B.tdiv 16)
 cond (gg c a) (cond (many==room) (qs [room,many] (some (.normal,([.int .i64 7],[some (.box ([some (lgRow c first room many)]++[none]) [1001]),some (.box mr [])])))) (qs [room,many] (cond (gs mr (IntKind.i64.wrap D,A.tmod 16,a)) (qs [a] (cond (gs C (IntKind.i64.wrap E,B.tmod 16,o)) (qs
 [o] (some (.normal,([.int .i64 0],[some (.box ([some (lgRow c first room (IntKind.i64.wrap (many+1)))]++[none]) [1001]),some (.box (ms C (IntKind.i64.wrap E,B.tmod 16,o)) [])])))) none)) none))) none:=by kernel_rfl
theorem r_lgLast (gl:Gl)(gg:Cfg→Int→Bool)(wb ww:Cfg→Int→Int)(gs:Rws→Int×Int×Int→Bool)(ms:Rws→Int×Int×Int→Rws)(gw:Rws→Int×Int→Bool)(mw:Rws→Int×Int→Int)(c:Cfg)(first room many:Int)(mr:Rws):cV noSy gl (HLm gg wb ww gs ms gw mw) 87 [pK 1000] (lgRows c first room many mr) plLg=
 letI C:Rws:=[some (.box ([some (lgRow c first room many)]++[none]) [1001]),some (.box mr [])]
 letI F:Option Out:=some (.normal,([.tuple #[.int .u32 0,.int .u32 0,.int .i64 4]],C))
 letI G:=IntKind.i64.wrap (many-1)*2
 letI A:=IntKind.i64.wrap (IntKind.i64.wrap G+0)
 letI B:=IntKind.i64.wrap (IntKind.i64.wrap G+1)
 letI D:=first+IntKind.i64.wrap (A.tdiv 16)
 letI E:=first+IntKind.i64.wrap (B.tdiv 16)
 cond (decide (IntKind.i64.wrap (many-1)<0)) F (cond (decide (IntKind.i64.wrap (many-1)≥many)) F (cond (gw mr (IntKind.i64.wrap D,A.tmod 16)) (cond (gw mr (IntKind.i64.wrap E,B.tmod 16)) (qs [mw mr (IntKind.i64.wrap E,B.tmod 16),mw mr (IntKind.i64.wrap D,A.tmod 16)] (some (.normal,
 ([.tuple #[.int .u32 (mw mr (IntKind.i64.wrap D,A.tmod 16)),.int .u32 (mw mr (IntKind.i64.wrap E,B.tmod 16)),.int .i64 0]],C)))) none) none)):=by kernel_rfl
theorem r_lgPop (gl:Gl)(c:Cfg)(first room many:Int)(mr:Rws):cV noSy gl H0 92 [pK 1000] (lgRows c first room many mr) plLg=
 cond (many==0) (some (.normal,([.int .i64 4],[some (.box ([some (lgRow c first room many)]++[none]) [1001]),some (.box mr [])]))) (some (.normal,([.int .i64 0],[some (.box ([some (lgRow c first room (IntKind.i64.wrap (many-1)))]++[none]) [1001]),some (.box mr [])]))):=by kernel_rfl
theorem r_lgClear (gl:Gl)(c:Cfg)(first room many:Int)(mr:Rws):cV noSy gl H0 154 [pK 1000] (lgRows c first room many mr) plLg=
 some (.normal,([.tuple #[]],[some (.box ([some (lgRow c first room 0)]++[none]) [1001]),some (.box mr [])])):=by kernel_rfl
def gsM (r:Rws)(x:Int×Int×Int):Bool:=isMem r&&(mOf r).e x.1 x.2.1==0
def msM (r:Rws)(x:Int×Int×Int):Rws:=memR ((mOf r).setWord x.1 x.2.1 x.2.2)
def gwM (r:Rws)(x:Int×Int):Bool:=isMem r&&(mOf r).e x.1 x.2==0
def mwM (r:Rws)(x:Int×Int):Int:=(mOf r).word x.1 x.2
def ggW (c:Cfg)(n:Int):Bool:=whE c n==0
theorem memR_of {r:Rws}(h:isMem r=true):memR (mOf r)=r:=by
 obtain⟨m,hm,rfl⟩:=of_cl h
 rw[mOf_eq hm]
theorem fn_where0 {gl:Gl}(hgl:Low gl):FnOK Tryz.prog gl 140 (afCi .u32 ggW fun c n=>.tuple #[.int .i64 (whB c n),.int .i64 (whW c n),.int .i64 0]):=fun args σ c v h hc=>by
 subst hc
 obtain⟨q,n,rfl,h1,rfl⟩:=afCi_inv h
 refine fn_pWhere hgl [cfgV q,.int .u32 n] σ true _ ?_ rfl
 have h1:(whE q n==0)=true:=h1
 show some (decide (IntKind.u32=IntKind.u32)&&true,Value.tuple #[.int .i64 (whB q n),.int .i64 (whW q n),.int .i64 (whE q n)])=_
 rw[eq_of_beq h1];rfl
theorem HLm_ok {gl:Gl}(hgl:Low gl):(HLm ggW whB whW gsM msM gwM mwM).OK Tryz.prog gl:=hsOf_ok (fun p hp=>by
 simp only[List.mem_cons,List.not_mem_nil,or_false]at hp
 subst hp;exact fn_where0 hgl) (fun p hp=>by
 simp only[List.mem_cons,List.not_mem_nil,or_false]at hp
 rcases hp with rfl|rfl
 ·exact hdMw (sub_mSetWord hgl) fun r x h=>⟨(andE h).1,by rw[eq_of_beq (andE h).2],rfl⟩
 ·exact hdMw (sub_mWord hgl) fun r x h=>⟨(andE h).1,by rw[eq_of_beq (andE h).2];rfl,(memR_of (andE h).1).symm⟩) (fun _ h=>nomatch h)
structure LogP (c:Cfg)(first room:Int)(m:MemS):Prop where
 ok:m.ok
 f:0≤first
 r:0≤room
 r32:room≤32
 fits:first*16+room*2≤m.n*16
def lgPos (first many:Int):Nat:=first.toNat*16+many.toNat*2
def MemS.at (m:MemS)(p:Nat):Int:=(m.ws[p]?).getD 0
def MemS.set1 (m:MemS)(p:Nat)(x:Int):MemS:=⟨m.n,putI m.ws p [x]⟩
theorem set1_ok {m:MemS}(h:m.ok){p:Nat}{x:Int}(hp:p<m.n*16):(m.set1 p x).ok:=by
 obtain⟨h1,h2,h3⟩:=h
 exact⟨by show(putI m.ws p [x]).length=_;rw[putI_len (by simp only[List.length_cons,List.length_nil];omega),h1];rfl,h2,h3⟩
theorem lg_ix {first many:Int}{j:Nat}(hf:0≤first)(hf2:first≤256)(hm:0≤many)(hm2:many≤32)(hj:j<2):
 IntKind.i64.wrap (IntKind.i64.wrap (many*2)+(j:Int))=many*2+j∧IntKind.i64.wrap (first+IntKind.i64.wrap ((many*2+j:Int).tdiv 16))=first+(many*2+j)/16∧(many*2+j:Int).tmod 16=(many*2+j)%16:=by
 have e1:IntKind.i64.wrap (many*2)=many*2:=wrap_id _ (by omega)
 have e2:(many*2+j:Int).tdiv 16=(many*2+j)/16:=Int.tdiv_eq_ediv_of_nonneg (by omega)
 have e3:(many*2+j:Int).tmod 16=(many*2+j)%16:=Int.tmod_eq_emod_of_nonneg (by omega)
 refine⟨by rw[e1,wrap_id _ (by omega)],by rw[e2,wrap_id ((many*2+j:Int)/16) (by omega),wrap_id _ (by omega)],e3⟩
theorem lg_in {c:Cfg}{first room many:Int}{m:MemS}(h:LogP c first room m){j:Nat}(hm:0≤many)(hm2:many<room)(hj:j<2):
 m.inn (first+(many*2+j)/16) ((many*2+j)%16)=true∧0+(first+(many*2+j)/16).toNat*16+((many*2+j:Int)%16).toNat*1=lgPos first many+j∧lgPos first many+j<m.n*16:=by
 obtain⟨ok,hf,hr,hr2,hx⟩:=h
 have a1:0≤(many*2+j:Int)/16:=by omega
 have a2:=Int.mul_ediv_add_emod (many*2+j:Int) 16
 refine⟨?_,?_,?_⟩
 ·unfold MemS.inn
  rw[qd2 (show¬first+(many*2+j)/16<0 by omega),qd2 (show¬first+(many*2+j)/16≥(m.n:Int) by omega),qd2 (show¬(many*2+j:Int)%16<0 by omega),qd2 (show¬(many*2+j:Int)%16≥16 by omega)]
  rfl
 ·unfold lgPos;omega
 ·unfold lgPos;omega
theorem gsM_t {m:MemS}(hm:m.ok){b w x:Int}(h:m.inn b w=true):gsM (memR m) (b,w,x)=true:=by
 unfold gsM MemS.e
 rw[isMem_t hm,mOf_eq hm,h];rfl
theorem msM_eq {m:MemS}(hm:m.ok){b w x:Int}(h:m.inn b w=true):msM (memR m) (b,w,x)=memR (m.set1 (0+b.toNat*16+w.toNat*1) x):=by
 unfold msM MemS.setWord
 rw[mOf_eq hm,h];rfl
theorem gwM_t {m:MemS}(hm:m.ok){b w:Int}(h:m.inn b w=true):gwM (memR m) (b,w)=true:=by
 unfold gwM MemS.e
 rw[isMem_t hm,mOf_eq hm,h];rfl
theorem mwM_eq {m:MemS}(hm:m.ok){b w:Int}(h:m.inn b w=true):mwM (memR m) (b,w)=m.at (0+b.toNat*16+w.toNat*1):=by
 unfold mwM MemS.word
 rw[mOf_eq hm,h];rfl
def MemS.log2 (m:MemS)(p:Nat)(a o:Int):MemS:=(m.set1 p a).set1 (p+1) o
theorem log2_ok {m:MemS}(h:m.ok){p:Nat}{a o:Int}(hp:p+1<m.n*16):(m.log2 p a o).ok:=set1_ok (set1_ok h (by omega)) hp
theorem sub_lgAdd {gl:Gl}(hgl:Low gl){c:Cfg}{first room many a:Int}(o:Int){m:MemS}(h:LogP c first room m)(hm:0≤many)(hm2:many≤room)(ha:(whE c a==0)=true):
 SubOK Tryz.prog gl 198 (gH (atS [pK 1000,.int .u32 a,.int .u32 o] (lgRows c first room many (memR m))) (cond (many==room) (.normal,[.int .i64 7],lgRows c first room many (memR m)) (.normal,[.int .i64 0],lgRows c first room (many+1) (memR (m.log2 (lgPos first many) a o))))):=by
 have hr:=h.r32
 have hb:first≤256:=by have h1:=h.fits;have h2:=h.ok.2.2;have h3:=h.r;omega
 refine atV hgl (HLm_ok hgl) ((r_lgAdd gl ggW whB whW gsM msM gwM mwM c first room many a o (memR m)).trans ?_)
 simp only[qs_eq]
 refine condI ha ?_
 cases he:many==room with
 |true=>exact condI rfl rfl
 |false=>
  have hne:many≠room:=by simpa using he
  obtain⟨i0,i1,i2⟩:=lg_ix (j:=0) h.f hb hm (by omega) (by omega)
  obtain⟨k0,k1,k2⟩:=lg_ix (j:=1) h.f hb hm (by omega) (by omega)
  obtain⟨n0,n1,n2⟩:=lg_in h (j:=0) hm (by omega) (by omega)
  have h':LogP c first room (m.set1 (lgPos first many) a):=⟨set1_ok h.ok n2,h.f,h.r,h.r32,h.fits⟩
  obtain⟨p0,p1,p2⟩:=lg_in h' (j:=1) hm (by omega) (by omega)
  have i0:IntKind.i64.wrap (IntKind.i64.wrap (many*2)+0)=many*2+(0:Nat):=i0
  have k0:IntKind.i64.wrap (IntKind.i64.wrap (many*2)+1)=many*2+(1:Nat):=k0
  rw[i0,k0,i1,i2,k1,k2,msM_eq h.ok n0,n1,Nat.add_zero,msM_eq h'.ok p0,p1,wrap_id (many+1) (by omega)]
  exact condE rfl (condI (gsM_t h.ok n0) (condI (gsM_t h'.ok p0) rfl))
def MemS.ent (m:MemS)(first i:Int):Int×Int:=(m.at (lgPos first i),m.at (lgPos first i+1))
theorem sub_lgLast {gl:Gl}(hgl:Low gl){c:Cfg}{first room many:Int}{m:MemS}(h:LogP c first room m)(hm:0≤many)(hm2:many≤room):
 SubOK Tryz.prog gl 87 (gH (atS [pK 1000] (lgRows c first room many (memR m))) (.normal,[cond (many==0) (.tuple #[.int .u32 0,.int .u32 0,.int .i64 4]) (.tuple #[.int .u32 (m.ent first (many-1)).1,.int .u32 (m.ent first (many-1)).2,.int .i64 0])],lgRows c first room many (memR m))):=by
 have hr:=h.r32
 have hb:first≤256:=by have h1:=h.fits;have h2:=h.ok.2.2;have h3:=h.r;omega
 refine atV hgl (HLm_ok hgl) ((r_lgLast gl ggW whB whW gsM msM gwM mwM c first room many (memR m)).trans ?_)
 simp only[qs_eq]
 rw[wrap_id (many-1) (by omega)]
 cases he:many==0 with
 |true=>
  have he:=eq_of_beq he
  exact condI (qd1 (by omega)) rfl
 |false=>
  have hne:many≠0:=by simpa using he
  obtain⟨i0,i1,i2⟩:=lg_ix (many:=many-1) (j:=0) h.f hb (by omega) (by omega) (by omega)
  obtain⟨k0,k1,k2⟩:=lg_ix (many:=many-1) (j:=1) h.f hb (by omega) (by omega) (by omega)
  obtain⟨n0,n1,n2⟩:=lg_in h (many:=many-1) (j:=0) (by omega) (by omega) (by omega)
  obtain⟨p0,p1,p2⟩:=lg_in h (many:=many-1) (j:=1) (by omega) (by omega) (by omega)
  have i0:IntKind.i64.wrap (IntKind.i64.wrap ((many-1)*2)+0)=(many-1)*2+(0:Nat):=i0
  have k0:IntKind.i64.wrap (IntKind.i64.wrap ((many-1)*2)+1)=(many-1)*2+(1:Nat):=k0
  rw[i0,k0,i1,i2,k1,k2,mwM_eq h.ok n0,n1,Nat.add_zero,mwM_eq h.ok p0,p1]
  exact condE (qd2 (by omega)) (condE (qd2 (by omega)) (condI (gwM_t h.ok n0) (condI (gwM_t h.ok p0) rfl)))
theorem sub_lgPop {gl:Gl}(hgl:Low gl){c:Cfg}{first room many:Int}{mr:Rws}(h0:0<many)(h1:many≤32):SubOK Tryz.prog gl 92 (gH (atS [pK 1000] (lgRows c first room many mr)) (.normal,[.int .i64 0],lgRows c first room (many-1) mr)):=
 atV hgl H0_ok ((r_lgPop gl c first room many mr).trans (by
  rw[wrap_id (many-1) (by omega)]
  exact condE (by simpa using(show many≠0 by omega)) rfl))
theorem sub_lgClear {gl:Gl}(hgl:Low gl){c:Cfg}{first room many:Int}{mr:Rws}:SubOK Tryz.prog gl 154 (gH (atS [pK 1000] (lgRows c first room many mr)) (.normal,[.tuple #[]],lgRows c first room 0 mr)):=
 atV hgl H0_ok ((r_lgClear gl c first room many mr).trans rfl)
end Go.Proofs.YtpcbedgaecbfmaaGreatDoor
