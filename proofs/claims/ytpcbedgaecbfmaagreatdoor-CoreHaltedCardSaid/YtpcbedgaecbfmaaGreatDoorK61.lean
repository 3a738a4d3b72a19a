/- A core's side: residuals of its code. No condition. -/
import Derived.Test.YtpcbedgaecbfmaaGreatDoorK52
noncomputable section
namespace Go.Proofs.YtpcbedgaecbfmaaGreatDoor
set_option maxRecDepth 100000
open Go.Proofs.YtpcbedgaecbfmaaGreatDoor.Ev Go.RowKit
structure NrF where
 cf:Rws→Int→Bool
 cl:Rws→Int→LineS
 ci:Rws→Int→Bool
 gf:Rws→Int→Bool
 cgl:Rws→Int→LineS
 cgi:Rws→Int→Bool
 df:Rws→Int→Bool
 cb:Rws→Int→Bool
 cd:Rws→Int→Rws
 uf:Rws→Int→Bool
 cu:Rws→Int→Rws
 cg:Rws→Bool
 ct:Rws→Int×Int→Rws
 ctE:Rws→Int×Int→Int
 wf:Rws→Int×Int×Int→Bool
 cw:Rws→Int×Int×Int→Rws
 cp:Rws→LineS→Rws
 cpE:Rws→LineS→Int
 bf:Rws→Int→Bool
 be:Rws→Int→BackS
 bi:Rws→Int→Bool
 bg:Rws→Bool
 bx:Rws→Int→Bool
 bb:Rws→Int→Bool
 bd:Rws→Int→Rws
 bp:Rws→Int×W16→Rws
 bpE:Rws→Int×W16→Int
 kx:Rws→Int→Bool
 bk:Rws→Int→Rws
 br:Rws→Int
 kf:Rws→Int→Bool
 kr:Rws→Int→Bool
 kw:Rws→Int→Bool
 mf:Rws→Int×Int→Bool
 km:Rws→Int×Int→Bool
 kg:Rws→Bool
 kR:Rws→Int→Rws
 kW:Rws→Int→Rws
 kE:Rws→Int→Int
 kc:Rws→Rws
 dg:Rws→Bool
 dd:Rws→Int
 ds:Rws→Int
 af:Rws→Bool×Int→Bool
 da:Rws→Bool×Int→Rws
 dr:Rws→Bool×Int→Bool
 ff:Rws→Int→Bool
 fx:Rws→Int→Bool
def HNe (nm:NoteS→Int)(pd:Cfg→Int)(F:NrF):Hs:=hsOf [(104,afN nm),(42,afC ttC fun c=>.int .i64 (pd c))]
 [(124,hdM (decI .i64) F.cf (fun r b=>.tuple #[lnV (F.cl r b),.bool (F.ci r b)]) fun r _=>r),
 (142,hdM (decI .i64) F.gf (fun r b=>.tuple #[lnV (F.cgl r b),.bool (F.cgi r b)]) fun r _=>r),
 (146,hdM (decI .i64) F.df (fun r b=>.bool (F.cb r b)) F.cd),
 (199,hdM (decI .i64) F.uf (fun _ _=>.bool true) F.cu),
 (173,hdM (decIu .u8) (fun r _=>F.cg r) (fun r x=>.int .i64 (F.ctE r x)) F.ct),
 (148,hdM decI2u F.wf (fun _ _=>.int .i64 0) F.cw),
 (175,hdM decLn (fun r _=>F.cg r) (fun r x=>.int .i64 (F.cpE r x)) F.cp),
 (141,hdM (decI .i64) F.bf (fun r b=>.tuple #[w16V (F.be r b).data,.bool (F.be r b).live,.bool (F.bi r b)]) fun r _=>r),
 (177,hdM (decI .i64) F.bx (fun r b=>.bool (F.bb r b)) F.bd),
 (144,hdM decBk (fun r _=>F.bg r) (fun r x=>.int .i64 (F.bpE r x)) F.bp),
 (172,hdM (decI .i64) F.kx (fun _ _=>.bool true) F.bk),
 (143,hdM dec0 (fun r _=>F.bg r) (fun r _=>.int .i64 (F.br r)) fun r _=>r),
 (44,hdM (decI .i64) F.kf (fun r b=>.tuple #[.bool (F.kr r b),.bool (F.kw r b)]) fun r _=>r),
 (171,hdM decUi F.mf (fun r x=>.bool (F.km r x)) fun r _=>r),
 (200,hdM (decI .i64) (fun r _=>F.kg r) (fun r b=>.int .i64 (F.kE r b)) F.kR),
 (149,hdM (decI .i64) (fun r _=>F.kg r) (fun r b=>.int .i64 (F.kE r b)) F.kW),
 (188,hdM dec0 (fun r _=>F.kg r) (fun _ _=>.tuple #[]) fun r _=>F.kc r),
 (22,hdM dec0 (fun r _=>F.dg r) (fun r _=>.int .i64 (F.dd r)) fun r _=>r),
 (147,hdM dec0 (fun r _=>F.dg r) (fun r _=>.int .u64 (F.ds r)) fun r _=>r),
 (170,hdM (decBI .u64) F.af (fun r x=>.bool (F.dr r x)) F.da),
 (176,hdM (decI .u64) F.ff (fun r x=>.bool (F.fx r x)) fun r _=>r)] []
def NrF.b (F:NrF)(x:Bool):NrF:={F with ci:=fun _ _=>x}
def NrF.l (F:NrF)(x:Bool):NrF:={F with be:=fun r b=>⟨(F.be r b).block,(F.be r b).data,x⟩}
def NrF.i (F:NrF)(x:Bool):NrF:={F with bi:=fun _ _=>x}
def NrF.s (F:NrF)(_:Bool):NrF:={F with cl:=fun r b=>⟨(F.cl r b).block,1,(F.cl r b).data⟩}
def NrF.g (F:NrF)(x:Bool):NrF:={F with cgi:=fun _ _=>x}
def NrF.r (F:NrF)(x:Bool):NrF:={F with kr:=fun _ _=>x}
def NrF.v (F:NrF)(x:Bool):NrF:={F with kw:=fun _ _=>x}
def NrF.d (F:NrF)(x:Bool):NrF:={F with cb:=fun _ _=>x}
def NrF.o (F:NrF)(x:Bool):NrF:={F with bb:=fun _ _=>x}
def w16Q (r:W16)(l:List Int):List Int:=r.a0::r.a1::r.a2::r.a3::r.a4::r.a5::r.a6::r.a7::r.a8::r.a9::r.a10::r.a11::r.a12::r.a13::r.a14::r.a15::l
def lwOk (l:LineS)(w:Int):Bool:=(genOf (genSym Value.nilFunc) (splice (lnL ln0) 0 (lnL l))).okI .u32 (2+w.toNat*1)
def lwI (l:LineS)(w:Int):Int:=(genOf (genSym Value.nilFunc) (splice (lnL ln0) 0 (lnL l))).int .u32 (2+w.toNat*1)
abbrev sy5:Sy:=syG [(1005,.nilFunc)]
theorem r_neLoad (gl:Gl)(nm:NoteS→Int)(pd:Cfg→Int)(F:NrF)(c:Cfg)(id:Int)(ask:NoteS)(ws:Bool)(cr br kr dr:Rws)(b w:Int):cV sy5 gl (HNe nm pd (F.b true)) 157 [pK 1000,.int .i64 b,.int .i64 w] (nearX c id ask ws cr br kr dr) noV=
 letI A:Option Out:=some (.normal,([.tuple #[.int .u32 0,.int .i64 5]],(nearX c id ask ws cr br kr dr)))
 letI B:List Value:=[.tuple #[.int .u32 (lwI (F.cl cr b) w),.int .i64 0]]
 letI C:=decide (0≤w)&&(decide (w<16))
 letI D:=lwOk (F.cl cr b) w
 cond (F.cf cr b) (cond (decide (w<0)) A (cond (decide (w≥16)) A (cond (F.uf cr b) (cond (F.dg dr) (cond (decide (F.dd dr>0)) (cond (F.kg kr) (cond C (cond D (some (.normal,(B,(nearX c id ask ws (F.cu cr b) br (F.kR kr b) dr)))) none) none) none) (cond C (cond D (some (.normal,(B,(nearX c
 id ask ws (F.cu cr b) br kr dr)))) none) none)) none) none))) none:=by kernel_rfl
theorem r_neStore (gl:Gl)(nm:NoteS→Int)(pd:Cfg→Int)(F:NrF)(c:Cfg)(id:Int)(ask:NoteS)(ws:Bool)(cr br kr dr:Rws)(b w x:Int):cV sy5 gl (HNe nm pd (F.b true)) 91 [pK 1000,.int .i64 b,.int .i64 w,.int .u32 x] (nearX c id ask ws cr br kr dr) noV=
 letI A:List Value:=[.tuple #[.int .u32 (lwI (F.cl cr b) w),.int .i64 0]]
 letI B:=decide (0≤w)&&(decide (w<16))
 letI C:=lwOk (F.cl cr b) w
 letI D:=F.cw cr (b,w,x)
 cond (F.cf cr b) (cond (F.wf cr (b,w,x)) (cond (F.dg dr) (cond (decide (F.dd dr>0)) (cond (F.kg kr) (cond B (cond C (some (.normal,(A,(nearX c id ask ws D br (F.kW kr b) dr)))) none) none) none) (cond B (cond C (some (.normal,(A,(nearX c id ask ws D br kr dr)))) none) none)) none) none) none:=by kernel_rfl
theorem r_neAh (gl:Gl)(nm:NoteS→Int)(pd:Cfg→Int)(F:NrF)(c:Cfg)(id:Int)(ask:NoteS)(cr br kr dr:Rws)(b:Int):cV noSy gl (HNe nm pd (F.b true)) 90 [pK 1000,.int .i64 b,.bool false] (nearX c id ask false cr br kr dr) noV=
 letI B:=nearX c id ask false cr br kr dr
 letI A:Option Out:=some (.normal,([.tuple #[.bool false,.slice none 0 0,.int .i64 2]],B))
 cond (decide (b<0)) A (cond (decide (b≥pd c)) A (cond (F.cf cr b) (some (.normal,([.tuple #[.bool true,.slice none 0 0,.int .i64 0]],B))) none)):=by kernel_rfl
theorem r_neAh2 (gl:Gl)(nm:NoteS→Int)(pd:Cfg→Int)(F:NrF)(c:Cfg)(id:Int)(ask:NoteS)(cr br kr dr:Rws)(b:Int):cV noSy gl (HNe nm pd (((F.b true).i true).l true)) 90 [pK 1000,.int .i64 b,.bool true] (nearX c id ask false cr br kr dr) noV=
 letI A:=nearX c id ask false cr br kr dr
 letI B:Option Out:=some (.normal,([.tuple #[.bool false,.slice none 0 0,.int .i64 2]],A))
 cond (decide (b<0)) B (cond (decide (b≥pd c)) B (cond (F.cf cr b) (cond ((F.cl cr b).state !=1) (some (.normal,([.tuple #[.bool true,.slice none 0 0,.int .i64 0]],A))) (cond (F.bf br b) (some (.normal,([.tuple #[.bool false,.slice none 0 0,.int .i64 110]],A))) none)) none)):=by kernel_rfl
theorem r_neA0bt (gl:Gl)(nm:NoteS→Int)(pd:Cfg→Int)(F:NrF)(c:Cfg)(id:Int)(ask:NoteS)(cr br kr dr:Rws)(b:Int):cV noSy gl (HNe nm pd (((F.b false).i true).l true)) 90 [pK 1000,.int .i64 b,.bool false] (nearX c id ask false cr br kr dr) noV=
 letI B:=nearX c id ask false cr br kr dr
 letI A:Option Out:=some (.normal,([.tuple #[.bool false,.slice none 0 0,.int .i64 2]],B))
 cond (decide (b<0)) A (cond (decide (b≥pd c)) A (cond (F.cf cr b) (cond (F.bf br b) (some (.normal,([.tuple #[.bool false,.slice none 0 0,.int .i64 110]],B))) none) none)):=by kernel_rfl
theorem r_neA0bf (gl:Gl)(nm:NoteS→Int)(pd:Cfg→Int)(F:NrF)(c:Cfg)(id:Int)(ask:NoteS)(cr br kr dr:Rws)(b:Int):cV noSy gl (HNe nm pd (((F.b false).i true).l false)) 90 [pK 1000,.int .i64 b,.bool false] (nearX c id ask false cr br kr dr) noV=
 letI B:=nearX c id ask false cr br kr dr
 letI A:Option Out:=some (.normal,([.tuple #[.bool false,.slice none 0 0,.int .i64 2]],B))
 cond (decide (b<0)) A (cond (decide (b≥pd c)) A (cond (F.cf cr b) (cond (F.bf br b) (some (.normal,([.tuple #[.bool false,.slice none 0 0,.int .i64 110]],B))) none) none)):=by kernel_rfl
theorem r_neA0n (gl:Gl)(nm:NoteS→Int)(pd:Cfg→Int)(F:NrF)(c:Cfg)(id:Int)(ask:NoteS)(cr br kr dr:Rws)(b:Int):cV noSy gl (HNe nm pd ((((F.b false).i false).l false).g false)) 90 [pK 1000,.int .i64 b,.bool false] (nearX c id ask false cr br kr dr) noV=
 letI A:Option Out:=some (.normal,([.tuple #[.bool false,.slice none 0 0,.int .i64 2]],(nearX c id ask false cr br kr dr)))
 cond (decide (b<0)) A (cond (decide (b≥pd c)) A (cond (F.cf cr b) (cond (F.bf br b) (cond (F.gf cr b) (cond (F.dg dr) (some (.normal,([.tuple #[.bool false,.slice (some ⟨1005,0,none⟩) 1 1,.int .i64 0]],((nearX c id ⟨1,id,-1,b,F.ds dr,0,false,false,⟨0,0,0,0,0,0,0,0,0,0,0,
 0,0,0,0,0⟩⟩ true cr br kr dr)++[some (notesRow (notesL [⟨1,id,-1,b,F.ds dr,0,false,false,⟨0,0,0,0,0,0,0,0,0,0,0,0,0,0,0,0⟩⟩]) 24)])))) none) none) none) none)):=by kernel_rfl
theorem r_neA0gr (gl:Gl)(nm:NoteS→Int)(pd:Cfg→Int)(F:NrF)(c:Cfg)(id:Int)(ask:NoteS)(cr br kr dr:Rws)(b:Int):cV noSy gl (HNe nm pd (((((((F.b false).i false).l false).g true).d true).r true).v true)) 90 [pK 1000,.int .i64 b,.bool false] (nearX c id ask false cr br kr dr) noV=
 letI A:=F.cgl cr b
 letI C:=nearX c id ask false cr br kr dr
 letI B:Option Out:=some (.normal,([.tuple #[.bool false,.slice none 0 0,.int .i64 2]],C))
 cond (decide (b<0)) B (cond (decide (b≥pd c)) B (cond (F.cf cr b) (cond (F.bf br b) (cond (F.gf cr b) (cond (A.state !=1) (cond (F.bg br) (cond (F.br br==0) (some (.normal,([.tuple #[.bool false,.slice none 0 0,.int .i64 110]],C))) (cond (F.bg br) (qs (w16Q (A.data) (A.block::[]))
 (cond (F.kf kr A.block) (qs (A.block::(w16Q (A.data) (w16Q (A.data) []))) (cond (F.df cr A.block) (qs [A.block] (cond (F.dg dr) (some (.normal,([.tuple #[.bool false,.slice (some ⟨1005,0,none⟩) 2 2,.int .i64 0]],((nearX c id ⟨1,id,-1,b,F.ds dr,0,false,false,⟨0,0,0,0,0,0,0,0,
 0,0,0,0,0,0,0,0⟩⟩ true (F.cd cr A.block) (F.bp br (A.block,A.data)) kr dr)++[some (notesRow (notesL [⟨3,id,-1,A.block,0,0,true,true,A.data⟩,⟨1,id,-1,b,F.ds dr,0,false,false,⟨0,0,0,0,0,0,0,0,0,0,0,0,0,0,0,0⟩⟩]) 24)])))) none)) none)) none)) none)) none)
 (cond (F.df cr A.block) (qs [A.block] (cond (F.dg dr) (some (.normal,([.tuple #[.bool false,.slice (some ⟨1005,0,none⟩) 1 1,.int .i64 0]],((nearX c id ⟨1,id,-1,b,F.ds dr,0,false,false,⟨0,0,0,0,0,0,0,0,0,0,0,0,0,0,0,0⟩⟩ true (F.cd cr A.block) br kr dr)++[some (notesRow
 (notesL [⟨1,id,-1,b,F.ds dr,0,false,false,⟨0,0,0,0,0,0,0,0,0,0,0,0,0,0,0,0⟩⟩]) 24)])))) none)) none)) none) none) none)):=by kernel_rfl
theorem r_neA0gs (gl:Gl)(nm:NoteS→Int)(pd:Cfg→Int)(F:NrF)(c:Cfg)(id:Int)(ask:NoteS)(cr br kr dr:Rws)(b:Int):cV noSy gl (HNe nm pd (((((((F.b false).i false).l false).g true).d true).r true).v false)) 90 [pK 1000,.int .i64 b,.bool false] (nearX c id ask false cr br kr dr) noV=
 letI A:=F.cgl cr b
 letI C:=nearX c id ask false cr br kr dr
 letI B:Option Out:=some (.normal,([.tuple #[.bool false,.slice none 0 0,.int .i64 2]],C))
 cond (decide (b<0)) B (cond (decide (b≥pd c)) B (cond (F.cf cr b) (cond (F.bf br b) (cond (F.gf cr b) (cond (A.state !=1) (cond (F.bg br) (cond (F.br br==0) (some (.normal,([.tuple #[.bool false,.slice none 0 0,.int .i64 110]],C))) (cond (F.bg br) (qs (w16Q (A.data) (A.block::[]))
 (cond (F.kf kr A.block) (qs (A.block::(w16Q (A.data) (w16Q (A.data) []))) (cond (F.df cr A.block) (qs [A.block] (cond (F.dg dr) (some (.normal,([.tuple #[.bool false,.slice (some ⟨1005,0,none⟩) 2 2,.int .i64 0]],((nearX c id ⟨1,id,-1,b,F.ds dr,0,false,false,⟨0,0,0,0,0,0,0,0,
 0,0,0,0,0,0,0,0⟩⟩ true (F.cd cr A.block) (F.bp br (A.block,A.data)) kr dr)++[some (notesRow (notesL [⟨3,id,-1,A.block,0,0,true,true,A.data⟩,⟨1,id,-1,b,F.ds dr,0,false,false,⟨0,0,0,0,0,0,0,0,0,0,0,0,0,0,0,0⟩⟩]) 24)])))) none)) none)) none)) none)) none)
 (cond (F.df cr A.block) (qs [A.block] (cond (F.dg dr) (some (.normal,([.tuple #[.bool false,.slice (some ⟨1005,0,none⟩) 1 1,.int .i64 0]],((nearX c id ⟨1,id,-1,b,F.ds dr,0,false,false,⟨0,0,0,0,0,0,0,0,0,0,0,0,0,0,0,0⟩⟩ true (F.cd cr A.block) br kr dr)++[some (notesRow
 (notesL [⟨1,id,-1,b,F.ds dr,0,false,false,⟨0,0,0,0,0,0,0,0,0,0,0,0,0,0,0,0⟩⟩]) 24)])))) none)) none)) none) none) none)):=by kernel_rfl
theorem r_neA0gw (gl:Gl)(nm:NoteS→Int)(pd:Cfg→Int)(F:NrF)(c:Cfg)(id:Int)(ask:NoteS)(cr br kr dr:Rws)(b:Int):cV noSy gl (HNe nm pd (((((((F.b false).i false).l false).g true).d true).r false).v true)) 90 [pK 1000,.int .i64 b,.bool false] (nearX c id ask false cr br kr dr) noV=
 letI A:=F.cgl cr b
 letI C:=nearX c id ask false cr br kr dr
 letI B:Option Out:=some (.normal,([.tuple #[.bool false,.slice none 0 0,.int .i64 2]],C))
 cond (decide (b<0)) B (cond (decide (b≥pd c)) B (cond (F.cf cr b) (cond (F.bf br b) (cond (F.gf cr b) (cond (A.state !=1) (cond (F.bg br) (cond (F.br br==0) (some (.normal,([.tuple #[.bool false,.slice none 0 0,.int .i64 110]],C))) (cond (F.bg br) (qs (w16Q (A.data) (A.block::[]))
 (cond (F.kf kr A.block) (qs (A.block::(w16Q (A.data) (w16Q (A.data) []))) (cond (F.df cr A.block) (qs [A.block] (cond (F.dg dr) (some (.normal,([.tuple #[.bool false,.slice (some ⟨1005,0,none⟩) 2 2,.int .i64 0]],((nearX c id ⟨1,id,-1,b,F.ds dr,0,false,false,⟨0,0,0,0,0,0,0,0,
 0,0,0,0,0,0,0,0⟩⟩ true (F.cd cr A.block) (F.bp br (A.block,A.data)) kr dr)++[some (notesRow (notesL [⟨3,id,-1,A.block,0,0,true,true,A.data⟩,⟨1,id,-1,b,F.ds dr,0,false,false,⟨0,0,0,0,0,0,0,0,0,0,0,0,0,0,0,0⟩⟩]) 24)])))) none)) none)) none)) none)) none)
 (cond (F.df cr A.block) (qs [A.block] (cond (F.dg dr) (some (.normal,([.tuple #[.bool false,.slice (some ⟨1005,0,none⟩) 1 1,.int .i64 0]],((nearX c id ⟨1,id,-1,b,F.ds dr,0,false,false,⟨0,0,0,0,0,0,0,0,0,0,0,0,0,0,0,0⟩⟩ true (F.cd cr A.block) br kr dr)++[some (notesRow
 (notesL [⟨1,id,-1,b,F.ds dr,0,false,false,⟨0,0,0,0,0,0,0,0,0,0,0,0,0,0,0,0⟩⟩]) 24)])))) none)) none)) none) none) none)):=by kernel_rfl
theorem r_neA0gu (gl:Gl)(nm:NoteS→Int)(pd:Cfg→Int)(F:NrF)(c:Cfg)(id:Int)(ask:NoteS)(cr br kr dr:Rws)(b:Int):cV noSy gl (HNe nm pd (((((((F.b false).i false).l false).g true).d true).r false).v false)) 90 [pK 1000,.int .i64 b,.bool false] (nearX c id ask false cr br kr dr) noV=
 letI A:=F.cgl cr b
 letI C:=nearX c id ask false cr br kr dr
 letI B:Option Out:=some (.normal,([.tuple #[.bool false,.slice none 0 0,.int .i64 2]],C))
 cond (decide (b<0)) B (cond (decide (b≥pd c)) B (cond (F.cf cr b) (cond (F.bf br b) (cond (F.gf cr b) (cond (A.state !=1) (cond (F.bg br) (cond (F.br br==0) (some (.normal,([.tuple #[.bool false,.slice none 0 0,.int .i64 110]],C))) (cond (F.bg br) (qs (w16Q (A.data) (A.block::[]))
 (cond (F.kf kr A.block) (qs (A.block::(w16Q (A.data) (w16Q (A.data) []))) (cond (F.df cr A.block) (qs [A.block] (cond (F.dg dr) (some (.normal,([.tuple #[.bool false,.slice (some ⟨1005,0,none⟩) 2 2,.int .i64 0]],((nearX c id ⟨1,id,-1,b,F.ds dr,0,false,false,⟨0,0,0,0,0,0,0,0,
 0,0,0,0,0,0,0,0⟩⟩ true (F.cd cr A.block) (F.bp br (A.block,A.data)) kr dr)++[some (notesRow (notesL [⟨3,id,-1,A.block,0,0,true,false,A.data⟩,⟨1,id,-1,b,F.ds dr,0,false,false,⟨0,0,0,0,0,0,0,0,0,0,0,0,0,0,0,0⟩⟩]) 24)])))) none)) none)) none)) none)) none)
 (cond (F.df cr A.block) (qs [A.block] (cond (F.dg dr) (some (.normal,([.tuple #[.bool false,.slice (some ⟨1005,0,none⟩) 1 1,.int .i64 0]],((nearX c id ⟨1,id,-1,b,F.ds dr,0,false,false,⟨0,0,0,0,0,0,0,0,0,0,0,0,0,0,0,0⟩⟩ true (F.cd cr A.block) br kr dr)++[some (notesRow
 (notesL [⟨1,id,-1,b,F.ds dr,0,false,false,⟨0,0,0,0,0,0,0,0,0,0,0,0,0,0,0,0⟩⟩]) 24)])))) none)) none)) none) none) none)):=by kernel_rfl
theorem r_neA1bt (gl:Gl)(nm:NoteS→Int)(pd:Cfg→Int)(F:NrF)(c:Cfg)(id:Int)(ask:NoteS)(cr br kr dr:Rws)(b:Int):cV noSy gl (HNe nm pd (((F.b false).i true).l true)) 90 [pK 1000,.int .i64 b,.bool true] (nearX c id ask false cr br kr dr) noV=
 letI B:=nearX c id ask false cr br kr dr
 letI A:Option Out:=some (.normal,([.tuple #[.bool false,.slice none 0 0,.int .i64 2]],B))
 cond (decide (b<0)) A (cond (decide (b≥pd c)) A (cond (F.cf cr b) (cond (F.bf br b) (some (.normal,([.tuple #[.bool false,.slice none 0 0,.int .i64 110]],B))) none) none)):=by kernel_rfl
theorem r_neA1bf (gl:Gl)(nm:NoteS→Int)(pd:Cfg→Int)(F:NrF)(c:Cfg)(id:Int)(ask:NoteS)(cr br kr dr:Rws)(b:Int):cV noSy gl (HNe nm pd (((F.b false).i true).l false)) 90 [pK 1000,.int .i64 b,.bool true] (nearX c id ask false cr br kr dr) noV=
 letI B:=nearX c id ask false cr br kr dr
 letI A:Option Out:=some (.normal,([.tuple #[.bool false,.slice none 0 0,.int .i64 2]],B))
 cond (decide (b<0)) A (cond (decide (b≥pd c)) A (cond (F.cf cr b) (cond (F.bf br b) (some (.normal,([.tuple #[.bool false,.slice none 0 0,.int .i64 110]],B))) none) none)):=by kernel_rfl
theorem r_neA1n (gl:Gl)(nm:NoteS→Int)(pd:Cfg→Int)(F:NrF)(c:Cfg)(id:Int)(ask:NoteS)(cr br kr dr:Rws)(b:Int):cV noSy gl (HNe nm pd ((((F.b false).i false).l false).g false)) 90 [pK 1000,.int .i64 b,.bool true] (nearX c id ask false cr br kr dr) noV=
 letI A:Option Out:=some (.normal,([.tuple #[.bool false,.slice none 0 0,.int .i64 2]],(nearX c id ask false cr br kr dr)))
 cond (decide (b<0)) A (cond (decide (b≥pd c)) A (cond (F.cf cr b) (cond (F.bf br b) (cond (F.gf cr b) (cond (F.dg dr) (some (.normal,([.tuple #[.bool false,.slice (some ⟨1005,0,none⟩) 1 1,.int .i64 0]],((nearX c id ⟨2,id,-1,b,F.ds dr,0,false,false,⟨0,0,0,0,0,0,0,0,0,0,0,
 0,0,0,0,0⟩⟩ true cr br kr dr)++[some (notesRow (notesL [⟨2,id,-1,b,F.ds dr,0,false,false,⟨0,0,0,0,0,0,0,0,0,0,0,0,0,0,0,0⟩⟩]) 24)])))) none) none) none) none)):=by kernel_rfl
theorem r_neA1gr (gl:Gl)(nm:NoteS→Int)(pd:Cfg→Int)(F:NrF)(c:Cfg)(id:Int)(ask:NoteS)(cr br kr dr:Rws)(b:Int):cV noSy gl (HNe nm pd (((((((F.b false).i false).l false).g true).d true).r true).v true)) 90 [pK 1000,.int .i64 b,.bool true] (nearX c id ask false cr br kr dr) noV=
 letI A:=F.cgl cr b
 letI C:=nearX c id ask false cr br kr dr
 letI B:Option Out:=some (.normal,([.tuple #[.bool false,.slice none 0 0,.int .i64 2]],C))
 cond (decide (b<0)) B (cond (decide (b≥pd c)) B (cond (F.cf cr b) (cond (F.bf br b) (cond (F.gf cr b) (cond (A.state !=1) (cond (F.bg br) (cond (F.br br==0) (some (.normal,([.tuple #[.bool false,.slice none 0 0,.int .i64 110]],C))) (cond (F.bg br) (qs (w16Q (A.data) (A.block::[]))
 (cond (F.kf kr A.block) (qs (A.block::(w16Q (A.data) (w16Q (A.data) []))) (cond (F.df cr A.block) (qs [A.block] (cond (F.dg dr) (some (.normal,([.tuple #[.bool false,.slice (some ⟨1005,0,none⟩) 2 2,.int .i64 0]],((nearX c id ⟨2,id,-1,b,F.ds dr,0,false,false,⟨0,0,0,0,0,0,0,0,
 0,0,0,0,0,0,0,0⟩⟩ true (F.cd cr A.block) (F.bp br (A.block,A.data)) kr dr)++[some (notesRow (notesL [⟨3,id,-1,A.block,0,0,true,true,A.data⟩,⟨2,id,-1,b,F.ds dr,0,false,false,⟨0,0,0,0,0,0,0,0,0,0,0,0,0,0,0,0⟩⟩]) 24)])))) none)) none)) none)) none)) none)
 (cond (F.df cr A.block) (qs [A.block] (cond (F.dg dr) (some (.normal,([.tuple #[.bool false,.slice (some ⟨1005,0,none⟩) 1 1,.int .i64 0]],((nearX c id ⟨2,id,-1,b,F.ds dr,0,false,false,⟨0,0,0,0,0,0,0,0,0,0,0,0,0,0,0,0⟩⟩ true (F.cd cr A.block) br kr dr)++[some (notesRow
 (notesL [⟨2,id,-1,b,F.ds dr,0,false,false,⟨0,0,0,0,0,0,0,0,0,0,0,0,0,0,0,0⟩⟩]) 24)])))) none)) none)) none) none) none)):=by kernel_rfl
theorem r_neA1gs (gl:Gl)(nm:NoteS→Int)(pd:Cfg→Int)(F:NrF)(c:Cfg)(id:Int)(ask:NoteS)(cr br kr dr:Rws)(b:Int):cV noSy gl (HNe nm pd (((((((F.b false).i false).l false).g true).d true).r true).v false)) 90 [pK 1000,.int .i64 b,.bool true] (nearX c id ask false cr br kr dr) noV=
 letI A:=F.cgl cr b
 letI C:=nearX c id ask false cr br kr dr
 letI B:Option Out:=some (.normal,([.tuple #[.bool false,.slice none 0 0,.int .i64 2]],C))
 cond (decide (b<0)) B (cond (decide (b≥pd c)) B (cond (F.cf cr b) (cond (F.bf br b) (cond (F.gf cr b) (cond (A.state !=1) (cond (F.bg br) (cond (F.br br==0) (some (.normal,([.tuple #[.bool false,.slice none 0 0,.int .i64 110]],C))) (cond (F.bg br) (qs (w16Q (A.data) (A.block::[]))
 (cond (F.kf kr A.block) (qs (A.block::(w16Q (A.data) (w16Q (A.data) []))) (cond (F.df cr A.block) (qs [A.block] (cond (F.dg dr) (some (.normal,([.tuple #[.bool false,.slice (some ⟨1005,0,none⟩) 2 2,.int .i64 0]],((nearX c id ⟨2,id,-1,b,F.ds dr,0,false,false,⟨0,0,0,0,0,0,0,0,
 0,0,0,0,0,0,0,0⟩⟩ true (F.cd cr A.block) (F.bp br (A.block,A.data)) kr dr)++[some (notesRow (notesL [⟨3,id,-1,A.block,0,0,true,true,A.data⟩,⟨2,id,-1,b,F.ds dr,0,false,false,⟨0,0,0,0,0,0,0,0,0,0,0,0,0,0,0,0⟩⟩]) 24)])))) none)) none)) none)) none)) none)
 (cond (F.df cr A.block) (qs [A.block] (cond (F.dg dr) (some (.normal,([.tuple #[.bool false,.slice (some ⟨1005,0,none⟩) 1 1,.int .i64 0]],((nearX c id ⟨2,id,-1,b,F.ds dr,0,false,false,⟨0,0,0,0,0,0,0,0,0,0,0,0,0,0,0,0⟩⟩ true (F.cd cr A.block) br kr dr)++[some (notesRow
 (notesL [⟨2,id,-1,b,F.ds dr,0,false,false,⟨0,0,0,0,0,0,0,0,0,0,0,0,0,0,0,0⟩⟩]) 24)])))) none)) none)) none) none) none)):=by kernel_rfl
theorem r_neA1gw (gl:Gl)(nm:NoteS→Int)(pd:Cfg→Int)(F:NrF)(c:Cfg)(id:Int)(ask:NoteS)(cr br kr dr:Rws)(b:Int):cV noSy gl (HNe nm pd (((((((F.b false).i false).l false).g true).d true).r false).v true)) 90 [pK 1000,.int .i64 b,.bool true] (nearX c id ask false cr br kr dr) noV=
 letI A:=F.cgl cr b
 letI C:=nearX c id ask false cr br kr dr
 letI B:Option Out:=some (.normal,([.tuple #[.bool false,.slice none 0 0,.int .i64 2]],C))
 cond (decide (b<0)) B (cond (decide (b≥pd c)) B (cond (F.cf cr b) (cond (F.bf br b) (cond (F.gf cr b) (cond (A.state !=1) (cond (F.bg br) (cond (F.br br==0) (some (.normal,([.tuple #[.bool false,.slice none 0 0,.int .i64 110]],C))) (cond (F.bg br) (qs (w16Q (A.data) (A.block::[]))
 (cond (F.kf kr A.block) (qs (A.block::(w16Q (A.data) (w16Q (A.data) []))) (cond (F.df cr A.block) (qs [A.block] (cond (F.dg dr) (some (.normal,([.tuple #[.bool false,.slice (some ⟨1005,0,none⟩) 2 2,.int .i64 0]],((nearX c id ⟨2,id,-1,b,F.ds dr,0,false,false,⟨0,0,0,0,0,0,0,0,
 0,0,0,0,0,0,0,0⟩⟩ true (F.cd cr A.block) (F.bp br (A.block,A.data)) kr dr)++[some (notesRow (notesL [⟨3,id,-1,A.block,0,0,true,true,A.data⟩,⟨2,id,-1,b,F.ds dr,0,false,false,⟨0,0,0,0,0,0,0,0,0,0,0,0,0,0,0,0⟩⟩]) 24)])))) none)) none)) none)) none)) none)
 (cond (F.df cr A.block) (qs [A.block] (cond (F.dg dr) (some (.normal,([.tuple #[.bool false,.slice (some ⟨1005,0,none⟩) 1 1,.int .i64 0]],((nearX c id ⟨2,id,-1,b,F.ds dr,0,false,false,⟨0,0,0,0,0,0,0,0,0,0,0,0,0,0,0,0⟩⟩ true (F.cd cr A.block) br kr dr)++[some (notesRow
 (notesL [⟨2,id,-1,b,F.ds dr,0,false,false,⟨0,0,0,0,0,0,0,0,0,0,0,0,0,0,0,0⟩⟩]) 24)])))) none)) none)) none) none) none)):=by kernel_rfl
theorem r_neA1gu (gl:Gl)(nm:NoteS→Int)(pd:Cfg→Int)(F:NrF)(c:Cfg)(id:Int)(ask:NoteS)(cr br kr dr:Rws)(b:Int):cV noSy gl (HNe nm pd (((((((F.b false).i false).l false).g true).d true).r false).v false)) 90 [pK 1000,.int .i64 b,.bool true] (nearX c id ask false cr br kr dr) noV=
 letI A:=F.cgl cr b
 letI C:=nearX c id ask false cr br kr dr
 letI B:Option Out:=some (.normal,([.tuple #[.bool false,.slice none 0 0,.int .i64 2]],C))
 cond (decide (b<0)) B (cond (decide (b≥pd c)) B (cond (F.cf cr b) (cond (F.bf br b) (cond (F.gf cr b) (cond (A.state !=1) (cond (F.bg br) (cond (F.br br==0) (some (.normal,([.tuple #[.bool false,.slice none 0 0,.int .i64 110]],C))) (cond (F.bg br) (qs (w16Q (A.data) (A.block::[]))
 (cond (F.kf kr A.block) (qs (A.block::(w16Q (A.data) (w16Q (A.data) []))) (cond (F.df cr A.block) (qs [A.block] (cond (F.dg dr) (some (.normal,([.tuple #[.bool false,.slice (some ⟨1005,0,none⟩) 2 2,.int .i64 0]],((nearX c id ⟨2,id,-1,b,F.ds dr,0,false,false,⟨0,0,0,0,0,0,0,0,
 0,0,0,0,0,0,0,0⟩⟩ true (F.cd cr A.block) (F.bp br (A.block,A.data)) kr dr)++[some (notesRow (notesL [⟨3,id,-1,A.block,0,0,true,false,A.data⟩,⟨2,id,-1,b,F.ds dr,0,false,false,⟨0,0,0,0,0,0,0,0,0,0,0,0,0,0,0,0⟩⟩]) 24)])))) none)) none)) none)) none)) none)
 (cond (F.df cr A.block) (qs [A.block] (cond (F.dg dr) (some (.normal,([.tuple #[.bool false,.slice (some ⟨1005,0,none⟩) 1 1,.int .i64 0]],((nearX c id ⟨2,id,-1,b,F.ds dr,0,false,false,⟨0,0,0,0,0,0,0,0,0,0,0,0,0,0,0,0⟩⟩ true (F.cd cr A.block) br kr dr)++[some (notesRow
 (notesL [⟨2,id,-1,b,F.ds dr,0,false,false,⟨0,0,0,0,0,0,0,0,0,0,0,0,0,0,0,0⟩⟩]) 24)])))) none)) none)) none) none) none)):=by kernel_rfl
theorem r_neA2bt (gl:Gl)(nm:NoteS→Int)(pd:Cfg→Int)(F:NrF)(c:Cfg)(id:Int)(ask:NoteS)(cr br kr dr:Rws)(b:Int):cV noSy gl (HNe nm pd ((((F.b true).s true).i true).l true)) 90 [pK 1000,.int .i64 b,.bool true] (nearX c id ask false cr br kr dr) noV=
 letI B:=nearX c id ask false cr br kr dr
 letI A:Option Out:=some (.normal,([.tuple #[.bool false,.slice none 0 0,.int .i64 2]],B))
 cond (decide (b<0)) A (cond (decide (b≥pd c)) A (cond (F.cf cr b) (cond (F.bf br b) (some (.normal,([.tuple #[.bool false,.slice none 0 0,.int .i64 110]],B))) none) none)):=by kernel_rfl
theorem r_neA2bf (gl:Gl)(nm:NoteS→Int)(pd:Cfg→Int)(F:NrF)(c:Cfg)(id:Int)(ask:NoteS)(cr br kr dr:Rws)(b:Int):cV noSy gl (HNe nm pd ((((F.b true).s true).i true).l false)) 90 [pK 1000,.int .i64 b,.bool true] (nearX c id ask false cr br kr dr) noV=
 letI B:=nearX c id ask false cr br kr dr
 letI A:Option Out:=some (.normal,([.tuple #[.bool false,.slice none 0 0,.int .i64 2]],B))
 cond (decide (b<0)) A (cond (decide (b≥pd c)) A (cond (F.cf cr b) (cond (F.bf br b) (some (.normal,([.tuple #[.bool false,.slice none 0 0,.int .i64 110]],B))) none) none)):=by kernel_rfl
theorem r_neA2n (gl:Gl)(nm:NoteS→Int)(pd:Cfg→Int)(F:NrF)(c:Cfg)(id:Int)(ask:NoteS)(cr br kr dr:Rws)(b:Int):cV noSy gl (HNe nm pd (((((F.b true).s true).i false).l false).g false)) 90 [pK 1000,.int .i64 b,.bool true] (nearX c id ask false cr br kr dr) noV=
 letI A:Option Out:=some (.normal,([.tuple #[.bool false,.slice none 0 0,.int .i64 2]],(nearX c id ask false cr br kr dr)))
 cond (decide (b<0)) A (cond (decide (b≥pd c)) A (cond (F.cf cr b) (cond (F.bf br b) (cond (F.gf cr b) (cond (F.dg dr) (some (.normal,([.tuple #[.bool false,.slice (some ⟨1005,0,none⟩) 1 1,.int .i64 0]],((nearX c id ⟨2,id,-1,b,F.ds dr,0,false,false,⟨0,0,0,0,0,0,0,0,0,0,0,
 0,0,0,0,0⟩⟩ true cr br kr dr)++[some (notesRow (notesL [⟨2,id,-1,b,F.ds dr,0,false,false,⟨0,0,0,0,0,0,0,0,0,0,0,0,0,0,0,0⟩⟩]) 24)])))) none) none) none) none)):=by kernel_rfl
end Go.Proofs.YtpcbedgaecbfmaaGreatDoor
