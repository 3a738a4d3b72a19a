/- A core made anew, of any row of words. -/
import Derived.Test.YtpcbedgaecbfmaaGreatDoorK31
import Derived.Test.YtpcbedgaecbfmaaGreatDoorK33
noncomputable section
namespace Go.Proofs.YtpcbedgaecbfmaaGreatDoor
set_option maxRecDepth 100000
open Go.Proofs.YtpcbedgaecbfmaaGreatDoor.Ev Go.RowKit
structure CodeS where
 op:Int
 a:Int
 b:Int
 c:Int
 n:Int
abbrev cdL (k:CodeS):List Value:=[.int .u8 k.op,.int .i64 k.a,.int .i64 k.b,.int .i64 k.c,.int .i64 k.n]
def cdsL:List CodeS→List Value
 |[]=>[]
 |k::l=>cdL k++cdsL l
def symW (off:Nat)(zs:List Int):Sym:=⟨[],fun _ o=>nthI zs (o-off),fun _=>ByteArray.empty,fun k o=>decide (k=.u32)&&(Nat.ble off o&&Nat.ble (o-off+1) zs.length),fun _=>false,fun _=>false,fun _=>false,fun _=>.nilFunc,fun _=>false,false⟩
def GlW (gl:Gl)(b off:Nat)(zs:List Int):Prop:= ∀(i:Nat) z,zs[i]? =some z→gl b (off+i)=some (.int .u32 z)
def syW (b off:Nat)(zs:List Int)(l:List (Nat×Value)):Sy:=fun i=>cond (Nat.beq i b) (some (symW off zs)) (syG l i)
def afTk (g:Int→Bool)(e o a b c n:Int→Int):AF:=fun args _=>match args with
 |[.int .u32 x]=>some (g x,.tuple #[.agg #[.int .u8 (o x),.int .i64 (a x),.int .i64 (b x),.int .i64 (c x),.int .i64 (n x)],.int .i64 (e x)])
 |_=>none
def HTk (g:Int→Bool)(e o a b c n:Int→Int):Hs:=hsOf [(7,afTk g e o a b c n)] [] []
abbrev wSl (id off n cap:Nat):Value:=.slice (some ⟨id,off,none⟩) n cap
def cfgRow (c:Cfg):LObj:=.row ⟨cfgL c,23,(0,0),0,false,false⟩
def coreRow (c:Cfg)(id:Int)(pr:Value)(r:W16)(at_:Int)(nr lg:Value)(count:Int)(halted:Bool)(fault:Int):LObj:=.row ⟨cfgL c++(.int .i64 id::pr::w16C r (.int .i64 at_::nr::lg::.int .i64 count::.bool halted::[.int .u32 fault])),87,(0,0),0,false,false⟩
def codeRow (cs:List Value)(z:Nat):LObj:=.row ⟨cs,30,(0,0),z,false,false⟩
def cnVals (i:Int)(sl:Value)(n:Nat)(id:Int):List Value:=[.int .i64 i,pK 1000,sl,.int .i64 id,pK 1001,pK 1002,.int .i64 (n:Int)]
def cnRow (c:Cfg)(id:Int)(pr:Value):LObj:=coreRow c id pr w0 0 (.pointer none) (.pointer none) 0 false 0
abbrev cnSy (wid off:Nat)(zs:List Int):Sy:=syW wid off zs [(1003,.nilFunc)]
def wX (off:Nat)(zs:List Int)(i:Int):Int:=(symW off zs).int .u32 (off+i.toNat*1)
theorem r_cnO0 (gl:Gl)(g:Int→Bool)(e o a b q m:Int→Int)(off n cap:Nat)(zs:List Int)(c:Cfg)(id:Int)(r:Rws):rV (syW 902 off zs []) gl (HTk g e o a b q m) 9 0 [39,10,37,1,3,4,38] [10,1,3,4] 1003 (cnVals 0 (wSl 902 off n cap) n id,[some (cnRow c id (.slice none 0 0)),some (.box r []),some (cfgRow c)]) [] noC=
 letI B:=wX off zs 0
 letI C:Value:=.pointer none
 letI A:Rws:=[some (coreRow c id (.slice none 0 0) ⟨0,0,0,0,0,0,0,0,0,0,0,0,0,0,0,0⟩ 0 C C 0 false 0),some (.box r []),some (cfgRow c)]
 letI D:List Value:=[pK 1000,.int .i64 id,pK 1001,pK 1002]
 cond (decide (0<(↑n:Int))) (cond (decide (0<(↑n:Int))&&(n.ble cap)) (cond ((symW off zs).okI .u32 (off+0)) (cond (g B) (cond (e B !=0) (some (.inr (.ret,(D,A)))) (qs [o B,a B,b B,q B,m B] (some (.inl ([.int .i64 1,pK 1000,.slice (some ⟨902,off,none⟩) n cap,.int .i64 id,pK
 1001,pK 1002,.int .i64 ((↑n:Int))],[some (coreRow c id (.slice (some ⟨1003,0,none⟩) 1 1) ⟨0,0,0,0,0,0,0,0,0,0,0,0,0,0,0,0⟩ 0 C C 0 false 0),some (.box r []),some (cfgRow c),some (codeRow [.int .u8 (o B),.int .i64 (a B),.int .i64 (b B),.int .i64 (q B),.int .i64 (m B)]
 5)]))))) none) none) none) (some (.inr (.exit 0,(D,A)))):=by kernel_rfl
theorem r_cnO (gl:Gl)(g:Int→Bool)(e o a b q m:Int→Int)(off n cap:Nat)(zs:List Int)(c:Cfg)(id:Int)(r:Rws)(i:Int)(k:Nat)(cs:List Value):rV (cnSy 902 off zs) gl (HTk g e o a b q m) 9 0 [39,10,37,1,3,4,38] [10,1,3,4] 1003 (cnVals i (wSl 902 off n cap) n id,[some (cnRow c id (slK 1003 k)),some (.box r []),some (cfgRow c),some (codeRow cs 5)]) [] noC=
 letI B:=wX off zs i
 letI C:=(winL 0 (k*5) cs)++[.int .u8 (o B),.int .i64 (a B),.int .i64 (b B),.int .i64 (q B),.int .i64 (m B)]
 letI D:Value:=.pointer none
 letI A:Rws:=[some (coreRow c id (.slice (some ⟨1003,0,none⟩) k k) ⟨0,0,0,0,0,0,0,0,0,0,0,0,0,0,0,0⟩ 0 D D 0 false 0),some (.box r []),some (cfgRow c),some (codeRow cs 5)]
 letI E:List Value:=[pK 1000,.int .i64 id,pK 1001,pK 1002]
 letI F:=List.all cs (af 8)&&true
 letI G:=decide (i<(↑n:Int))
 cond G (cond (decide (0≤i)&&G&&(n.ble cap)) (cond ((symW off zs).okI .u32 (off+i.toNat*1)) (cond (g B) (cond (e B !=0) (cond F (some (.inr (.ret,(E,A)))) none) (cond (k.ble k) (cond (((k+1)*40).ble 140737488355328&&((k+1).ble 1099511627776)) (cond ((0+k*5).ble cs.length)
 (qs [o B,a B,b B,q B,m B] (qn [k,k] (cond (List.all C (af 8)&&true) (some (.inl ([.int .i64 (IntKind.i64.wrap (i+1)),pK 1000,.slice (some ⟨902,off,none⟩) n cap,.int .i64 id,pK 1001,pK 1002,.int .i64 ((↑n:Int))],[some (coreRow c id (.slice (some ⟨1003,0,none⟩) (k+1) (k+1))
 ⟨0,0,0,0,0,0,0,0,0,0,0,0,0,0,0,0⟩ 0 D D 0 false 0),some (.box r []),some (cfgRow c),some (codeRow C 5)]))) none))) none) none) none)) none) none) none) (cond F (some (.inr (.exit 0,(E,A)))) none):=by kernel_rfl
theorem r_cnN (gl:Gl)(c:Cfg)(id:Int)(r:Rws):rV noSy gl H0 9 0 [39,10,37,1,3,4,38] [10,1,3,4] 1003 (cnVals 0 (.slice none 0 0) 0 id,[some (cnRow c id (.slice none 0 0)),some (.box r []),some (cfgRow c)]) [] noC=
 some (.inr (.exit 0,([pK 1000,.int IntKind.i64 id,pK 1001,pK 1002],[some (coreRow c id (.slice none 0 0) ⟨0,0,0,0,0,0,0,0,0,0,0,0,0,0,0,0⟩ 0 (.pointer none) (.pointer none) 0 false 0),some (.box r []),some (cfgRow c)]))):=by kernel_rfl
theorem r_cnB0 (gl:Gl)(g:Int→Bool)(e o a b q m:Int→Int)(off n cap:Nat)(zs:List Int)(c:Cfg)(id:Int)(r:Rws):rV (syW 902 off zs []) gl (HTk g e o a b q m) 9 0 [39,10,37,1,3,4,38] [10,1,3,4,8,9] 1003 (cnVals 0 (wSl 902 off n cap) n id,[some (cnRow c id (.slice none 0 0)),some (.box r []),some (cfgRow c)]) [] noC=
 letI A:=wX off zs 0
 letI B:Value:=.pointer none
 cond (decide (0<(↑n:Int))) (cond (decide (0<(↑n:Int))&&(n.ble cap)) (cond ((symW off zs).okI .u32 (off+0)) (cond (g A) (cond (e A !=0) (some (.inr (.ret,([pK 1000,.int .i64 id,pK 1001,pK 1002,.pointer none,.int .i64 2],[some (coreRow c id (.slice none 0 0) ⟨0,0,0,0,0,0,0,
 0,0,0,0,0,0,0,0,0⟩ 0 B B 0 false 0),some (.box r []),some (cfgRow c)])))) (qs [o A,a A,b A,q A,m A] (some (.inl ([.int .i64 1,pK 1000,.slice (some ⟨902,off,none⟩) n cap,.int .i64 id,pK 1001,pK 1002,.int .i64 ((↑n:Int))],[some (coreRow c id (.slice (some ⟨1003,0,none⟩) 1
 1) ⟨0,0,0,0,0,0,0,0,0,0,0,0,0,0,0,0⟩ 0 B B 0 false 0),some (.box r []),some (cfgRow c),some (codeRow [.int .u8 (o A),.int .i64 (a A),.int .i64 (b A),.int .i64 (q A),.int .i64 (m A)] 5)]))))) none) none) none) none:=by kernel_rfl
theorem r_cnB (gl:Gl)(g:Int→Bool)(e o a b q m:Int→Int)(off n cap:Nat)(zs:List Int)(c:Cfg)(id:Int)(r:Rws)(i:Int)(k:Nat)(cs:List Value):rV (cnSy 902 off zs) gl (HTk g e o a b q m) 9 0 [39,10,37,1,3,4,38] [10,1,3,4,8,9] 1003 (cnVals i (wSl 902 off n cap) n id,[some (cnRow c id (slK 1003 k)),some (.box r []),some (cfgRow c),some (codeRow cs 5)]) [] noC=
 letI A:=wX off zs i
 letI B:=(winL 0 (k*5) cs)++[.int .u8 (o A),.int .i64 (a A),.int .i64 (b A),.int .i64 (q A),.int .i64 (m A)]
 letI C:Value:=.pointer none
 letI D:=decide (i<(↑n:Int))
 cond D (cond (decide (0≤i)&&D&&(n.ble cap)) (cond ((symW off zs).okI .u32 (off+i.toNat*1)) (cond (g A) (cond (e A !=0) (cond (List.all cs (af 8)&&true) (some (.inr (.ret,([pK 1000,.int .i64 id,pK 1001,pK 1002,.pointer none,.int .i64 2],[some (coreRow c id (.slice (some ⟨1003,0,
 none⟩) k k) ⟨0,0,0,0,0,0,0,0,0,0,0,0,0,0,0,0⟩ 0 C C 0 false 0),some (.box r []),some (cfgRow c),some (codeRow cs 5)])))) none) (cond (k.ble k) (cond (((k+1)*40).ble 140737488355328&&((k+1).ble 1099511627776)) (cond ((0+k*5).ble cs.length) (qs [o A,a A,b A,q A,m A]
 (qn [k,k] (cond (List.all B (af 8)&&true) (some (.inl ([.int .i64 (IntKind.i64.wrap (i+1)),pK 1000,.slice (some ⟨902,off,none⟩) n cap,.int .i64 id,pK 1001,pK 1002,.int .i64 ((↑n:Int))],[some (coreRow c id (.slice (some ⟨1003,0,none⟩) (k+1) (k+1)) ⟨0,0,0,0,0,0,0,0,0,0,
 0,0,0,0,0,0⟩ 0 C C 0 false 0),some (.box r []),some (cfgRow c),some (codeRow B 5)]))) none))) none) none) none)) none) none) none) none:=by kernel_rfl
def HCn (m:Cfg→Int)(gm:Rws→Bool)(nb:Rws→Int)(gn:Cfg×Int→Bool)(nr:Cfg×Int→Rws)(gg:Rws→Cfg×Int→Bool)(lg:Cfg×Int→Rws)(out:List Nat)(t:List Value→Rws→Bool)(e:Ex)(vs:List Value)(rows:Rws):Hs:=
 hsOf [(29,afC ttC fun c=>.int .i64 (m c))] [(30,hdM dec0 (fun r _=>gm r) (fun r _=>.int .i64 (nb r)) fun r _=>r),(31,hdN decCi gn (fun _=>0) nr),(32,hdNM decLg gg (fun _ _=>0) fun _ x=>lg x)] [(9,[(0,⟨[39,10,37,1,3,4,38],out,gH t (e,vs,rows)⟩)])]
abbrev cnB (m:Cfg→Int)(gm:Rws→Bool)(nb:Rws→Int)(gn:Cfg×Int→Bool)(nr:Cfg×Int→Rws)(gg:Rws→Cfg×Int→Bool)(lg:Cfg×Int→Rws)(out:List Nat)(t:List Value→Rws→Bool)(e:Ex)(vs:List Value)(rows:Rws)(gl:Gl)(c:Cfg)(id:Int)(sl:Value)(r:Rws):Option Out:=
 cB gl (HCn m gm nb gn nr gg lg out t e vs rows) 9 [cfgV c,.int .i64 id,sl,pK 1000] (bx r) plM
def cnV4 (id:Int):List Value:=[pK 1000,.int .i64 id,pK 1001,pK 1002]
def cnV6 (id:Int):List Value:=[pK 1000,.int .i64 id,pK 1001,pK 1002,.pointer none,.int .i64 2]
theorem r_cNewO (m:Cfg→Int)(gm:Rws→Bool)(nb:Rws→Int)(gn:Cfg×Int→Bool)(nr:Cfg×Int→Rws)(gg:Rws→Cfg×Int→Bool)(lg:Cfg×Int→Rws)(t:List Value→Rws→Bool)(gl:Gl)(c:Cfg)(id:Int)(off n cap k:Nat)(cs:List Value)(r:Rws):cnB m gm nb gn nr gg lg [10,1,3,4] t (.exit 0) (cnV4 id) ([some (cnRow c id (slK 1003 k)),some (.box r []),some (cfgRow c),some (codeRow cs 5)]) gl c id (wSl 902 off n cap) r=
 letI A:Option Out:=some (.normal,([.tuple #[.pointer none,.int .i64 2]],[some (.box r [])]))
 cond (m c !=0) (qs [c.cores,c.sets,c.ways,c.blocks,c.logs,c.backs,c.nest,c.tries] A) (cond (decide ((↑n:Int)>1024)) (qs [(↑n:Int),c.cores,c.sets,c.ways,c.blocks,c.logs,c.backs,c.nest,c.tries] A) (cond (gm r) (cond (nb r !=c.blocks) (qs [c.blocks,c.blocks,(↑n:Int),
 c.cores,c.sets,c.ways,c.blocks,c.logs,c.backs,c.nest,c.tries] A) (qs [c.blocks,c.blocks,(↑n:Int),c.cores,c.sets,c.ways,c.blocks,c.logs,c.backs,c.nest,c.tries] (cond (t [.int .i64 0,pK 1000,.slice (some ⟨902,off,none⟩) n cap,.int .i64 id,pK 1001,pK 1002,goInt (↑n:Int)]
 [some (coreRow c id (.slice none 0 0) ⟨0,0,0,0,0,0,0,0,0,0,0,0,0,0,0,0⟩ 0 (.pointer none) (.pointer none) 0 false 0),some (LObj.box r []),some (.row ⟨cfgL c,23,(0,0),0,false,false⟩)]) (cond (List.all cs (af 8)&&true) (cond (gn (c,id)) (cond (gg r (c,id)) (cond (List.all
 cs (af 8)&&true&&true) (some (.normal,([.tuple #[pK 1001,.int .i64 0]],[some (.box r []),some (.box ([some (coreRow c id (.slice (some ⟨1001,0,none⟩) k k) ⟨0,0,0,0,0,0,0,0,0,0,0,0,0,0,0,0⟩ 0 (pK 1002) (pK 1003) 0 false 0),some (codeRow cs 5),some (.box (nr (c,id)) []),
 some (.box ((lg (c,id))++[none]) [1004])]++[none]) [1000])]))) none) none) none) none) none))) none)):=by kernel_rfl
theorem r_cNewO0 (m:Cfg→Int)(gm:Rws→Bool)(nb:Rws→Int)(gn:Cfg×Int→Bool)(nr:Cfg×Int→Rws)(gg:Rws→Cfg×Int→Bool)(lg:Cfg×Int→Rws)(t:List Value→Rws→Bool)(gl:Gl)(c:Cfg)(id:Int)(off n cap:Nat)(r:Rws):cnB m gm nb gn nr gg lg [10,1,3,4] t (.exit 0) (cnV4 id) ([some (cnRow c id (.slice none 0 0)),some (.box r []),some (cfgRow c)]) gl c id (wSl 902 off n cap) r=
 letI A:Option Out:=some (.normal,([.tuple #[.pointer none,.int .i64 2]],[some (.box r [])]))
 cond (m c !=0) (qs [c.cores,c.sets,c.ways,c.blocks,c.logs,c.backs,c.nest,c.tries] A) (cond (decide ((↑n:Int)>1024)) (qs [(↑n:Int),c.cores,c.sets,c.ways,c.blocks,c.logs,c.backs,c.nest,c.tries] A) (cond (gm r) (cond (nb r !=c.blocks) (qs [c.blocks,c.blocks,(↑n:Int),
 c.cores,c.sets,c.ways,c.blocks,c.logs,c.backs,c.nest,c.tries] A) (qs [c.blocks,c.blocks,(↑n:Int),c.cores,c.sets,c.ways,c.blocks,c.logs,c.backs,c.nest,c.tries] (cond (t [.int .i64 0,pK 1000,.slice (some ⟨902,off,none⟩) n cap,.int .i64 id,pK 1001,pK 1002,goInt (↑n:Int)]
 [some (coreRow c id (.slice none 0 0) ⟨0,0,0,0,0,0,0,0,0,0,0,0,0,0,0,0⟩ 0 (.pointer none) (.pointer none) 0 false 0),some (LObj.box r []),some (.row ⟨cfgL c,23,(0,0),0,false,false⟩)]) (cond (gn (c,id)) (cond (gg r (c,id)) (some (.normal,([.tuple #[pK 1001,.int .i64 0]],
 [some (.box r []),some (.box ([some (coreRow c id (.slice none 0 0) ⟨0,0,0,0,0,0,0,0,0,0,0,0,0,0,0,0⟩ 0 (pK 1001) (pK 1002) 0 false 0),some (.box (nr (c,id)) []),some (.box ((lg (c,id))++[none]) [1003])]++[none]) [1000])]))) none) none) none))) none)):=by kernel_rfl
theorem r_cNewN (m:Cfg→Int)(gm:Rws→Bool)(nb:Rws→Int)(gn:Cfg×Int→Bool)(nr:Cfg×Int→Rws)(gg:Rws→Cfg×Int→Bool)(lg:Cfg×Int→Rws)(t:List Value→Rws→Bool)(gl:Gl)(c:Cfg)(id:Int)(r:Rws):cnB m gm nb gn nr gg lg [10,1,3,4] t (.exit 0) (cnV4 id) ([some (cnRow c id (.slice none 0 0)),some (.box r []),some (cfgRow c)]) gl c id (.slice none 0 0) r=
 letI A:Option Out:=some (.normal,([.tuple #[.pointer none,.int .i64 2]],[some (.box r [])]))
 cond (m c !=0) (qs [c.cores,c.sets,c.ways,c.blocks,c.logs,c.backs,c.nest,c.tries] A) (cond (gm r) (cond (nb r !=c.blocks) (qs [c.blocks,c.blocks,c.cores,c.sets,c.ways,c.blocks,c.logs,c.backs,c.nest,c.tries] A) (qs [c.blocks,c.blocks,c.cores,c.sets,c.ways,c.blocks,c.logs,
 c.backs,c.nest,c.tries] (cond (t [.int .i64 0,pK 1000,.slice none 0 0,.int .i64 id,pK 1001,pK 1002,goInt 0] [some (coreRow c id (.slice none 0 0) ⟨0,0,0,0,0,0,0,0,0,0,0,0,0,0,0,0⟩ 0 (.pointer none) (.pointer none) 0 false 0),some (LObj.box r []),some (.row ⟨cfgL c,23,(0,
 0),0,false,false⟩)]) (cond (gn (c,id)) (cond (gg r (c,id)) (some (.normal,([.tuple #[pK 1001,.int .i64 0]],[some (.box r []),some (.box ([some (coreRow c id (.slice none 0 0) ⟨0,0,0,0,0,0,0,0,0,0,0,0,0,0,0,0⟩ 0 (pK 1001) (pK 1002) 0 false 0),some (.box (nr (c,id)) []),
 some (.box ((lg (c,id))++[none]) [1003])]++[none]) [1000])]))) none) none) none))) none):=by kernel_rfl
theorem r_cNewB (m:Cfg→Int)(gm:Rws→Bool)(nb:Rws→Int)(gn:Cfg×Int→Bool)(nr:Cfg×Int→Rws)(gg:Rws→Cfg×Int→Bool)(lg:Cfg×Int→Rws)(t:List Value→Rws→Bool)(gl:Gl)(c:Cfg)(id:Int)(off n cap k:Nat)(cs:List Value)(r:Rws):cnB m gm nb gn nr gg lg [10,1,3,4,8,9] t .ret (cnV6 id) ([some (cnRow c id (slK 1003 k)),some (.box r []),some (cfgRow c),some (codeRow cs 5)]) gl c id (wSl 902 off n cap) r=
 letI A:Option Out:=some (.normal,([.tuple #[.pointer none,.int .i64 2]],[some (.box r [])]))
 cond (m c !=0) (qs [c.cores,c.sets,c.ways,c.blocks,c.logs,c.backs,c.nest,c.tries] A) (cond (decide ((↑n:Int)>1024)) (qs [(↑n:Int),c.cores,c.sets,c.ways,c.blocks,c.logs,c.backs,c.nest,c.tries] A) (cond (gm r) (cond (nb r !=c.blocks) (qs [c.blocks,c.blocks,(↑n:Int),
 c.cores,c.sets,c.ways,c.blocks,c.logs,c.backs,c.nest,c.tries] A) (qs [c.blocks,c.blocks,(↑n:Int),c.cores,c.sets,c.ways,c.blocks,c.logs,c.backs,c.nest,c.tries] (cond (t [.int .i64 0,pK 1000,.slice (some ⟨902,off,none⟩) n cap,.int .i64 id,pK 1001,pK 1002,goInt (↑n:Int)]
 [some (coreRow c id (.slice none 0 0) ⟨0,0,0,0,0,0,0,0,0,0,0,0,0,0,0,0⟩ 0 (.pointer none) (.pointer none) 0 false 0),some (LObj.box r []),some (.row ⟨cfgL c,23,(0,0),0,false,false⟩)]) (cond (List.all cs (af 8)&&true) A none) none))) none)):=by kernel_rfl
theorem r_cNewB0 (m:Cfg→Int)(gm:Rws→Bool)(nb:Rws→Int)(gn:Cfg×Int→Bool)(nr:Cfg×Int→Rws)(gg:Rws→Cfg×Int→Bool)(lg:Cfg×Int→Rws)(t:List Value→Rws→Bool)(gl:Gl)(c:Cfg)(id:Int)(off n cap:Nat)(r:Rws):cnB m gm nb gn nr gg lg [10,1,3,4,8,9] t .ret (cnV6 id) ([some (cnRow c id (.slice none 0 0)),some (.box r []),some (cfgRow c)]) gl c id (wSl 902 off n cap) r=
 letI A:Option Out:=some (.normal,([.tuple #[.pointer none,.int .i64 2]],[some (.box r [])]))
 cond (m c !=0) (qs [c.cores,c.sets,c.ways,c.blocks,c.logs,c.backs,c.nest,c.tries] A) (cond (decide ((↑n:Int)>1024)) (qs [(↑n:Int),c.cores,c.sets,c.ways,c.blocks,c.logs,c.backs,c.nest,c.tries] A) (cond (gm r) (cond (nb r !=c.blocks) (qs [c.blocks,c.blocks,(↑n:Int),
 c.cores,c.sets,c.ways,c.blocks,c.logs,c.backs,c.nest,c.tries] A) (qs [c.blocks,c.blocks,(↑n:Int),c.cores,c.sets,c.ways,c.blocks,c.logs,c.backs,c.nest,c.tries] (cond (t [.int .i64 0,pK 1000,.slice (some ⟨902,off,none⟩) n cap,.int .i64 id,pK 1001,pK 1002,goInt (↑n:Int)]
 [some (coreRow c id (.slice none 0 0) ⟨0,0,0,0,0,0,0,0,0,0,0,0,0,0,0,0⟩ 0 (.pointer none) (.pointer none) 0 false 0),some (LObj.box r []),some (.row ⟨cfgL c,23,(0,0),0,false,false⟩)]) A none))) none)):=by kernel_rfl
def CodeS.may (k:CodeS):Bool:=cmay k.op k.a k.b k.c k.n
def cdRd:Value→CodeS×Int
 | .tuple ⟨[.agg ⟨[.int _ o,.int _ a,.int _ b,.int _ c,.int _ n]⟩,.int _ e]⟩=>(⟨o,a,b,c,n⟩,e)
 |_=>(⟨0,0,0,0,0⟩,0)
def tkS (x:Int):CodeS:=(cdRd (takeV x)).1
def tkE (x:Int):Int:=(cdRd (takeV x)).2
def CdP (v:Value):Prop:=v=.tuple #[.agg ⟨cdL (cdRd v).1⟩,.int .i64 (cdRd v).2]∧((cdRd v).2=0→(cdRd v).1.may=true)∧((cdRd v).2=0∨(cdRd v).2=6)
theorem tkV_P (x op a b c n:Int):CdP (tkV x op a b c n):=by
 unfold tkV
 cases hc:cmay op a b c n&&decide (wordN op a b c n=x)with
 |true=>exact⟨rfl,fun _=>((qa1 _ _).mp hc).1,.inl rfl⟩
 |false=>exact⟨rfl,fun h=>(by cases h),.inr rfl⟩
theorem take_P (x:Int):CdP (takeV x):=by
 unfold takeV
 split<;>exact tkV_P ..
theorem takeC_eq (x:Int):takeV x=.tuple #[.agg ⟨cdL (tkS x)⟩,.int .i64 (tkE x)]:=(take_P x).1
theorem take_may {x:Int}(h:tkE x=0):(tkS x).may=true:=(take_P x).2.1 h
def wordG (x:Int):Bool:=decide (0≤x)&&decide (x<4294967296)
abbrev HTk1:Hs:=HTk wordG tkE (fun x=>(tkS x).op) (fun x=>(tkS x).a) (fun x=>(tkS x).b) (fun x=>(tkS x).c) (fun x=>(tkS x).n)
theorem fn_tk {gl:Gl}(hF:GlF gl)(hgl:Low gl):FnOK Tryz.prog gl 7 (afTk wordG tkE (fun x=>(tkS x).op) (fun x=>(tkS x).a) (fun x=>(tkS x).b) (fun x=>(tkS x).c) (fun x=>(tkS x).n)):=fnWeak (fn_ctake hF hgl) fun args σ v h=>by
 unfold afTk at h
 split at h
 ·rename_i x
  simp only[Option.some.injEq,Prod.mk.injEq]at h
  obtain⟨h1,rfl⟩:=h
  unfold afTake
  simp only[takeC_eq]
  unfold wordG at h1
  rw[h1]
 ·cases h
theorem HTk_ok {gl:Gl}(hF:GlF gl)(hgl:Low gl):HTk1.OK Tryz.prog gl:=one_ok fun p hp=>by
 simp only[List.mem_cons,List.not_mem_nil,or_false]at hp
 subst hp
 exact fn_tk hF hgl
theorem symW_of {gl:Gl}{b off:Nat}{zs:List Int}(h:GlW gl b off zs):(symW off zs).Of (gl b) where
 int:=fun k o h1=>by
  simp only[symW,qa1,decide_eq_true_eq]at h1 ⊢
  obtain⟨rfl,h2,h3⟩:=h1
  have h2:=qn1 h2
  have h3:=qn1 h3
  have:=h (o-off) _ (nthI_get h3)
  rwa [show off+(o-off)=o from by omega]at this
 str:=fun o h1=>by cases h1
 bool:=fun o h1=>by cases h1
 val:=fun o h1=>by cases h1
theorem syW_ok {gl:Gl}{b off:Nat}{zs:List Int}{l:List (Nat×Value)}(hb:b<1000)(h:GlW gl b off zs):SyOK gl (syW b off zs l):=fun i S e=>by
 unfold syW at e
 rw[qc1]at e
 split at e
 ·rename_i q
  cases e
  rw[nbeq]at q
  subst q
  exact⟨fun hl=>by omega,fun _=>symW_of h⟩
 ·exact syG_ok l i S e
theorem wX_eq {off:Nat}{zs:List Int}{i:Nat}(h:i<zs.length):wX off zs (i:Int)=zs[i]:=by
 have e:wX off zs (i:Int)=nthI zs (off+i*1-off):=rfl
 rw[e,show off+i*1-off=i from by omega]
 have:=nthI_get (show i+1≤zs.length by omega)
 rw[qx2 h]at this
 exact(Option.some.inj this).symm
theorem symW_t {off:Nat}{zs:List Int}{i:Nat}(h:i<zs.length):(symW off zs).okI .u32 (off+i*1)=true:=by
 show(decide (IntKind.u32=IntKind.u32)&&(Nat.ble off (off+i*1)&&Nat.ble (off+i*1-off+1) zs.length))=true
 rw[nbl (show off≤off+i*1 by omega),nbl (show off+i*1-off+1≤zs.length by omega)]
 rfl
theorem cdsL_len: ∀l:List CodeS,(cdsL l).length=l.length*5
 |[]=>rfl
 |k::l=>by simp only[cdsL,List.length_append,cdsL_len l,List.length_cons,List.length_nil];omega
theorem cdsL_af: ∀l:List CodeS,(cdsL l).all (af 8)=true
 |[]=>rfl
 |k::l=>by simp only[cdsL,List.all_append,cdsL_af l,Bool.and_true];rfl
theorem cdsL_app: ∀a b:List CodeS,cdsL (a++b)=cdsL a++cdsL b
 |[],_=>rfl
 |k::l,b=>by simp only[List.cons_append,cdsL,cdsL_app l b,List.append_assoc]
theorem winL_all {n:Nat}{l:List Value}(h:l.length=n):winL 0 n l=l:=by
 unfold winL
 rw[List.drop_zero,List.take_of_length_le (by omega)]
theorem take_s {α:Type}{l:List α}{i:Nat}(h:i<l.length):l.take (i+1)=l.take i++[l[i]]:=by simp
def cnAt (c:Cfg)(id:Int)(r:Rws)(zs:List Int):Nat→Rws
 |0=>[some (cnRow c id (.slice none 0 0)),some (.box r []),some (cfgRow c)]
 |i+1=>[some (cnRow c id (slK 1003 (i+1))),some (.box r []),some (cfgRow c),some (codeRow (cdsL ((zs.take (i+1)).map tkS)) 5)]
def WordsOk (zs:List Int):Prop:= ∀x∈zs,0≤x∧x<4294967296
theorem wordG_t {zs:List Int}(h:WordsOk zs){i:Nat}(hi:i<zs.length):wordG zs[i]=true:=by
 obtain⟨h1,h2⟩:=h _ (List.getElem_mem hi)
 unfold wordG
 rw[qd1 h1,qd1 h2];rfl
theorem cds_step {zs:List Int}{i:Nat}(h:i<zs.length):cdsL ((zs.take (i+1)).map tkS)=winL 0 (i*5) (cdsL ((zs.take i).map tkS))++cdL (tkS zs[i]):=by
 rw[winL_all (by rw[cdsL_len,List.length_map,List.length_take];omega),take_s h,List.map_append,cdsL_app]
 simp only[List.map_cons,List.map_nil,cdsL,List.append_nil]
def cnSt (c:Cfg)(id:Int)(r:Rws)(zs:List Int)(sl:Value)(i:Nat):LSt:=(cnVals (i:Int) sl zs.length id,cnAt c id r zs i)
theorem cn_roundO {gl:Gl}{zs:List Int}{off cap:Nat}(hcap:zs.length≤cap)(hn:zs.length≤1024)(hz:WordsOk zs)(c:Cfg)(id:Int)(r:Rws){i:Nat}(h:i<zs.length)(he:tkE zs[i]=0):
 ∃sy:Sy,(GlW gl 902 off zs→SyOK gl sy)∧rV sy gl HTk1 9 0 [39,10,37,1,3,4,38] [10,1,3,4] 1003 (cnSt c id r zs (wSl 902 off zs.length cap) i) [] noC=some (.inl (cnSt c id r zs (wSl 902 off zs.length cap) (i+1))):=by
 have hx:=wX_eq (off:=off) h
 have hc:zs.length.ble cap=true:=nbl hcap
 have d1:decide ((i:Int)<(zs.length:Int))=true:=qd1 (by omega)
 cases i with
 |zero=>
  have hx:wX off zs 0=zs[0]:=hx
  refine⟨syW 902 off zs [],syW_ok (by decide),(r_cnO0 gl wordG tkE _ _ _ _ _ off zs.length cap zs c id r).trans ?_⟩
  refine condI (qd1 (by omega)) (condI (andI (qd1 (by omega)) hc) (condI (symW_t h) ?_))
  rw[hx,he]
  refine condI (wordG_t hz h) ?_
  simp only[qs_eq]
  have e:cdsL ((zs.take (0+1)).map tkS)=cdL (tkS zs[0]):=by rw[cds_step h];rfl
  show _=some (Sum.inl (cnVals 1 _ _ _,[some (cnRow c id (slK 1003 1)),some (.box r []),some (cfgRow c),some (codeRow (cdsL ((zs.take (0+1)).map tkS)) 5)]))
  rw[e];rfl
 |succ i=>
  refine⟨cnSy 902 off zs,syW_ok (by decide),(r_cnO gl wordG tkE _ _ _ _ _ off zs.length cap zs c id r ((i+1:Nat):Int) (i+1) (cdsL ((zs.take (i+1)).map tkS))).trans ?_⟩
  refine condI d1 (condI (andI (andI (qd1 (by omega)) d1) hc) (condI (symW_t h) ?_))
  rw[hx,he]
  refine condI (wordG_t hz h) ?_
  refine condE rfl (condI (nbl (Nat.le_refl _)) (condI (andI (nbl (by omega)) (nbl (by omega))) (condI (nbl (by rw[cdsL_len,List.length_map,List.length_take];omega)) ?_)))
  simp only[qs_eq,qn_eq]
  refine condI ?_ ?_
  ·rw[Bool.and_true]
   show(_++cdL (tkS zs[i+1])).all (af 8)=true
   rw[List.all_append,winL_all (by rw[cdsL_len,List.length_map,List.length_take];omega),cdsL_af];rfl
  ·show _=some (Sum.inl (cnVals ((i+1+1:Nat):Int) _ _ _,[some (cnRow c id (slK 1003 (i+1+1))),some (.box r []),some (cfgRow c),some (codeRow (cdsL ((zs.take (i+1+1)).map tkS)) 5)]))
   rw[cds_step h,wrap_id _ (by omega)];rfl
theorem cn_endO {gl:Gl}{zs:List Int}{off cap:Nat}(c:Cfg)(id:Int)(r:Rws):
 ∃sy:Sy,(GlW gl 902 off zs→SyOK gl sy)∧rV sy gl HTk1 9 0 [39,10,37,1,3,4,38] [10,1,3,4] 1003 (cnSt c id r zs (wSl 902 off zs.length cap) zs.length) [] noC=some (.inr (.exit 0,cnV4 id,cnAt c id r zs zs.length)):=by
 unfold cnSt
 generalize hn:zs.length=n
 cases n with
 |zero=>
  exact⟨syW 902 off zs [],syW_ok (by decide),(r_cnO0 gl wordG tkE _ _ _ _ _ off 0 cap zs c id r).trans (condE (qd2 (by omega)) rfl)⟩
 |succ i=>
  refine⟨cnSy 902 off zs,syW_ok (by decide),(r_cnO gl wordG tkE _ _ _ _ _ off (i+1) cap zs c id r ((i+1:Nat):Int) (i+1) (cdsL ((zs.take (i+1)).map tkS))).trans (condE (qd2 (by omega)) ?_)⟩
  rw[cdsL_af];rfl
theorem cn_loopO {gl:Gl}(hF:GlF gl)(hgl:Low gl){zs:List Int}{off cap:Nat}(hW:GlW gl 902 off zs)(hcap:zs.length≤cap)(hn:zs.length≤1024)(hz:WordsOk zs)(hok: ∀x∈zs,tkE x=0)(c:Cfg)(id:Int)(r:Rws):
 LpOK Tryz.prog gl 9 0 ⟨[39,10,37,1,3,4,38],[10,1,3,4],gH (atS (cnVals 0 (wSl 902 off zs.length cap) zs.length id) (cnAt c id r zs 0)) (.exit 0,cnV4 id,cnAt c id r zs zs.length)⟩:=
 loop_ofV goodT hgl tglob fun vs rows' t q h1 h2=>by
  obtain⟨rfl,rfl,rfl⟩:=gH_run h1 h2
  refine⟨by show 1003≤most;decide,{i:Nat//i≤zs.length},fun i=>cnSt c id r zs (wSl 902 off zs.length cap) i.1,fun _=>some (.exit 0,cnV4 id,cnAt c id r zs zs.length),fun i=>zs.length-i.1,⟨0,Nat.zero_le _⟩,.inl rfl,rfl,?_⟩
  rintro⟨i,hi⟩ o ho
  cases ho
  by_cases e:i=zs.length
  ·subst e
   obtain⟨sy,h1,h2⟩:=cn_endO (gl:=gl) (zs:=zs) (off:=off) (cap:=cap) c id r
   exact⟨sy,HTk1,100,40,40,_,[],noC,h1 hW,HTk_ok hF hgl,h2,rfl⟩
  ·obtain⟨sy,h1,h2⟩:=cn_roundO (gl:=gl) (off:=off) hcap hn hz c id r (show i<zs.length by omega) (hok _ (List.getElem_mem _))
   exact⟨sy,HTk1,100,40,40,_,[],noC,h1 hW,HTk_ok hF hgl,h2,⟨i+1,by omega⟩,rfl,by show zs.length-(i+1)<zs.length-i;omega,rfl⟩
theorem cn_roundB {gl:Gl}{zs:List Int}{off cap:Nat}(hcap:zs.length≤cap)(hn:zs.length≤1024)(hz:WordsOk zs)(c:Cfg)(id:Int)(r:Rws){i:Nat}(h:i<zs.length)(he:tkE zs[i]=0):
 ∃sy:Sy,(GlW gl 902 off zs→SyOK gl sy)∧rV sy gl HTk1 9 0 [39,10,37,1,3,4,38] [10,1,3,4,8,9] 1003 (cnSt c id r zs (wSl 902 off zs.length cap) i) [] noC=some (.inl (cnSt c id r zs (wSl 902 off zs.length cap) (i+1))):=by
 have hx:=wX_eq (off:=off) h
 have hc:zs.length.ble cap=true:=nbl hcap
 have d1:decide ((i:Int)<(zs.length:Int))=true:=qd1 (by omega)
 cases i with
 |zero=>
  have hx:wX off zs 0=zs[0]:=hx
  refine⟨syW 902 off zs [],syW_ok (by decide),(r_cnB0 gl wordG tkE _ _ _ _ _ off zs.length cap zs c id r).trans ?_⟩
  refine condI (qd1 (by omega)) (condI (andI (qd1 (by omega)) hc) (condI (symW_t h) ?_))
  rw[hx,he]
  refine condI (wordG_t hz h) ?_
  simp only[qs_eq]
  have e:cdsL ((zs.take (0+1)).map tkS)=cdL (tkS zs[0]):=by rw[cds_step h];rfl
  show _=some (Sum.inl (cnVals 1 _ _ _,[some (cnRow c id (slK 1003 1)),some (.box r []),some (cfgRow c),some (codeRow (cdsL ((zs.take (0+1)).map tkS)) 5)]))
  rw[e];rfl
 |succ i=>
  refine⟨cnSy 902 off zs,syW_ok (by decide),(r_cnB gl wordG tkE _ _ _ _ _ off zs.length cap zs c id r ((i+1:Nat):Int) (i+1) (cdsL ((zs.take (i+1)).map tkS))).trans ?_⟩
  refine condI d1 (condI (andI (andI (qd1 (by omega)) d1) hc) (condI (symW_t h) ?_))
  rw[hx,he]
  refine condI (wordG_t hz h) ?_
  refine condE rfl (condI (nbl (Nat.le_refl _)) (condI (andI (nbl (by omega)) (nbl (by omega))) (condI (nbl (by rw[cdsL_len,List.length_map,List.length_take];omega)) ?_)))
  simp only[qs_eq,qn_eq]
  refine condI ?_ ?_
  ·rw[Bool.and_true]
   show(_++cdL (tkS zs[i+1])).all (af 8)=true
   rw[List.all_append,winL_all (by rw[cdsL_len,List.length_map,List.length_take];omega),cdsL_af];rfl
  ·show _=some (Sum.inl (cnVals ((i+1+1:Nat):Int) _ _ _,[some (cnRow c id (slK 1003 (i+1+1))),some (.box r []),some (cfgRow c),some (codeRow (cdsL ((zs.take (i+1+1)).map tkS)) 5)]))
   rw[cds_step h,wrap_id _ (by omega)];rfl
theorem cn_badB {gl:Gl}{zs:List Int}{off cap:Nat}(hcap:zs.length≤cap)(hz:WordsOk zs)(c:Cfg)(id:Int)(r:Rws){i:Nat}(h:i<zs.length)(he:tkE zs[i]≠0):
 ∃sy:Sy,(GlW gl 902 off zs→SyOK gl sy)∧rV sy gl HTk1 9 0 [39,10,37,1,3,4,38] [10,1,3,4,8,9] 1003 (cnSt c id r zs (wSl 902 off zs.length cap) i) [] noC=some (.inr (.ret,cnV6 id,cnAt c id r zs i)):=by
 have hx:=wX_eq (off:=off) h
 have hc:zs.length.ble cap=true:=nbl hcap
 have hb:(tkE zs[i] !=0)=true:=by simpa using he
 have d1:decide ((i:Int)<(zs.length:Int))=true:=qd1 (by omega)
 cases i with
 |zero=>
  have hx:wX off zs 0=zs[0]:=hx
  refine⟨syW 902 off zs [],syW_ok (by decide),(r_cnB0 gl wordG tkE _ _ _ _ _ off zs.length cap zs c id r).trans ?_⟩
  refine condI (qd1 (by omega)) (condI (andI (qd1 (by omega)) hc) (condI (symW_t h) ?_))
  rw[hx]
  exact condI (wordG_t hz h) (condI hb rfl)
 |succ i=>
  refine⟨cnSy 902 off zs,syW_ok (by decide),(r_cnB gl wordG tkE _ _ _ _ _ off zs.length cap zs c id r ((i+1:Nat):Int) (i+1) (cdsL ((zs.take (i+1)).map tkS))).trans ?_⟩
  refine condI d1 (condI (andI (andI (qd1 (by omega)) d1) hc) (condI (symW_t h) ?_))
  rw[hx]
  exact condI (wordG_t hz h) (condI hb (condI (by rw[cdsL_af];rfl) rfl))
theorem cn_loopB {gl:Gl}(hF:GlF gl)(hgl:Low gl){zs:List Int}{off cap:Nat}(hW:GlW gl 902 off zs)(hcap:zs.length≤cap)(hn:zs.length≤1024)(hz:WordsOk zs){j:Nat}(hj:j<zs.length)(hok: ∀i (h:i<j),tkE (zs[i]'(by omega))=0)(hbad:tkE zs[j]≠0)(c:Cfg)(id:Int)(r:Rws):
 LpOK Tryz.prog gl 9 0 ⟨[39,10,37,1,3,4,38],[10,1,3,4,8,9],gH (atS (cnVals 0 (wSl 902 off zs.length cap) zs.length id) (cnAt c id r zs 0)) (.ret,cnV6 id,cnAt c id r zs j)⟩:=
 loop_ofV goodT hgl tglob fun vs rows' t q h1 h2=>by
  obtain⟨rfl,rfl,rfl⟩:=gH_run h1 h2
  refine⟨by show 1003≤most;decide,{i:Nat//i≤j},fun i=>cnSt c id r zs (wSl 902 off zs.length cap) i.1,fun _=>some (.ret,cnV6 id,cnAt c id r zs j),fun i=>j-i.1,⟨0,Nat.zero_le _⟩,.inl rfl,rfl,?_⟩
  rintro⟨i,hi⟩ o ho
  cases ho
  by_cases e:i=j
  ·subst e
   obtain⟨sy,h1,h2⟩:=cn_badB (gl:=gl) (off:=off) hcap hz c id r hj hbad
   exact⟨sy,HTk1,100,40,40,_,[],noC,h1 hW,HTk_ok hF hgl,h2,rfl⟩
  ·obtain⟨sy,h1,h2⟩:=cn_roundB (gl:=gl) (off:=off) hcap hn hz c id r (show i<zs.length by omega) (hok i (by omega))
   exact⟨sy,HTk1,100,40,40,_,[],noC,h1 hW,HTk_ok hF hgl,h2,⟨i+1,by omega⟩,rfl,by show j-(i+1)<j-i;omega,rfl⟩
theorem cn_loopN {gl:Gl}(hgl:Low gl)(c:Cfg)(id:Int)(r:Rws):LpOK Tryz.prog gl 9 0 ⟨[39,10,37,1,3,4,38],[10,1,3,4],gH (atS (cnVals 0 (.slice none 0 0) 0 id) (cnAt c id r [] 0)) (.exit 0,cnV4 id,cnAt c id r [] 0)⟩:=
 loop_ofV goodT hgl tglob fun vs rows' t q h1 h2=>by
  obtain⟨rfl,rfl,rfl⟩:=gH_run h1 h2
  refine⟨by show 1003≤most;decide,Unit,fun _=>(cnVals 0 (.slice none 0 0) 0 id,cnAt c id r [] 0),fun _=>some (.exit 0,cnV4 id,cnAt c id r [] 0),fun _=>0,(),.inl rfl,rfl,?_⟩
  rintro _ o ho
  cases ho
  exact⟨noSy,H0,100,40,40,_,[],noC,noSy_ok,H0_ok,r_cnN gl c id r,rfl⟩
theorem bad_first: ∀{zs:List Int},zs.all (fun x=>tkE x==0)=false→ ∃j,∃(hj:j<zs.length),(∀i (h:i<j),tkE (zs[i]'(by omega))=0)∧tkE zs[j]≠0
 |[],h=>by cases h
 |x::l,h=>by
  rw[List.all_cons]at h
  cases hx:tkE x==0 with
  |false=>exact⟨0,by simp,fun i hi=>by omega,by simpa using hx⟩
  |true=>
   rw[hx,Bool.true_and]at h
   obtain⟨j,hj,h1,h2⟩:=bad_first h
   refine⟨j+1,by simpa using hj,fun i hi=>?_,by simpa using h2⟩
   cases i with
   |zero=>simpa using hx
   |succ i=>simpa using h1 i (by omega)
structure CoreS where
 c:Cfg
 id:Int
 prog:List CodeS
 regs:W16
 at_:Int
 near:Rws
 log:Rws
 count:Int
 halted:Bool
 fault:Int
def coreR (k:CoreS):Rws:=match k.prog with
 |[]=>[some (coreRow k.c k.id (.slice none 0 0) k.regs k.at_ (pK 1001) (pK 1002) k.count k.halted k.fault),some (.box k.near []),some (.box (k.log++[none]) [1003])]
 |q::l=>[some (coreRow k.c k.id (slK 1001 (l.length+1)) k.regs k.at_ (pK 1002) (pK 1003) k.count k.halted k.fault),some (codeRow (cdsL (q::l)) 5),some (.box k.near []),some (.box (k.log++[none]) [1004])]
def coreN (c:Cfg)(id:Int)(zs:List Int):CoreS:=⟨c,id,zs.map tkS,w0,0,nearN c id,lgN c id,0,false,0⟩
def cnE (c:Cfg)(zs:List Int):Int:=cond (planOk c) (cond (decide ((zs.length:Int)>1024)) 2 (cond (zs.all fun x=>tkE x==0) 0 2)) 2
def cnOut (c:Cfg)(id:Int)(zs:List Int)(r:Rws):Out:=cond (cnE c zs==0) (.normal,[.tuple #[pK 1001,.int .i64 0]],[some (.box r []),some (.box (coreR (coreN c id zs)++[none]) [1000])]) (.normal,[.tuple #[.pointer none,.int .i64 2]],[some (.box r [])])
def ggC (r:Rws)(x:Cfg×Int):Bool:=planOk x.1&&(isMemN r x.1.blocks&&(decide (0≤x.2)&&decide (x.2<x.1.cores)))
abbrev HCn1 (out:List Nat)(t:List Value→Rws→Bool)(e:Ex)(vs:List Value)(rows:Rws):Hs:=HCn mayE isMem (fun r=>((mOf r).n:Int)) nrOk (fun x=>nearN x.1 x.2) ggC (fun x=>lgN x.1 x.2) out t e vs rows
theorem HCn_ok {gl:Gl}(hgl:Low gl){out:List Nat}{t:List Value→Rws→Bool}{e:Ex}{vs:List Value}{rows:Rws}(h:LpOK Tryz.prog gl 9 0 ⟨[39,10,37,1,3,4,38],out,gH t (e,vs,rows)⟩):(HCn1 out t e vs rows).OK Tryz.prog gl:=
 hsOf_ok (fun p hp=>by
  simp only[List.mem_cons,List.not_mem_nil,or_false]at hp
  subst hp;exact fn_pMay hgl) (fun p hp=>by
  simp only[List.mem_cons,List.not_mem_nil,or_false]at hp
  rcases hp with rfl|rfl|rfl
  ·exact sub_mBlk hgl
  ·exact sub_nrNew hgl
  ·exact sub_lgNew hgl) (fun p hp q hq=>by
  simp only[List.mem_singleton]at hp;subst hp
  simp only[List.mem_singleton]at hq;subst hq
  exact h)
theorem lp_none {gl:Gl}{f:FuncId}{n:Nat}{live out:List Nat}{o:Out}:LpOK Tryz.prog gl f n ⟨live,out,gH (fun _ _=>false) o⟩:=fun fn body x _ _ _ vs rows t e vs' rows' h1 h2=>by
 unfold gH at h1
 cases h1
 cases h2
theorem sub_coNew {gl:Gl}(hF:GlF gl)(hgl:Low gl){zs:List Int}{off cap:Nat}(hW:GlW gl 902 off zs)(hcap:zs.length≤cap)(hz:WordsOk zs){c:Cfg}{id:Int}{r:Rws}(hm:isMemN r c.blocks=true)(hid:planOk c=true→0≤id∧id<c.cores):
 SubOK Tryz.prog gl 9 (gH (atS [cfgV c,.int .i64 id,wSl 902 off zs.length cap,pK 1000] (bx r)) (cnOut c id zs r)):=by
 have hm':=hm
 simp only[isMemN,qa1,beq_iff_eq]at hm'
 obtain⟨hm1,hm2⟩:=hm'
 cases hp:planOk c with
 |false=>
  refine atB hgl (HCn_ok hgl (out:=[10,1,3,4]) (e:=.exit 0) (vs:=cnV4 id) (rows:=cnAt c id r zs 0) lp_none) (pl:=plM) ((r_cNewO0 _ _ _ _ _ _ _ (fun _ _=>false) gl c id off zs.length cap r).trans ?_)
  have e:mayE c=2:=by unfold mayE;rw[hp];rfl
  rw[e]
  simp only[qs_eq]
  unfold cnOut cnE
  rw[hp];rfl
 |true=>
  have e:mayE c=0:=mayE_t hp
  obtain⟨i0,i1⟩:=hid hp
  have g1:nrOk (c,id)=true:=andI hp (andI (qd1 i0) (qd1 i1))
  have g2:ggC r (c,id)=true:=andI hp (andI hm (andI (qd1 i0) (qd1 i1)))
  have g3:(((mOf r).n:Int) !=c.blocks)=false:=by rw[hm2];exact bneI_self _
  by_cases hn:zs.length≤1024
  case neg=>
   refine atB hgl (HCn_ok hgl (out:=[10,1,3,4]) (e:=.exit 0) (vs:=cnV4 id) (rows:=cnAt c id r zs 0) lp_none) (pl:=plM) ((r_cNewO0 _ _ _ _ _ _ _ (fun _ _=>false) gl c id off zs.length cap r).trans ?_)
   rw[e]
   simp only[qs_eq]
   unfold cnOut cnE
   rw[hp,qd1 (show(zs.length:Int)>1024 by omega)];rfl
  have d1:decide ((zs.length:Int)>1024)=false:=qd2 (by omega)
  cases ha:zs.all (fun x=>tkE x==0)with
  |false=>
   obtain⟨j,hj,h1,h2⟩:=bad_first ha
   have hlp:=cn_loopB hF hgl hW hcap hn hz hj h1 h2 c id r
   have ho:cnOut c id zs r=(.normal,[.tuple #[.pointer none,.int .i64 2]],[some (.box r [])]):=by
    unfold cnOut cnE;rw[hp,d1,ha];rfl
   rw[ho]
   cases j with
   |zero=>
    refine atB hgl (HCn_ok hgl hlp) (pl:=plM) ((r_cNewB0 _ _ _ _ _ _ _ _ gl c id off zs.length cap r).trans ?_)
    simp only[qs_eq]
    exact condE (by rw[e];rfl) (condE d1 (condI hm1 (condE g3 (condI (atS_self _ _) rfl))))
   |succ j=>
    refine atB hgl (HCn_ok hgl hlp) (pl:=plM) ((r_cNewB _ _ _ _ _ _ _ _ gl c id off zs.length cap (j+1) (cdsL ((zs.take (j+1)).map tkS)) r).trans ?_)
    simp only[qs_eq]
    exact condE (by rw[e];rfl) (condE d1 (condI hm1 (condE g3 (condI (atS_self _ _) (condI (by rw[cdsL_af];rfl) rfl)))))
  |true=>
   have hok: ∀x∈zs,tkE x=0:=fun x hx=>by simpa using List.all_eq_true.1 ha x hx
   have hlp:=cn_loopO hF hgl hW hcap hn hz hok c id r
   have ho:cnOut c id zs r=(.normal,[.tuple #[pK 1001,.int .i64 0]],[some (.box r []),some (.box (coreR (coreN c id zs)++[none]) [1000])]):=by
    unfold cnOut cnE;rw[hp,d1,ha];rfl
   rw[ho]
   cases zs with
   |nil=>
    refine atB hgl (HCn_ok hgl hlp) (pl:=plM) ((r_cNewO0 _ _ _ _ _ _ _ _ gl c id off 0 cap r).trans ?_)
    simp only[qs_eq]
    exact condE (by rw[e];rfl) (condE d1 (condI hm1 (condE g3 (condI (atS_self _ _) (condI g1 (condI g2 rfl))))))
   |cons z l=>
    have haf:((cdsL (((z::l).take (z::l).length).map tkS)).all (af 8)&&true)=true:=by rw[cdsL_af];rfl
    refine atB hgl (HCn_ok hgl hlp) (pl:=plM) ((r_cNewO _ _ _ _ _ _ _ _ gl c id off (z::l).length cap (l.length+1) (cdsL (((z::l).take (z::l).length).map tkS)) r).trans ?_)
    simp only[qs_eq]
    refine condE (by rw[e];rfl) (condE d1 (condI hm1 (condE g3 (condI (atS_self _ _) (condI haf (condI g1 (condI g2 (condI (by rw[haf];rfl) ?_))))))))
    rw[List.take_length]
    have hl:(l.map tkS).length=l.length:=List.length_map ..
    show _=some (Ex.normal,[Value.tuple #[pK 1001,.int .i64 0]],[some (LObj.box r []),some (.box ([some (coreRow c id (slK 1001 ((l.map tkS).length+1)) w0 0 (pK 1002) (pK 1003) 0 false 0),some (codeRow (cdsL ((z::l).map tkS)) 5),some (.box (nearN c id) []),some (.box (lgN c id++[none]) [1004])]++[none]) [1000])])
    rw[hl];rfl
end Go.Proofs.YtpcbedgaecbfmaaGreatDoor
