/- A home of one core: residuals of its code. No condition. -/
import Derived.Test.YtpcbedgaecbfmaaGreatDoorK74
import Derived.Test.YtpcbedgaecbfmaaGreatDoorK42
noncomputable section
namespace Go.Proofs.YtpcbedgaecbfmaaGreatDoor
set_option maxRecDepth 100000
open Go.Proofs.YtpcbedgaecbfmaaGreatDoor.Ev Go.RowKit
def enO (es:List Value)(o:Nat):Bool:=(gS es).okI .i64 (o+0)&&((gS es).okI .u32 (o+1)&&true)
def enV (es:List Value)(o:Nat):Value:=.agg ([.int .i64 ((gS es).int .i64 (o+0)),.int .u32 ((gS es).int .u32 (o+1))]:List Value).toArray
def entRo (cs:List Value)(z:Nat):LObj:=.row ⟨cs,148,(0,0),z,false,false⟩
def jobU (v:Value):Value:=.agg ([.int .u8 ((gS (cellsV v)).int .u8 0),.int .i64 ((gS (cellsV v)).int .i64 1),.int .i64 ((gS (cellsV v)).int .i64 2),.int .i64 ((gS (cellsV v)).int .i64 3),.int .u64 ((gS (cellsV v)).int .u64 4),.int .u8 ((gS (cellsV v)).int .u8 5),.bool ((gS (cellsV v)).bool 6),.bool ((gS (cellsV v)).bool 7),.int .u32 ((gS (cellsV v)).int .u32 8),.int .u32 ((gS (cellsV v)).int .u32 9),.int .u32 ((gS (cellsV v)).int .u32 10),.int .u32 ((gS (cellsV v)).int .u32 11),.int .u32 ((gS (cellsV v)).int .u32 12),.int .u32 ((gS (cellsV v)).int .u32 13),.int .u32 ((gS (cellsV v)).int .u32 14),.int .u32 ((gS (cellsV v)).int .u32 15),.int .u32 ((gS (cellsV v)).int .u32 16),.int .u32 ((gS (cellsV v)).int .u32 17),.int .u32 ((gS (cellsV v)).int .u32 18),.int .u32 ((gS (cellsV v)).int .u32 19),.int .u32 ((gS (cellsV v)).int .u32 20),.int .u32 ((gS (cellsV v)).int .u32 21),.int .u32 ((gS (cellsV v)).int .u32 22),.int .u32 ((gS (cellsV v)).int .u32 23),.int .u32 ((gS (cellsV v)).int .u32 24),.bool ((gS (cellsV v)).bool 25),.bool ((gS (cellsV v)).bool 26),.int .u64 ((gS (cellsV v)).int .u64 27)]:List Value).toArray
def jobZ:Value:=.agg #[.int .u8 0,.int .i64 0,.int .i64 0,.int .i64 0,.int .u64 0,.int .u8 0,.bool false,.bool false,.int .u32 0,.int .u32 0,.int .u32 0,.int .u32 0,.int .u32 0,.int .u32 0,.int .u32 0,.int .u32 0,.int .u32 0,.int .u32 0,.int .u32 0,.int .u32 0,.int .u32 0,.int .u32 0,.int .u32 0,.int .u32 0,.int .u32 0,.bool false,.bool false,.int .u64 0]
def homeRow (c:Cfg)(p1 p2 p3 p4:Value):LObj:=.row ⟨cfgL c++[p1,p2,p3,p4],152,(0,0),0,false,false⟩
def jobW (n:NoteS):Value:=.agg ⟨noteL n++[.int .u32 0,.bool true,.bool false,.int .u64 0]⟩
def hoX (c:Cfg)(n:Nat)(es:List Value)(js:List (Value×Value×Nat))(clk:Nat)(wr mr:Rws):Rws:=[some (.box (homeX c n es js clk wr++[none]) [1001]),some (.box mr [])]
def hoO (c:Cfg)(n:Nat)(es:List Value)(js:List (Value×Value×Nat))(clk:Nat)(wr mr:Rws):Rws:=[some (homeRow c (pK 1001) (slK 1002 n) (.map (some 1003)) (pK 1004)),some (.box mr []),some (entRo es 0),some (.map js clk),some (.box wr [])]
abbrev cH (gl:Gl)(H:Hs)(f:FuncId)(vs:List Value)(rows:Rws):Option Out:=callV (syG [(1002,.nilFunc)]) Tryz.prog gl (fun _=>none) H 100 40 40 f vs rows plK
abbrev atE:Value:=.func (.func 112) #[] #[pK 1001]
def afMh (mg mh:Int→Int→Bool):AF:=fun args _=>match args with
 |[.int .u32 m,.int .i64 k]=>some (mg m k,.bool (mh m k))
 |_=>none
theorem r_hRdy (gl:Gl)(ne:NoteS→Int)(nk:Int→Int)(mg mh:Int→Int→Bool)(rg:Rws→Bool)(rm:Rws→Int)(c:Cfg)(n:Nat)(es:List Value)(js:List (Value×Value×Nat))(clk:Nat)(wr mr:Rws)(nt:NoteS):cV noSy gl (hsOf [(104,afN ne),(107,afI1 .u8 (fun _=>true) fun k=>.int .i64 (nk k)),(106,afMh mg mh)] [(105,hdM dec0 (fun r _=>rg r) (fun r _=>.int .i64 (rm r)) fun r _=>r)] []) 68 [pK 1000,noteV nt] (hoO c n es js clk wr mr) noV=
 letI A:=List.all es (af 8)&&(List.all js (fun e=>af 8 e.fst&&af 8 e.snd.fst)&&true)
 letI F:=mapGetI js nt.block
 letI G:=genOf (genSym Value.nilFunc) (cellsV F)
 letI H:Value:=.tuple #[jobU F,.bool true]
 letI I:=hoO c n es js clk wr mr
 letI C:Option Out:=cond A (some (.normal,([.int .i64 8],I))) none
 letI D:=qb [nt.has,nt.stick] (qs (w16Q nt.data []) (cond A (some (.normal,([.int .i64 2],I))) none))
 letI E:Option Out:=cond A (some (.normal,([.int .i64 0],I))) none
 letI B:Option Out:=qs [nt.block] (cond (nk nt.kind==0) (cond (rg wr) (cond (rm wr==0) (cond A (some (.normal,([.int .i64 110],I))) none) E) none) (cond (nt.kind==11) (cond (G.bool 25) (cond (G.int .i64 1 !=nt.frm) C E) C) (cond (G.bool 25) C (cond (mg (G.int .u32 24) nt.frm) (cond (mh (G.int .u32 24) nt.frm) E C) none))))
 letI J:Option Out:=qs [nt.block] (cond (nk nt.kind==0) E (cond (nt.kind==11) C C))
 letI K:=mapHasI js nt.block
 letI L:=mapKeysI .i64 js
 letI M:=veq 8 F (jobU F)
 letI N:Value:=.tuple #[jobZ,.bool false]
 cond (ne nt !=0) (qs [nt.kind,nt.frm,nt.too,nt.block,nt.stamp,nt.state] D) (cond (nt.too != -1) (qs [nt.too,nt.kind,nt.frm,nt.too,nt.block,nt.stamp,nt.state] D) (cond (decide (nt.frm≥c.cores)) (qs [c.cores,nt.frm,nt.too,nt.kind,nt.frm,nt.too,nt.block,nt.stamp,nt.state] D)
 (cond (decide (nt.block≥(↑n:Int))) (qs [(↑n:Int)] (qn [n,n] (qs [nt.block,c.cores,nt.frm,nt.too,nt.kind,nt.frm,nt.too,nt.block,nt.stamp,nt.state] D))) (qs [(↑n:Int)] (qn [n,n] (qs [nt.block,c.cores,nt.frm,nt.too,nt.kind,nt.frm,nt.too,nt.block,nt.stamp,nt.state] (qb
 [nt.has,nt.stick] (qs (w16Q nt.data []) (cond L (cond K (cond M (cond L (cond K (cond M (cond (veq 8 H H) B none) none) (cond (veq 8 N H) B none)) none) none) (cond L (cond K (cond M (cond (veq 8 H N) J none) none) J) none)) none))))))))):=by kernel_rfl
theorem r_hGet (gl:Gl)(gk:Int→Bool)(c:Cfg)(n:Nat)(es:List Value)(js:List (Value×Value×Nat))(clk:Nat)(wr mr:Rws)(nt:NoteS)(tR:List Value→Rws→Bool)(tA tG:List Value→Bool)(by_ o1 s1 st1:Int)(tB:List Value→Rws→Bool)(x:W16):cH gl (hsOf [(107,afI1 .u8 gk fun k=>.int .i64 0),(109,afT tA (.tuple #[.int .u32 0,.int .u8 by_,.int .i64 0])),(117,afT tG (.tuple #[.agg #[.int .i64 o1,.int .u32 s1],.int .u8 st1,.int .i64 0])),(108,afT (fun _=>false) (.int .i64 0))] [(68,gH tR (.normal,[.int .i64 0],hoO c n es js clk wr mr)),(116,gH tB (.normal,[.tuple #[w16V x,.int .i64 0]],[some (.box mr [])])),(70,deadH)] []) 40 [pK 1000,noteV nt] (hoX c n es js clk wr mr)=
 letI B:=mapSetI .i64 nt.block (.agg #[.int .u8 nt.kind,.int .i64 nt.frm,.int .i64 nt.too,.int .i64 nt.block,.int .u64 nt.stamp,.int .u8 nt.state,.bool nt.has,.bool nt.stick,.int .u32 nt.data.a0,.int .u32 nt.data.a1,.int .u32 nt.data.a2,.int .u32 nt.data.a3,.int .u32 nt.data.a4,.int .u32 nt.data.a5,.int .u32 nt.data.a6,.int .u32 nt.data.a7,.int .u32 nt.data.a8,.int .u32 nt.data.a9,.int .u32 nt.data.a10,.int .u32 nt.data.a11,.int .u32 nt.data.a12,.int .u32 nt.data.a13,.int .u32 nt.data.a14,.int .u32 nt.data.a15,.int .u32 0,.bool true,.bool false,.int .u64 0]) clk js
 letI C:=decide (0≤nt.block)&&(decide (nt.block<(↑n:Int)))&&(n.ble n)
 letI D:=0+nt.block.toNat*2
 letI E:=mapGetI js nt.block
 letI F:=List.all js (fun e=>af 8 e.fst&&af 8 e.snd.fst)&&true
 letI G:=genOf (genSym Value.nilFunc) es
 letI H:Value:=.tuple #[jobU E,.bool true]
 letI I:=mapKeysI .i64 js
 letI J:=splice es D [.int .i64 o1,.int .u32 s1]
 letI K:=mapHasI js nt.block
 letI L:=veq 8 E (jobU E)
 letI M:=gk nt.kind
 letI N:=0+nt.block.toNat*2+0
 letI O:=0+nt.block.toNat*2+1
 letI A:Option Out:=qs [nt.block] (cond M (cond M (cond (nt.kind==3) (cond C (cond (enO es D) (cond nt.stick none none) none) none) (cond C (cond (enO es D) (cond (tA ([]++[enV es D,.int .u8 nt.kind,.int .i64 nt.frm]++[])) (qs [nt.frm,nt.kind] (cond (enO es D) (qs [G.int .i64 N,G.int .u32 O,nt.block] (qn [n,n] (cond C (cond (enO es D) (cond (tG ([]++[enV es D,.int .u8 nt.kind,.int .i64 nt.frm]++[])) (qs [nt.frm,nt.kind] (cond (enO es D) (qs [G.int .i64 N,G.int .u32 O] (qn [n,n] (cond C (cond ((0+nt.block.toNat*2+[Value.int .i64 o1,.int .u32 s1].length).ble es.length&&true&&true) (qs [o1,s1] (qn [n,n] (cond I (qs [nt.kind,nt.frm,nt.too,nt.block,nt.stamp,nt.state] (qb [nt.has,nt.stick] (qs (w16Q nt.data []) (cond (tB [pK 1000,.int .i64 nt.block] [some (LObj.box mr [])]) (cond (List.all J (af 8)&&(List.all B (fun e=>af 8 e.fst&&af 8 e.snd.fst)&&true)&&true) (some (.normal,([.tuple #[.slice (some ⟨1002,0,none⟩) 1 1,.int .i64 0]],[some (.box ([some (homeRow c (pK 1004) (.slice (some ⟨1001,0,none⟩) n n) (.map (some 1002)) (pK 1003)),some (entRo J 0),some (.map B (mapClkI js nt.block clk)),some (.box wr [])]++[none]) [1001]),some (.box mr []),some (notesRow (notesL [⟨6,-1,nt.frm,nt.block,0,st1,true,false,x⟩]) 0)]))) none) none)))) none))) none) none))) none)) none) none) none))) none)) none) none) none)) none) none)
 letI P:=List.all es (af 8)&&F
 letI Q:Option Out:=qs [nt.block] (cond M none none)
 letI R:Value:=.tuple #[jobZ,.bool false]
 cond (List.all es (af 8)&&F&&true&&true&&true&&true) (cond P (cond (tR [pK 1000,.agg #[.int .u8 nt.kind,.int .i64 nt.frm,.int .i64 nt.too,.int .i64 nt.block,.int .u64 nt.stamp,.int .u8 nt.state,.bool nt.has,.bool nt.stick,.int .u32 nt.data.a0,.int .u32 nt.data.a1,.int .u32
 nt.data.a2,.int .u32 nt.data.a3,.int .u32 nt.data.a4,.int .u32 nt.data.a5,.int .u32 nt.data.a6,.int .u32 nt.data.a7,.int .u32 nt.data.a8,.int .u32 nt.data.a9,.int .u32 nt.data.a10,.int .u32 nt.data.a11,.int .u32 nt.data.a12,.int .u32 nt.data.a13,.int .u32 nt.data.a14,.int .u32
 nt.data.a15]] (hoO c n es js clk wr mr)) (cond P (cond I (cond K (cond L (cond I (cond K (cond L (cond (veq 8 H H) Q none) none) (cond (veq 8 R H) Q none)) none) none) (cond I (cond K (cond L (cond (veq 8 H R) A none) none) A) none)) none) none) none) none) none:=by kernel_rfl
theorem r_hPut (gl:Gl)(gk:Int→Bool)(c:Cfg)(n:Nat)(es:List Value)(js:List (Value×Value×Nat))(clk:Nat)(wr mr:Rws)(nt:NoteS)(tR:List Value→Rws→Bool)(tK:List Value→Bool)(o1 s1:Int)(tB:List Value→Rws→Bool)(mr1:Rws):cH gl (hsOf [(107,afI1 .u8 gk fun k=>.int .i64 0),(108,afT tK (.tuple #[.agg #[.int .i64 o1,.int .u32 s1],.bool true,.int .i64 0]))] [(68,gH tR (.normal,[.int .i64 0],hoO c n es js clk wr mr)),(74,gH tB (.normal,[.int .i64 0],[some (.box mr1 [])])),(70,deadH)] []) 40 [pK 1000,noteV {nt with kind:=3}] (hoX c n es js clk wr mr)=
 letI C:=List.all js (fun e=>af 8 e.fst&&af 8 e.snd.fst)&&true
 letI D:=mapGetI js nt.block
 letI E:=0+nt.block.toNat*2
 letI F:Value:=.tuple #[jobU D,.bool true]
 letI G:=decide (0≤nt.block)&&(decide (nt.block<(↑n:Int)))&&(n.ble n)
 letI H:=splice es E [.int .i64 o1,.int .u32 s1]
 letI I:=mapHasI js nt.block
 letI J:=mapKeysI .i64 js
 letI K:=veq 8 D (jobU D)
 letI L:=genOf (genSym Value.nilFunc) es
 letI A:Option Out:=qs [nt.frm] (cond (enO es E) (qs [L.int .i64 (0+nt.block.toNat*2+0),L.int .u32 (0+nt.block.toNat*2+1),nt.block] (qn [n,n] (cond (tB [pK 1000,.int .i64 nt.block,w16V nt.data] [some (LObj.box mr [])]) (qs (w16Q nt.data (nt.block::[])) (cond G (cond ((0+nt.block.toNat*2+[Value.int .i64 o1,.int .u32 s1].length).ble es.length&&true&&true) (qs [o1,s1,nt.block] (qn [n,n] (cond (List.all H (af 8)&&C&&true) (some (.normal,([.tuple #[.slice (some ⟨1002,0,none⟩) 1 1,.int .i64 0]],[some (.box ([some (homeRow c (pK 1004) (.slice (some ⟨1001,0,none⟩) n n) (.map (some 1002)) (pK 1003)),some (entRo H 0),some (.map js clk),some (.box wr [])]++[none]) [1001]),some (.box mr1 []),some (notesRow (notesL [⟨8,-1,nt.frm,nt.block,0,0,false,false,⟨0,0,0,0,0,0,0,0,0,0,0,0,0,0,0,0⟩⟩]) 0)]))) none))) none) none)) none))) none)
 letI B:Option Out:=qs [nt.block] (cond (gk 3) (cond (gk 3) (cond G (cond (enO es E) (cond nt.stick (cond (tK ([]++[enV es E,.int .i64 nt.frm,.bool true]++[])) (cond nt.stick A none) none) (cond (tK ([]++[enV es E,.int .i64 nt.frm,.bool false]++[])) (cond nt.stick none A) none)) none) none) none) none)
 letI M:Option Out:=qs [nt.block] (cond (gk 3) none none)
 letI N:=List.all es (af 8)&&C
 letI O:Value:=.tuple #[jobZ,.bool false]
 cond (List.all es (af 8)&&C&&true&&true&&true&&true) (cond N (cond (tR [pK 1000,.agg #[.int .u8 3,.int .i64 nt.frm,.int .i64 nt.too,.int .i64 nt.block,.int .u64 nt.stamp,.int .u8 nt.state,.bool nt.has,.bool nt.stick,.int .u32 nt.data.a0,.int .u32 nt.data.a1,.int .u32
 nt.data.a2,.int .u32 nt.data.a3,.int .u32 nt.data.a4,.int .u32 nt.data.a5,.int .u32 nt.data.a6,.int .u32 nt.data.a7,.int .u32 nt.data.a8,.int .u32 nt.data.a9,.int .u32 nt.data.a10,.int .u32 nt.data.a11,.int .u32 nt.data.a12,.int .u32 nt.data.a13,.int .u32 nt.data.a14,.int .u32
 nt.data.a15]] (hoO c n es js clk wr mr)) (cond N (cond J (cond I (cond K (cond J (cond I (cond K (cond (veq 8 F F) M none) none) (cond (veq 8 O F) M none)) none) none) (cond J (cond I (cond K (cond (veq 8 F O) B none) none) B) none)) none) none) none) none) none:=by kernel_rfl
theorem r_hDone (gl:Gl)(gk:Int→Bool)(c:Cfg)(n:Nat)(es:List Value)(js:List (Value×Value×Nat))(clk:Nat)(wr mr:Rws)(nt:NoteS)(tR tE:List Value→Rws→Bool):cH gl (hsOf [(107,afI1 .u8 gk fun k=>.int .i64 2)] [(68,gH tR (.normal,[.int .i64 0],hoO c n es js clk wr mr)),(72,gH tE (.normal,[.slice none 0 0],hoO c n es (mapDelI nt.block js) clk wr mr))] []) 40 [pK 1000,noteV {nt with kind:=11}] (hoX c n es js clk wr mr)=
 letI B:=List.all js (fun e=>af 8 e.fst&&af 8 e.snd.fst)&&true
 letI C:=mapGetI js nt.block
 letI D:Value:=.tuple #[jobU C,.bool true]
 letI F:=List.all es (af 8)&&B
 letI G:=mapHasI js nt.block
 letI H:=mapKeysI .i64 js
 letI I:=veq 8 C (jobU C)
 letI J:=hoO c n es js clk wr mr
 letI K:Value:=.tuple #[jobZ,.bool false]
 letI L:=mapDelI nt.block js
 letI E:=List.all L (fun e=>af 8 e.fst&&af 8 e.snd.fst)&&true
 letI A:Option Out:=qs [nt.block] (cond (gk 11) (cond (gk 11) (cond F (cond (tE [pK 1000,.int .i64 nt.block] J) (cond (List.all es (af 8)&&E) (cond (List.all es (af 8)&&E&&true) (some (.normal,([.tuple #[.slice none 0 0,.int .i64 0]],(hoX c n es L clk wr mr)))) none) none) none) none) none) none)
 cond (List.all es (af 8)&&B&&true&&true&&true&&true) (cond F (cond (tR [pK 1000,.agg #[.int .u8 11,.int .i64 nt.frm,.int .i64 nt.too,.int .i64 nt.block,.int .u64 nt.stamp,.int .u8 nt.state,.bool nt.has,.bool nt.stick,.int .u32 nt.data.a0,.int .u32 nt.data.a1,.int .u32
 nt.data.a2,.int .u32 nt.data.a3,.int .u32 nt.data.a4,.int .u32 nt.data.a5,.int .u32 nt.data.a6,.int .u32 nt.data.a7,.int .u32 nt.data.a8,.int .u32 nt.data.a9,.int .u32 nt.data.a10,.int .u32 nt.data.a11,.int .u32 nt.data.a12,.int .u32 nt.data.a13,.int .u32 nt.data.a14,.int .u32
 nt.data.a15]] J) (cond F (cond H (cond G (cond I (cond H (cond G (cond I (cond (veq 8 D D) A none) none) (cond (veq 8 K D) A none)) none) none) (cond H (cond G (cond I (cond (veq 8 D K) A none) none) A) none)) none) none) none) none) none:=by kernel_rfl
theorem r_hEnd0 (gl:Gl)(c:Cfg)(n:Nat)(es:List Value)(js:List (Value×Value×Nat))(clk:Nat)(wr mr:Rws)(b:Int)(tF tT:List Value→Rws→Bool)(z:NoteS):cV noSy gl (hsOf [] [(111,gH tF (.normal,[.int .i64 (-1)],[some (.box wr []),some (bRow b)])),(113,gH tT (.normal,[.tuple #[noteV z,.int .i64 5]],[some (.box wr [])]))] []) 72 [pK 1000,.int .i64 b] (hoO c n es js clk wr mr) noV=
 cond (mapKeysI .i64 js) (qs [b] (cond (tF [pK 1000,.func (Fn.func 112) #[] #[pK 1001]] [some (LObj.box wr []),some (.row ⟨[.int .i64 b],3,(0,0),0,false,false⟩)]) (cond (tT [pK 1000,.int .i64 (-1)] [some (LObj.box wr [])]) (cond (List.all es (af 8)&&(List.all (mapDelI b js) (fun e=>af 8
 e.fst&&af 8 e.snd.fst)&&true)) (some (.normal,([.slice none 0 0],(hoO c n es (mapDelI b js) clk wr mr)))) none) none) none)) none:=by kernel_rfl
theorem r_nF0 (gl:Gl)(room b:Int):cV noSy gl H0 111 [pK 1000,atE] [some (.box [some (poolRow room (.slice none 0 0))] []),some (bRow b)] vR=
 some (.normal,([.int IntKind.i64 (-1)],[some (.box ([some (.row ⟨[.slice none 0 0,.int IntKind.i64 room],223,(0,0),0,false,false⟩)]++[]) []),some (.row ⟨[.int IntKind.i64 b],3,(0,0),0,false,false⟩)])):=by kernel_rfl
end Go.Proofs.YtpcbedgaecbfmaaGreatDoor
