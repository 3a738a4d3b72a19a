/- CoreHalted answers true, of any plan, any row of words and any number of steps, where the listed variables start as the program's text lays them. -/
import Derived.Test.YtpcbedgaecbfmaaGreatDoorK2
import Derived.Test.YtpcbedgaecbfmaaGreatDoorK1
import Derived.Test.YtpcbedgaecbfmaaGreatDoorK92
import Derived.Test.YtpcbedgaecbfmaaGreatDoorK93
import Derived.ChangeMaps5
import Derived.OpenShut
import Derived.Deep.DeepHandedRow
noncomputable section
namespace Go.Proofs.YtpcbedgaecbfmaaGreatDoor
set_option maxRecDepth 100000
open Go.Proofs.YtpcbedgaecbfmaaGreatDoor.Ev Go.RowKit
def pow10L:List Int:=[1,10,100,1000,10000,100000,1000000,10000000,100000000,1000000000,10000000000,100000000000,1000000000000,10000000000000,100000000000000,1000000000000000,10000000000000000,100000000000000000,1000000000000000000,10000000000000000000]
def db32L:List Int:=[0,1,28,2,29,14,24,3,30,22,20,15,25,17,4,8,31,27,13,23,21,19,16,7,26,12,18,6,11,5,10,9]
def db64L:List Int:=[0,1,56,2,57,49,28,3,61,58,42,50,38,29,17,4,62,47,59,36,45,43,51,22,53,39,33,30,24,18,12,5,63,55,48,27,60,41,37,16,46,35,44,21,52,32,23,11,54,26,40,15,34,20,31,10,25,14,19,9,13,8,7,6]
def glC (u0 o0 u1 o1:Nat):Gl:=glOf [(6,[.iface u0 (.pointer (some ⟨900,o0,none⟩))]),(5,[.iface u1 (.pointer (some ⟨901,o1,none⟩))]),(7,pow10L.map (.int .u64)),(0,formsL.map (.int .i64)),(1,db32L.map (.int .u8)),(8,db64L.map (.int .u8))]
theorem glC_low (u0 o0 u1 o1:Nat):Low (glC u0 o0 u1 o1):=lowTabs (by rfl)
theorem glC_F (u0 o0 u1 o1:Nat):GlF (glC u0 o0 u1 o1):=fun i z h=>by
 show(formsL.map (Value.int .i64))[i]? =_
 rw[List.getElem?_map,h]
 rfl
def exC:Ext:=extOf [(213,.flat Extern.BytealgCount.count),(229,.flat Extern.BytealgIndex.index),(241,.flat Extern.BytealgIndexByte.indexByte)]
theorem xCt:XkOK Tryz.prog 213 (.flat Extern.BytealgCount.count):=⟨Tryz.f213,Tryz.func213,by kernel_rfl,by kernel_rfl,(show Extern.find Tryz.f213=some Extern.BytealgCount.count by kernel_rfl)⟩
theorem xIx:XkOK Tryz.prog 229 (.flat Extern.BytealgIndex.index):=⟨Tryz.f229,Tryz.func229,by kernel_rfl,by kernel_rfl,(show Extern.find Tryz.f229=some Extern.BytealgIndex.index by kernel_rfl)⟩
theorem xIb:XkOK Tryz.prog 241 (.flat Extern.BytealgIndexByte.indexByte):=⟨Tryz.f241,Tryz.func241,by kernel_rfl,by kernel_rfl,(show Extern.find Tryz.f241=some Extern.BytealgIndexByte.indexByte by kernel_rfl)⟩
theorem goodC:Go.Proofs.YtpcbedgaecbfmaaGreatDoor.Ev.Good Tryz.prog exC:=good_of (by kernel_rfl) (by kernel_rfl) (by
 intro x hx
 simp only[List.mem_cons,List.not_mem_nil,or_false]at hx
 rcases hx with rfl|rfl|rfl
 ·exact xCt
 ·exact xIx
 ·exact xIb)
theorem works24_0 (u0 o0 u1 o1:Nat):Ev.isT (callF Tryz.prog (glC u0 o0 u1 o1) exC [] 5000 100 40 (.fn 6) [] LS.start)=true:=by kernel_rfl
theorem memo24 (u0 o0 u1 o1:Nat):MemoOK Tryz.prog (glC u0 o0 u1 o1) 6:=memoM_ok goodC (glC_low u0 o0 u1 o1) tglob (fun f hf=>by cases hf) (works24_0 u0 o0 u1 o1)
theorem memo_mono {gl gl':Gl}{f:FuncId}(h: ∀g k v,gl g k=some v→gl' g k=some v)(hm:MemoOK Tryz.prog gl f):MemoOK Tryz.prog gl' f:=fun φ σ w hr=>hm φ σ w (hr.gl_mono h)
def afWk:AF:=fun args _=>match args with
 |[]=>some (true,.bool true)
 |_=>none
def gHm (t:List Value→Rws→Bool)(o:Out):Hd:=fun vs rows=>match rows with
 |[]=>none
 |_=>gH t o vs rows
def chArgs (c:Cfg)(sl:Value)(steps:Int):List Value:=[cfgV c,sl,.int .i64 steps]
def chV (i steps:Int):List Value:=[pK 1000,.int .i64 i,.int .i64 steps]
def chR (c:Cfg)(k h m:Rws):Rws:=[some (alRow c (pK 1001) (pK 1002) (pK 1003)),some (.box k [1003]),some (.box h [1003]),some (.box m [])]
theorem r_chH (gl:Gl)(c:Cfg)(k h m:Rws)(i steps:Int)(tH tG tA tP:List Value→Rws→Bool)(fl:Int)(r:W16)(at_:Int):rV noSy gl (hsOf [(6,afWk)] [(11,gH tH (.normal,[.tuple #[.int .u32 fl,.bool true]],[some (.box k [1001]),some (.box m [])])),(13,gH tG (.normal,[w16V r],[some (.box k [1001]),some (.box m [])])),(14,gH tA (.normal,[.int .i64 at_],[some (.box k [1001]),some (.box m [])])),(10,gH tP (.normal,[.tuple #[.slice none 0 0,evA ev0,.int .i64 8]],[some (.box k [1001]),some (.box m [])]))] []) 4 0 [7,44,43] [6] 1004 (chV i steps,chR c k h m) [] noC=
 letI A:Rws:=[some (alRow c (pK 1001) (pK 1002) (pK 1003)),some (.box k [1003]),some (.box h [1003]),some (.box m [])]
 letI B:Rws:=[some (LObj.box k [1001]),some (LObj.box m [])]
 letI C:Option (LSt⊕Out):=some (.inr (.ret,([.bool false],A)))
 letI D:=w16Q r (w16Q r [])
 cond (decide (i<steps)) (cond (tH [pK 1000] B) (cond (tG [pK 1000] B) (cond (tA [pK 1000] B) (cond (tP [pK 1000,.int .u64 (IntKind.u64.wrap (IntKind.i64.wrap (i+1)))] B) (cond (tH [pK 1000] B) (cond (fl==fl) (cond (tG [pK 1000] B) (cond (r.a0==r.a0&&(r.a1==r.a1&&(r.a2==r.a2&&
 (r.a3==r.a3&&(r.a4==r.a4&&(r.a5==r.a5&&(r.a6==r.a6&&(r.a7==r.a7&&(r.a8==r.a8&&(r.a9==r.a9&&(r.a10==r.a10&&(r.a11==r.a11&&(r.a12==r.a12&&(r.a13==r.a13&&(r.a14==r.a14&&(r.a15==r.a15&&true)))))))))))))))) (cond (tA [pK 1000] B) (cond (at_==at_) (qs
 D (some (.inr (.ret,([.bool true],A))))) (qs D C)) none) (qs D C)) none) C) none) none) none) none) none) none:=by kernel_rfl
theorem r_ch0 (gl:Gl)(c:Cfg)(k h m:Rws)(i steps:Int)(tH tG tA tP:List Value→Rws→Bool)(fl:Int)(r:W16)(at_:Int)(e:EvS)(k1 m1:Rws)(tS:List Value→Rws→Bool):rV noSy gl (hsOf [(6,afWk)] [(11,gH tH (.normal,[.tuple #[.int .u32 fl,.bool false]],[some (.box k [1001]),some (.box m [])])),(13,gH tG (.normal,[w16V r],[some (.box k [1001]),some (.box m [])])),(14,gH tA (.normal,[.int .i64 at_],[some (.box k [1001]),some (.box m [])])),(10,gH tP (.normal,[.tuple #[.slice none 0 0,evA e,.int .i64 0]],[some (.box k1 [1001]),some (.box m1 [])])),(16,gH tS (.normal,[.tuple #[.slice none 0 0,.bool true]],[some (alRow c (pK 1001) (pK 1002) (pK 1003)),some (.box k1 [1003]),some (.box h [1003]),some (.box m1 [])]))] []) 4 0 [7,44,43] [] 1004 (chV i steps,chR c k h m) [] noC=
 letI B:Rws:=[some (LObj.box k [1001]),some (LObj.box m [])]
 letI C:=alRow c (pK 1001) (pK 1002) (pK 1003)
 letI A:Rws:=[some C,some (.box k1 [1003]),some (.box h [1003]),some (.box m1 [])]
 letI D:=IntKind.i64.wrap (i+1)
 letI E:=IntKind.u64.wrap D
 cond (decide (i<steps)) (cond (tH [pK 1000] B) (cond (tG [pK 1000] B) (cond (tA [pK 1000] B) (cond (tP [pK 1000,.int .u64 E] B) (cond (e.kind==0) (some (.inr (.ret,([],A)))) (cond (e.core !=0) (some (.inr (.ret,([],A)))) (cond (tS [pK 1000,.slice none 0 0,.int .u64 E] [some C,some
 (LObj.box k1 [1003]),some (LObj.box h [1003]),some (LObj.box m1 [])]) (some (.inl ([pK 1000,.int .i64 D,.int .i64 steps],A))) none))) none) none) none) none) (some (.inr (.exit 0,([],[some C,some (.box k [1003]),some (.box h [1003]),some (.box m [])])))):=by kernel_rfl
theorem r_chN (gl:Gl)(c:Cfg)(k h m:Rws)(i steps:Int)(tH tG tA tP:List Value→Rws→Bool)(fl:Int)(r:W16)(at_:Int)(e:EvS)(k1 m1 k2 h2 m2:Rws)(nn en:Nat)(ns es:List Value)(tS:List Value→Rws→Bool):rV noSy gl (hsOf [(6,afWk)] [(11,gH tH (.normal,[.tuple #[.int .u32 fl,.bool false]],[some (.box k [1001]),some (.box m [])])),(13,gH tG (.normal,[w16V r],[some (.box k [1001]),some (.box m [])])),(14,gH tA (.normal,[.int .i64 at_],[some (.box k [1001]),some (.box m [])])),(10,gH tP (.normal,[.tuple #[.slice (some ⟨1002,0,none⟩) nn nn,evA e,.int .i64 0]],[some (.box k1 [1001]),some (.box m1 []),some (notesRow ns 24)])),(16,gH tS (.normal,[.tuple #[.slice (some ⟨1005,0,none⟩) en en,.bool true]],[some (alRow c (pK 1002) (pK 1003) (pK 1004)),none,some (.box k2 [1004]),some (.box h2 [1004]),some (.box m2 []),some (evRow es 4)]))] []) 4 0 [7,44,43] [] 1004 (chV i steps,chR c k h m) [] noC=
 letI A:Rws:=[some (LObj.box k [1001]),some (LObj.box m [])]
 letI C:=alRow c (pK 1001) (pK 1002) (pK 1003)
 letI B:Option (LSt⊕Out):=some (.inr (.ret,([],[some C,some (.box k1 [1003]),some (.box h [1003]),some (.box m1 [])])))
 letI D:=IntKind.i64.wrap (i+1)
 letI E:=List.all ns (af 8)&&true
 letI F:=IntKind.u64.wrap D
 cond (decide (i<steps)) (cond (tH [pK 1000] A) (cond (tG [pK 1000] A) (cond (tA [pK 1000] A) (cond (tP [pK 1000,.int .u64 F] A) (cond E (cond (e.kind==0) B (cond (e.core !=0) B (cond E (cond (tS [pK 1000,.slice (some ⟨1001,0,none⟩) nn nn,.int .u64 F] [some (alRow c (pK 1002) (pK 1003) (pK
 1004)),some (.row ⟨ns,94,(0,0),24,false,false⟩),some (LObj.box k1 [1004]),some (LObj.box h [1004]),some (LObj.box m1 [])]) (cond (List.all es (af 8)&&true) (some (.inl ([pK 1000,.int .i64 D,.int .i64 steps],[some C,some (.box k2 [1003]),some (.box h2 [1003]),some (.box m2 [])])))
 none) none) none))) none) none) none) none) none) (some (.inr (.exit 0,([],[some C,some (.box k [1003]),some (.box h [1003]),some (.box m [])])))):=by kernel_rfl
theorem r_chE (gl:Gl)(c:Cfg)(k h m:Rws)(i steps:Int)(tH tG tA tP:List Value→Rws→Bool)(fl:Int)(r:W16)(at_:Int):rV noSy gl (hsOf [] [(11,deadH)] []) 4 0 [7,44,43] [] 1004 (chV i steps,chR c k h m) [] noC=
 cond (decide (i<steps)) none (some (.inr (.exit 0,([],[some (alRow c (pK 1001) (pK 1002) (pK 1003)),some (.box k [1003]),some (.box h [1003]),some (.box m [])])))):=by kernel_rfl
theorem r_ch0r (gl:Gl)(c:Cfg)(k h m:Rws)(i steps:Int)(tH tG tA tP:List Value→Rws→Bool)(fl:Int)(r:W16)(at_:Int)(e:EvS)(k1 m1:Rws)(tS:List Value→Rws→Bool):rV noSy gl (hsOf [(6,afWk)] [(11,gH tH (.normal,[.tuple #[.int .u32 fl,.bool false]],[some (.box k [1001]),some (.box m [])])),(13,gH tG (.normal,[w16V r],[some (.box k [1001]),some (.box m [])])),(14,gH tA (.normal,[.int .i64 at_],[some (.box k [1001]),some (.box m [])])),(10,gH tP (.normal,[.tuple #[.slice none 0 0,evA e,.int .i64 0]],[some (.box k1 [1001]),some (.box m1 [])])),(16,gH tS (.normal,[.tuple #[.slice none 0 0,.bool true]],[some (alRow c (pK 1001) (pK 1002) (pK 1003)),some (.box k1 [1003]),some (.box h [1003]),some (.box m1 [])]))] []) 4 0 [7,44,43] [6] 1004 (chV i steps,chR c k h m) [] noC=
 letI B:Rws:=[some (LObj.box k [1001]),some (LObj.box m [])]
 letI C:=IntKind.i64.wrap (i+1)
 letI D:=alRow c (pK 1001) (pK 1002) (pK 1003)
 letI A:Rws:=[some D,some (.box k1 [1003]),some (.box h [1003]),some (.box m1 [])]
 letI E:Option (LSt⊕Out):=some (.inr (.ret,([.bool false],A)))
 letI F:=IntKind.u64.wrap C
 cond (decide (i<steps)) (cond (tH [pK 1000] B) (cond (tG [pK 1000] B) (cond (tA [pK 1000] B) (cond (tP [pK 1000,.int .u64 F] B) (cond (e.kind==0) E (cond (e.core !=0) E (cond (tS [pK 1000,.slice none 0 0,.int .u64 F] [some D,some (LObj.box k1 [1003]),some (LObj.box h [1003]),some
 (LObj.box m1 [])]) (some (.inl ([pK 1000,.int .i64 C,.int .i64 steps],A))) none))) none) none) none) none) none:=by kernel_rfl
theorem r_chNr (gl:Gl)(c:Cfg)(k h m:Rws)(i steps:Int)(tH tG tA tP:List Value→Rws→Bool)(fl:Int)(r:W16)(at_:Int)(e:EvS)(k1 m1 k2 h2 m2:Rws)(nn en:Nat)(ns es:List Value)(tS:List Value→Rws→Bool):rV noSy gl (hsOf [(6,afWk)] [(11,gH tH (.normal,[.tuple #[.int .u32 fl,.bool false]],[some (.box k [1001]),some (.box m [])])),(13,gH tG (.normal,[w16V r],[some (.box k [1001]),some (.box m [])])),(14,gH tA (.normal,[.int .i64 at_],[some (.box k [1001]),some (.box m [])])),(10,gH tP (.normal,[.tuple #[.slice (some ⟨1002,0,none⟩) nn nn,evA e,.int .i64 0]],[some (.box k1 [1001]),some (.box m1 []),some (notesRow ns 24)])),(16,gH tS (.normal,[.tuple #[.slice (some ⟨1005,0,none⟩) en en,.bool true]],[some (alRow c (pK 1002) (pK 1003) (pK 1004)),none,some (.box k2 [1004]),some (.box h2 [1004]),some (.box m2 []),some (evRow es 4)]))] []) 4 0 [7,44,43] [6] 1004 (chV i steps,chR c k h m) [] noC=
 letI A:Rws:=[some (LObj.box k [1001]),some (LObj.box m [])]
 letI C:=IntKind.i64.wrap (i+1)
 letI D:=alRow c (pK 1001) (pK 1002) (pK 1003)
 letI B:Option (LSt⊕Out):=some (.inr (.ret,([.bool false],[some D,some (.box k1 [1003]),some (.box h [1003]),some (.box m1 [])])))
 letI E:=List.all ns (af 8)&&true
 letI F:=IntKind.u64.wrap C
 cond (decide (i<steps)) (cond (tH [pK 1000] A) (cond (tG [pK 1000] A) (cond (tA [pK 1000] A) (cond (tP [pK 1000,.int .u64 F] A) (cond E (cond (e.kind==0) B (cond (e.core !=0) B (cond E (cond (tS [pK 1000,.slice (some ⟨1001,0,none⟩) nn nn,.int .u64 F] [some (alRow c (pK 1002) (pK 1003) (pK
 1004)),some (.row ⟨ns,94,(0,0),24,false,false⟩),some (LObj.box k1 [1004]),some (LObj.box h [1004]),some (LObj.box m1 [])]) (cond (List.all es (af 8)&&true) (some (.inl ([pK 1000,.int .i64 C,.int .i64 steps],[some D,some (.box k2 [1003]),some (.box h2 [1003]),some (.box m2 [])])))
 none) none) none))) none) none) none) none) none) none:=by kernel_rfl
theorem r_chW0 (gl:Gl)(gm:Int→Bool)(em:Int→Int)(nm:Int→Rws)(tN tM t0:List Value→Rws→Bool)(c:Cfg)(steps:Int)(off n cap:Nat)(mr k0 h0 k1 h1 m1:Rws):evF gl (hsOf [(6,afWk)] [(8,hdN (decI .i64) gm em nm),(9,gHm tN (.normal,[.tuple #[.pointer none,.int .i64 2]],[some (.box mr [])])),(39,gHm tM (.normal,[.tuple #[.pointer none,.int .i64 2]],[some (.box mr [])]))] [(4,[(0,⟨[7,44,43],[],gH t0 (.normal,[],[])⟩)])]) 4 (chArgs c (wSl 902 off n cap) steps)=
 letI A:Option Value:=some (.bool true)
 cond (decide ((↑n:Int)>1100)) A (cond (decide (steps<0)) A (cond (decide (steps>300)) A (cond (gm c.blocks) (cond (em c.blocks==0) (cond (tN [.agg #[.int .i64 1,.int .i64 c.sets,.int .i64 c.ways,.int .i64 c.blocks,.int .i64 c.logs,.int .i64 c.backs,.int .i64 c.nest,.int .i64
 c.tries],.int .i64 0,.slice (some ⟨902,off,none⟩) n cap,pK 1000] [some (LObj.box (nm c.blocks) [])]) (cond (tM [.agg #[.int .i64 1,.int .i64 c.sets,.int .i64 c.ways,.int .i64 c.blocks,.int .i64 c.logs,.int .i64 c.backs,.int .i64 c.nest,.int .i64 c.tries],pK 1000] [some (LObj.box mr
 [])]) A none) none) (cond (em c.blocks !=0) A A)) none))):=by kernel_rfl
theorem r_chW1 (gl:Gl)(gm:Int→Bool)(em:Int→Int)(nm:Int→Rws)(tN tM t0:List Value→Rws→Bool)(c:Cfg)(steps:Int)(off n cap:Nat)(mr k0 h0 k1 h1 m1:Rws):evF gl (hsOf [(6,afWk)] [(8,hdN (decI .i64) gm em nm),(9,gHm tN (.normal,[.tuple #[.pointer none,.int .i64 2]],[some (.box mr [])])),(39,gHm tM (.normal,[.tuple #[pK 1001,.int .i64 0]],[some (.box mr []),some (.box h0 [1000])]))] [(4,[(0,⟨[7,44,43],[],gH t0 (.normal,[],[])⟩)])]) 4 (chArgs c (wSl 902 off n cap) steps)=
 letI A:Option Value:=some (.bool true)
 cond (decide ((↑n:Int)>1100)) A (cond (decide (steps<0)) A (cond (decide (steps>300)) A (cond (gm c.blocks) (cond (em c.blocks==0) (cond (tN [.agg #[.int .i64 1,.int .i64 c.sets,.int .i64 c.ways,.int .i64 c.blocks,.int .i64 c.logs,.int .i64 c.backs,.int .i64 c.nest,.int .i64
 c.tries],.int .i64 0,.slice (some ⟨902,off,none⟩) n cap,pK 1000] [some (LObj.box (nm c.blocks) [])]) (cond (tM [.agg #[.int .i64 1,.int .i64 c.sets,.int .i64 c.ways,.int .i64 c.blocks,.int .i64 c.logs,.int .i64 c.backs,.int .i64 c.nest,.int .i64 c.tries],pK 1000] [some (LObj.box mr
 [])]) A none) none) (cond (em c.blocks !=0) A A)) none))):=by kernel_rfl
theorem r_chWR (gl:Gl)(gm:Int→Bool)(em:Int→Int)(nm:Int→Rws)(tN tM t0:List Value→Rws→Bool)(c:Cfg)(steps:Int)(off n cap:Nat)(mr k0 h0 k1 h1 m1:Rws):evF gl (hsOf [(6,afWk)] [(8,hdN (decI .i64) gm em nm),(9,gHm tN (.normal,[.tuple #[pK 1001,.int .i64 0]],[some (.box mr []),some (.box k0 [1000])])),(39,gHm tM (.normal,[.tuple #[pK 1001,.int .i64 0]],[some (.box mr []),some (.box h0 [1000])]))] [(4,[(0,⟨[7,44,43],[6],gH t0 (.ret,[.bool true],[some (alRow {c with cores:=1} (pK 1001) (pK 1002) (pK 1003)),some (.box k1 [1003]),some (.box h1 [1003]),some (.box m1 [])])⟩)])]) 4 (chArgs c (wSl 902 off n cap) steps)=
 letI A:Option Value:=some (.bool true)
 cond (decide ((↑n:Int)>1100)) A (cond (decide (steps<0)) A (cond (decide (steps>300)) A (cond (gm c.blocks) (cond (em c.blocks==0) (cond (tN [.agg #[.int .i64 1,.int .i64 c.sets,.int .i64 c.ways,.int .i64 c.blocks,.int .i64 c.logs,.int .i64 c.backs,.int .i64 c.nest,.int .i64
 c.tries],.int .i64 0,.slice (some ⟨902,off,none⟩) n cap,pK 1000] [some (LObj.box (nm c.blocks) [])]) (cond (tM [.agg #[.int .i64 1,.int .i64 c.sets,.int .i64 c.ways,.int .i64 c.blocks,.int .i64 c.logs,.int .i64 c.backs,.int .i64 c.nest,.int .i64 c.tries],pK 1000] [some (LObj.box mr
 [])]) (cond (t0 [pK 1000,.int .i64 0,.int .i64 steps] [some (alRow ⟨1,c.sets,c.ways,c.blocks,c.logs,c.backs,c.nest,c.tries⟩ (pK 1001) (pK 1002) (pK 1003)),some (LObj.box k0 [1003]),some (LObj.box h0 [1003]),some (LObj.box mr [])]) A none) none) none) (cond (em c.blocks !=0) A A))
 none))):=by kernel_rfl
theorem r_chWE (gl:Gl)(gm:Int→Bool)(em:Int→Int)(nm:Int→Rws)(tN tM t0:List Value→Rws→Bool)(c:Cfg)(steps:Int)(off n cap:Nat)(mr k0 h0 k1 h1 m1:Rws):evF gl (hsOf [(6,afWk)] [(8,hdN (decI .i64) gm em nm),(9,gHm tN (.normal,[.tuple #[pK 1001,.int .i64 0]],[some (.box mr []),some (.box k0 [1000])])),(39,gHm tM (.normal,[.tuple #[pK 1001,.int .i64 0]],[some (.box mr []),some (.box h0 [1000])]))] [(4,[(0,⟨[7,44,43],[],gH t0 (.exit 0,[],[some (alRow {c with cores:=1} (pK 1001) (pK 1002) (pK 1003)),some (.box k1 [1003]),some (.box h1 [1003]),some (.box m1 [])])⟩)])]) 4 (chArgs c (wSl 902 off n cap) steps)=
 letI A:Option Value:=some (.bool true)
 cond (decide ((↑n:Int)>1100)) A (cond (decide (steps<0)) A (cond (decide (steps>300)) A (cond (gm c.blocks) (cond (em c.blocks==0) (cond (tN [.agg #[.int .i64 1,.int .i64 c.sets,.int .i64 c.ways,.int .i64 c.blocks,.int .i64 c.logs,.int .i64 c.backs,.int .i64 c.nest,.int .i64
 c.tries],.int .i64 0,.slice (some ⟨902,off,none⟩) n cap,pK 1000] [some (LObj.box (nm c.blocks) [])]) (cond (tM [.agg #[.int .i64 1,.int .i64 c.sets,.int .i64 c.ways,.int .i64 c.blocks,.int .i64 c.logs,.int .i64 c.backs,.int .i64 c.nest,.int .i64 c.tries],pK 1000] [some (LObj.box mr
 [])]) (cond (t0 [pK 1000,.int .i64 0,.int .i64 steps] [some (alRow ⟨1,c.sets,c.ways,c.blocks,c.logs,c.backs,c.nest,c.tries⟩ (pK 1001) (pK 1002) (pK 1003)),some (LObj.box k0 [1003]),some (LObj.box h0 [1003]),some (LObj.box mr [])]) A none) none) none) (cond (em c.blocks !=0) A A))
 none))):=by kernel_rfl
theorem r_chW0N (gl:Gl)(gm:Int→Bool)(em:Int→Int)(nm:Int→Rws)(tN tM t0:List Value→Rws→Bool)(c:Cfg)(steps:Int)(off n cap:Nat)(mr k0 h0 k1 h1 m1:Rws):evF gl (hsOf [(6,afWk)] [(8,hdN (decI .i64) gm em nm),(9,gHm tN (.normal,[.tuple #[.pointer none,.int .i64 2]],[some (.box mr [])])),(39,gHm tM (.normal,[.tuple #[.pointer none,.int .i64 2]],[some (.box mr [])]))] [(4,[(0,⟨[7,44,43],[],gH t0 (.normal,[],[])⟩)])]) 4 (chArgs c (.slice none 0 0) steps)=
 letI A:Option Value:=some (.bool true)
 cond (decide (steps<0)) A (cond (decide (steps>300)) A (cond (gm c.blocks) (cond (em c.blocks==0) (cond (tN [.agg #[.int .i64 1,.int .i64 c.sets,.int .i64 c.ways,.int .i64 c.blocks,.int .i64 c.logs,.int .i64 c.backs,.int .i64 c.nest,.int .i64 c.tries],.int .i64 0,.slice none 0 0,pK
 1000] [some (LObj.box (nm c.blocks) [])]) (cond (tM [.agg #[.int .i64 1,.int .i64 c.sets,.int .i64 c.ways,.int .i64 c.blocks,.int .i64 c.logs,.int .i64 c.backs,.int .i64 c.nest,.int .i64 c.tries],pK 1000] [some (LObj.box mr [])]) A none) none) (cond (em c.blocks !=0) A A)) none)):=by kernel_rfl
theorem r_chW1N (gl:Gl)(gm:Int→Bool)(em:Int→Int)(nm:Int→Rws)(tN tM t0:List Value→Rws→Bool)(c:Cfg)(steps:Int)(off n cap:Nat)(mr k0 h0 k1 h1 m1:Rws):evF gl (hsOf [(6,afWk)] [(8,hdN (decI .i64) gm em nm),(9,gHm tN (.normal,[.tuple #[.pointer none,.int .i64 2]],[some (.box mr [])])),(39,gHm tM (.normal,[.tuple #[pK 1001,.int .i64 0]],[some (.box mr []),some (.box h0 [1000])]))] [(4,[(0,⟨[7,44,43],[],gH t0 (.normal,[],[])⟩)])]) 4 (chArgs c (.slice none 0 0) steps)=
 letI A:Option Value:=some (.bool true)
 cond (decide (steps<0)) A (cond (decide (steps>300)) A (cond (gm c.blocks) (cond (em c.blocks==0) (cond (tN [.agg #[.int .i64 1,.int .i64 c.sets,.int .i64 c.ways,.int .i64 c.blocks,.int .i64 c.logs,.int .i64 c.backs,.int .i64 c.nest,.int .i64 c.tries],.int .i64 0,.slice none 0 0,pK
 1000] [some (LObj.box (nm c.blocks) [])]) (cond (tM [.agg #[.int .i64 1,.int .i64 c.sets,.int .i64 c.ways,.int .i64 c.blocks,.int .i64 c.logs,.int .i64 c.backs,.int .i64 c.nest,.int .i64 c.tries],pK 1000] [some (LObj.box mr [])]) A none) none) (cond (em c.blocks !=0) A A)) none)):=by kernel_rfl
theorem r_chWRN (gl:Gl)(gm:Int→Bool)(em:Int→Int)(nm:Int→Rws)(tN tM t0:List Value→Rws→Bool)(c:Cfg)(steps:Int)(off n cap:Nat)(mr k0 h0 k1 h1 m1:Rws):evF gl (hsOf [(6,afWk)] [(8,hdN (decI .i64) gm em nm),(9,gHm tN (.normal,[.tuple #[pK 1001,.int .i64 0]],[some (.box mr []),some (.box k0 [1000])])),(39,gHm tM (.normal,[.tuple #[pK 1001,.int .i64 0]],[some (.box mr []),some (.box h0 [1000])]))] [(4,[(0,⟨[7,44,43],[6],gH t0 (.ret,[.bool true],[some (alRow {c with cores:=1} (pK 1001) (pK 1002) (pK 1003)),some (.box k1 [1003]),some (.box h1 [1003]),some (.box m1 [])])⟩)])]) 4 (chArgs c (.slice none 0 0) steps)=
 letI A:Option Value:=some (.bool true)
 cond (decide (steps<0)) A (cond (decide (steps>300)) A (cond (gm c.blocks) (cond (em c.blocks==0) (cond (tN [.agg #[.int .i64 1,.int .i64 c.sets,.int .i64 c.ways,.int .i64 c.blocks,.int .i64 c.logs,.int .i64 c.backs,.int .i64 c.nest,.int .i64 c.tries],.int .i64 0,.slice none 0 0,pK
 1000] [some (LObj.box (nm c.blocks) [])]) (cond (tM [.agg #[.int .i64 1,.int .i64 c.sets,.int .i64 c.ways,.int .i64 c.blocks,.int .i64 c.logs,.int .i64 c.backs,.int .i64 c.nest,.int .i64 c.tries],pK 1000] [some (LObj.box mr [])]) (cond (t0 [pK 1000,.int .i64 0,.int .i64 steps] [some
 (alRow ⟨1,c.sets,c.ways,c.blocks,c.logs,c.backs,c.nest,c.tries⟩ (pK 1001) (pK 1002) (pK 1003)),some (LObj.box k0 [1003]),some (LObj.box h0 [1003]),some (LObj.box mr [])]) A none) none) none) (cond (em c.blocks !=0) A A)) none)):=by kernel_rfl
theorem r_chWEN (gl:Gl)(gm:Int→Bool)(em:Int→Int)(nm:Int→Rws)(tN tM t0:List Value→Rws→Bool)(c:Cfg)(steps:Int)(off n cap:Nat)(mr k0 h0 k1 h1 m1:Rws):evF gl (hsOf [(6,afWk)] [(8,hdN (decI .i64) gm em nm),(9,gHm tN (.normal,[.tuple #[pK 1001,.int .i64 0]],[some (.box mr []),some (.box k0 [1000])])),(39,gHm tM (.normal,[.tuple #[pK 1001,.int .i64 0]],[some (.box mr []),some (.box h0 [1000])]))] [(4,[(0,⟨[7,44,43],[],gH t0 (.exit 0,[],[some (alRow {c with cores:=1} (pK 1001) (pK 1002) (pK 1003)),some (.box k1 [1003]),some (.box h1 [1003]),some (.box m1 [])])⟩)])]) 4 (chArgs c (.slice none 0 0) steps)=
 letI A:Option Value:=some (.bool true)
 cond (decide (steps<0)) A (cond (decide (steps>300)) A (cond (gm c.blocks) (cond (em c.blocks==0) (cond (tN [.agg #[.int .i64 1,.int .i64 c.sets,.int .i64 c.ways,.int .i64 c.blocks,.int .i64 c.logs,.int .i64 c.backs,.int .i64 c.nest,.int .i64 c.tries],.int .i64 0,.slice none 0 0,pK
 1000] [some (LObj.box (nm c.blocks) [])]) (cond (tM [.agg #[.int .i64 1,.int .i64 c.sets,.int .i64 c.ways,.int .i64 c.blocks,.int .i64 c.logs,.int .i64 c.backs,.int .i64 c.nest,.int .i64 c.tries],pK 1000] [some (LObj.box mr [])]) (cond (t0 [pK 1000,.int .i64 0,.int .i64 steps] [some
 (alRow ⟨1,c.sets,c.ways,c.blocks,c.logs,c.backs,c.nest,c.tries⟩ (pK 1001) (pK 1002) (pK 1003)),some (LObj.box k0 [1003]),some (LObj.box h0 [1003]),some (LObj.box mr [])]) A none) none) none) (cond (em c.blocks !=0) A A)) none)):=by kernel_rfl
abbrev kmR (k m:Rws):Rws:=[some (.box k [1001]),some (.box m [])]
def stN1 (i:Int):Int:=IntKind.u64.wrap (IntKind.i64.wrap (i+1))
theorem stN1_ne {i:Int}(h0:0≤i)(h1:i<1000):stN1 i≠0:=by
 unfold stN1
 rw[wrap_id (i+1) (by omega)]
 simp only[IntKind.wrap,IntKind.bits,IntKind.signed]
 simp
 omega
structure Tells (gl:Gl)(k m:Rws)(fl:Int)(hal:Bool)(r:W16)(at_:Int):Prop where
 h:SubOK Tryz.prog gl 11 (gH (atS [pK 1000] (kmR k m)) (.normal,[.tuple #[.int .u32 fl,.bool hal]],kmR k m))
 g:SubOK Tryz.prog gl 13 (gH (atS [pK 1000] (kmR k m)) (.normal,[w16V r],kmR k m))
 a:SubOK Tryz.prog gl 14 (gH (atS [pK 1000] (kmR k m)) (.normal,[.int .i64 at_],kmR k m))
abbrev Rnd (gl:Gl)(x:LSt)(out:List Nat)(q:LSt⊕Out):Prop:= ∃(sy:Sy) (H:Hs),SyOK gl sy∧H.OK Tryz.prog gl∧rV sy gl H 4 0 [7,44,43] out 1004 x [] noC=some q
theorem rnd_H {gl:Gl}(hWk:FnOK Tryz.prog gl 6 afWk)(c:Cfg){k h m:Rws}{fl at_:Int}{r:W16}(T:Tells gl k m fl true r at_){i steps:Int}(hi:i<steps)(hS:SubOK Tryz.prog gl 10 (gH (atS [pK 1000,.int .u64 (stN1 i)] (kmR k m)) (.normal,[.tuple #[.slice none 0 0,evA ev0,.int .i64 8]],kmR k m))):
 Rnd gl (chV i steps,chR c k h m) [6] (.inr (.ret,[.bool true],chR c k h m)):=by
 refine⟨noSy,_,noSy_ok,hsF_ok (fxC hWk fx0) (sxC T.h (sxC T.g (sxC T.a (sxC hS sx0)))),(r_chH gl c k h m i steps _ _ _ _ fl r at_).trans ?_⟩
 simp only[qs_eq,beq_self_eq_true,Bool.and_self,cond_true]
 exact condI (qd1 hi) (condI (atS_self _ _) (condI (atS_self _ _) (condI (atS_self _ _) (condI (atS_self _ _) (condI (atS_self _ _) (condI (atS_self _ _) (condI (atS_self _ _) rfl)))))))
theorem sub_set0 {gl:Gl}(hgl:Low gl)(c:Cfg)(k h m:Rws)(st:Int):SubOK Tryz.prog gl 16 (gH (atS [pK 1000,.slice none 0 0,.int .u64 st] (chR c k h m)) (.normal,[.tuple #[.slice none 0 0,.bool true]],chR c k h m)):=
 atV hgl H0_ok ((r_set0 gl c k h m st).trans rfl)
theorem rnd_0 {gl:Gl}(hgl:Low gl)(hWk:FnOK Tryz.prog gl 6 afWk)(c:Cfg){k h m k1 m1:Rws}{fl at_:Int}{r:W16}(T:Tells gl k m fl false r at_){i steps:Int}(hi:i<steps)(out:List Nat)(ho:out=[]∨out=[6]){e:EvS}(hS:SubOK Tryz.prog gl 10 (gH (atS [pK 1000,.int .u64 (stN1 i)] (kmR k m)) (.normal,[.tuple #[.slice none 0 0,evA e,.int .i64 0]],kmR k1 m1)))(he:e.kind≠0)(hc:e.core=0):
 Rnd gl (chV i steps,chR c k h m) out (.inl (chV (IntKind.i64.wrap (i+1)) steps,chR c k1 h m1)):=by
 have e1:(e.kind==0)=false:=beq_eq_false_iff_ne.mpr he
 have e2:(e.core !=0)=false:=by rw[hc];rfl
 have h0:=hsF_ok (fxC hWk fx0) (sxC T.h (sxC T.g (sxC T.a (sxC hS (sxC (sub_set0 hgl c k1 h m1 (stN1 i)) sx0)))))
 rcases ho with rfl|rfl
 ·refine⟨noSy,_,noSy_ok,h0,(r_ch0 gl c k h m i steps _ _ _ _ fl r at_ e k1 m1 _).trans ?_⟩
  exact condI (qd1 hi) (condI (atS_self _ _) (condI (atS_self _ _) (condI (atS_self _ _) (condI (atS_self _ _) (condE e1 (condE e2 (condI (atS_self _ _) rfl)))))))
 ·refine⟨noSy,_,noSy_ok,h0,(r_ch0r gl c k h m i steps _ _ _ _ fl r at_ e k1 m1 _).trans ?_⟩
  exact condI (qd1 hi) (condI (atS_self _ _) (condI (atS_self _ _) (condI (atS_self _ _) (condI (atS_self _ _) (condE e1 (condE e2 (condI (atS_self _ _) rfl)))))))
theorem rnd_N {gl:Gl}(hWk:FnOK Tryz.prog gl 6 afWk)(c:Cfg){k h m k1 m1 k2 h2 m2:Rws}{fl at_:Int}{r:W16}(T:Tells gl k m fl false r at_){i steps:Int}(hi:i<steps)(out:List Nat)(ho:out=[]∨out=[6]){e:EvS}{nn en:Nat}{ns es:List Value}(hns:ns.all (af 8)=true)(hes:es.all (af 8)=true)
 (hS:SubOK Tryz.prog gl 10 (gH (atS [pK 1000,.int .u64 (stN1 i)] (kmR k m)) (.normal,[.tuple #[.slice (some ⟨1002,0,none⟩) nn nn,evA e,.int .i64 0]],[some (.box k1 [1001]),some (.box m1 []),some (notesRow ns 24)]))) (he:e.kind≠0) (hc:e.core=0)
 (hT:SubOK Tryz.prog gl 16 (gH (atS [pK 1000,.slice (some ⟨1001,0,none⟩) nn nn,.int .u64 (stN1 i)] [some (alRow c (pK 1002) (pK 1003) (pK 1004)),some (notesRow ns 24),some (.box k1 [1004]),some (.box h [1004]),some (.box m1 [])]) (.normal,[.tuple #[.slice (some ⟨1005,0,none⟩) en en,.bool true]],[some (alRow c (pK 1002) (pK 1003) (pK 1004)),none,some (.box k2 [1004]),some (.box h2 [1004]),some (.box m2 []),some (evRow es 4)]))):
 Rnd gl (chV i steps,chR c k h m) out (.inl (chV (IntKind.i64.wrap (i+1)) steps,chR c k2 h2 m2)):=by
 have e1:(e.kind==0)=false:=beq_eq_false_iff_ne.mpr he
 have e2:(e.core !=0)=false:=by rw[hc];rfl
 have h0:=hsF_ok (fxC hWk fx0) (sxC T.h (sxC T.g (sxC T.a (sxC hS (sxC hT sx0)))))
 rcases ho with rfl|rfl
 ·refine⟨noSy,_,noSy_ok,h0,(r_chN gl c k h m i steps _ _ _ _ fl r at_ e k1 m1 k2 h2 m2 nn en ns es _).trans ?_⟩
  simp only[hns,hes,Bool.and_self,cond_true]
  exact condI (qd1 hi) (condI (atS_self _ _) (condI (atS_self _ _) (condI (atS_self _ _) (condI (atS_self _ _) (condE e1 (condE e2 (condI (atS_self _ _) rfl)))))))
 ·refine⟨noSy,_,noSy_ok,h0,(r_chNr gl c k h m i steps _ _ _ _ fl r at_ e k1 m1 k2 h2 m2 nn en ns es _).trans ?_⟩
  simp only[hns,hes,Bool.and_self,cond_true]
  exact condI (qd1 hi) (condI (atS_self _ _) (condI (atS_self _ _) (condI (atS_self _ _) (condI (atS_self _ _) (condE e1 (condE e2 (condI (atS_self _ _) rfl)))))))
theorem rnd_E {gl:Gl}(c:Cfg)(k h m:Rws){i steps:Int}(hi: ¬i<steps):Rnd gl (chV i steps,chR c k h m) [] (.inr (.exit 0,[],chR c k h m)):=
 ⟨noSy,_,noSy_ok,hs_ok (sxC sub_dead sx0),(r_chE gl c k h m i steps (fun _ _=>false) (fun _ _=>false) (fun _ _=>false) (fun _ _=>false) 0 w0 0).trans (condE (qd2 hi) rfl)⟩
theorem tells_C {gl:Gl}(hgl:Low gl)(k:CoT):Tells gl k.cx (memR k.me) k.fl k.hal k.r k.at_:=by
 refine⟨?_,?_,?_⟩
 ·refine atV hgl H0_ok (pl:=plK) ((r_kHal gl k.c k.id k.prog.length k.r k.at_ k.count k.hal k.fl (cdsL k.prog) (nearR k.ne) k.lg (memR k.me)).trans ?_)
  simp only[cdsL_af,qs_eq,Bool.and_self,cond_true]
  unfold CoT.cx
  cases k.hal<;>rfl
 ·refine atV hgl H0_ok (pl:=plK) ((r_kRegs gl k.c k.id k.prog.length k.r k.at_ k.count k.hal k.fl (cdsL k.prog) (nearR k.ne) k.lg (memR k.me)).trans ?_)
  simp only[cdsL_af,qs_eq,Bool.and_self,cond_true]
  rfl
 ·refine atV hgl H0_ok (pl:=plK) ((r_kAt gl k.c k.id k.prog.length k.r k.at_ k.count k.hal k.fl (cdsL k.prog) (nearR k.ne) k.lg (memR k.me)).trans ?_)
  simp only[cdsL_af,qs_eq,Bool.and_self,cond_true]
  rfl
def cx0 (c:Cfg)(n:NearS)(lg:Rws)(hal:Bool)(fl:Int):Rws:=coX0 c 0 w0 0 0 hal fl (nearR n) lg++[none]
theorem tells_0 {gl:Gl}(hgl:Low gl)(c:Cfg)(n:NearS)(lg mr:Rws)(hal:Bool)(fl:Int):Tells gl (cx0 c n lg hal fl) mr fl hal w0 0:=by
 refine⟨?_,?_,?_⟩
 ·refine atV hgl H0_ok (pl:=plK) ((r_kHal0 gl c 0 w0 0 0 hal fl (nearR n) lg mr).trans ?_)
  simp only[qs_eq]
  cases hal<;>rfl
 ·refine atV hgl H0_ok (pl:=plK) ((r_kRegs0 gl c 0 w0 0 0 hal fl (nearR n) lg mr).trans ?_)
  rfl
 ·refine atV hgl H0_ok (pl:=plK) ((r_kAt0 gl c 0 w0 0 0 hal fl (nearR n) lg mr).trans ?_)
  rfl
def gD0 (r:Rws):Bool:=isDeal r&&(dOf r).depth==0
theorem gD0_t {d:DealS}(h:d.depth=0):gD0 (dealR d)=true:=by unfold gD0;rw[isDeal_t,dOf_eq,h];rfl
theorem step0_1 {gl:Gl}(hF:GlF gl)(hgl:Low gl)(c:Cfg){n:NearS}(lg mr:Rws){st:Int}(hst:st≠0)(hw:n.waits=false)(hf:n.de.failing=false)(hd:n.de.depth=0):
 SubOK Tryz.prog gl 10 (gH (atS [pK 1000,.int .u64 st] (kmR (cx0 c n lg false 0) mr)) (.normal,[.tuple #[.slice none 0 0,evA ⟨11,0,0,1⟩,.int .i64 0]],kmR (cx0 c n lg true 1) mr)):=by
 have hok:(HStp (gFa false) gD0 doG doR fun r at_ op a b _ n=>doA r at_ op a b n).OK Tryz.prog gl:=hsF_ok (fxC (fn_do hF hgl) fx0) (sxC (sub_fa hgl false) (sxC (hdMw (sub_dDepth hgl) fun r x h=>⟨(andE h).1,by rw[eq_of_beq (andE h).2],(dealR_of (andE h).1).symm⟩) sx0))
 have e: ∀hal fl,cx0 c n lg hal fl=coX0 c 0 w0 0 0 hal fl (nearX n.c n.id n.ask false (cacheR n.ca) (backsR n.ba) (marksR n.ma) (dealR n.de)) lg++[none]:=fun hal fl=>by unfold cx0 nearR;rw[hw]
 rw[e,e]
 refine atV hgl hok ((r_stN gl _ _ _ _ _ c n.c 0 n.id w0 0 0 0 n.ask _ _ _ _ lg mr st).trans ?_)
 simp only[qs_eq]
 exact condE (beq_eq_false_iff_ne.mpr hst) (condI (gFa_t hf) (condE rfl (condI rfl (condI (gD0_t hd) rfl))))
theorem step0_2 {gl:Gl}(hgl:Low gl)(c:Cfg)(n:NearS)(lg mr:Rws){st:Int}(hst:st≠0)(fl:Int):
 SubOK Tryz.prog gl 10 (gH (atS [pK 1000,.int .u64 st] (kmR (cx0 c n lg true fl) mr)) (.normal,[.tuple #[.slice none 0 0,evA ev0,.int .i64 8]],kmR (cx0 c n lg true fl) mr)):=by
 have e:cx0 c n lg true fl=coX0 c 0 w0 0 0 true fl (nearX n.c n.id n.ask n.waits (cacheR n.ca) (backsR n.ba) (marksR n.ma) (dealR n.de)) lg++[none]:=rfl
 rw[e]
 refine atV hgl (hs_ok (sxC (sub_fa hgl false) (sxC sub_dead (sxC sub_dead sx0)))) ((r_sE0 gl c n.c 0 n.id w0 0 0 fl n.ask n.waits true _ _ _ _ lg mr st _).trans ?_)
 refine condE (beq_eq_false_iff_ne.mpr hst) ?_
 cases n.waits
 ·exact condE rfl (condI rfl rfl)
 ·exact condI rfl rfl
structure LW where
 i:Nat
 k:Rws
 h:Rws
 m:Rws
def LW.st (c:Cfg)(steps:Int)(x:LW):LSt:=(chV (x.i:Int) steps,chR c x.k x.h x.m)
inductive GoodW (c:Cfg)(x:LW):Prop where
 |core (k:CoT) (h:Ho1) (hk:x.k=k.cx) (hh:x.h=hoB k.c h) (hm:x.m=memR k.me) (hc:k.c=c) (o:One k h)
 |fresh (n:NearS) (lg:Rws) (hk:x.k=cx0 c n lg false 0) (hw:n.waits=false) (hf:n.de.failing=false) (hd:n.de.depth=0)
 |over (n:NearS) (lg:Rws) (fl:Int) (hk:x.k=cx0 c n lg true fl)
inductive Rch (gl:Gl)(c:Cfg)(steps:Int)(out:List Nat)(o:Out):LW→Prop where
 |fin {x:LW} (h:Rnd gl (x.st c steps) out (.inr o)):Rch gl c steps out o x
 |step {x x':LW} (h:Rnd gl (x.st c steps) out (.inl (x'.st c steps))) (hi:x'.i=x.i+1) (hlt:(x.i:Int)<steps) (h':Rch gl c steps out o x'):Rch gl c steps out o x
theorem round {gl:Gl}(hF:GlF gl)(hgl:Low gl)(hWk:FnOK Tryz.prog gl 6 afWk)(c:Cfg){steps:Int}(hs:steps≤300){x:LW}(g:GoodW c x)(hi:(x.i:Int)<steps):
 (Rnd gl (x.st c steps) [6] (.inr (.ret,[.bool true],chR c x.k x.h x.m)))∨(∃x',GoodW c x'∧x'.i=x.i+1∧Rnd gl (x.st c steps) [] (.inl (x'.st c steps))∧Rnd gl (x.st c steps) [6] (.inl (x'.st c steps))):=by
 have hst:stN1 (x.i:Int)≠0:=stN1_ne (by omega) (by omega)
 have hw:IntKind.i64.wrap ((x.i:Int)+1)=((x.i+1:Nat):Int):=by rw[wrap_id _ (by omega)];rfl
 cases g with
 |over n lg fl hk=>
  refine .inl ?_
  unfold LW.st
  rw[hk]
  exact rnd_H hWk c (tells_0 hgl c n lg x.m true fl) hi (step0_2 hgl c n lg x.m hst fl)
 |fresh n lg hk hw' hf hd=>
  refine .inr ⟨⟨x.i+1,cx0 c n lg true 1,x.h,x.m⟩,.over n lg 1 rfl,rfl,?_,?_⟩
  ·have h:=rnd_0 hgl hWk c (h:=x.h) (tells_0 hgl c n lg x.m false 0) hi [] (.inl rfl) (step0_1 hF hgl c lg x.m hst hw' hf hd) (by show(11:Int)≠0;decide) rfl
   rw[hw]at h
   unfold LW.st
   rw[hk]
   exact h
  ·have h:=rnd_0 hgl hWk c (h:=x.h) (tells_0 hgl c n lg x.m false 0) hi [6] (.inr rfl) (step0_1 hF hgl c lg x.m hst hw' hf hd) (by show(11:Int)≠0;decide) rfl
   rw[hw]at h
   unfold LW.st
   rw[hk]
   exact h
 |core k h hk hh hm hc o=>
  have T:=tells_C hgl k
  unfold LW.st
  rw[hk,hh,hm]
  cases hl:k.hal with
  |true=>
   rw[hl]at T
   exact .inl (rnd_H hWk c T hi (sub_stepE hgl hst (.inr hl)))
  |false=>
   rw[hl]at T
   have hS:=sub_step hF hgl (o.ki.sp hl o.wt hst)
   have hwd:=work_do o.ki (stN1 (x.i:Int))
   have done: ∀p:CoT×EvS,k.workR (stN1 (x.i:Int))=one p→Res k p→ ∃x',GoodW c x'∧x'.i=x.i+1∧Rnd gl (chV (x.i:Int) steps,chR c k.cx (hoB k.c h) (memR k.me)) [] (.inl (x'.st c steps))∧Rnd gl (chV (x.i:Int) steps,chR c k.cx (hoB k.c h) (memR k.me)) [6] (.inl (x'.st c steps)):=fun p hp hr=>by
    rw[hp,stOut_nil rfl]at hS
    have o2:=o.res hr
    have hpc:p.1.c=k.c:=hr.eff.sm.c
    have co:p.2.core=0:=hr.co.trans o.id0
    refine⟨⟨x.i+1,p.1.cx,hoB k.c h,memR p.1.me⟩,.core p.1 h rfl (by rw[hpc]) rfl (hpc.trans hc) o2,rfl,?_,?_⟩
    ·have q:=rnd_0 hgl hWk c (h:=hoB k.c h) T hi [] (.inl rfl) hS hr.kd co
     rw[hw]at q
     exact q
    ·have q:=rnd_0 hgl hWk c (h:=hoB k.c h) T hi [6] (.inr rfl) hS hr.kd co
     rw[hw]at q
     exact q
   refine .inr ?_
   cases hwn:k.wants with
   |none=>
    rw[hwn]at hwd
    obtain⟨p,hp,hr⟩:=hwd
    exact done p hp hr
   |some bw=>
    obtain⟨b,wr⟩:=bw
    rw[hwn]at hwd
    obtain⟨b0,b1,⟨_,p,hp,hr⟩|⟨hmiss,hq⟩⟩:=hwd
    ·exact done p hp hr
    ·rcases o.ask hmiss with⟨hg,ha⟩|⟨l,hg,ha⟩
     ·obtain⟨k2,p,h2,hC,hp,hr,o2,hT⟩:=settleA hF hgl c o hl hst hwn hmiss b0 b1 hg
      rw[hq,ha]at hS
      have hsm:=hC.sm.tr hr.eff.sm
      have hpc:p.1.c=k.c:=hsm.c
      refine⟨⟨x.i+1,p.1.cx,hoB p.1.c h2,memR p.1.me⟩,.core p.1 h2 rfl rfl rfl (hpc.trans hc) o2,rfl,?_,?_⟩
      ·have q:=rnd_N hWk c (h:=hoB k.c h) (nn:=1) (en:=1) (k1:=(k.setN (k.ne.askA b wr)).cx) (m1:=memR k.me) (ns:=notesL [k.ne.askN b wr]) (e:=k.ev 8 0 0) T hi [] (.inl rfl) (by rw[notesL_af]) rfl hS (by show(8:Int)≠0;decide) o.id0 hT
       rw[hw]at q
       exact q
      ·have q:=rnd_N hWk c (h:=hoB k.c h) (nn:=1) (en:=1) (k1:=(k.setN (k.ne.askA b wr)).cx) (m1:=memR k.me) (ns:=notesL [k.ne.askN b wr]) (e:=k.ev 8 0 0) T hi [6] (.inr rfl) (by rw[notesL_af]) rfl hS (by show(8:Int)≠0;decide) o.id0 hT
       rw[hw]at q
       exact q
     ·obtain⟨k2,p,h2,k3,rfl,hC,hp,hr,o2,hT⟩:=settleB hF hgl c o hl hst hwn hmiss b0 b1 hg
      rw[hq,ha]at hS
      have hsm:=hC.sm.tr hr.eff.sm
      have hpc:p.1.c=k.c:=hsm.c
      refine⟨⟨x.i+1,p.1.cx,hoB p.1.c h2,memR p.1.me⟩,.core p.1 h2 rfl rfl rfl (hpc.trans hc) o2,rfl,?_,?_⟩
      ·have q:=rnd_N hWk c (h:=hoB k.c h) (nn:=2) (en:=2) (k1:=(k.setN (k.ne.askB b wr l)).cx) (m1:=memR k.me) (ns:=notesL [k.ne.putN l,k.ne.askN b wr]) (e:=k.ev 8 0 0) T hi [] (.inl rfl) (by rw[notesL_af]) rfl hS (by show(8:Int)≠0;decide) o.id0 hT
       rw[hw]at q
       exact q
      ·have q:=rnd_N hWk c (h:=hoB k.c h) (nn:=2) (en:=2) (k1:=(k.setN (k.ne.askB b wr l)).cx) (m1:=memR k.me) (ns:=notesL [k.ne.putN l,k.ne.askN b wr]) (e:=k.ev 8 0 0) T hi [6] (.inr rfl) (by rw[notesL_af]) rfl hS (by show(8:Int)≠0;decide) o.id0 hT
       rw[hw]at q
       exact q
theorem ends {gl:Gl}(hF:GlF gl)(hgl:Low gl)(hWk:FnOK Tryz.prog gl 6 afWk)(c:Cfg){steps:Int}(hs:steps≤300): ∀(n:Nat) (x:LW),GoodW c x→steps.toNat-x.i≤n→(∃k h m,Rch gl c steps [6] (.ret,[.bool true],chR c k h m) x)∨ ∃k h m,Rch gl c steps [] (.exit 0,[],chR c k h m) x
 |n,x,g,hn=>by
  by_cases hi:(x.i:Int)<steps
  ·rcases round hF hgl hWk c hs g hi with h|⟨x',g',e,h1,h2⟩
   ·exact .inl ⟨_,_,_,.fin h⟩
   ·cases n with
    |zero=>omega
    |succ n=>
     rcases ends hF hgl hWk c hs n x' g' (by omega)with⟨k,h,m,q⟩|⟨k,h,m,q⟩
     ·exact .inl ⟨k,h,m,.step h2 e hi q⟩
     ·exact .inr ⟨k,h,m,.step h1 e hi q⟩
  ·exact .inr ⟨x.k,x.h,x.m,.fin (rnd_E c x.k x.h x.m hi)⟩
theorem rch_loop {gl:Gl}(hgl:Low gl){c:Cfg}{steps:Int}{out:List Nat}{o:Out}{x:LW}(h:Rch gl c steps out o x):LpOK Tryz.prog gl 4 0 ⟨[7,44,43],out,gH (atS (x.st c steps).1 (x.st c steps).2) o⟩:=
 loop_ofV goodT hgl tglob fun vs rows' t q h1 h2=>by
  obtain⟨rfl,rfl,e⟩:=gH_run h1 h2
  subst e
  refine⟨by show 1004≤most;decide,{x:LW//Rch gl c steps out q x},fun x=>x.1.st c steps,fun _=>some q,fun x=>steps.toNat-x.1.i,⟨x,h⟩,.inl rfl,rfl,?_⟩
  rintro⟨x,h⟩ o' ho
  cases ho
  cases h with
  |fin h=>
   obtain⟨sy,H,g1,g2,g3⟩:=h
   exact⟨sy,H,100,40,40,_,[],noC,g1,g2,g3,rfl⟩
  | @step _ x' h hi hlt h'=>
    obtain⟨sy,H,g1,g2,g3⟩:=h
    exact⟨sy,H,100,40,40,_,[],noC,g1,g2,g3,⟨x',h'⟩,rfl,by show steps.toNat-x'.i<steps.toNat-x.i;omega,rfl⟩
def ca0 (c:Cfg):CacheS:=⟨c,List.replicate (c.sets*c.ways).toNat ln0,List.replicate c.sets.toNat 0⟩
theorem lns_repl: ∀n:Nat,lnsL (List.replicate n ln0)=repl n lineZ
 |0=>rfl
 |n+1=>by rw[List.replicate_succ,lnsL,lns_repl n];rfl
theorem u8_repl: ∀n:Nat,u8L (List.replicate n 0)=repl n [.int .u8 0]
 |0=>rfl
 |n+1=>by
  have e:=u8_repl n
  rw[List.replicate_succ]
  show Value.int .u8 0::u8L (List.replicate n 0)=_
  rw[e];rfl
theorem es_repl: ∀n:Nat,esL (List.replicate n (-1))=repl n entZ
 |0=>rfl
 |n+1=>by rw[List.replicate_succ,esL,es_repl n];rfl
theorem cacheN_eq (c:Cfg):cacheR (ca0 c)=cacheN c:=by
 unfold cacheN
 show cacheX c (List.replicate (c.sets*c.ways).toNat ln0).length (List.replicate c.sets.toNat (0:Int)).length (lnsL (List.replicate (c.sets*c.ways).toNat ln0)) (u8L (List.replicate c.sets.toNat 0))=_
 rw[List.length_replicate,List.length_replicate,lns_repl,u8_repl]
def ne0 (c:Cfg):NearS:=⟨c,0,note0,false,ca0 c,⟨dataI c,⟨c.backs,true,[],[]⟩⟩,⟨dataP c,[],0⟩,dNew c.nest⟩
theorem nearN_eq (c:Cfg):nearR (ne0 c)=nearN c 0:=by
 unfold nearR nearN
 show nearX c 0 note0 false (cacheR (ca0 c)) _ _ _=_
 rw[cacheN_eq];rfl
def me0 (c:Cfg):MemS:=⟨c.blocks.toNat,List.replicate (c.blocks.toNat*16) 0⟩
def k0 (c:Cfg)(zs:List Int):CoT:=⟨c,0,zs.map tkS,w0,0,0,false,0,ne0 c,dataI c+0*c.logs,c.logs*8,0,me0 c⟩
def h0 (c:Cfg):Ho1:=⟨List.replicate (dataI c).toNat (-1),none,0,0⟩
theorem core0_eq (c:Cfg)(z:Int)(l:List Int):coreR (coreN c 0 (z::l))++[none]=(k0 c (z::l)).cx:=by
 unfold CoT.cx
 show _=coX c 0 ((z::l).map tkS).length w0 0 0 false 0 (cdsL ((z::l).map tkS)) (nearR (ne0 c)) _++[none]
 rw[nearN_eq];rfl
theorem core0_nil (c:Cfg):coreR (coreN c 0 [])++[none]=cx0 c (ne0 c) (lgN c 0) false 0:=by
 unfold cx0
 rw[nearN_eq];rfl
theorem home0_eq (c:Cfg):homeN c++[none]=hoB c (h0 c):=by
 unfold hoB homeN h0
 show _=homeX c (List.replicate (dataI c).toNat (-1:Int)).length (esL (List.replicate (dataI c).toNat (-1))) [] 0 _++[none]
 rw[List.length_replicate,es_repl]
theorem ca0_G {c:Cfg}(hp:planOk c=true):CaG (ca0 c)∧ ∀b,(ca0 c).get b=none:=by
 obtain⟨⟨_,_,s0,_,w0,_⟩,_⟩:=planOk_iff.1 hp
 have hz: ∀(i:Nat) l,(ca0 c).lines[i]? =some l→l.state=0:=fun i l h=>by
  have:=List.eq_of_mem_replicate (List.mem_of_getElem? h)
  rw[this];rfl
 have hG:CaG (ca0 c):=by
  refine⟨⟨hp,?_,?_,fun m hm=>?_⟩,fun i l h hs=>absurd (hz i l h) hs,fun i j l m h1 h2 hs _ _=>absurd (hz i l h1) hs⟩
  ·show(List.replicate (c.sets*c.ways).toNat ln0).length=_
   rw[List.length_replicate,Int.toNat_mul (by omega) (by omega)]
   rfl
  ·show(List.replicate c.sets.toNat (0:Int)).length=_
   rw[List.length_replicate];rfl
  ·rw[List.eq_of_mem_replicate hm]
   exact⟨by decide,by decide⟩
 refine⟨hG,fun b=>?_⟩
 cases hg:(ca0 c).get b with
 |none=>rfl
 |some l=>
  obtain⟨i,h1,h2,_⟩:=(get_pos hG).1 hg
  exact absurd (hz i l h1) h2
theorem one0 {c:Cfg}(hp:planOk c=true)(hc:c.cores=1){zs:List Int}(hz: ∀x∈zs,tkE x=0)(hn:zs.length≤1024):One (k0 c zs) (h0 c):=by
 obtain⟨⟨p1,p2,p3,p4,p5,p6,p7,p8,p9,p10,p11,p12,p13,p14,_⟩,_⟩:=planOk_iff.1 hp
 obtain⟨d1,d2,d3⟩:=data_bd hp
 obtain⟨hG,hN⟩:=ca0_G hp
 have hd:=dataP_t hp
 have hmo:(me0 c).ok:=⟨by show(List.replicate _ (0:Int)).length=_;rw[List.length_replicate];rfl,by show 1≤c.blocks.toNat;omega,by show c.blocks.toNat≤256;omega⟩
 have hki:KInv (k0 c zs):=by
  refine⟨hp,rfl,hG,⟨⟨fun _=>⟨rfl,rfl⟩,rfl,by show 0≤65536;omega⟩,by show 1≤c.backs;omega,by show c.backs≤65536;omega⟩,by show dataI c=dataP c;rw[hd],hmo,⟨hmo,?_,?_,?_,?_⟩,by show(0:Int)≤0;omega,?_,?_,fun i i0 i1=>?_,⟨by show(0:Int)≤0;omega,by show 0≤c.nest;omega,by show c.nest≤8;omega,fun q=>by cases q⟩,fun i hi=>?_,?_⟩
  ·show 0≤dataI c+0*c.logs;omega
  ·show 0≤c.logs*8;omega
  ·show c.logs*8≤32;omega
  ·show(dataI c+0*c.logs)*16+c.logs*8*2≤((c.blocks.toNat:Nat):Int)*16
   rw[hc]at d3
   omega
  ·show(0:Int)≤c.logs*8;omega
  ·show dataP c≤dataI c+0*c.logs;omega
  ·have i1:i<0:=i1
   omega
  ·obtain⟨x,hx,rfl⟩:=List.mem_map.1 hi
   exact take_may (hz x hx)
  ·show(zs.map tkS).length≤1024
   rw[List.length_map];exact hn
 refine⟨hki,rfl,rfl,hc,rfl,rfl,fun b l hg=>?_,rfl,?_,fun o ho=>.inl (List.eq_of_mem_replicate ho),?_⟩
 ·have hg:(ca0 c).get b=some l:=hg
  rw[hN]at hg;cases hg
 ·show((List.replicate (dataI c).toNat (-1:Int)).length:Int)=dataP c
  rw[List.length_replicate,hd];omega
 ·show((c.blocks.toNat:Nat):Int)=c.blocks
  omega
theorem memN0 {n:Int}(h:1≤n∧n≤256):isMemN (memR ⟨n.toNat,List.replicate (n.toNat*16) 0⟩) n=true:=by
 have hk:MemS.ok ⟨n.toNat,List.replicate (n.toNat*16) 0⟩:=⟨by simp,by show 1≤n.toNat;omega,by show n.toNat≤256;omega⟩
 unfold isMemN
 rw[isMem_t hk,mOf_eq hk]
 show(true&&((n.toNat:Int)==n))=true
 rw[show((n.toNat:Nat):Int)=n by omega,beq_self_eq_true];rfl
theorem cnNew_nil {gl:Gl}(hgl:Low gl){c:Cfg}{r:Rws}(hm:isMemN r c.blocks=true)(hid:planOk c=true→(0:Int)≤0∧0<c.cores):
 SubOK Tryz.prog gl 9 (gH (atS [cfgV c,.int .i64 0,.slice none 0 0,pK 1000] (bx r)) (cnOut c 0 [] r)):=by
 have hm':=hm
 simp only[isMemN,qa1,beq_iff_eq]at hm'
 obtain⟨hm1,hm2⟩:=hm'
 refine atB hgl (HCn_ok hgl (cn_loopN hgl c 0 r)) (pl:=plM) ((r_cNewN _ _ _ _ _ _ _ _ gl c 0 r).trans ?_)
 simp only[qs_eq]
 cases hp:planOk c with
 |false=>
  refine condI (by unfold mayE;rw[hp];rfl) ?_
  unfold cnOut cnE
  rw[hp];rfl
 |true=>
  obtain⟨i0,i1⟩:=hid hp
  have g1:nrOk (c,0)=true:=andI hp (andI (qd1 i0) (qd1 i1))
  have g2:ggC r (c,0)=true:=andI hp (andI hm (andI (qd1 i0) (qd1 i1)))
  have g3:(((mOf r).n:Int) !=c.blocks)=false:=by rw[hm2];exact bneI_self _
  refine condE (by rw[mayE_t hp];rfl) (condI hm1 (condE g3 (condI (atS_self _ _) (condI g1 (condI g2 ?_)))))
  unfold cnOut cnE
  rw[hp];rfl
theorem hdNM_at {gl:Gl}{f:FuncId}{α:Type}{D:Dec α}{g:Rws→α→Bool}{e:Rws→α→Int}{n:Rws→α→Rws}(hs:SubOK Tryz.prog gl f (hdNM D g e n)){r:Rws}{x:α}(hx:D.dec (D.enc x)=some x)(hg:g r x=true)(he:e r x=0):
 SubOK Tryz.prog gl f (gH (atS (D.enc x) (bx r)) (.normal,[.tuple #[pK 1001,.int .i64 0]],[some (.box r []),some (.box (n r x++[none]) [1000])])):=fun vs rows t ex u rows' h1 h2=>by
 obtain⟨rfl,rfl,h3⟩:=gH_run h1 h2
 refine hs _ _ (.br (g r x) (.br (e r x==0) (.ret (.normal,[.tuple #[pK 1001,.int .i64 0]],[some (.box r []),some (.box (n r x++[none]) [1000])])) (.ret (.normal,[.tuple #[.pointer none,.int .i64 (e r x)]],[some (.box r [])]))) .fail) ex u rows' ?_ ?_
 ·unfold hdNM
  show(D.dec (D.enc x)).map _=_
  rw[hx];rfl
 ·show cond (g r x) (cond (e r x==0) _ _) none=_
  rw[hg,he];exact congrArg some h3.symm
theorem home_ok {gl:Gl}(hgl:Low gl){c:Cfg}{r:Rws}(hm:isMemN r c.blocks=true)(hp:planOk c=true):SubOK Tryz.prog gl 39 (gH (atS [cfgV c,pK 1000] (bx r)) (.normal,[.tuple #[pK 1001,.int .i64 0]],[some (.box r []),some (.box (hoB c (h0 c)) [1000])])):=by
 rw[←home0_eq]
 exact hdNM_at (sub_hmNew hgl) (r:=r) (x:=c) rfl (andI hp hm) rfl
theorem home_bad {gl:Gl}(hgl:Low gl){c:Cfg}{r:Rws}(hp:planOk c=false):SubOK Tryz.prog gl 39 (gH (atS [cfgV c,pK 1000] (bx r)) (.normal,[.tuple #[.pointer none,.int .i64 2]],bx r)):=by
 refine atB hgl (HHm_ok hgl) (pl:=plM) ((r_hmNew gl mayE dataP poolOk _ isMem _ _ c r).trans ?_)
 simp only[qs_eq]
 exact condI (by unfold mayE;rw[hp];rfl) rfl
open Go.ChangeShapes Go.WideShapes Go.ChangeAt
theorem addr_add (blk off n:Nat):(⟨blk,off,none⟩:Addr).add n=⟨blk,off+n,none⟩:=by
 unfold Addr.add
 split
 ·rename_i h;subst h;rfl
 ·rfl
theorem list_of {α:Type}{Q:Nat→α→Prop}: ∀n:Nat,(∀i,i<n→ ∃e,Q i e)→ ∃zs:List α,zs.length=n∧ ∀i e,zs[i]? =some e→Q i e
 |0,_=>⟨[],rfl,fun i e h=>by simp at h⟩
 |n+1,h=>by
  obtain⟨zs,h1,h2⟩:=list_of n fun i hi=>h i (by omega)
  obtain⟨e,he⟩:=h n (by omega)
  refine⟨zs++[e],by simp[h1],fun i e' h3=>?_⟩
  rcases Nat.lt_or_ge i n with hi|hi
  ·rw[qx4 (by omega)]at h3
   exact h2 i e' h3
  ·rw[qx3 (by omega),h1]at h3
   rcases Nat.eq_or_lt_of_le hi with rfl|hi
   ·simp at h3;subst h3;exact he
   ·rw[List.getElem?_eq_none (by simp;omega)]at h3;cases h3
theorem open_rows {H:Type}{enc:TypeId×Value→H}{w:World}{sp:Nat→Bool}{held:Bool}{rc:Reach}{base:Nat}{v:Value}{d:DataW H}{p:List MemPlace}{t e n:Nat}(ht:Tryz.prog.underlying t=some (.slice e))(hn:Tryz.prog.cellsOf e=n)
 (hv:Value.okWide Tryz.prog w rc base t v) (h:DataW.Trod enc Tryz.prog w 0 sp held t v d p):
 v=.slice none 0 0∨ ∃(blk off len cap:Nat) (m:Nat),v=.slice (some ⟨blk,off,none⟩) len cap∧len≤cap∧cap≤maxLen∧blk<w.heap.size∧ ∀i,i<len→ ∃cs x,cs.length=n∧(∀j,j<n→ ∃y,cs[j]? =some y∧w.cell? ⟨blk,off+i*n+j,none⟩=some y)∧DataW.trod enc Tryz.prog w 0 sp held m e cs=some x:=by
 obtain⟨a,len,cap,rfl⟩:=okWide_slice ht hv
 obtain⟨fuel,h⟩:=h
 rcases DataW.trod_slice ht h with⟨hn,_⟩|⟨a',len',cap',elems,rest,m,_,hcs,_,_,hlc,hcm,hel,hi,_⟩
 ·left
  simpa[Value.cells]using hn
 ·right
  have e0:Value.slice a len cap=.slice (some a') len' cap':=by simpa[Value.cells]using hcs
  cases e0
  have hok:Cell.ok Tryz.prog w rc base t (.slice (some a') len cap):=by
   simpa only[Value.okWide,Cell.okWide,ht]using hv
  have hhas:w.has Tryz.prog rc base a' e cap:=by
   simp only[Cell.ok,ht]at hok
   exact hok.2.2
  obtain⟨_,hs,row,cells,hsh,_⟩:=hhas
  obtain⟨blk,off,spot⟩:=a'
  simp only at hs
  subst hs
  have hb:blk<w.heap.size:=by
   rcases Nat.lt_or_ge blk w.heap.size with h1|h1
   ·exact h1
   ·simp[World.shape?,Array.getElem?_eq_none h1]at hsh
  refine⟨blk,off,len,cap,m,rfl,hlc,hcm,hb,fun i hlt=>?_⟩
  have h1:=hi i hlt
  rw[qx2 (by omega)]at h1
  obtain⟨cs,h2,h3⟩:=qb1.1 h1
  rw[hn]at h2
  obtain⟨_,hl,hat⟩:=World.cells?_some h2
  refine⟨cs,_,hl,fun j hj=>⟨cs[j]'(by omega),qx2 (by omega),?_⟩,h3⟩
  have:=hat j (by omega)
  rw[addr_add,addr_add]at this
  rw[this]
  exact qx2 (by omega)
theorem fieldI {P:Program}{H:Type}{enc:TypeId×Value→H}{w:World}{base:Nat}{sp:Nat→Bool}{held:Bool}{n:Nat}{t:TypeId}{k:IntKind}{cs:List Value}{xs:List (DataW H×List MemPlace)}{i:Nat}
 (ht:P.underlying t=some (.int k)) (hi:i<xs.length) (h:DataW.trod enc P w base sp held n t cs=xs[i]?): ∃m,cs=[.int k m]∧(Lit.int k m).wf=true:=by
 rw[qx2 hi]at h
 obtain⟨m,h1,_,h2⟩:=DataW.trod_int ht h
 exact⟨m,h1,h2⟩
theorem u32_bounds {n:Int}(h:(Lit.int .u32 n).wf=true):0≤n∧n<4294967296:=by
 simp only[Lit.wf,qa1,decide_eq_true_eq]at h
 have e1:IntKind.min .u32=0:=by decide+kernel
 have e2:IntKind.max .u32=4294967295:=by decide+kernel
 rw[e1,e2]at h
 omega
theorem open_u32s {H:Type}{enc:TypeId×Value→H}{w:World}{sp:Nat→Bool}{held:Bool}{rc:Reach}{base:Nat}{v:Value}{d:DataW H}{p:List MemPlace}
 (hv:Value.okWide Tryz.prog w rc base 24 v) (h:DataW.Trod enc Tryz.prog w 0 sp held 24 v d p):
 v=.slice none 0 0∨ ∃(blk off cap:Nat) (ws:List Int),v=.slice (some ⟨blk,off,none⟩) ws.length cap∧ws.length≤cap∧ws.length≤9223372036854775807∧(∀(i:Nat) x,(ws.map (Value.int .u32))[i]? =some x→w.cell? ⟨blk,off+i,none⟩=some x)∧WordsOk ws∧blk<w.heap.size:=by
 rcases open_rows (n:=1) Tryz.underlying24 (by kernel_rfl) hv h with h|⟨blk,off,len,cap,m,rfl,hlc,hcm,hb,hi⟩
 ·exact .inl h
 ·obtain⟨ws,hl,hq⟩:=list_of (Q:=fun i (x:Int)=>w.cell? ⟨blk,off+i,none⟩=some (.int .u32 x)∧0≤x∧x<4294967296) len fun i hlt=>by
   obtain⟨cs,y,h1,h2,h3⟩:=hi i hlt
   obtain⟨z,g1,_,g2⟩:=DataW.trod_int Tryz.underlying28 h3
   subst g1
   obtain⟨y',h4,h5⟩:=h2 0 (by decide)
   cases h4
   rw[Nat.mul_one,Nat.add_zero]at h5
   have hz:=u32_bounds g2
   exact⟨z,h5,hz.1,hz.2⟩
  subst hl
  have hmx:maxLen=9223372036854775807:=by kernel_rfl
  refine .inr ⟨blk,off,cap,ws,rfl,hlc,by omega,fun i x hx=>?_,fun x hx=>?_,hb⟩
  ·rw[List.getElem?_map]at hx
   obtain⟨z,hz,rfl⟩:=qm1.1 hx
   exact(hq i z hz).1
  ·obtain⟨i,hi2⟩:=List.getElem?_of_mem hx
   exact(hq i x hi2).2
theorem open_cfg {H:Type}{enc:TypeId×Value→H}{W:World}{rc:Reach}{base:Nat}{v:Value}{d:DataW H}{p:List MemPlace}(hv:Value.okWide Tryz.prog W rc base 23 v)(h:DataW.Trod enc Tryz.prog W 0 (fun _=>true) true 23 v d p): ∃c:Cfg,v=cfgV c:=by
 obtain⟨cs,rfl,hcs⟩:=okWide_struct Tryz.underlying23 hv
 obtain⟨fuel,h1⟩:=h
 obtain⟨xs,n,_,_,hl,hlen,hf⟩:=DataW.trod_struct Tryz.underlying23 h1
 have h8:Tryz.prog.cellsOf 23=8:=by kernel_rfl
 have e3:Tryz.prog.cellsOf 3=1:=by kernel_rfl
 have hlen:xs.length=8:=hlen
 rw[h8]at hcs
 obtain⟨l⟩:=cs
 obtain⟨v0,v1,v2,v3,v4,v5,v6,v7,rfl⟩: ∃v0 v1 v2 v3 v4 v5 v6 v7,l=[v0,v1,v2,v3,v4,v5,v6,v7]:=by
  match l,hcs with
  |[v0,v1,v2,v3,v4,v5,v6,v7],_=>exact⟨v0,v1,v2,v3,v4,v5,v6,v7,rfl⟩
 have f0:=hf 0 _ rfl
 have f1:=hf 1 _ rfl
 have f2:=hf 2 _ rfl
 have f3:=hf 3 _ rfl
 have f4:=hf 4 _ rfl
 have f5:=hf 5 _ rfl
 have f6:=hf 6 _ rfl
 have f7:=hf 7 _ rfl
 have f0:DataW.trod enc Tryz.prog W 0 (fun _=>true) true n 3 (([v0,v1,v2,v3,v4,v5,v6,v7].drop 0).take (Tryz.prog.cellsOf 3))=xs[0]? :=f0
 have f1:DataW.trod enc Tryz.prog W 0 (fun _=>true) true n 3 (([v0,v1,v2,v3,v4,v5,v6,v7].drop 1).take (Tryz.prog.cellsOf 3))=xs[1]? :=f1
 have f2:DataW.trod enc Tryz.prog W 0 (fun _=>true) true n 3 (([v0,v1,v2,v3,v4,v5,v6,v7].drop 2).take (Tryz.prog.cellsOf 3))=xs[2]? :=f2
 have f3:DataW.trod enc Tryz.prog W 0 (fun _=>true) true n 3 (([v0,v1,v2,v3,v4,v5,v6,v7].drop 3).take (Tryz.prog.cellsOf 3))=xs[3]? :=f3
 have f4:DataW.trod enc Tryz.prog W 0 (fun _=>true) true n 3 (([v0,v1,v2,v3,v4,v5,v6,v7].drop 4).take (Tryz.prog.cellsOf 3))=xs[4]? :=f4
 have f5:DataW.trod enc Tryz.prog W 0 (fun _=>true) true n 3 (([v0,v1,v2,v3,v4,v5,v6,v7].drop 5).take (Tryz.prog.cellsOf 3))=xs[5]? :=f5
 have f6:DataW.trod enc Tryz.prog W 0 (fun _=>true) true n 3 (([v0,v1,v2,v3,v4,v5,v6,v7].drop 6).take (Tryz.prog.cellsOf 3))=xs[6]? :=f6
 have f7:DataW.trod enc Tryz.prog W 0 (fun _=>true) true n 3 (([v0,v1,v2,v3,v4,v5,v6,v7].drop 7).take (Tryz.prog.cellsOf 3))=xs[7]? :=f7
 rw[e3]at f0 f1 f2 f3 f4 f5 f6 f7
 obtain⟨n0,g0,_⟩:=fieldI Tryz.underlying3 (by omega) f0
 obtain⟨n1,g1,_⟩:=fieldI Tryz.underlying3 (by omega) f1
 obtain⟨n2,g2,_⟩:=fieldI Tryz.underlying3 (by omega) f2
 obtain⟨n3,g3,_⟩:=fieldI Tryz.underlying3 (by omega) f3
 obtain⟨n4,g4,_⟩:=fieldI Tryz.underlying3 (by omega) f4
 obtain⟨n5,g5,_⟩:=fieldI Tryz.underlying3 (by omega) f5
 obtain⟨n6,g6,_⟩:=fieldI Tryz.underlying3 (by omega) f6
 obtain⟨n7,g7,_⟩:=fieldI Tryz.underlying3 (by omega) f7
 cases g0;cases g1;cases g2;cases g3;cases g4;cases g5;cases g6;cases g7
 exact⟨⟨n0,n1,n2,n3,n4,n5,n6,n7⟩,rfl⟩
theorem glK_up {u0 o0 u1 o1 off:Nat}{cs:List Value}: ∀g k v,glC u0 o0 u1 o1 g k=some v→glK (glC u0 o0 u1 o1) 902 off cs g k=some v:=fun g k v h=>by
 unfold glK
 cases hg:Nat.beq g 902 with
 |false=>exact h
 |true=>
  rw[qe1 hg]at h
  have:glC u0 o0 u1 o1 902 k=none:=rfl
  rw[this]at h;cases h
theorem u32_plain (zs:List Int):Plain (zs.map (Value.int .u32)):=fun v hv=>by
 obtain⟨z,_,rfl⟩:=List.mem_map.1 hv
 exact⟨rfl,rfl⟩
theorem glK_W {gl:Gl}{off:Nat}{zs:List Int}:GlW (glK gl 902 off (zs.map (Value.int .u32))) 902 off zs:=fun i z h=>by
 show cond (Nat.beq 902 902) (cond (Nat.ble off (off+i)) (zs.map (Value.int .u32))[off+i-off]? none) _=_
 rw[nbl (show off≤off+i by omega),show off+i-off=i by omega,List.getElem?_map,h]
 rfl
theorem fn_memoK {gl:Gl}{f:FuncId}(hgl: ∀g k v,gl g k=some v→g<1000∧lowV 8 v=true)(hm:MemoOK Tryz.prog gl f):FnOK Tryz.prog gl f afWk:=FnOK.flat hgl tglob fun args σ v h=>by
 unfold afWk at h
 split at h
 ·cases h
  refine⟨rfl,rfl,fun w hw=>?_⟩
  obtain⟨φ,hr⟩:=hw
  exact hm φ LS.start w hr
 ·cases h
theorem gHm_sub {gl:Gl}{f:FuncId}{t:List Value→Rws→Bool}{o:Out}(h:SubOK Tryz.prog gl f (gH t o)):SubOK Tryz.prog gl f (gHm t o):=fun vs rows u e v rows' h1 h2=>by
 unfold gHm at h1
 split at h1
 ·cases h1
 ·exact h vs rows u e v rows' h1 h2
def memE1 (n:Int):Int:=cond (decide (n<1)) 2 (cond (decide (n>256)) 2 0)
theorem memE1_0 {n:Int}(h:(memE1 n==0)=true):1≤n∧n≤256:=by
 unfold memE1 at h
 cases h1:decide (n<1)with
 |true=>rw[h1]at h;cases h
 |false=>
  cases h2:decide (n>256)with
  |true=>rw[h1,h2]at h;cases h
  |false=>
   have h1:=of_decide_eq_false h1
   have h2:=of_decide_eq_false h2
   omega
abbrev HCh (tN:List Value→Rws→Bool)(oN:Out)(tM:List Value→Rws→Bool)(oM:Out)(out:List Nat)(t0:List Value→Rws→Bool)(o0:Out):Hs:=hsOf [(6,afWk)] [(8,hdN (decI .i64) (fun _=>true) memE1 fun n=>memR ⟨n.toNat,List.replicate (n.toNat*16) 0⟩),(9,gHm tN oN),(39,gHm tM oM)] [(4,[(0,⟨[7,44,43],out,gH t0 o0⟩)])]
theorem HCh_ok {gl:Gl}(hgl:Low gl)(hWk:FnOK Tryz.prog gl 6 afWk){tN tM t0:List Value→Rws→Bool}{oN oM o0:Out}{out:List Nat}(hN:SubOK Tryz.prog gl 9 (gH tN oN))(hM:SubOK Tryz.prog gl 39 (gH tM oM))
 (h0:LpOK Tryz.prog gl 4 0 ⟨[7,44,43],out,gH t0 o0⟩):(HCh tN oN tM oM out t0 o0).OK Tryz.prog gl:=
 hsOf_ok (fxC hWk fx0) (sxC (sub_mNew hgl) (sxC (gHm_sub hN) (sxC (gHm_sub hM) sx0))) (fun p hp q hq=>by
  simp only[List.mem_singleton]at hp;subst hp
  simp only[List.mem_singleton]at hq;subst hq
  exact h0)
def ChTrue (gl:Gl)(c:Cfg)(sl:Value)(steps:Int):Prop:= ∃H:Hs,H.OK Tryz.prog gl∧evF gl H 4 (chArgs c sl steps)=some (.bool true)
abbrev nT:List Value→Rws→Bool:=fun _ _=>false
theorem cn_bad {c:Cfg}{zs:List Int}{r:Rws}(h:(cnE c zs==0)=false):cnOut c 0 zs r=(.normal,[.tuple #[.pointer none,.int .i64 2]],[some (.box r [])]):=by unfold cnOut;rw[h];rfl
theorem cn_good {c:Cfg}{zs:List Int}{r:Rws}(h:(cnE c zs==0)=true):cnOut c 0 zs r=(.normal,[.tuple #[pK 1001,.int .i64 0]],[some (.box r []),some (.box (coreR (coreN c 0 zs)++[none]) [1000])])∧planOk c=true∧zs.length≤1024∧ ∀x∈zs,tkE x=0:=by
 refine⟨by unfold cnOut;rw[h];rfl,?_⟩
 unfold cnE at h
 cases hp:planOk c with
 |false=>rw[hp]at h;cases h
 |true=>
  cases hd:decide ((zs.length:Int)>1024)with
  |true=>rw[hp,hd]at h;cases h
  |false=>
   rw[hp,hd]at h
   have hd:=of_decide_eq_false hd
   cases ha:zs.all (fun x=>tkE x==0)with
   |false=>rw[ha]at h;cases h
   |true=>exact⟨rfl,by omega,fun x hx=>by simpa using List.all_eq_true.1 ha x hx⟩
theorem one_core (c:Cfg)(h:planOk {c with cores:=1}=true):(0:Int)≤0∧0<({c with cores:=1}:Cfg).cores:=⟨Int.le_refl _,by show(0:Int)<1;decide⟩
theorem good0 (c:Cfg){zs:List Int}(h:(cnE {c with cores:=1} zs==0)=true):GoodW {c with cores:=1} ⟨0,coreR (coreN {c with cores:=1} 0 zs)++[none],hoB {c with cores:=1} (h0 {c with cores:=1}),memR (me0 {c with cores:=1})⟩:=by
 obtain⟨_,hp,hn,hz⟩:=cn_good (r:=[]) h
 cases zs with
 |nil=>exact .fresh (ne0 _) (lgN _ 0) (core0_nil _) rfl rfl rfl
 |cons z l=>exact .core (k0 _ (z::l)) (h0 _) (core0_eq _ z l) rfl rfl rfl (one0 hp rfl hz hn)
theorem chW {gl:Gl}(hF:GlF gl)(hgl:Low gl)(hWk:FnOK Tryz.prog gl 6 afWk){zs:List Int}{off cap:Nat}(hW:GlW gl 902 off zs)(hcap:zs.length≤cap)(hz:WordsOk zs)(c:Cfg)(steps:Int):ChTrue gl c (wSl 902 off zs.length cap) steps:=by
 by_cases a1:(zs.length:Int)>1100
 ·exact⟨_,HCh_ok hgl hWk (oN:=_) (oM:=_) sub_nev sub_nev lp_none,(r_chW0 gl _ _ _ nT nT nT c steps off zs.length cap [] [] [] [] [] []).trans (condI (qd1 a1) rfl)⟩
 by_cases a2:steps<0
 ·exact⟨_,HCh_ok hgl hWk (oN:=_) (oM:=_) sub_nev sub_nev lp_none,(r_chW0 gl _ _ _ nT nT nT c steps off zs.length cap [] [] [] [] [] []).trans (condE (qd2 a1) (condI (qd1 a2) rfl))⟩
 by_cases a3:steps>300
 ·exact⟨_,HCh_ok hgl hWk (oN:=_) (oM:=_) sub_nev sub_nev lp_none,(r_chW0 gl _ _ _ nT nT nT c steps off zs.length cap [] [] [] [] [] []).trans (condE (qd2 a1) (condE (qd2 a2) (condI (qd1 a3) rfl)))⟩
 have pre: ∀{A B D E r:Option Value},E=r→cond (decide ((zs.length:Int)>1100)) D (cond (decide (steps<0)) A (cond (decide (steps>300)) B E))=r:=fun h=>condE (qd2 a1) (condE (qd2 a2) (condE (qd2 a3) h))
 cases he:memE1 c.blocks==0 with
 |false=>exact⟨_,HCh_ok hgl hWk (oN:=_) (oM:=_) sub_nev sub_nev lp_none,(r_chW0 gl _ _ _ nT nT nT c steps off zs.length cap [] [] [] [] [] []).trans (pre (condI rfl (condE he (condI (by simpa[bne]using he) rfl))))⟩
 |true=>
  have hm:isMemN (memR (me0 {c with cores:=1})) ({c with cores:=1}:Cfg).blocks=true:=memN0 (memE1_0 he)
  have hN:=sub_coNew hF hgl hW hcap hz (c:={c with cores:=1}) (id:=0) hm (one_core c)
  cases hc:cnE {c with cores:=1} zs==0 with
  |false=>
   rw[cn_bad hc]at hN
   cases hp:planOk {c with cores:=1}with
   |false=>exact⟨_,HCh_ok hgl hWk hN (home_bad hgl hp) lp_none,(r_chW0 gl _ _ _ _ _ nT c steps off zs.length cap _ [] [] [] [] []).trans (pre (condI rfl (condI he (condI (atS_self _ _) (condI (atS_self _ _) rfl)))))⟩
   |true=>exact⟨_,HCh_ok hgl hWk hN (home_ok hgl hm hp) lp_none,(r_chW1 gl _ _ _ _ _ nT c steps off zs.length cap _ [] _ [] [] []).trans (pre (condI rfl (condI he (condI (atS_self _ _) (condI (atS_self _ _) rfl)))))⟩
  |true=>
   obtain⟨hco,hp,_,_⟩:=cn_good (r:=memR (me0 {c with cores:=1})) hc
   rw[hco]at hN
   rcases ends hF hgl hWk {c with cores:=1} (steps:=steps) (by omega) steps.toNat _ (good0 c hc) (Nat.sub_le _ _)with⟨k1,h1,m1,hr⟩|⟨k1,h1,m1,hr⟩
   ·exact⟨_,HCh_ok hgl hWk hN (home_ok hgl hm hp) (rch_loop hgl hr),(r_chWR gl _ _ _ _ _ _ c steps off zs.length cap _ _ _ k1 h1 m1).trans (pre (condI rfl (condI he (condI (atS_self _ _) (condI (atS_self _ _) (condI (atS_self _ _) rfl))))))⟩
   ·exact⟨_,HCh_ok hgl hWk hN (home_ok hgl hm hp) (rch_loop hgl hr),(r_chWE gl _ _ _ _ _ _ c steps off zs.length cap _ _ _ k1 h1 m1).trans (pre (condI rfl (condI he (condI (atS_self _ _) (condI (atS_self _ _) (condI (atS_self _ _) rfl))))))⟩
theorem chN {gl:Gl}(hF:GlF gl)(hgl:Low gl)(hWk:FnOK Tryz.prog gl 6 afWk)(c:Cfg)(steps:Int):ChTrue gl c (.slice none 0 0) steps:=by
 by_cases a2:steps<0
 ·exact⟨_,HCh_ok hgl hWk (oN:=_) (oM:=_) sub_nev sub_nev lp_none,(r_chW0N gl _ _ _ nT nT nT c steps 0 0 0 [] [] [] [] [] []).trans (condI (qd1 a2) rfl)⟩
 by_cases a3:steps>300
 ·exact⟨_,HCh_ok hgl hWk (oN:=_) (oM:=_) sub_nev sub_nev lp_none,(r_chW0N gl _ _ _ nT nT nT c steps 0 0 0 [] [] [] [] [] []).trans (condE (qd2 a2) (condI (qd1 a3) rfl))⟩
 have pre: ∀{A B E r:Option Value},E=r→cond (decide (steps<0)) A (cond (decide (steps>300)) B E)=r:=fun h=>condE (qd2 a2) (condE (qd2 a3) h)
 cases he:memE1 c.blocks==0 with
 |false=>exact⟨_,HCh_ok hgl hWk (oN:=_) (oM:=_) sub_nev sub_nev lp_none,(r_chW0N gl _ _ _ nT nT nT c steps 0 0 0 [] [] [] [] [] []).trans (pre (condI rfl (condE he (condI (by simpa[bne]using he) rfl))))⟩
 |true=>
  have hm:isMemN (memR (me0 {c with cores:=1})) ({c with cores:=1}:Cfg).blocks=true:=memN0 (memE1_0 he)
  have hN:=cnNew_nil hgl (c:={c with cores:=1}) hm (one_core c)
  cases hc:cnE {c with cores:=1} []==0 with
  |false=>
   rw[cn_bad hc]at hN
   cases hp:planOk {c with cores:=1}with
   |false=>exact⟨_,HCh_ok hgl hWk hN (home_bad hgl hp) lp_none,(r_chW0N gl _ _ _ _ _ nT c steps 0 0 0 _ [] [] [] [] []).trans (pre (condI rfl (condI he (condI (atS_self _ _) (condI (atS_self _ _) rfl)))))⟩
   |true=>exact⟨_,HCh_ok hgl hWk hN (home_ok hgl hm hp) lp_none,(r_chW1N gl _ _ _ _ _ nT c steps 0 0 0 _ [] _ [] [] []).trans (pre (condI rfl (condI he (condI (atS_self _ _) (condI (atS_self _ _) rfl)))))⟩
  |true=>
   obtain⟨hco,hp,_,_⟩:=cn_good (r:=memR (me0 {c with cores:=1})) hc
   rw[hco]at hN
   rcases ends hF hgl hWk {c with cores:=1} (steps:=steps) (by omega) steps.toNat _ (good0 c hc) (Nat.sub_le _ _)with⟨k1,h1,m1,hr⟩|⟨k1,h1,m1,hr⟩
   ·exact⟨_,HCh_ok hgl hWk hN (home_ok hgl hm hp) (rch_loop hgl hr),(r_chWRN gl _ _ _ _ _ _ c steps 0 0 0 _ _ _ k1 h1 m1).trans (pre (condI rfl (condI he (condI (atS_self _ _) (condI (atS_self _ _) (condI (atS_self _ _) rfl))))))⟩
   ·exact⟨_,HCh_ok hgl hWk hN (home_ok hgl hm hp) (rch_loop hgl hr),(r_chWEN gl _ _ _ _ _ _ c steps 0 0 0 _ _ _ k1 h1 m1).trans (pre (condI rfl (condI he (condI (atS_self _ _) (condI (atS_self _ _) (condI (atS_self _ _) rfl))))))⟩
theorem coreHalted_calls {u0 o0 u1 o1:Nat}{bs:List Nat}(hbs:bs.length=2){W:World}(hr:Rel Tryz.prog (glC u0 o0 u1 o1) (phi0 Tryz.prog.globals.size bs) LS.start W)(c:Cfg){v:Value}
 (hv:v=.slice none 0 0∨ ∃(blk off cap:Nat) (ws:List Int),v=.slice (some ⟨blk,off,none⟩) ws.length cap∧ws.length≤cap∧ws.length≤9223372036854775807∧(∀(i:Nat) x,(ws.map (Value.int .u32))[i]? =some x→W.cell? ⟨blk,off+i,none⟩=some x)∧WordsOk ws∧blk<W.heap.size) (steps:Int):
 Calls Tryz.prog 4 #[cfgV c,v,.int .i64 steps] W (fun e W'=>e=.returned (.bool true)∧Below W.heap.size W W'):=by
 have hg:=tglob
 rcases hv with rfl|⟨blk,off,cap,ws,rfl,h1,_,h3,h4,h5⟩
 ·have hgl:=glC_low u0 o0 u1 o1
  obtain⟨H,hH,he⟩:=chN (glC_F u0 o0 u1 o1) hgl (fn_memoK hgl (memo24 u0 o0 u1 o1)) c steps
  exact flatSR noSy_ok goodT hgl tglob hH he hr (LR.cons (VR.af_refl 8 rfl) (LR.cons (.nilSlice 0 0) (LR.cons (.int _ _) (LR.nil _))))
 ·have hφ:phi0 Tryz.prog.globals.size bs 902=none:=phi0_none (by omega) (by omega)
  have hr2:=hr.addK tglob (b:=902) (off:=off) (blk:=blk) (by decide) (by decide) hφ (u32_plain ws) h3 h5
  have hgl:Low (glK (glC u0 o0 u1 o1) 902 off (ws.map (Value.int .u32))):=glK_low (glC_low u0 o0 u1 o1) (by decide) (u32_plain ws)
  obtain⟨H,hH,he⟩:=chW (fun i z h=>glK_up _ _ _ (glC_F u0 o0 u1 o1 i z h)) hgl (fn_memoK hgl (memo_mono glK_up (memo24 u0 o0 u1 o1))) (glK_W (zs:=ws)) h1 h4 c steps
  exact flatSR noSy_ok goodT hgl tglob hH he hr2 (LR.cons (VR.af_refl 8 rfl) (LR.cons (.slice _ _ _ _ _ ⟨rfl,rfl,⟨blk,none⟩,by simp[Phi.set],rfl,fun _=>⟨rfl,rfl⟩,fun S z s h=>by cases h⟩) (LR.cons (.int _ _) (LR.nil _))))
end Go.Proofs.YtpcbedgaecbfmaaGreatDoor
