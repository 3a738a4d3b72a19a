/- A core and its home, notes that go there and back: what comes of it. Where the forms stand as the program's text lays them. -/
import Derived.Test.YtpcbedgaecbfmaaGreatDoorK91
import Derived.Test.YtpcbedgaecbfmaaGreatDoorK92
noncomputable section
namespace Go.Proofs.YtpcbedgaecbfmaaGreatDoor
open Go.Proofs.YtpcbedgaecbfmaaGreatDoor.Ev Go.RowKit
theorem sub_hdk3 {gl:Gl}{f:FuncId}{a b:Int}{t1 t2 t3:List Value→Rws→Bool}{o1 o2 o3:Out}(h1:SubOK Tryz.prog gl f (gH t1 o1))(h2:SubOK Tryz.prog gl f (gH t2 o2))(h3:SubOK Tryz.prog gl f (gH t3 o3)):SubOK Tryz.prog gl f (hdk3 a b t1 o1 t2 o2 t3 o3):=fun vs rows t e v rows' g1 g2=>by
 unfold hdk3 at g1
 split at g1
 case h_2=>cases g1
 rename_i x k l m
 cases g1
 have g2:cond (k==a) (cond (t1 _ rows) (some o1) none) (cond (k==b) (cond (t2 _ rows) (some o2) none) (cond (t3 _ rows) (some o3) none))=some (e,[v],rows'):=g2
 cases hk:k==a with
 |true=>rw[hk]at g2;exact h1 _ rows (.br (t1 _ rows) (.ret o1) .fail) e v rows' rfl g2
 |false=>
  rw[hk]at g2
  cases hk2:k==b with
  |true=>rw[hk2]at g2;exact h2 _ rows (.br (t2 _ rows) (.ret o2) .fail) e v rows' rfl g2
  |false=>rw[hk2]at g2;exact h3 _ rows (.br (t3 _ rows) (.ret o3) .fail) e v rows' rfl g2
def hoB (c:Cfg)(h:Ho1):Rws:=homeX c h.ow.length (esL h.ow) h.js h.clk (wr1 c)++[none]
def datN (m:MemS)(b:Int)(wr:Bool):NoteS:=⟨6,-1,0,b,0,cond wr 3 2,true,false,m.block b⟩
def donN (b:Int):NoteS:=⟨11,0,-1,b,0,0,false,false,wZ⟩
def evL (e:EvS):List Value:=[.int .u8 e.kind,.int .i64 e.core,.int .i64 e.count,.int .u32 e.cause]
theorem data_eq {k:NearS}(hi:k.id=0)(m:MemS)(b:Int)(wr:Bool):dataN m (k.askN b wr)=datN m b wr:=by
 unfold dataN datN NearS.askN
 dsimp only
 rw[hi]
 cases wr<;>rfl
theorem One.hop {k:CoT}{h:Ho1}(o:One k h){n:NoteS}(e:noteE n=0)(ht:n.too= -1)(hf:n.frm=0)(h0:0≤n.block)(h1:n.block<dataP k.c):HoP k.c h k.me n:=
 ⟨e,ht,hf,by rw[o.co];exact Int.le_refl _,h0,by rw[o.ol];exact h1,o.ki.mo,by rw[o.mn];have:=o.dat.1;omega⟩
theorem One.own {k:CoT}{h:Ho1}(o:One k h){b:Int}(h0:0≤b)(h1:b<dataP k.c): ∃x,h.ow[b.toNat]? =some x∧(x= -1∨x=0):=by
 have hl:=o.ol
 have hi:b.toNat<h.ow.length:=by omega
 exact⟨h.ow[b.toNat],qx2 hi,o.oo _ (List.getElem_mem hi)⟩
structure Came (k k2:CoT)(b:Int)(wr:Bool)(n:NoteS):Prop where
 ki:KInv k2
 sm:SameC k k2
 wt:k2.ne.waits=false
 hal:k2.hal=k.hal
 wa:k2.wants=k.wants
 hit:k2.ne.hit b wr=true
 get: ∀b',k2.ne.ca.get b'=if b=b' then some ⟨b,n.state,n.data⟩else k.ne.ca.get b'
 be:k2.ne.ba=k.ne.ba
 me:k2.me=k.me
 pe:(k.ne.ca.putE ⟨b,n.state,n.data⟩ !=0)=false
theorem came {k:CoT}(ki:KInv k){b:Int}{wr:Bool}{n:NoteS}(hn:n.block=b)(hs:n.state=cond wr 3 2)(h0:0≤b)(h1:b<256)(hr:(k.ne.ca.putJ b).isSome=true):Came k (k.setN (k.ne.given n)) b wr n:=by
 have hl:linOk ⟨b,n.state,n.data⟩=true:=by
  unfold linOk mbI
  dsimp only
  rw[hs,qd1 (show b≥0 by omega),qd1 (show b<256 by omega)]
  cases wr<;>rfl
 obtain⟨p1,p2,p3⟩:=put_G ki.g hl hr
 have hca:(k.ne.given n).ca=k.ne.ca.put ⟨b,n.state,n.data⟩:=by unfold NearS.given;rw[hn]
 have hg: ∀b',(k.ne.given n).ca.get b'=if b=b' then some ⟨b,n.state,n.data⟩else k.ne.ca.get b':=fun b'=>by rw[hca];exact p3 b'
 have hG:CaG (k.ne.given n).ca:=by rw[hca];exact p2
 refine⟨ki.nears rfl rfl hG ki.ba rfl,⟨rfl,rfl,rfl,rfl,rfl⟩,rfl,rfl,wants_setN rfl,?_,hg,rfl,rfl,by rw[p1];rfl⟩
 show(k.ne.given n).hit b wr=true
 have hgb:(k.ne.given n).ca.get b=some ⟨b,n.state,n.data⟩:=by rw[hg,if_pos rfl]
 unfold NearS.hit
 rw[is_get _ hG,hgb,line_get hgb]
 show(true&&(!wr||n.state !=1))=true
 rw[hs]
 cases wr<;>rfl
theorem Came.one {k k2:CoT}{h h2:Ho1}{b:Int}{wr:Bool}{n:NoteS}(c:Came k k2 b wr n)(hs:n.state=cond wr 3 2)(h0:0≤b)(id0:k.id=0)(nid:k.ne.id=0)(co:k.c.cores=1)(be:k.ne.ba.p.L=[])(mn:(k.me.n:Int)=k.c.blocks)(ol:(h.ow.length:Int)=dataP k.c)(oo: ∀o∈h.ow,o= -1∨o=0)
 (hb:b<dataP k.c) (ln: ∀b l,k.ne.ca.get b=some l→2≤l.state∧0≤b∧h.ow[b.toNat]? =some 0) (hw:h2.ow=h.ow.set b.toNat 0) (hj:h2.job=none):One k2 h2 where
 ki:=c.ki
 id0:=c.sm.id.trans id0
 nid:=c.sm.ni.trans nid
 co:=by rw[c.sm.c];exact co
 wt:=c.wt
 be:=by rw[c.be];exact be
 ln:=fun b' l hl=>by
  rw[c.get]at hl
  by_cases e:b=b'
  ·rw[if_pos e]at hl;cases hl
   refine⟨by show 2≤n.state;rw[hs];cases wr<;>decide,by omega,?_⟩
   rw[hw,←e,List.getElem?_set_self (by omega)]
  ·rw[if_neg e]at hl
   obtain⟨g1,g2,g3⟩:=ln b' l hl
   refine⟨g1,g2,?_⟩
   rw[hw,List.getElem?_set_ne (by omega)]
   exact g3
 job:=hj
 ol:=by rw[hw,List.length_set,c.sm.c];exact ol
 oo:=fun x hx=>by
  rw[hw]at hx
  rcases List.mem_or_eq_of_mem_set hx with h|rfl
  ·exact oo x h
  ·exact .inr rfl
 mn:=by rw[c.me,c.sm.c];exact mn
theorem came_work {k k2:CoT}{b:Int}{wr:Bool}{n:NoteS}(c:Came k k2 b wr n)(hw:k.wants=some (b,wr))(st:Int): ∃p,k2.workR st=one p∧Res k2 p:=by
 have h:=work_do c.ki st
 rw[c.wa,hw]at h
 obtain⟨_,_,⟨_,h⟩|⟨h,_⟩⟩:=h
 ·exact h
 ·rw[c.hit]at h;cases h
def setRows (c:Cfg)(k:CoT)(h:Ho1)(ns:List NoteS):Rws:=[some (alRow c (pK 1002) (pK 1003) (pK 1004)),some (notesRow (notesL ns) 24),some (.box k.cx [1004]),some (.box (hoB k.c h) [1004]),some (.box (memR k.me) [])]
def setOut (c:Cfg)(k:CoT)(h:Ho1)(l:List Value)(n:Nat):Out:=(.normal,[.tuple #[.slice (some ⟨1005,0,none⟩) n n,.bool true]],[some (alRow c (pK 1002) (pK 1003) (pK 1004)),none,some (.box k.cx [1004]),some (.box (hoB k.c h) [1004]),some (.box (memR k.me) []),some (evRow l 4)])
theorem settleA {gl:Gl}(hF:GlF gl)(hgl:Low gl)(c:Cfg){k:CoT}{h:Ho1}(o:One k h)(hh:k.hal=false){st:Int}(hst:st≠0){b:Int}{wr:Bool}(hw:k.wants=some (b,wr))(hm:k.ne.hit b wr=false)(b0:0≤b)(b1:b<dataP k.c)(hg:k.ne.ca.goes b=none):
 ∃k2 p h2,Came (k.setN (k.ne.askA b wr)) k2 b wr (datN k.me b wr)∧k2.workR st=one p∧Res k2 p∧One p.1 h2∧SubOK Tryz.prog gl 16 (gH (atS [pK 1000,.slice (some ⟨1001,0,none⟩) 1 1,.int .u64 st] (setRows c (k.setN (k.ne.askA b wr)) h [k.ne.askN b wr])) (setOut c p.1 h2 (evL p.2) 1)):=by
 have hd:=o.dat
 have hi:=o.nid
 have hb2:b<256:=by omega
 have hP:HoP k.c h k.me (k.ne.askN b wr):=o.hop (by unfold NearS.askN;rw[hi];exact note_ask wr b0 hb2) rfl hi b0 b1
 obtain⟨x,hx,hx2⟩:=o.own b0 b1
 have hG:=sub_hGet hgl hP o.job (by unfold NearS.askN;cases wr;exact .inl rfl;exact .inr rfl) hx hx2
 rw[data_eq hi]at hG
 have k1i:KInv (k.setN (k.ne.askA b wr)):=o.ki.nears rfl rfl o.ki.g o.ki.ba rfl
 have hmb:mbI b=true:=by unfold mbI;rw[qd1 (show b≥0 by omega),qd1 (show b<256 by omega)];rfl
 have hC:=came (n:=datN k.me b wr) k1i rfl rfl b0 hb2 (goes_none hmb hg o.ki.g.ok)
 obtain⟨p,hp,hr⟩:=came_work hC (by rw[show(k.setN (k.ne.askA b wr)).wants=k.wants from wants_setN rfl];exact hw) st
 have hone:One ((k.setN (k.ne.askA b wr)).setN ((k.setN (k.ne.askA b wr)).ne.given (datN k.me b wr))) (h.gave (k.ne.askN b wr)).over:=
  hC.one (h:=h) rfl b0 o.id0 o.nid o.co o.be o.mn o.ol o.oo b1 o.ln rfl rfl
 refine⟨_,p,(h.gave (k.ne.askN b wr)).over,hC,hp,hr,hone.res hr,?_⟩
 have hT:=sub_take6 hF hgl (k:=k.setN (k.ne.askA b wr)) (n:=datN k.me b wr) hh (by
  unfold NearS.fits
  have e:noteE {datN k.me b wr with kind:=6}=0:=note_data (b:=b) _ b0 hb2 (by cases wr;exact .inl rfl;exact .inr rfl)
  rw[e]
  show(true&&((0:Int)==k.ne.id&&decide (b<dataP k.ne.c)))=true
  rw[hi,o.ki.cc,qd1 b1];rfl) rfl (beq_self_eq_true b) (by show((cond wr 3 2:Int)==3)=((cond wr 2 1:Int)==2);cases wr<;>rfl) hC.pe o.ki.g.ok hp (hC.ki.sp hh hC.wt hst) rfl (hC.sm.tr hr.eff.sm)
 have hdn:(k.setN (k.ne.askA b wr)).ne.noteN 11 (datN k.me b wr).block=donN b:=by
  show(⟨11,k.ne.id,-1,b,0,0,false,false,wZ⟩:NoteS)=_
  rw[hi];rfl
 rw[hdn]at hT
 have hsm:=hC.sm.tr hr.eff.sm
 have hpc:p.1.c=k.c:=hsm.c
 have hone2:=hone.res hr
 have hD:SubOK Tryz.prog gl 40 (gH (atS [pK 1000,noteV {donN b with kind:=11}] (hoC k.c (h.gave (k.ne.askN b wr)) p.1.me)) (.normal,[.tuple #[.slice none 0 0,.int .i64 0]],hoC k.c (h.gave (k.ne.askN b wr)).over p.1.me)):=by
  refine sub_hDone hgl o.ki.pl ⟨note_done (b:=b) b0 hb2,rfl,rfl,by rw[o.co];exact Int.le_refl _,b0,?_,hone2.ki.mo,?_⟩ rfl rfl hi
  ·show b<((h.ow.set b.toNat 0).length:Int)
   rw[List.length_set,o.ol];exact b1
  ·show b<(p.1.me.n:Int)
   rw[hone2.mn,hpc];omega
 refine atV hgl (hs_ok (sxC (sub_hdk3 hD sub_nev hG) (sxC hT sx0))) ((r_setA gl c _ (hoB k.c h) _ _ (hoB k.c (h.gave (k.ne.askN b wr))) (hoB k.c (h.gave (k.ne.askN b wr)).over) (memR p.1.me) _ _ _ (k.ne.askN b wr) (datN k.me b wr) (donN b) p.2 st).trans ?_)
 simp only[qs_eq,qb_eq]
 refine condE (by unfold NearS.askN;cases wr<;>rfl) (condE (by unfold NearS.askN;cases wr<;>rfl) (condI (atS_self _ _) (condI (atS_self _ _) (condI (atS_self _ _) ?_))))
 unfold setOut
 rw[hpc]
 rfl
theorem putI_get2 {ws l:List Int}{p:Nat}(hp:p+l.length≤ws.length){q:Nat}(hq:p+l.length≤q):(putI ws p l)[q]? =ws[q]? :=by
 unfold putI
 have hl:(ws.take p).length=p:=by rw[List.length_take];omega
 rw[qx3 (by rw[List.length_append];omega),List.length_append,hl,List.getElem?_drop]
 congr 1;omega
theorem setB_at {m:MemS}(h:m.ok){b:Int}(h0:0≤b)(h1:b<(m.n:Int))(x:W16):(m.setBlock b x).ok∧(m.setBlock b x).n=m.n∧ ∀q,b.toNat*16+16≤q→(m.setBlock b x).at q=m.at q:=by
 have hin:m.inn b 0=true:=by
  unfold MemS.inn
  rw[qd2 (show¬b<0 by omega),qd2 (show¬b≥(m.n:Int) by omega)];rfl
 have e:m.setBlock b x=⟨m.n,putI m.ws (b.toNat*16) (w16I x)⟩:=by unfold MemS.setBlock;rw[hin];rfl
 have hl:(w16I x).length=16:=rfl
 have hp:b.toNat*16+(w16I x).length≤m.ws.length:=by rw[hl,h.1];omega
 rw[e]
 refine⟨⟨?_,h.2⟩,rfl,fun q hq=>?_⟩
 ·show(putI m.ws (b.toNat*16) (w16I x)).length=m.n*16
  rw[putI_len hp,h.1]
 ·show((putI m.ws (b.toNat*16) (w16I x))[q]?).getD 0=_
  rw[putI_get2 hp (by rw[hl];exact hq)];rfl
def CoT.setM (k:CoT)(m:MemS):CoT:={k with me:=m}
theorem KInv.home {k:CoT}(h:KInv k){b:Int}(h0:0≤b)(h1:b<dataP k.c)(h2:b<(k.me.n:Int))(x:W16):KInv (k.setM (k.me.setBlock b x)):=by
 obtain⟨g1,g2,g3⟩:=setB_at h.mo h0 h2 x
 have hlf:=h.lf
 have hen: ∀i,0≤i→(k.me.setBlock b x).ent k.lf i=k.me.ent k.lf i:=fun i hi=>by
  unfold MemS.ent
  have:b.toNat*16+16≤lgPos k.lf i:=by unfold lgPos;omega
  rw[g3 _ this,g3 _ (by omega)]
 refine⟨h.pl,h.cc,h.g,h.ba,h.bd,g1,⟨g1,h.lg.f,h.lg.r,h.lg.r32,by show k.lf*16+k.lr*2≤((k.me.setBlock b x).n:Int)*16;rw[g2];exact h.lg.fits⟩,h.m0,h.m1,h.lf,fun i i0 i1=>?_,h.de,h.pr,h.pn⟩
 show whE k.c ((k.me.setBlock b x).ent k.lf i).1=0∧0≤((k.me.setBlock b x).ent k.lf i).1∧((k.me.setBlock b x).ent k.lf i).1<4294967296
 rw[hen i i0]
 exact h.en i i0 i1
def paN (b:Int):NoteS:=⟨8,-1,0,b,0,0,false,false,w0⟩
theorem wants_setM {k:CoT}{m:MemS}(h:m.ent k.lf (k.lm-1)=k.me.ent k.lf (k.lm-1)):(k.setM m).wants=k.wants:=by
 unfold CoT.wants
 have e:(k.setM m).uA=k.uA:=by unfold CoT.uA;exact congrArg Prod.fst h
 rw[e];rfl
theorem settleB {gl:Gl}(hF:GlF gl)(hgl:Low gl)(c:Cfg){k:CoT}{h:Ho1}(o:One k h)(hh:k.hal=false){st:Int}(hst:st≠0){b:Int}{wr:Bool}(hw:k.wants=some (b,wr))(hm:k.ne.hit b wr=false)(b0:0≤b)(b1:b<dataP k.c){l:LineS}(hg:k.ne.ca.goes b=some l):
 ∃k2 p h2 k3,k2=((k.setN (k.ne.askB b wr l)).setM (k.me.setBlock l.block l.data)).setN (((k.setN (k.ne.askB b wr l)).setM (k.me.setBlock l.block l.data)).ne.taken l.block)∧Came k2 k3 b wr (datN (k.me.setBlock l.block l.data) b wr)∧k3.workR st=one p∧Res k3 p∧One p.1 h2∧
  SubOK Tryz.prog gl 16 (gH (atS [pK 1000,.slice (some ⟨1001,0,none⟩) 2 2,.int .u64 st] (setRows c (k.setN (k.ne.askB b wr l)) h [k.ne.putN l,k.ne.askN b wr])) (setOut c p.1 h2 (evL (k.ev 12 0 0)++evL p.2) 2)):=by
 have hd:=o.dat
 have hi:=o.nid
 have hb2:b<256:=by omega
 obtain⟨hgl2,hgb,hroom⟩:=goes_line o.ki.g hg
 obtain⟨l2,l0,l1⟩:=o.ln _ _ hgl2
 have hlen:l.block.toNat<h.ow.length:=(qx1.1 l1).1
 have hol:=o.ol
 have lb:l.block<dataP k.c:=by omega
 have lb2:l.block<256:=by omega
 have hmn:=o.mn
 have hne:l.block≠b:=fun e=>by rw[e,hgb]at hgl2;cases hgl2
 have hP:HoP k.c h k.me {k.ne.putN l with kind:=3}:=o.hop (by show noteE ⟨3,k.ne.id,-1,l.block,0,0,true,_,l.data⟩=0;rw[hi];exact note_put _ _ l0 lb2) rfl hi l0 lb
 have hPut:=sub_hPut hgl (n:=k.ne.putN l) hP o.job l1
 have hpa:pAckN (k.ne.putN l)=paN l.block:=by show(⟨8,-1,k.ne.id,l.block,0,0,false,false,w0⟩:NoteS)=_;rw[hi];rfl
 rw[hpa]at hPut
 obtain⟨m1,m2,m3⟩:=setB_at o.ki.mo l0 (show l.block<(k.me.n:Int) by omega) l.data
 have how: ∀x∈(h.putB (k.ne.putN l)).ow,x= -1∨x=0:=fun x hx=>by
  rcases List.mem_or_eq_of_mem_set hx with h|h
  ·exact o.oo x h
  ·rw[h];cases(k.ne.putN l).stick
   ·exact .inl rfl
   ·exact .inr rfl
 have hol2:((h.putB (k.ne.putN l)).ow.length:Int)=dataP k.c:=by show((h.ow.set _ _).length:Int)=_;rw[List.length_set];exact hol
 have hA:HoP k.c (h.putB (k.ne.putN l)) (k.me.setBlock l.block l.data) (k.ne.askN b wr):=⟨by unfold NearS.askN;rw[hi];exact note_ask wr b0 hb2,rfl,hi,by rw[o.co];exact Int.le_refl _,b0,by rw[hol2];exact b1,m1,by rw[m2];show b<_;omega⟩
 have hi2:b.toNat<(h.putB (k.ne.putN l)).ow.length:=by omega
 have hG:=sub_hGet hgl hA rfl (by unfold NearS.askN;cases wr;exact .inl rfl;exact .inr rfl) (qx2 hi2) (how _ (List.getElem_mem hi2))
 rw[data_eq hi]at hG
 obtain⟨bo1,bo2⟩:=bsput (k:=k.ne.ba) o.ki.ba l.block l.data
 have hL:=bsput_one (k:=k.ne.ba) o.ki.ba o.be l0 (by rw[o.ki.bd];exact lb) l.data
 obtain⟨d1,d2,d3,d4⟩:=bdrop_one bo1 hL
 obtain⟨r1,r2⟩:=drop_G o.ki.g l.block
 have k1i:KInv (k.setN (k.ne.askB b wr l)):=o.ki.nears rfl rfl r1 bo1 bo2
 have k1m:KInv ((k.setN (k.ne.askB b wr l)).setM (k.me.setBlock l.block l.data)):=k1i.home l0 lb (show l.block<(k.me.n:Int) by omega) l.data
 have h8:=sub_take8 hgl (k:=(k.setN (k.ne.askB b wr l)).setM (k.me.setBlock l.block l.data)) (st:=st) (n:=paN l.block) hst bo1 (by
  unfold NearS.fits
  have e:noteE {paN l.block with kind:=8}=0:=note_pack (b:=l.block) l0 lb2
  rw[e]
  show(true&&((0:Int)==k.ne.id&&decide (l.block<dataP k.ne.c)))=true
  rw[hi,o.ki.cc,qd1 lb];rfl) d1
 have k2i:KInv (((k.setN (k.ne.askB b wr l)).setM (k.me.setBlock l.block l.data)).setN (((k.setN (k.ne.askB b wr l)).setM (k.me.setBlock l.block l.data)).ne.taken l.block)):=k1m.nears rfl rfl r1 d3 d4
 have hC:=came (n:=datN (k.me.setBlock l.block l.data) b wr) k2i rfl rfl b0 hb2 hroom
 have hwa:(((k.setN (k.ne.askB b wr l)).setM (k.me.setBlock l.block l.data)).setN (((k.setN (k.ne.askB b wr l)).setM (k.me.setBlock l.block l.data)).ne.taken l.block)).wants=some (b,wr):=by
  refine Eq.trans (wants_setN rfl) ?_
  by_cases hl0:k.lm=0
  ·have e: ∀x:CoT,x.lm=0→ ∀m,(x.setM m).wants=x.wants:=fun x hx m=>by
    unfold CoT.wants CoT.setM
    dsimp only
    rw[hx]
    cases x.ne.de.failing<;>rfl
   refine Eq.trans (e (k.setN (k.ne.askB b wr l)) hl0 _) ?_
   exact Eq.trans (wants_setN rfl) hw
  ·have hm0:=o.ki.m0
   have hlf:=o.ki.lf
   refine Eq.trans (wants_setM (by
    show(k.me.setBlock l.block l.data).ent k.lf (k.lm-1)=k.me.ent k.lf (k.lm-1)
    unfold MemS.ent
    have:l.block.toNat*16+16≤lgPos k.lf (k.lm-1):=by unfold lgPos;omega
    rw[m3 _ this,m3 _ (by omega)])) ?_
   exact Eq.trans (wants_setN rfl) hw
 obtain⟨p,hp,hr⟩:=came_work hC hwa st
 have hone:=hC.one (h:=h.putB (k.ne.putN l)) (h2:=((h.putB (k.ne.putN l)).gave (k.ne.askN b wr)).over) rfl b0 o.id0 o.nid o.co d2 (by show((k.me.setBlock l.block l.data).n:Int)=_;rw[m2];exact o.mn) hol2 how b1 (fun b' l' hl=>by
  have hl:(k.ne.ca.drop l.block).get b'=some l':=hl
  rw[r2]at hl
  by_cases e:l.block=b'
  ·rw[if_pos e]at hl;cases hl
  ·rw[if_neg e]at hl
   obtain⟨g1,g2,g3⟩:=o.ln b' l' hl
   refine⟨g1,g2,?_⟩
   show(h.ow.set l.block.toNat _)[b'.toNat]? =some 0
   rw[List.getElem?_set_ne (by omega)]
   exact g3) rfl rfl
 refine⟨_,p,((h.putB (k.ne.putN l)).gave (k.ne.askN b wr)).over,_,rfl,hC,hp,hr,hone.res hr,?_⟩
 have hT:=sub_take6 hF hgl (k:=((k.setN (k.ne.askB b wr l)).setM (k.me.setBlock l.block l.data)).setN (((k.setN (k.ne.askB b wr l)).setM (k.me.setBlock l.block l.data)).ne.taken l.block)) (n:=datN (k.me.setBlock l.block l.data) b wr) hh (by
  unfold NearS.fits
  have e:noteE {datN (k.me.setBlock l.block l.data) b wr with kind:=6}=0:=note_data (b:=b) _ b0 hb2 (by cases wr;exact .inl rfl;exact .inr rfl)
  rw[e]
  show(true&&((0:Int)==k.ne.id&&decide (b<dataP k.ne.c)))=true
  rw[hi,o.ki.cc,qd1 b1];rfl) rfl (beq_self_eq_true b) (by show((cond wr 3 2:Int)==3)=((cond wr 2 1:Int)==2);cases wr<;>rfl) hC.pe r1.ok hp (hC.ki.sp hh hC.wt hst) rfl (hC.sm.tr hr.eff.sm)
 have hdn:(((k.setN (k.ne.askB b wr l)).setM (k.me.setBlock l.block l.data)).setN (((k.setN (k.ne.askB b wr l)).setM (k.me.setBlock l.block l.data)).ne.taken l.block)).ne.noteN 11 (datN (k.me.setBlock l.block l.data) b wr).block=donN b:=by
  show(⟨11,k.ne.id,-1,b,0,0,false,false,wZ⟩:NoteS)=_
  rw[hi];rfl
 rw[hdn]at hT
 have hsm:=hC.sm.tr hr.eff.sm
 have hpc:p.1.c=k.c:=hsm.c
 have hone2:=hone.res hr
 have hD:SubOK Tryz.prog gl 40 (gH (atS [pK 1000,noteV {donN b with kind:=11}] (hoC k.c ((h.putB (k.ne.putN l)).gave (k.ne.askN b wr)) p.1.me)) (.normal,[.tuple #[.slice none 0 0,.int .i64 0]],hoC k.c ((h.putB (k.ne.putN l)).gave (k.ne.askN b wr)).over p.1.me)):=by
  refine sub_hDone hgl o.ki.pl ⟨note_done (b:=b) b0 hb2,rfl,rfl,by rw[o.co];exact Int.le_refl _,b0,?_,hone2.ki.mo,?_⟩ rfl rfl hi
  ·show b<(((h.putB (k.ne.putN l)).ow.set b.toNat 0).length:Int)
   rw[List.length_set,hol2];exact b1
  ·show b<(p.1.me.n:Int)
   rw[hone2.mn,hpc];omega
 refine atV hgl (hs_ok (sxC (sub_hdk3 hD hPut hG) (sxC (sub_hdk3 h8 sub_nev hT) sx0))) ((r_setB gl c _ (hoB k.c h) _ _ _ (hoB k.c (h.putB (k.ne.putN l))) (hoB k.c ((h.putB (k.ne.putN l)).gave (k.ne.askN b wr))) (hoB k.c ((h.putB (k.ne.putN l)).gave (k.ne.askN b wr)).over) (memR (k.me.setBlock l.block l.data)) (memR p.1.me) _ _ _ _ _ (k.ne.putN l) (k.ne.askN b wr) (paN l.block) (datN (k.me.setBlock l.block l.data) b wr) (donN b) (k.ev 12 0 0) p.2 st).trans ?_)
 simp only[qs_eq,qb_eq]
 refine condI (atS_self _ _) (condE (by unfold NearS.askN;cases wr<;>rfl) (condE (by unfold NearS.askN;cases wr<;>rfl) (condI (atS_self _ _) (condI (atS_self _ _) (condI (atS_self _ _) (condI (atS_self _ _) ?_))))))
 unfold setOut
 rw[hpc]
 rfl
end Go.Proofs.YtpcbedgaecbfmaaGreatDoor
