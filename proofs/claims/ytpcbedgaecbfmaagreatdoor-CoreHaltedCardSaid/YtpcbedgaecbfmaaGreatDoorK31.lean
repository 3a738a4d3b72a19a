/- What a core is made of; registers. Where the forms stand as the program's text lays them. -/
import Derived.Test.YtpcbedgaecbfmaaGreatDoorK2
import Derived.Test.YtpcbedgaecbfmaaGreatDoorK1
noncomputable section
namespace Go.Proofs.YtpcbedgaecbfmaaGreatDoor
set_option maxRecDepth 100000
open Go.Proofs.YtpcbedgaecbfmaaGreatDoor.Ev Go.RowKit
def HBk (m d:Cfg→Int)(g:Int→Bool)(pr:Int→Rws):Hs:=hsOf [(29,afC ttC fun c=>.int .i64 (m c)),(42,afC ttC fun c=>.int .i64 (d c))] [(86,hdN (decI .i64) g (fun _=>0) pr)] []
def HLg (lf ln le:Cfg→Int→Int)(gm:Rws→Bool)(nb:Rws→Int):Hs:=hsOf [(53,afCi .i64 ttCi fun c n=>.tuple #[.int .i64 (lf c n),.int .i64 (ln c n),.int .i64 (le c n)])] [(30,hdM dec0 (fun r _=>gm r) (fun r _=>.int .i64 (nb r)) fun r _=>r)] []
def HNr (m:Cfg→Int)(g:Cfg→Bool)(gd:Int→Bool)(cr br kr:Cfg→Rws)(dr:Int→Rws):Hs:=hsOf [(29,afC ttC fun c=>.int .i64 (m c))] [(49,hdN decC g (fun _=>0) cr),(50,hdN decC g (fun _=>0) br),(51,hdN decC g (fun _=>0) kr),(52,hdN (decI .i64) gd (fun _=>0) dr)] []
def plM:Plan:=⟨[],fun v=>match v with
 | .tuple ⟨[.pointer (some a),_]⟩=>[(a.block,[1000])]
 |_=>[]⟩
theorem r_bNew (gl:Gl)(m d:Cfg→Int)(g:Int→Bool)(pr:Int→Rws)(c:Cfg):cB gl (HBk m d g pr) 50 [cfgV c] [] plN=
 cond (m c !=0) (some (.normal,([.tuple #[.pointer none,.int .i64 (m c)]],[]))) (cond (g c.backs) (some (.normal,([.tuple #[pK 1000,.int .i64 0]],[some (.box ([some (.row ⟨[.int .i64 (d c),pK 1001],208,(0,0),0,false,false⟩),some (.box (pr c.backs) [])]++[]) [])]))) none):=by kernel_rfl
theorem r_lgNew (gl:Gl)(lf ln le:Cfg→Int→Int)(gm:Rws→Bool)(nb:Rws→Int)(c:Cfg)(r:Rws)(n:Int):cB gl (HLg lf ln le gm nb) 32 [cfgV c,pK 1000,.int .i64 n] (bx r) plM=
 cond (le c n !=0) (some (.normal,([.tuple #[.pointer none,.int .i64 (le c n)]],[some (.box r [])]))) (cond (gm r) (cond (nb r !=c.blocks) (qs [c.blocks,c.blocks] (some (.normal,([.tuple #[.pointer none,.int .i64 2]],[some (.box r [])])))) (qs [c.blocks,c.blocks] (some (.normal,([.tuple
 #[pK 1001,.int .i64 0]],[some (.box r []),some (.box ([some (.row ⟨[.int .i64 c.cores,.int .i64 c.sets,.int .i64 c.ways,.int .i64 c.blocks,.int .i64 c.logs,.int .i64 c.backs,.int .i64 c.nest,.int .i64 c.tries,pK 1001,.int .i64 (lf c n),.int .i64 (IntKind.i64.wrap ((IntKind.i64.wrap (ln
 c n*16)).tdiv 2)),.int .i64 0],109,(0,0),0,false,false⟩)]++[none]) [1000])]))))) none):=by kernel_rfl
theorem r_nrNew (gl:Gl)(m:Cfg→Int)(g:Cfg→Bool)(gd:Int→Bool)(cr br kr:Cfg→Rws)(dr:Int→Rws)(c:Cfg)(n:Int):cB gl (HNr m g gd cr br kr dr) 31 [cfgV c,.int .i64 n] [] plN=
 letI A:Option Out:=some (.normal,([.tuple #[.pointer none,.int .i64 5]],[]))
 cond (m c !=0) (some (.normal,([.tuple #[.pointer none,.int .i64 (m c)]],[]))) (cond (decide (n<0)) A (cond (decide (n≥c.cores)) A (cond (g c) (cond (g c) (cond (g c) (cond (gd c.nest) (some (.normal,([.tuple #[pK 1000,.int .i64 0]],[some (.box ([some (.row ⟨[.int .i64 c.cores,.int .i64
 c.sets,.int .i64 c.ways,.int .i64 c.blocks,.int .i64 c.logs,.int .i64 c.backs,.int .i64 c.nest,.int .i64 c.tries,.int .i64 n,pK 1001,pK 1002,pK 1003,pK 1004,.int .u8 0,.int .i64 0,.int .i64 0,.int .i64 0,.int .u64 0,.int .u8 0,.bool false,.bool false,.int .u32 0,.int .u32 0,
 .int .u32 0,.int .u32 0,.int .u32 0,.int .u32 0,.int .u32 0,.int .u32 0,.int .u32 0,.int .u32 0,.int .u32 0,.int .u32 0,.int .u32 0,.int .u32 0,.int .u32 0,.int .u32 0,.bool false],114,(0,0),0,false,false⟩),some (.box (cr c) []),some (.box (br c) []),some (.box (kr c) []),
 some (.box (dr c.nest) [])]++[]) [])]))) none) none) none) none))):=by kernel_rfl
theorem hdN_weak {gl:Gl}{f:FuncId}{α:Type}{D:Dec α}{g g':α→Bool}{e e':α→Int}{n:α→Rws}(hs:SubOK Tryz.prog gl f (hdN D g e n))(h: ∀x,g' x=true→g x=true∧e' x=e x):SubOK Tryz.prog gl f (hdN D g' e' n):=by
 intro vs rows t ex u rows' h1 h2
 unfold hdN at h1
 split at h1
 case h_2=>cases h1
 obtain⟨x,h5,h6⟩:=qm1.1 h1
 subst h6
 obtain⟨h7,h8⟩:=condT (show cond (g' x) _ none=some (ex,[u],rows')from h2)
 obtain⟨k1,k2⟩:=h x h7
 rw[k2]at h8
 refine hs vs [] (.br (g x) (.br (e x==0) (.ret (.normal,[.tuple #[pK 1000,.int .i64 0]],[some (.box (n x) [])])) (.ret (.normal,[.tuple #[.pointer none,.int .i64 (e x)]],[]))) .fail) ex u rows' ?_ ?_
 ·show(D.dec vs).map _=some _
  rw[h5];rfl
 ·show cond (g x) _ none=_
  rw[k1];exact h8
def hdNM {α:Type}(D:Dec α)(g:Rws→α→Bool)(e:Rws→α→Int)(n:Rws→α→Rws):Hd:=fun vs rows=>match rows with
 |[some (.box r [])]=>(D.dec vs).map fun x=>.br (g r x) (.br (e r x==0) (.ret (.normal,[.tuple #[pK 1001,.int .i64 0]],[some (.box r []),some (.box (n r x++[none]) [1000])])) (.ret (.normal,[.tuple #[.pointer none,.int .i64 (e r x)]],[some (.box r [])]))) .fail
 |_=>none
theorem hdNM_sub {gl:Gl}{f:FuncId}{α:Type}{D:Dec α}{g:Rws→α→Bool}{e:Rws→α→Int}{n:Rws→α→Rws}(h: ∀r x,g r x=true→SubOK Tryz.prog gl f (gH (atS (D.enc x) (bx r)) (cond (e r x==0) (.normal,[.tuple #[pK 1001,.int .i64 0]],[some (.box r []),some (.box (n r x++[none]) [1000])]) (.normal,[.tuple #[.pointer none,.int .i64 (e r x)]],[some (.box r [])])))):SubOK Tryz.prog gl f (hdNM D g e n):=by
 intro vs rows t ex u rows' h1 h2
 unfold hdNM at h1
 split at h1
 case h_2=>cases h1
 rename_i r
 obtain⟨x,h5,h6⟩:=qm1.1 h1
 subst h6
 have e1:vs=D.enc x:=D.ok _ _ h5
 subst e1
 obtain⟨h7,h8⟩:=condT (show cond (g r x) _ none=some (ex,[u],rows')from h2)
 refine h r x h7 _ _ (.br (atS (D.enc x) (bx r) _ _) (.ret (cond (e r x==0) (.normal,[.tuple #[pK 1001,.int .i64 0]],[some (.box r []),some (.box (n r x++[none]) [1000])]) (.normal,[.tuple #[.pointer none,.int .i64 (e r x)]],[some (.box r [])]))) .fail) ex u rows' rfl ?_
 show cond (atS (D.enc x) (bx r) (D.enc x) (bx r)) (some _) none=_
 rw[atS_self]
 cases he:e r x==0 with
 |true=>rw[he]at h8;exact h8
 |false=>rw[he]at h8;exact h8
def isK (a:Addr):Bool:=Nat.beq a.block 1000&&Nat.beq a.off 0&&a.spot.isNone
theorem isK_t {a:Addr}(h:isK a=true):a=⟨1000,0,none⟩:=by
 obtain⟨b,o,s⟩:=a
 simp only[isK,qa1]at h
 obtain⟨⟨k1,k2⟩,k3⟩:=h
 have k1:=qe1 k1
 have k2:=qe1 k2
 cases s with
 |some _=>cases k3
 |none=>rw[k1,k2]
def decHm:Dec Cfg:=⟨fun vs=>match vs with
 |[.agg ⟨[.int .i64 a,.int .i64 b,.int .i64 c,.int .i64 d,.int .i64 e,.int .i64 f,.int .i64 g,.int .i64 h]⟩,.pointer (some p)]=>cond (isK p) (some ⟨a,b,c,d,e,f,g,h⟩) none
 |_=>none,fun c=>[cfgV c,pK 1000],fun vs a h=>by
 split at h
 ·obtain⟨h1,h2⟩:=condT h
  cases h2
  rw[isK_t h1];rfl
 ·cases h⟩
def decLg:Dec (Cfg×Int):=⟨fun vs=>match vs with
 |[.agg ⟨[.int .i64 a,.int .i64 b,.int .i64 c,.int .i64 d,.int .i64 e,.int .i64 f,.int .i64 g,.int .i64 h]⟩,.pointer (some p),.int .i64 n]=>cond (isK p) (some (⟨a,b,c,d,e,f,g,h⟩,n)) none
 |_=>none,fun x=>[cfgV x.1,pK 1000,.int .i64 x.2],fun vs a h=>by
 split at h
 ·obtain⟨h1,h2⟩:=condT h
  cases h2
  rw[isK_t h1];rfl
 ·cases h⟩
def isMemN (r:Rws)(n:Int):Bool:=isMem r&&((mOf r).n:Int)==n
theorem sub_mBlk {gl:Gl}(hgl:Low gl):SubOK Tryz.prog gl 30 (hdM dec0 (fun r _=>isMem r) (fun r _=>.int .i64 ((mOf r).n:Int)) fun r _=>r):=hdM_sub fun r x hr=>by
 obtain⟨m,hm,rfl⟩:=of_cl hr
 rw[mOf_eq hm]
 exact atBs hgl H0_ok (pl:=plR) ((r_mBlocks gl m.n (u32L m.ws)).trans (by simp only[u32_af,Bool.and_self,cond_true];rfl))
theorem mayE_t {c:Cfg}(h:planOk c=true):mayE c=0:=by unfold mayE;rw[h];rfl
theorem dataP_t {c:Cfg}(h:planOk c=true):dataP c=dataI c:=by unfold dataP;rw[h];rfl
theorem data_bd {c:Cfg}(h:planOk c=true):1≤dataI c∧dataI c≤255∧dataI c=c.blocks-c.cores*c.logs:=by
 obtain⟨⟨h1,h2,_,_,_,_,h7,h8,h9,h10,_⟩,_,_,h3⟩:=planOk_iff.1 h
 have k1:1*1≤c.cores*c.logs:=Int.mul_le_mul h1 h9 (by omega) (by omega)
 have k2:c.cores*c.logs≤16*4:=Int.mul_le_mul h2 h10 (by omega) (by omega)
 have e:dataI c=c.blocks-c.cores*c.logs:=by
  unfold dataI
  rw[wrap_id (c.cores*c.logs) (by omega),wrap_id _ (by omega)]
 exact⟨h3,by omega,e⟩
def poolOk (n:Int):Bool:=decide (1≤n)&&decide (n≤65536)
theorem poolOk_t {n:Int}(h:1≤n∧n≤65536):poolOk n=true:=by unfold poolOk;rw[qd1 h.1,qd1 h.2];rfl
theorem poolE_t {n:Int}(h:poolOk n=true):0=pnNewE n:=by
 simp only[poolOk,qa1,decide_eq_true_eq]at h
 unfold pnNewE
 rw[qd2 (show¬n<1 by omega),qd2 (show¬n>65536 by omega)]
 rfl
theorem sub_pn {gl:Gl}(hgl:Low gl):SubOK Tryz.prog gl 65 (hdN (decI .i64) poolOk (fun _=>0) fun n=>poolNR ⟨n,true,[],[]⟩):=hdN_weak (sub_pnNew hgl) fun _ h=>⟨rfl,poolE_t h⟩
def poolBN (n:Int):Rws:=[some (poolBRow n (.slice none 0 0))]
theorem sub_pb {gl:Gl}(hgl:Low gl):SubOK Tryz.prog gl 86 (hdN (decI .i64) poolOk (fun _=>0) poolBN):=hdN_weak (sub_pbNew hgl) fun _ h=>⟨rfl,poolE_t h⟩
def backsX (d:Int)(pr:Rws):Rws:=[some (.row ⟨[.int .i64 d,pK 1001],208,(0,0),0,false,false⟩),some (.box pr [])]
def backsN (c:Cfg):Rws:=backsX (dataI c) (poolBN c.backs)
theorem HBk_ok {gl:Gl}(hgl:Low gl):(HBk mayE dataP poolOk poolBN).OK Tryz.prog gl:=hsOf_ok (fun p hp=>by
 simp only[List.mem_cons,List.not_mem_nil,or_false]at hp
 rcases hp with rfl|rfl
 ·exact fn_pMay hgl
 ·exact fn_pData hgl) (fun p hp=>by
 simp only[List.mem_cons,List.not_mem_nil,or_false]at hp
 subst hp;exact sub_pb hgl) (fun _ h=>nomatch h)
theorem sub_bNew {gl:Gl}(hgl:Low gl):SubOK Tryz.prog gl 50 (hdN decC planOk (fun _=>0) backsN):=hdN_sub fun c hc=>atB hgl (HBk_ok hgl) (pl:=plN) ((r_bNew gl mayE dataP poolOk poolBN c).trans (by
 obtain⟨⟨_,_,_,_,_,_,_,_,_,_,h1,h2,_⟩,_⟩:=planOk_iff.1 hc
 rw[mayE_t hc,dataP_t hc,poolOk_t (n:=c.backs) (by omega)]
 rfl))
theorem sub_c {gl:Gl}(hgl:Low gl):SubOK Tryz.prog gl 49 (hdN decC planOk (fun _=>0) cacheN):=hdN_weak (sub_cNew hgl) fun _ h=>⟨rfl,(mayE_t h).symm⟩
theorem sub_k {gl:Gl}(hgl:Low gl):SubOK Tryz.prog gl 51 (hdN decC planOk (fun _=>0) fun c=>marksX (dataP c) [] 0):=hdN_weak (sub_kNew hgl) fun _ h=>⟨rfl,(mayE_t h).symm⟩
def nestOk (n:Int):Bool:=decide (1≤n)&&decide (n≤8)
theorem sub_d {gl:Gl}(hgl:Low gl):SubOK Tryz.prog gl 52 (hdN (decI .i64) nestOk (fun _=>0) fun n=>dealR (dNew n)):=hdN_weak (sub_dNew hgl) fun n h=>by
 simp only[nestOk,qa1,decide_eq_true_eq]at h
 refine⟨rfl,?_⟩
 unfold dNewE
 rw[qd2 (show¬n<1 by omega),qd2 (show¬n>8 by omega)]
 rfl
theorem bneI_self (n:Int):(n !=n)=false:=by simp
def logX (c:Cfg)(first room many:Int):Rws:=[some (.row ⟨cfgL c++[pK 1001,.int .i64 first,.int .i64 room,.int .i64 many],109,(0,0),0,false,false⟩)]
def lgN (c:Cfg)(n:Int):Rws:=logX c (dataI c+n*c.logs) (c.logs*8) 0
theorem HLg_ok {gl:Gl}(hgl:Low gl):(HLg logF logN logE isMem fun r=>((mOf r).n:Int)).OK Tryz.prog gl:=hsOf_ok (fun p hp=>by
 simp only[List.mem_cons,List.not_mem_nil,or_false]at hp
 subst hp;exact fn_pLog hgl) (fun p hp=>by
 simp only[List.mem_cons,List.not_mem_nil,or_false]at hp
 subst hp;exact sub_mBlk hgl) (fun _ h=>nomatch h)
theorem sub_lgNew {gl:Gl}(hgl:Low gl):SubOK Tryz.prog gl 32 (hdNM decLg (fun r x=>planOk x.1&&(isMemN r x.1.blocks&&(decide (0≤x.2)&&decide (x.2<x.1.cores)))) (fun _ _=>0) fun _ x=>lgN x.1 x.2):=hdNM_sub fun r x hx=>by
 obtain⟨c,n⟩:=x
 simp only[isMemN,qa1,beq_iff_eq,decide_eq_true_eq]at hx
 obtain⟨hc,⟨hm,hb⟩,n0,n1⟩:=hx
 exact atB hgl (HLg_ok hgl) (pl:=plM) ((r_lgNew gl logF logN logE isMem _ c r n).trans (by
  obtain⟨⟨h1,h2,_,_,_,_,_,_,h3,h4,_⟩,_⟩:=planOk_iff.1 hc
  obtain⟨d1,d2,_⟩:=data_bd hc
  have k1:0≤n*c.logs:=Int.mul_nonneg n0 (by omega)
  have k2:n*c.logs≤16*4:=Int.mul_le_mul (by omega) h4 (by omega) (by omega)
  have e1:logE c n=0:=by
   unfold logE
   rw[hc,qd2 (show¬n<0 by omega),qd2 (show¬n≥c.cores by omega)];rfl
  have e2:logF c n=dataI c+n*c.logs:=by
   unfold logF
   rw[e1,wrap_id (n*c.logs) (by omega),wrap_id _ (by omega)];rfl
  have e3:logN c n=c.logs:=by
   unfold logN
   rw[e1];rfl
  have e4:IntKind.i64.wrap ((IntKind.i64.wrap (c.logs*16)).tdiv 2)=c.logs*8:=by
   rw[wrap_id (c.logs*16) (by omega),show c.logs*16=c.logs*8*2 from by omega,Int.mul_tdiv_cancel _ (by decide),wrap_id _ (by omega)]
  rw[hm,hb,bneI_self,e1,e2,e3,e4]
  simp only[qs_eq]
  rfl))
def nearX (c:Cfg)(core:Int)(ask:NoteS)(waits:Bool)(cr br kr dr:Rws):Rws:=[some (.row ⟨cfgL c++(.int .i64 core::pK 1001::pK 1002::pK 1003::pK 1004::(noteL ask++[.bool waits])),114,(0,0),0,false,false⟩),some (.box cr []),some (.box br []),some (.box kr []),some (.box dr [])]
def nearN (c:Cfg)(n:Int):Rws:=nearX c n note0 false (cacheN c) (backsN c) (marksX (dataP c) [] 0) (dealR (dNew c.nest))
theorem HNr_ok {gl:Gl}(hgl:Low gl):(HNr mayE planOk nestOk cacheN backsN (fun c=>marksX (dataP c) [] 0) fun n=>dealR (dNew n)).OK Tryz.prog gl:=hsOf_ok (fun p hp=>by
 simp only[List.mem_cons,List.not_mem_nil,or_false]at hp
 subst hp;exact fn_pMay hgl) (fun p hp=>by
 simp only[List.mem_cons,List.not_mem_nil,or_false]at hp
 rcases hp with rfl|rfl|rfl|rfl
 ·exact sub_c hgl
 ·exact sub_bNew hgl
 ·exact sub_k hgl
 ·exact sub_d hgl) (fun _ h=>nomatch h)
def nrOk (x:Cfg×Int):Bool:=planOk x.1&&(decide (0≤x.2)&&decide (x.2<x.1.cores))
theorem sub_nrNew {gl:Gl}(hgl:Low gl):SubOK Tryz.prog gl 31 (hdN decCi nrOk (fun _=>0) fun x=>nearN x.1 x.2):=hdN_sub fun x hx=>by
 obtain⟨c,n⟩:=x
 simp only[nrOk,qa1,decide_eq_true_eq]at hx
 obtain⟨hc,n0,n1⟩:=hx
 exact atB hgl (HNr_ok hgl) (pl:=plN) ((r_nrNew gl mayE planOk nestOk _ _ _ _ c n).trans (by
  obtain⟨⟨_,_,_,_,_,_,_,_,_,_,_,_,h1,h2,_⟩,_⟩:=planOk_iff.1 hc
  have e:nestOk c.nest=true:=by unfold nestOk;rw[qd1 h1,qd1 h2];rfl
  rw[mayE_t hc,hc,e,qd2 (show¬n<0 by omega),qd2 (show¬n≥c.cores by omega)]
  rfl))
abbrev cV (sy:Sy)(gl:Gl)(H:Hs)(f:FuncId)(vs:List Value)(rows:Rws)(pl:PlanV):Option Out:=callV sy Tryz.prog gl (fun _=>none) H 100 40 40 f vs rows pl
abbrev rV (sy:Sy)(gl:Gl)(H:Hs)(f:FuncId)(n:Nat)(live out:List Nat)(b:Nat)(st:LSt)(op:List VStep)(cls:CR4→List VStep):Option (LSt⊕Out):=roundV sy Tryz.prog gl (fun _=>none) H 100 40 40 f n live st op (rndV Tryz.prog b live out cls)
def noC:CR4→List VStep:=fun _=>[]
abbrev noV:PlanV:=⟨[],fun _=>[]⟩
abbrev sy0:Sy:=syG [(1000,.nilFunc)]
def usM (w y m:Int):Int:=if w=4 then(if y/2=0 then m/4*4+(if y%2=0 then 2 else 0)+1 else(if y%2=0 then 4 else 0)+m/2%2*2)else if w=2 then m/2*2+(if y=0 then 1 else 0)else m
def vcM (w m:Int):Int:=if w=4 then 2*(m%2)+(if m%2=0 then m/2%2 else m/4%2)else if w=2 then m%2 else 0
def wayOk (w:Int):Prop:=w=1∨w=2∨w=4
def memOk (m:Int):Prop:=0≤m∧m<8
def useOk (w y m:Int):Prop:=wayOk w∧0≤y∧y<w∧memOk m
theorem m8 {m:Int}(h:memOk m):m=0∨m=1∨m=2∨m=3∨m=4∨m=5∨m=6∨m=7:=by unfold memOk at h;omega
theorem wy {w y:Int}(h:wayOk w)(h0:0≤y)(h1:y<w):(w=1∧y=0)∨(w=2∧y=0)∨(w=2∧y=1)∨(w=4∧y=0)∨(w=4∧y=1)∨(w=4∧y=2)∨(w=4∧y=3):=by unfold wayOk at h;omega
theorem q_vUse (gl:Gl){w y m:Int}(h:useOk w y m):evF gl H0 222 [.int .u8 m,.int .i64 w,.int .i64 y]=some (.tuple #[.int .u8 (usM w y m),.int .i64 0]):=by
 obtain⟨hw,h0,h1,hm⟩:=h
 rcases wy hw h0 h1 with⟨rfl,rfl⟩|⟨rfl,rfl⟩|⟨rfl,rfl⟩|⟨rfl,rfl⟩|⟨rfl,rfl⟩|⟨rfl,rfl⟩|⟨rfl,rfl⟩<;>rcases m8 hm with rfl|rfl|rfl|rfl|rfl|rfl|rfl|rfl<;>kernel_rfl
theorem q_vVic (gl:Gl){w m:Int}(hw:wayOk w)(hm:memOk m):evF gl H0 193 [.int .u8 m,.int .i64 w]=some (.tuple #[.int .i64 (vcM w m),.int .i64 0]):=by
 rcases hw with rfl|rfl|rfl<;>rcases m8 hm with rfl|rfl|rfl|rfl|rfl|rfl|rfl|rfl<;>kernel_rfl
theorem usM_ok {w y m:Int}(h:useOk w y m):memOk (usM w y m):=by
 obtain⟨hw,h0,h1,hm⟩:=h
 rcases wy hw h0 h1 with⟨rfl,rfl⟩|⟨rfl,rfl⟩|⟨rfl,rfl⟩|⟨rfl,rfl⟩|⟨rfl,rfl⟩|⟨rfl,rfl⟩|⟨rfl,rfl⟩<;>rcases m8 hm with rfl|rfl|rfl|rfl|rfl|rfl|rfl|rfl<;>exact⟨by decide,by decide⟩
theorem vcM_ok {w m:Int}(hw:wayOk w)(hm:memOk m):0≤vcM w m∧vcM w m<w:=by
 rcases hw with rfl|rfl|rfl<;>rcases m8 hm with rfl|rfl|rfl|rfl|rfl|rfl|rfl|rfl<;>exact⟨by decide,by decide⟩
theorem fnWeak {gl:Gl}{f:FuncId}{g g':AF}(hs:FnOK Tryz.prog gl f g)(h: ∀args σ v,g' args σ=some (true,v)→g args σ=some (true,v)):FnOK Tryz.prog gl f g':=fun args σ c v e hc=>by
 subst hc
 exact hs args σ true v (h args σ v e) rfl
def getR (r:W16)(n:Int):Int:=if n=1 then r.a1 else if n=2 then r.a2 else if n=3 then r.a3 else if n=4 then r.a4 else if n=5 then r.a5 else if n=6 then r.a6 else if n=7 then r.a7 else if n=8 then r.a8 else if n=9 then r.a9 else if n=10 then r.a10 else if n=11 then r.a11 else if n=12 then r.a12 else if n=13 then r.a13 else if n=14 then r.a14 else if n=15 then r.a15 else 0
def putR (r:W16)(n x:Int):W16:=if n=1 then{r with a1:=x}else if n=2 then{r with a2:=x}else if n=3 then{r with a3:=x}else if n=4 then{r with a4:=x}else if n=5 then{r with a5:=x}else if n=6 then{r with a6:=x}else if n=7 then{r with a7:=x}else if n=8 then{r with a8:=x}else if n=9 then{r with a9:=x}else if n=10 then{r with a10:=x}else if n=11 then{r with a11:=x}else if n=12 then{r with a12:=x}else if n=13 then{r with a13:=x}else if n=14 then{r with a14:=x}else if n=15 then{r with a15:=x}else r
def afGet (gg:W16→Int→Int):AF:=fun args _=>match args with
 |[.agg ⟨[.int .u32 a0,.int .u32 a1,.int .u32 a2,.int .u32 a3,.int .u32 a4,.int .u32 a5,.int .u32 a6,.int .u32 a7,.int .u32 a8,.int .u32 a9,.int .u32 a10,.int .u32 a11,.int .u32 a12,.int .u32 a13,.int .u32 a14,.int .u32 a15]⟩,.int .i64 n]=>some (true,.int .u32 (gg ⟨a0,a1,a2,a3,a4,a5,a6,a7,a8,a9,a10,a11,a12,a13,a14,a15⟩ n))
 |_=>none
def afPut (pp:W16→Int→Int→W16):AF:=fun args _=>match args with
 |[.agg ⟨[.int .u32 a0,.int .u32 a1,.int .u32 a2,.int .u32 a3,.int .u32 a4,.int .u32 a5,.int .u32 a6,.int .u32 a7,.int .u32 a8,.int .u32 a9,.int .u32 a10,.int .u32 a11,.int .u32 a12,.int .u32 a13,.int .u32 a14,.int .u32 a15]⟩,.int .i64 n,.int .u32 x]=>some (true,w16V (pp ⟨a0,a1,a2,a3,a4,a5,a6,a7,a8,a9,a10,a11,a12,a13,a14,a15⟩ n x))
 |_=>none
abbrev evFs (gl:Gl)(H:Hs)(f:FuncId)(args:List Value):Option Value:=callSK (syG [(1000,.nilFunc)]) Tryz.prog gl (fun _=>none) H 100 40 40 (.fn f) args LS.start flatR
theorem r_sGet (gl:Gl)(r:W16)(n:Int):evFs gl H0 36 [w16V r,.int .i64 n]=
 letI A:=genOf (genSym Value.nilFunc) (w16L r)
 cond (decide (n≤0)) (some (.int .u32 0)) (cond (decide (n≥16)) (some (.int .u32 0)) (cond (decide (0≤n)&&(decide (n<16))) (cond (A.okI .u32 (0+n.toNat*1)) (some (.int .u32 (A.int .u32 (0+n.toNat*1)))) none) none)):=by kernel_rfl
theorem r_sPut (gl:Gl)(r:W16)(n x:Int):evFs gl H0 38 [w16V r,.int .i64 n,.int .u32 x]=
 letI A:=splice (w16L r) (0+n.toNat*1) [.int .u32 x]
 letI B:=w16V (bkW (w16L r) 0)
 cond (decide (n>0)) (cond (decide (n<16)) (cond (decide (0≤n)&&(decide (n<16))) (cond ((0+n.toNat*1+1).ble (w16L r).length&&true&&true) (cond (bkOk A 0) (some (w16V (bkW A 0))) none) none) none) (some B)) (some B):=by kernel_rfl
theorem i16 {n:Int}(h0:0<n)(h1:n<16):n=1∨n=2∨n=3∨n=4∨n=5∨n=6∨n=7∨n=8∨n=9∨n=10∨n=11∨n=12∨n=13∨n=14∨n=15:=by omega
theorem getR_out {r:W16}{n:Int}(h:n≤0∨16≤n):getR r n=0:=by
 unfold getR
 iterate 15 rw[if_neg (by omega)]
theorem putR_out {r:W16}{n x:Int}(h:n≤0∨16≤n):putR r n x=r:=by
 unfold putR
 iterate 15 rw[if_neg (by omega)]
theorem q_sGet (gl:Gl)(r:W16)(n:Int):evFs gl H0 36 [w16V r,.int .i64 n]=some (.int .u32 (getR r n)):=by
 rw[r_sGet]
 by_cases h0:n≤0
 ·exact condI (qd1 h0) (by rw[getR_out (.inl h0)])
 ·refine condE (qd2 h0) ?_
  by_cases h1:n≥16
  ·exact condI (qd1 h1) (by rw[getR_out (.inr h1)])
  ·refine condE (qd2 h1) ?_
   rcases i16 (n:=n) (by omega) (by omega)with rfl|rfl|rfl|rfl|rfl|rfl|rfl|rfl|rfl|rfl|rfl|rfl|rfl|rfl|rfl<;>rfl
theorem q_sPut (gl:Gl)(r:W16)(n x:Int):evFs gl H0 38 [w16V r,.int .i64 n,.int .u32 x]=some (w16V (putR r n x)):=by
 rw[r_sPut]
 by_cases h0:n>0
 ·refine condI (qd1 h0) ?_
  by_cases h1:n<16
  ·refine condI (qd1 h1) ?_
   rcases i16 h0 h1 with rfl|rfl|rfl|rfl|rfl|rfl|rfl|rfl|rfl|rfl|rfl|rfl|rfl|rfl|rfl<;>rfl
  ·exact condE (qd2 h1) (by rw[putR_out (.inr (by omega))];rfl)
 ·exact condE (qd2 h0) (by rw[putR_out (.inl (by omega))];rfl)
theorem fn_ofs {gl:Gl}(hgl:Low gl){H:Hs}(hH:H.OK Tryz.prog gl){f:FuncId}{g:AF}(hk: ∀args σ v,g args σ=some (true,v)→args.all (af 8)=true∧evFs gl H f args=some v):FnOK Tryz.prog gl f g:=
 fn_of (syG_ok _) goodT hgl tglob hH hk
theorem afGet_inv {gg:W16→Int→Int}{args:List Value}{σ:LS}{c:Bool}{v:Value}(h:afGet gg args σ=some (c,v)): ∃r n,args=[w16V r,.int .i64 n]∧c=true∧v=.int .u32 (gg r n):=by
 unfold afGet at h
 split at h
 ·cases h;exact⟨⟨_,_,_,_,_,_,_,_,_,_,_,_,_,_,_,_⟩,_,rfl,rfl,rfl⟩
 ·cases h
theorem afPut_inv {pp:W16→Int→Int→W16}{args:List Value}{σ:LS}{c:Bool}{v:Value}(h:afPut pp args σ=some (c,v)): ∃r n x,args=[w16V r,.int .i64 n,.int .u32 x]∧c=true∧v=w16V (pp r n x):=by
 unfold afPut at h
 split at h
 ·cases h;exact⟨⟨_,_,_,_,_,_,_,_,_,_,_,_,_,_,_,_⟩,_,_,rfl,rfl,rfl⟩
 ·cases h
theorem fn_sGet {gl:Gl}(hgl:Low gl):FnOK Tryz.prog gl 36 (afGet getR):=fn_ofs hgl H0_ok fun args σ v h=>by
 obtain⟨r,n,rfl,_,rfl⟩:=afGet_inv h
 exact⟨rfl,q_sGet gl r n⟩
theorem fn_sPut {gl:Gl}(hgl:Low gl):FnOK Tryz.prog gl 38 (afPut putR):=fn_ofs hgl H0_ok fun args σ v h=>by
 obtain⟨r,n,x,rfl,_,rfl⟩:=afPut_inv h
 exact⟨rfl,q_sPut gl r n x⟩
end Go.Proofs.YtpcbedgaecbfmaaGreatDoor
