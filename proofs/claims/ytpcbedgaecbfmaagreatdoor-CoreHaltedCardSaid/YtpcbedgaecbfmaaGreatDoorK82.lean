/- A home of one core: what its code answers. No condition. -/
import Derived.Test.YtpcbedgaecbfmaaGreatDoorK81
noncomputable section
namespace Go.Proofs.YtpcbedgaecbfmaaGreatDoor
open Go.Proofs.YtpcbedgaecbfmaaGreatDoor.Ev Go.RowKit
def esL:List Int→List Value
 |[]=>[]
 |o::l=>.int .i64 o::.int .u32 0::esL l
theorem esL_len: ∀l:List Int,(esL l).length=l.length*2
 |[]=>rfl
 |o::l=>by simp only[esL,List.length_cons,esL_len l];omega
theorem esL_af: ∀l:List Int,(esL l).all (af 8)=true
 |[]=>rfl
 |o::l=>by simp only[esL,List.all_cons,esL_af l];rfl
theorem esL_get: ∀{l:List Int} {i:Nat} (h:i<l.length),(esL l)[i*2+0]? =some (.int .i64 l[i])∧(esL l)[i*2+1]? =some (.int .u32 0)
 |[],_,h=>by simp at h
 |o::l,0,h=>⟨rfl,rfl⟩
 |o::l,i+1,h=>by
  obtain⟨h1,h2⟩:=esL_get (l:=l) (i:=i) (by simpa using h)
  refine⟨?_,?_⟩
  ·rw[show(i+1)*2+0=(i*2+0)+1+1 from by omega];exact h1
  ·rw[show(i+1)*2+1=(i*2+1)+1+1 from by omega];exact h2
theorem en_at {l:List Int}{i:Nat}(h:i<l.length):enO (esL l) (0+i*2)=true∧enV (esL l) (0+i*2)=.agg #[.int .i64 l[i],.int .u32 0]:=by
 obtain⟨h1,h2⟩:=esL_get h
 have g1:(esL l)[0+i*2+0]? =some (.int .i64 l[i]):=by rw[Nat.zero_add];exact h1
 have g2:(esL l)[0+i*2+1]? =some (.int .u32 0):=by rw[Nat.zero_add];exact h2
 unfold enO enV
 simp only[gS,genOf]
 rw[g1,g2]
 exact⟨rfl,rfl⟩
theorem esL_set: ∀{l:List Int} {i:Nat} (h:i<l.length) (x:Int),splice (esL l) (i*2) [.int .i64 x,.int .u32 0]=esL (l.set i x)
 |[],_,h,_=>by simp at h
 |o::l,0,h,x=>rfl
 |o::l,i+1,h,x=>by
  have e:=esL_set (l:=l) (i:=i) (by simpa using h) x
  rw[show(i+1)*2=i*2+1+1 from by omega]
  show _=.int .i64 o::.int .u32 0::esL (l.set i x)
  rw[←e]
  unfold splice
  simp only[esL,List.take_succ_cons,List.length_cons,List.length_nil,List.cons_append]
  rw[show i*2+1+1+(0+1+1)=(i*2+(0+1+1))+1+1 from by omega,List.drop_succ_cons,List.drop_succ_cons]
theorem fn_asked1 {gl:Gl}(hgl:Low gl){o kd:Int}(ho:o= -1∨o=0)(hk:kd=1∨kd=2):FnOK Tryz.prog gl 109 (afT (fun l=>cl (l=[.agg #[.int .i64 o,.int .u32 0],.int .u8 kd,.int .i64 0])) (.tuple #[.int .u32 0,.int .u8 (cond (kd==1) 4 5),.int .i64 0])):=fn_res hgl H0_ok fun args σ v h=>by
 unfold afT at h
 simp only[Option.some.injEq,Prod.mk.injEq]at h
 obtain⟨h1,rfl⟩:=h
 rw[of_cl h1]
 rcases ho with rfl|rfl<;>rcases hk with rfl|rfl
 ·exact⟨rfl,by kernel_rfl⟩
 ·exact⟨rfl,by kernel_rfl⟩
 ·exact⟨rfl,by kernel_rfl⟩
 ·exact⟨rfl,by kernel_rfl⟩
theorem fn_gets1 {gl:Gl}(hgl:Low gl){o kd:Int}(ho:o= -1∨o=0)(hk:kd=1∨kd=2):FnOK Tryz.prog gl 117 (afT (fun l=>cl (l=[.agg #[.int .i64 o,.int .u32 0],.int .u8 kd,.int .i64 0])) (.tuple #[.agg #[.int .i64 0,.int .u32 0],.int .u8 (cond (kd==1) 2 3),.int .i64 0])):=fn_res hgl H0_ok fun args σ v h=>by
 unfold afT at h
 simp only[Option.some.injEq,Prod.mk.injEq]at h
 obtain⟨h1,rfl⟩:=h
 rw[of_cl h1]
 rcases ho with rfl|rfl<;>rcases hk with rfl|rfl
 ·exact⟨rfl,by kernel_rfl⟩
 ·exact⟨rfl,by kernel_rfl⟩
 ·exact⟨rfl,by kernel_rfl⟩
 ·exact⟨rfl,by kernel_rfl⟩
theorem fn_back1 {gl:Gl}(hgl:Low gl)(s:Bool):FnOK Tryz.prog gl 108 (afT (fun l=>cl (l=[.agg #[.int .i64 0,.int .u32 0],.int .i64 0,.bool s])) (.tuple #[.agg #[.int .i64 (cond s 0 (-1)),.int .u32 0],.bool true,.int .i64 0])):=fn_res hgl H0_ok fun args σ v h=>by
 unfold afT at h
 simp only[Option.some.injEq,Prod.mk.injEq]at h
 obtain⟨h1,rfl⟩:=h
 rw[of_cl h1]
 cases s
 ·exact⟨rfl,by kernel_rfl⟩
 ·exact⟨rfl,by kernel_rfl⟩
def MemS.block (m:MemS)(b:Int):W16:=w16At m.ws (0+b.toNat*16)
theorem sub_mBlock {gl:Gl}(hgl:Low gl){m:MemS}(hm:m.ok){b:Int}(h0:0≤b)(h1:b<(m.n:Int)):SubOK Tryz.prog gl 116 (gH (atS [pK 1000,.int .i64 b] (bx (memR m))) (.normal,[.tuple #[w16V (m.block b),.int .i64 0]],bx (memR m))):=by
 have hl:=hm.1
 have e5:0+b.toNat*16+16≤m.ws.length:=by omega
 have e1:decide (0≤b)=true:=qd1 h0
 have e2:decide (b<(m.n:Int))=true:=qd1 h1
 have e3:decide (b<0)=false:=qd2 (by omega)
 have e4:decide (b≥(m.n:Int))=false:=qd2 (by omega)
 refine atBs hgl H0_ok (pl:=plR) ((r_mBlock gl m.n (u32L m.ws) b).trans ?_)
 simp only[u32_af,nble,e1,e2,e3,e4,bkOk_t e5,bkW_eq,Bool.and_self,cond_true,cond_false,qs_eq,qn_eq]
 rfl
structure Ho1 where
 ow:List Int
 job:Option NoteS
 t:Nat
 clk:Nat
def Ho1.js (h:Ho1):List (Value×Value×Nat):=match h.job with
 |none=>[]
 |some a=>[(.int .i64 a.block,jobW a,h.t)]
abbrev wr1 (c:Cfg):Rws:=poolNR ⟨c.cores*(c.backs+1),true,[],[]⟩
def hoC (c:Cfg)(h:Ho1)(m:MemS):Rws:=hoX c h.ow.length (esL h.ow) h.js h.clk (wr1 c) (memR m)
def hoD (c:Cfg)(h:Ho1)(m:MemS):Rws:=hoO c h.ow.length (esL h.ow) h.js h.clk (wr1 c) (memR m)
structure HoP (c:Cfg)(h:Ho1)(m:MemS)(n:NoteS):Prop where
 e:noteE n=0
 to:n.too= -1
 f:n.frm=0
 c1:1≤c.cores
 b0:0≤n.block
 b1:n.block<(h.ow.length:Int)
 mo:m.ok
 bm:n.block<(m.n:Int)
theorem HoP.rg {c:Cfg}{h:Ho1}{m:MemS}{n:NoteS}(p:HoP c h m n):(decide (0≤n.block)&&decide (n.block<(h.ow.length:Int))&&h.ow.length.ble h.ow.length)=true:=andI (andI (qd1 p.b0) (qd1 p.b1)) (nbl (Nat.le_refl _))
theorem fn_netG {gl:Gl}(hgl:Low gl)(k:Int):FnOK Tryz.prog gl 107 (afI1 .u8 (fun x=>netI x==k) fun _=>.int .i64 k):=fnWeak (fn_nNet hgl) fun args σ v h=>by
 unfold afI1 at h ⊢
 split at h
 case h_2=>cases h
 simp only[Option.some.injEq,Prod.mk.injEq,qa1]at h
 obtain⟨⟨h1,h2⟩,rfl⟩:=h
 rename_i j n
 show some (decide (j=.u8)&&true,Value.int .i64 (netI n))=_
 rw[h1,eq_of_beq h2];rfl
theorem mk0:mapKeysI .i64 ([]:List (Value×Value×Nat))=true:=rfl
theorem mh0 (b:Int):mapHasI ([]:List (Value×Value×Nat)) b=false:=rfl
theorem fn_mhN {gl:Gl}{mh:Int→Int→Bool}:FnOK Tryz.prog gl 106 (afMh (fun _ _=>false) mh):=fun args σ c u e hc=>by
 subst hc
 unfold afMh at e
 split at e
 ·cases e
 ·cases e
theorem rdy_ok {gl:Gl}(hgl:Low gl):(hsOf [(104,afN noteE),(107,afI1 .u8 (fun _=>true) fun k=>.int .i64 (netI k)),(106,afMh (fun _ _=>false) fun _ _=>false)] [(105,hdM dec0 (fun _ _=>false) (fun _ _=>.int .i64 0) fun r _=>r)] []).OK Tryz.prog gl:=
 hsOf_ok (fxC (fn_nMay hgl) (fxC (fn_nNet hgl) (fxC fn_mhN fx0))) (sxC (hdM_sub fun _ _ h=>by cases h) sx0) (fun _ h=>nomatch h)
theorem sub_hRdyA {gl:Gl}(hgl:Low gl){c:Cfg}{h:Ho1}{m:MemS}{n:NoteS}(p:HoP c h m n)(hj:h.job=none)(hk:netI n.kind=0):SubOK Tryz.prog gl 68 (gH (atS [pK 1000,noteV n] (hoD c h m)) (.normal,[.int .i64 0],hoD c h m)):=by
 have e:hoD c h m=hoO c h.ow.length (esL h.ow) [] h.clk (wr1 c) (memR m):=by unfold hoD Ho1.js;rw[hj]
 rw[e]
 refine atV hgl (rdy_ok hgl) ((r_hRdy gl noteE netI _ _ (fun _=>false) (fun _=>0) c _ _ [] _ _ _ n).trans ?_)
 simp only[qs_eq,qn_eq,qb_eq,mk0,mh0,esL_af,List.all_nil,Bool.and_self,cond_true,cond_false]
 exact condE (by rw[p.e];rfl) (condE (by rw[p.to];rfl) (condE (qd2 (by have:=p.f;have:=p.c1;omega)) (condE (qd2 (by have:=p.b1;omega)) (condI (beq_of_eq hk) rfl))))
def flat1:Value→Bool
 | .int _ _=>true
 | .bool _=>true
 |_=>false
theorem veq_flat1 {d:Nat}{v:Value}(h:flat1 v=true):veq (d+1) v v=true:=by
 cases v<;>first|(cases h;done)|skip
 ·exact beq_self_eq_true _
 ·exact andI (qd1 rfl) (qd1 rfl)
theorem zip_flat {d:Nat}: ∀{l:List Value},l.all flat1=true→((l.zip l).all fun p=>veq (d+1) p.1 p.2)=true
 |[],_=>rfl
 |v::l,h=>by
  obtain⟨h1,h2⟩:=andE (show(flat1 v&&l.all flat1)=true from h)
  exact andI (veq_flat1 h1) (zip_flat h2)
theorem veq_agg {d:Nat}{l:List Value}(h:l.all flat1=true):veq (d+2) (.agg ⟨l⟩) (.agg ⟨l⟩)=true:=andI (Nat.beq_refl _) (zip_flat h)
theorem jobU_W (a:NoteS):jobU (jobW a)=jobW a:=rfl
theorem veq_job (a:NoteS):veq 8 (jobW a) (jobU (jobW a))=true:=by
 rw[jobU_W]
 exact veq_agg (d:=6) (l:=noteL a++([.int .u32 0,.bool true,.bool false,.int .u64 0]:List Value)) rfl
theorem veq_jobT (a:NoteS):veq 8 (.tuple #[jobU (jobW a),.bool true]) (.tuple #[jobU (jobW a),.bool true])=true:=by
 rw[jobU_W]
 exact andI (veq_agg (d:=5) (l:=noteL a++([.int .u32 0,.bool true,.bool false,.int .u64 0]:List Value)) rfl) rfl
theorem mk1 (b:Int)(v:Value)(t:Nat):mapKeysI .i64 [(.int .i64 b,v,t)]=true:=rfl
theorem mh1 (b:Int)(v:Value)(t:Nat):mapHasI [(.int .i64 b,v,t)] b=true:=by show cond (decide (b=b)) true _=true;rw[qd1 rfl];rfl
theorem mg1 (b:Int)(v:Value)(t:Nat):mapGetI [(.int .i64 b,v,t)] b=v:=by show cond (decide (b=b)) v _=v;rw[qd1 rfl];rfl
theorem md1 (b:Int)(v:Value)(t:Nat):mapDelI b [(.int .i64 b,v,t)]=[]:=by show cond (decide (b=b)) [] _=[];rw[qd1 rfl];rfl
theorem job_bool (a:NoteS):(genOf (genSym Value.nilFunc) (cellsV (jobW a))).bool 25=true:=rfl
theorem job_frm (a:NoteS):(genOf (genSym Value.nilFunc) (cellsV (jobW a))).int .i64 1=a.frm:=rfl
theorem job_af (b:Int)(a:NoteS)(t:Nat):([((.int .i64 b:Value),jobW a,t)].all fun e=>af 8 e.fst&&af 8 e.snd.fst)=true:=rfl
theorem sub_hRdyD {gl:Gl}(hgl:Low gl){c:Cfg}{h:Ho1}{m:MemS}{n a:NoteS}(p:HoP c h m n)(hj:h.job=some a)(hb:a.block=n.block)(hf:a.frm=0)(hk:n.kind=11):SubOK Tryz.prog gl 68 (gH (atS [pK 1000,noteV n] (hoD c h m)) (.normal,[.int .i64 0],hoD c h m)):=by
 have e:hoD c h m=hoO c h.ow.length (esL h.ow) [(.int .i64 n.block,jobW a,h.t)] h.clk (wr1 c) (memR m):=by unfold hoD Ho1.js;rw[hj,←hb]
 rw[e]
 refine atV hgl (rdy_ok hgl) ((r_hRdy gl noteE netI _ _ (fun _=>false) (fun _=>0) c _ _ [(.int .i64 n.block,jobW a,h.t)] _ _ _ n).trans ?_)
 simp only[qs_eq,qn_eq,qb_eq,mk1,mh1,mg1,esL_af,job_af,job_bool,job_frm,veq_job,veq_jobT,Bool.and_self,cond_true,cond_false]
 exact condE (by rw[p.e];rfl) (condE (by rw[p.to];rfl) (condE (qd2 (by have:=p.f;have:=p.c1;omega)) (condE (qd2 (by have:=p.b1;omega)) (condE (by rw[hk];rfl) (condI (by rw[hk];rfl) (condE (by rw[hf,p.f];rfl) rfl))))))
def Ho1.gave (h:Ho1)(n:NoteS):Ho1:=⟨h.ow.set n.block.toNat 0,some n,h.clk,h.clk+1⟩
def dataN (m:MemS)(n:NoteS):NoteS:=⟨6,-1,n.frm,n.block,0,cond (n.kind==1) 2 3,true,false,m.block n.block⟩
theorem hsF_ok {gl:Gl}{F:List (FuncId×AF)}{X:List (FuncId×Hd)}(hF: ∀p∈F,FnOK Tryz.prog gl p.1 p.2)(hX: ∀p∈X,SubOK Tryz.prog gl p.1 p.2):(hsOf F X []).OK Tryz.prog gl:=hsOf_ok hF hX (fun _ h=>nomatch h)
theorem set_e {l:List Int}{i:Nat}(h:i<l.length)(x:Int):splice (esL l) (0+i*2) [.int .i64 x,.int .u32 0]=esL (l.set i x):=by rw[Nat.zero_add,esL_set h]
theorem set_af {l:List Int}{i:Nat}(h:i<l.length)(x:Int):(splice (esL l) (0+i*2) [.int .i64 x,.int .u32 0]).all (af 8)=true:=by rw[Nat.zero_add,esL_set h,esL_af]
theorem sub_hGet {gl:Gl}(hgl:Low gl){c:Cfg}{h:Ho1}{m:MemS}{n:NoteS}(p:HoP c h m n)(hj:h.job=none)(hk:n.kind=1∨n.kind=2){o:Int}(ho:h.ow[n.block.toNat]? =some o)(ho2:o= -1∨o=0):
 SubOK Tryz.prog gl 40 (gH (atS [pK 1000,noteV n] (hoC c h m)) (.normal,[.tuple #[.slice (some ⟨1002,0,none⟩) 1 1,.int .i64 0]],hoC c (h.gave n) m++[some (notesRow (notesL [dataN m n]) 0)])):=by
 have hn0:netI n.kind=0:=by rcases hk with e|e<;>rw[e]<;>rfl
 have hR:=sub_hRdyA hgl p hj hn0
 have e:hoC c h m=hoX c h.ow.length (esL h.ow) [] h.clk (wr1 c) (memR m):=by unfold hoC Ho1.js;rw[hj]
 have e2:hoD c h m=hoO c h.ow.length (esL h.ow) [] h.clk (wr1 c) (memR m):=by unfold hoD Ho1.js;rw[hj]
 rw[e2]at hR
 rw[e]
 obtain⟨hi,hq⟩:=qx1.1 ho
 obtain⟨en1,en2⟩:=en_at hi
 rw[hq]at en2
 have hsa:=set_af hi 0
 have hle:(0+n.block.toNat*2+[Value.int IntKind.i64 0,Value.int IntKind.u32 0].length).ble (esL h.ow).length=true:=nbl (by rw[esL_len];show _+2≤_;omega)
 have hset:=esL_set hi 0
 have hfr:=p.f
 have eR:hoC c (h.gave n) m=hoX c h.ow.length (esL (h.ow.set n.block.toNat 0)) [(.int .i64 n.block,jobW n,h.clk)] (h.clk+1) (wr1 c) (memR m):=by
  unfold hoC Ho1.gave Ho1.js
  dsimp only
  rw[List.length_set]
 rw[eR,←set_e hi 0]
 refine sub_atV goodT hgl tglob ⟨syG [(1002,.nilFunc)],_,100,40,40,plK,syG_ok _,hsF_ok (fxC (fn_netG hgl 0) (fxC (fn_asked1 hgl ho2 hk) (fxC (fn_gets1 hgl ho2 hk) (fxC fn_nev fx0)))) (sxC hR (sxC (sub_mBlock hgl p.mo p.b0 p.bm) (sxC sub_dead sx0))),(r_hGet gl _ c _ _ [] _ _ _ n _ _ _ _ _ _ _ _ _).trans ?_⟩
 simp only[qs_eq,qn_eq,qb_eq,mk0,mh0,esL_af,List.all_nil,Bool.and_self,cond_true,cond_false,p.rg,en1,en2,hle,hsa]
 exact condI (atS_self _ _) (condI (beq_of_eq hn0) (condI (beq_of_eq hn0) (condE (by rcases hk with e|e<;>rw[e]<;>rfl) (condI (cl_t (by rw[hfr];rfl)) (condI (cl_t (by rw[hfr];rfl)) (condI (atS_self _ _) (condI rfl rfl)))))))
def Ho1.putB (h:Ho1)(n:NoteS):Ho1:=⟨h.ow.set n.block.toNat (cond n.stick 0 (-1)),none,h.t,h.clk⟩
def pAckN (n:NoteS):NoteS:=⟨8,-1,n.frm,n.block,0,0,false,false,w0⟩
theorem sub_hPut {gl:Gl}(hgl:Low gl){c:Cfg}{h:Ho1}{m:MemS}{n:NoteS}(p:HoP c h m {n with kind:=3})(hj:h.job=none)(ho:h.ow[n.block.toNat]? =some 0):
 SubOK Tryz.prog gl 40 (gH (atS [pK 1000,noteV {n with kind:=3}] (hoC c h m)) (.normal,[.tuple #[.slice (some ⟨1002,0,none⟩) 1 1,.int .i64 0]],hoC c (h.putB n) (m.setBlock n.block n.data)++[some (notesRow (notesL [pAckN n]) 0)])):=by
 have hR:=sub_hRdyA hgl p hj rfl
 have e:hoC c h m=hoX c h.ow.length (esL h.ow) [] h.clk (wr1 c) (memR m):=by unfold hoC Ho1.js;rw[hj]
 have e2:hoD c h m=hoO c h.ow.length (esL h.ow) [] h.clk (wr1 c) (memR m):=by unfold hoD Ho1.js;rw[hj]
 rw[e2]at hR
 rw[e]
 obtain⟨hi,hq⟩:=qx1.1 ho
 obtain⟨en1,en2⟩:=en_at hi
 rw[hq]at en2
 have hsa:=fun x=>set_af hi x
 have hle: ∀x:Int,(0+n.block.toNat*2+[Value.int IntKind.i64 x,Value.int IntKind.u32 0].length).ble (esL h.ow).length=true:=fun x=>nbl (by rw[esL_len];show _+2≤_;omega)
 have hfr:n.frm=0:=p.f
 have prg:(decide (0≤n.block)&&decide (n.block<(h.ow.length:Int))&&h.ow.length.ble h.ow.length)=true:=p.rg
 have eR:hoC c (h.putB n) (m.setBlock n.block n.data)=hoX c h.ow.length (esL (h.ow.set n.block.toNat (cond n.stick 0 (-1)))) [] h.clk (wr1 c) (memR (m.setBlock n.block n.data)):=by
  unfold hoC Ho1.putB Ho1.js
  dsimp only
  rw[List.length_set]
 have hS:SubOK Tryz.prog gl 74 (gH (atS [pK 1000,.int .i64 n.block,w16V n.data] (bx (memR m))) (.normal,[.int .i64 0],bx (memR (m.setBlock n.block n.data)))):=by
  have hs:=hdM_at (sub_mSetBlock hgl) (r:=memR m) (x:=(n.block,n.data)) rfl (isMem_t p.mo)
  have hin:m.e n.block 0=0:=by
   have h0:0≤n.block:=p.b0
   have h1:n.block<(m.n:Int):=p.bm
   unfold MemS.e MemS.inn
   rw[qd2 (show¬n.block<0 by omega),qd2 (show¬n.block≥(m.n:Int) by omega)]
   rfl
  rw[mOf_eq p.mo,hin]at hs
  exact hs
 rw[eR,←set_e hi]
 refine sub_atV goodT hgl tglob ⟨syG [(1002,.nilFunc)],_,100,40,40,plK,syG_ok _,hsF_ok (fxC (fn_netG hgl 0) (fxC (fn_back1 hgl n.stick) fx0)) (sxC hR (sxC hS (sxC sub_dead sx0))),(r_hPut gl _ c _ _ [] _ _ _ n _ _ _ _ _ _).trans ?_⟩
 simp only[qs_eq,qn_eq,qb_eq,mk0,mh0,esL_af,List.all_nil,Bool.and_self,cond_true,cond_false,prg,en1,en2,hle,hsa]
 refine condI (atS_self _ _) (condI rfl (condI rfl ?_))
 cases hs:n.stick with
 |true=>exact condI rfl (condI (cl_t (by rw[hfr];rfl)) (condI rfl (condI (atS_self _ _) rfl)))
 |false=>exact condE rfl (condI (cl_t (by rw[hfr];rfl)) (condE rfl (condI (atS_self _ _) rfl)))
def Ho1.over (h:Ho1):Ho1:={h with job:=none}
theorem wr_ok {c:Cfg}(hc:planOk c=true):PoolN.ok ⟨c.cores*(c.backs+1),true,[],[]⟩:=by
 obtain⟨⟨h1,h2,_,_,_,_,_,_,_,_,h3,h4,_⟩,_⟩:=planOk_iff.1 hc
 have k1:1*2≤c.cores*(c.backs+1):=Int.mul_le_mul h1 (by omega) (by omega) (by omega)
 have k2:c.cores*(c.backs+1)≤16*5:=Int.mul_le_mul h2 (by omega) (by omega) (by omega)
 exact⟨by first|exact⟨fun _=>⟨rfl,rfl⟩,by simp⟩|simp[PoolN.wf],by show 1≤c.cores*(c.backs+1);omega,by show c.cores*(c.backs+1)≤65536;omega⟩
theorem sub_hDone {gl:Gl}(hgl:Low gl){c:Cfg}{h:Ho1}{m:MemS}{n a:NoteS}(hc:planOk c=true)(p:HoP c h m {n with kind:=11})(hj:h.job=some a)(hb:a.block=n.block)(hf:a.frm=0):
 SubOK Tryz.prog gl 40 (gH (atS [pK 1000,noteV {n with kind:=11}] (hoC c h m)) (.normal,[.tuple #[.slice none 0 0,.int .i64 0]],hoC c h.over m)):=by
 have hR:=sub_hRdyD hgl p hj hb hf rfl
 have e:hoC c h m=hoX c h.ow.length (esL h.ow) [(.int .i64 n.block,jobW a,h.t)] h.clk (wr1 c) (memR m):=by unfold hoC Ho1.js;rw[hj,←hb]
 have e2:hoD c h m=hoO c h.ow.length (esL h.ow) [(.int .i64 n.block,jobW a,h.t)] h.clk (wr1 c) (memR m):=by unfold hoD Ho1.js;rw[hj,←hb]
 rw[e2]at hR
 rw[e]
 have hE:SubOK Tryz.prog gl 72 (gH (atS [pK 1000,.int .i64 n.block] (hoO c h.ow.length (esL h.ow) [(.int .i64 n.block,jobW a,h.t)] h.clk (wr1 c) (memR m))) (.normal,[.slice none 0 0],hoO c h.ow.length (esL h.ow) (mapDelI n.block [(.int .i64 n.block,jobW a,h.t)]) h.clk (wr1 c) (memR m))):=by
  have hF:SubOK Tryz.prog gl 111 (gH (atS [pK 1000,atE] [some (.box (wr1 c) []),some (bRow n.block)]) (.normal,[.int .i64 (-1)],[some (.box (wr1 c) []),some (bRow n.block)])):=atV hgl H0_ok (pl:=vR) ((r_nF0 gl (c.cores*(c.backs+1)) n.block).trans rfl)
  have hT:=hdM_at (sub_pnTake hgl) (r:=wr1 c) (x:=(-1:Int)) rfl (isPool_t (wr_ok hc))
  rw[pOf_eq (wr_ok hc)]at hT
  refine atV hgl (hs_ok (sxC hF (sxC hT sx0))) ((r_hEnd0 gl c _ _ [(.int .i64 n.block,jobW a,h.t)] _ _ _ n.block _ _ _).trans ?_)
  simp only[qs_eq,mk1,md1,esL_af,List.all_nil,Bool.and_self,cond_true]
  exact condI (atS_self _ _) (condI (atS_self _ _) rfl)
 refine sub_atV goodT hgl tglob ⟨syG [(1002,.nilFunc)],_,100,40,40,plK,syG_ok _,hsF_ok (fxC (fn_netG hgl 2) fx0) (sxC hR (sxC hE sx0)),(r_hDone gl _ c _ _ [(.int .i64 n.block,jobW a,h.t)] _ _ _ n _ _).trans ?_⟩
 simp only[qs_eq,qn_eq,qb_eq,mk1,mh1,mg1,md1,job_af,veq_job,veq_jobT,esL_af,List.all_nil,Bool.and_self,cond_true,cond_false]
 exact condI (atS_self _ _) (condI rfl (condI rfl (condI (atS_self _ _) rfl)))
end Go.Proofs.YtpcbedgaecbfmaaGreatDoor
