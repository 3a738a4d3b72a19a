/- Caches and cores: what holds always. No condition. -/
import Derived.Test.YtpcbedgaecbfmaaGreatDoorK82
noncomputable section
namespace Go.Proofs.YtpcbedgaecbfmaaGreatDoor
open Go.Proofs.YtpcbedgaecbfmaaGreatDoor.Ev Go.RowKit
structure CaG (k:CacheS):Prop where
 ok:k.ok
 wf:k.wf
 uq: ∀(i j:Nat) (l m:LineS),k.lines[i]? =some l→k.lines[j]? =some m→l.state≠0→m.state≠0→l.block=m.block→i=j
theorem get_pos {k:CacheS}(h:CaG k){b:Int}{l:LineS}:k.get b=some l↔ ∃i:Nat,k.lines[i]? =some l∧l.state≠0∧l.block=b:=by
 constructor
 ·intro h1
  unfold CacheS.get at h1
  rcases ix_cases (k:=k) b with⟨_,e⟩|⟨_,_,e⟩|⟨j,_,h2,e⟩
  ·rw[e]at h1;cases h1
  ·rw[e]at h1;cases h1
  ·rw[e]at h1
   obtain⟨_,l',h3,h4⟩:=fi_some h2
   have h1:k.lines[k.lo b+j]? =some l:=h1
   rw[h1]at h3
   cases h3
   unfold hasP at h4
   simp only[qa1,bne_iff_ne,ne_eq,beq_iff_eq]at h4
   exact⟨_,h1,h4.1,h4.2⟩
 ·rintro⟨i,h1,h2,rfl⟩
  obtain⟨w1,w2,w3⟩:=h.wf i l h1 h2
  have hp:hasP l.block l=true:=by unfold hasP;simp[h2]
  have hm:l∈seg k.lines (k.lo l.block) k.w:=seg_mem (j:=i-k.lo l.block) (by omega) (by rw[show k.lo l.block+(i-k.lo l.block)=i by omega];exact h1)
  have hs:=ixFrom_isSome (s:=0) hm hp
  obtain⟨j,hj⟩:=Option.isSome_iff_exists.1 hs
  obtain⟨_,l',h3,h4⟩:=fi_some (k:=k) hj
  unfold hasP at h4
  simp only[qa1,bne_iff_ne,ne_eq,beq_iff_eq]at h4
  have e:=h.uq _ _ _ _ h3 h1 h4.1 h2 h4.2
  rw[e,h1]at h3
  cases h3
  unfold CacheS.get CacheS.ix
  rw[w1]
  show(k.fi l.block).bind _=_
  have hj':k.fi l.block=some j:=hj
  rw[hj']
  show k.lines[k.lo l.block+j]? =_
  rw[e,h1]
theorem is_get (k:CacheS)(h:CaG k)(b:Int):k.is b=(k.get b).isSome:=by
 unfold CacheS.is CacheS.get
 rcases ix_cases (k:=k) b with⟨_,e⟩|⟨_,_,e⟩|⟨j,_,h2,e⟩
 ·rw[e];rfl
 ·rw[e];rfl
 ·obtain⟨_,l',h3,h4⟩:=fi_some h2
  rw[e]
  show _=(k.lines[k.lo b+j]?).isSome
  rw[h3];rfl
theorem set_G {k:CacheS}(h:CaG k){p:Nat}{x:LineS}(hp:p<k.lines.length)(hx:x.state≠0→mbI x.block=true∧k.lo x.block≤p∧p<k.lo x.block+k.w∧ ∀(i:Nat) l,k.lines[i]? =some l→l.state≠0→l.block=x.block→i=p):CaG {k with lines:=k.lines.set p x}:=by
 have hg: ∀i:Nat,(k.lines.set p x)[i]? =if i=p then some x else k.lines[i]? :=fun i=>by
  rw[List.getElem?_set]
  by_cases e:p=i
  ·subst e;simp[hp]
  ·rw[if_neg e,if_neg (fun q=>e q.symm)]
 refine⟨?_,?_,?_⟩
 ·obtain⟨a,b,c,d⟩:=h.ok
  exact⟨a,by show(k.lines.set p x).length=_;rw[List.length_set];exact b,c,d⟩
 ·intro i l hi hl
  have hi:(k.lines.set p x)[i]? =some l:=hi
  rw[hg]at hi
  by_cases e:i=p
  ·rw[if_pos e]at hi;cases hi
   obtain⟨a,b,c,_⟩:=hx hl
   exact⟨a,by rw[e];exact b,by rw[e];exact c⟩
  ·rw[if_neg e]at hi;exact h.wf i l hi hl
 ·intro i j l m hi hj hl hm hb
  have hi:(k.lines.set p x)[i]? =some l:=hi
  have hj:(k.lines.set p x)[j]? =some m:=hj
  rw[hg]at hi hj
  by_cases e:i=p<;>by_cases f:j=p
  ·rw[e,f]
  ·rw[if_pos e]at hi;cases hi
   rw[if_neg f]at hj
   exact absurd ((hx hl).2.2.2 j m hj hm hb.symm) f
  ·rw[if_pos f]at hj;cases hj
   rw[if_neg e]at hi
   exact absurd ((hx hm).2.2.2 i l hi hl hb) e
  ·rw[if_neg e]at hi;rw[if_neg f]at hj
   exact h.uq i j l m hi hj hl hm hb
theorem set_get {k:CacheS}(h:CaG k){p:Nat}{x o:LineS}(ho:k.lines[p]? =some o)(h':CaG {k with lines:=k.lines.set p x})(b:Int):
 CacheS.get {k with lines:=k.lines.set p x} b=if x.state≠0∧x.block=b then some x else if o.state≠0∧o.block=b then none else k.get b:=by
 have hp:p<k.lines.length:=(qx1.1 ho).1
 have hg: ∀i:Nat,(k.lines.set p x)[i]? =if i=p then some x else k.lines[i]? :=fun i=>by
  rw[List.getElem?_set]
  by_cases e:p=i
  ·subst e;simp[hp]
  ·rw[if_neg e,if_neg (fun q=>e q.symm)]
 by_cases c1:x.state≠0∧x.block=b
 ·rw[if_pos c1]
  exact(get_pos h').2 ⟨p,by show(k.lines.set p x)[p]? =_;rw[hg,if_pos rfl],c1.1,c1.2⟩
 ·rw[if_neg c1]
  by_cases c2:o.state≠0∧o.block=b
  ·rw[if_pos c2]
   cases hq:CacheS.get {k with lines:=k.lines.set p x} b with
   |none=>rfl
   |some l=>
    exfalso
    obtain⟨i,h1,h2,h3⟩:=(get_pos h').1 hq
    have h1:(k.lines.set p x)[i]? =some l:=h1
    rw[hg]at h1
    by_cases e:i=p
    ·rw[if_pos e]at h1;cases h1;exact c1 ⟨h2,h3⟩
    ·rw[if_neg e]at h1
     exact e (h.uq i p l o h1 ho h2 c2.1 (by rw[h3,c2.2]))
  ·rw[if_neg c2]
   cases hq:k.get b with
   |none=>
    cases hq':CacheS.get {k with lines:=k.lines.set p x} b with
    |none=>rfl
    |some l=>
     exfalso
     obtain⟨i,h1,h2,h3⟩:=(get_pos h').1 hq'
     have h1:(k.lines.set p x)[i]? =some l:=h1
     rw[hg]at h1
     by_cases e:i=p
     ·rw[if_pos e]at h1;cases h1;exact c1 ⟨h2,h3⟩
     ·rw[if_neg e]at h1
      have:=(get_pos h).2 ⟨i,h1,h2,h3⟩
      rw[hq]at this;cases this
   |some l=>
    obtain⟨i,h1,h2,h3⟩:=(get_pos h).1 hq
    refine(get_pos h').2 ⟨i,?_,h2,h3⟩
    show(k.lines.set p x)[i]? =some l
    rw[hg]
    by_cases e:i=p
    ·exfalso
     rw[e,ho]at h1;cases h1;exact c2 ⟨h2,h3⟩
    ·rw[if_neg e];exact h1
theorem touch_G {k:CacheS}(h:CaG k){b:Int}{j:Nat}(hj:j<k.w):CaG (k.touch b j):=by
 obtain⟨⟨a,c,d,e⟩,w,u⟩:=h
 refine⟨⟨a,c,by show(k.mm.set _ _).length=_;rw[List.length_set];exact d,fun m hm=>?_⟩,w,u⟩
 have hk:k.ok:=⟨a,c,d,e⟩
 have hm:m∈k.mm.set (k.sn b) (usM k.c.ways (j:Int) (k.m b)):=hm
 rcases List.mem_or_eq_of_mem_set hm with h1|rfl
 ·exact e m h1
 ·exact of_cl (show cl (memOk _)=true from cl_t (usM_ok (of_cl (vF_gu hk (b:=b) hj))))
theorem ix_at {k:CacheS}(h:CaG k){b:Int}{j:Nat}(hj:k.ix b=some j):j<k.w∧ ∃l,k.lines[k.lo b+j]? =some l∧l.state≠0∧l.block=b∧k.get b=some l∧k.line b=l∧mbI b=true:=by
 rcases ix_cases (k:=k) b with⟨_,e⟩|⟨_,_,e⟩|⟨j',hm,h2,e⟩
 ·rw[e]at hj;cases hj
 ·rw[e]at hj;cases hj
 ·rw[e]at hj;cases hj
  obtain⟨h5,l,h3,h4⟩:=fi_some h2
  unfold hasP at h4
  simp only[qa1,bne_iff_ne,ne_eq,beq_iff_eq]at h4
  have hg:k.get b=some l:=(get_pos h).2 ⟨_,h3,h4.1,h4.2⟩
  exact⟨h5,l,h3,h4.1,h4.2,hg,by unfold CacheS.line;rw[hg];rfl,hm⟩
theorem ix_none {k:CacheS}(h:CaG k){b:Int}(hj:k.ix b=none):k.get b=none:=by unfold CacheS.get;rw[hj];rfl
theorem line_get {k:CacheS}{b:Int}{l:LineS}(h:k.get b=some l):k.line b=l:=by unfold CacheS.line;rw[h];rfl
theorem use_G {k:CacheS}(h:CaG k)(b:Int):CaG (k.use b)∧ ∀b',(k.use b).get b'=k.get b':=by
 unfold CacheS.use
 cases hj:k.ix b with
 |none=>exact⟨h,fun _=>rfl⟩
 |some j=>exact⟨touch_G h (ix_at h hj).1,fun _=>rfl⟩
theorem drop_G {k:CacheS}(h:CaG k)(b:Int):CaG (k.drop b)∧ ∀b',(k.drop b).get b'=if b=b' then none else k.get b':=by
 unfold CacheS.drop
 cases hj:k.ix b with
 |none=>
  refine⟨h,fun b'=>?_⟩
  by_cases e:b=b'
  ·rw[if_pos e,←e];exact ix_none h hj
  ·rw[if_neg e]
 |some j=>
  obtain⟨h1,l,h2,h3,h4,_⟩:=ix_at h hj
  have hG:CaG {k with lines:=k.lines.set (k.lo b+j) ln0}:=set_G h (qx1.1 h2).1 (fun q=>absurd rfl q)
  refine⟨hG,fun b'=>(set_get h h2 hG b').trans ?_⟩
  rw[if_neg (fun q=>q.1 rfl)]
  by_cases e:b=b'
  ·rw[if_pos e,if_pos ⟨h3,by rw[h4,e]⟩]
  ·rw[if_neg e,if_neg (fun q=>e (by rw[←h4,q.2]))]
theorem upd_G {k:CacheS}(h:CaG k){b:Int}{j:Nat}(hj:k.ix b=some j){x:LineS}(hx:x.block=b):CaG (k.setL b j x)∧(x.state≠0→ ∀b',(k.setL b j x).get b'=if b=b' then some x else k.get b'):=by
 obtain⟨h1,l,h2,h3,h4,_⟩:=ix_at h hj
 obtain⟨w1,w2,w3⟩:=h.wf _ l h2 h3
 have hG:CaG {k with lines:=k.lines.set (k.lo b+j) x}:=set_G h (qx1.1 h2).1 (fun q=>by
  have e:x.block=l.block:=by rw[hx,h4]
  rw[e]
  exact⟨w1,w2,w3,fun i m hi hm hb=>h.uq _ _ _ _ hi h2 hm h3 hb⟩)
 refine⟨hG,fun hs b'=>(set_get h h2 hG b').trans ?_⟩
 by_cases e:b=b'
 ·rw[if_pos e,if_pos ⟨hs,by rw[hx,e]⟩]
 ·rw[if_neg e,if_neg (fun q=>e (by rw[←hx,q.2])),if_neg (fun q=>e (by rw[←h4,q.2]))]
def LineS.wr (l:LineS)(w x:Int):LineS:={l with data:=l.data.put w.toNat x,state:=3}
theorem write_G {k:CacheS}(h:CaG k){b w x:Int}{l:LineS}(hg:k.get b=some l)(hs:l.state≠1)(h0:0≤w)(h1:w<16):CaG (k.write b w x)∧ ∀b',(k.write b w x).get b'=if b=b' then some (l.wr w x)else k.get b':=by
 cases hj:k.ix b with
 |none=>rw[ix_none h hj]at hg;cases hg
 |some j=>
  obtain⟨g1,l',g2,g3,g4,g5,g6,_⟩:=ix_at h hj
  rw[hg]at g5;cases g5
  have e:k.write b w x=(k.setL b j (l.wr w x)).touch b j:=by
   unfold CacheS.write
   rw[hj]
   dsimp only
   rw[qd2 (show¬w<0 by omega),qd2 (show¬w≥16 by omega),g6,beq_eq_false_iff_ne.mpr hs]
   rfl
  obtain⟨a1,a2⟩:=upd_G h hj (x:=l.wr w x) g4
  rw[e]
  exact⟨touch_G a1 g1,fun b'=>a2 (by show(3:Int)≠0;decide) b'⟩
theorem fr_at {k:CacheS}{b:Int}{j:Nat}(h:k.fr b=some j):j<k.w∧ ∃l,k.lines[k.lo b+j]? =some l∧l.state=0:=by
 obtain⟨h1,l,h2,h3⟩:=fr_some h
 exact⟨h1,l,h2,by simpa[freP]using h3⟩
theorem put_G {k:CacheS}(h:CaG k){x:LineS}(hx:linOk x=true)(hp:(k.putJ x.block).isSome=true):k.putE x=0∧CaG (k.put x)∧ ∀b',(k.put x).get b'=if x.block=b' then some x else k.get b':=by
 have hs:x.state≠0:=by
  unfold linOk at hx
  simp only[qa1,Bool.not_eq_true',decide_eq_false_iff_not]at hx
  omega
 have hmb:mbI x.block=true:=(andE hx).1
 obtain⟨j,hj⟩:=Option.isSome_iff_exists.1 hp
 have e:k.put x=(k.setL x.block j x).touch x.block j:=by
  unfold CacheS.put
  rw[hx,hj];rfl
 refine⟨by unfold CacheS.putE;rw[hx,hj];rfl,?_⟩
 rw[e]
 cases hi:k.ix x.block with
 |some j'=>
  have:j'=j:=by
   unfold CacheS.putJ at hj
   rw[hi]at hj;exact Option.some.inj hj
  subst this
  obtain⟨a1,a2⟩:=upd_G h hi (x:=x) rfl
  exact⟨touch_G a1 (ix_at h hi).1,fun b'=>a2 hs b'⟩
 |none=>
  have hf:k.fr x.block=some j:=by
   unfold CacheS.putJ at hj
   rw[hi]at hj;exact hj
  obtain⟨g1,l,g2,g3⟩:=fr_at hf
  have hn:=ix_none h hi
  have hG:CaG {k with lines:=k.lines.set (k.lo x.block+j) x}:=set_G h (qx1.1 g2).1 (fun _=>⟨hmb,by omega,by omega,fun i m h4 h5 h6=>by
   have:=(get_pos h).2 ⟨i,h4,h5,h6⟩
   rw[hn]at this;cases this⟩)
  refine⟨touch_G hG g1,fun b'=>(set_get h g2 hG b').trans ?_⟩
  by_cases c:x.block=b'
  ·rw[if_pos c,if_pos ⟨hs,c⟩]
  ·rw[if_neg c,if_neg (fun q=>c q.2),if_neg (fun q=>q.1 g3)]
theorem goes_none {k:CacheS}{b:Int}(hm:mbI b=true)(hg:k.goes b=none)(hk:k.ok):(k.putJ b).isSome=true:=by
 unfold CacheS.goes at hg
 rw[hm]at hg
 unfold CacheS.putJ CacheS.ix
 rw[hm]
 cases hf:k.fi b with
 |some j=>rfl
 |none=>
  rw[hf]at hg
  cases hr:k.fr b with
  |some j=>rfl
  |none=>
   rw[hr]at hg
   simp only[cond_true]at hg
   obtain⟨j,e1,e2,l,h2⟩:=gn_bd hk b
   rw[e1,Int.toNat_natCast,h2]at hg
   cases hg
theorem goes_line {k:CacheS}(h:CaG k){b:Int}{l:LineS}(hg:k.goes b=some l):k.get l.block=some l∧k.get b=none∧((k.drop l.block).putJ b).isSome=true:=by
 obtain⟨s1,s2,s3,s4⟩:=goes_some h.ok h.wf hg
 have hgb:k.get b=none:=by
  have:=is_get k h b
  rw[s3]at this
  cases hq:k.get b with
  |none=>rfl
  |some x=>rw[hq]at this;cases this
 have hmb:mbI b=true:=by
  unfold CacheS.goes at hg
  cases hm:mbI b with
  |true=>rfl
  |false=>rw[hm]at hg;cases hg
 obtain⟨j,e1,e2,l2,h2⟩:=gn_bd h.ok b
 have hl:k.lines[k.lo b+j]? =some l:=by
  unfold CacheS.goes at hg
  rw[hmb]at hg
  cases hf:k.fi b with
  |some j'=>rw[hf]at hg;cases hg
  |none=>
   rw[hf]at hg
   cases hr:k.fr b with
   |some j'=>rw[hr]at hg;cases hg
   |none=>
    rw[hr]at hg
    simp only[cond_true]at hg
    rw[e1,Int.toNat_natCast]at hg
    exact hg
 have hgl:k.get l.block=some l:=(get_pos h).2 ⟨_,hl,s1,rfl⟩
 refine⟨hgl,hgb,?_⟩
 cases hi:k.ix l.block with
 |none=>rw[ix_none h hi]at hgl;cases hgl
 |some j'=>
  obtain⟨_,l3,h3,h4,h5,_⟩:=ix_at h hi
  have hpos:=h.uq _ _ _ _ h3 hl h4 s1 h5
  have hd:k.drop l.block=k.setL l.block j' ln0:=by unfold CacheS.drop;rw[hi]
  rw[hd]
  unfold CacheS.putJ
  cases(k.setL l.block j' ln0).ix b with
  |some _=>rfl
  |none=>
   show((k.setL l.block j' ln0).fr b).isSome=true
   have hp:=(qx1.1 hl).1
   refine ixFrom_isSome (x:=ln0) (s:=0) (seg_mem (j:=j) e2 ?_) rfl
   show(k.lines.set (k.lo l.block+j') ln0)[k.lo b+j]? =some ln0
   rw[hpos,List.getElem?_set]
   simp[hp]
theorem putI_get {ws:List Int}{p:Nat}{x:Int}(hp:p<ws.length)(q:Nat):(putI ws p [x])[q]? =if p=q then some x else ws[q]? :=by
 unfold putI
 have hl:(ws.take p).length=p:=by rw[List.length_take];omega
 by_cases e:p=q
 ·subst e
  rw[if_pos rfl,List.append_assoc,qx3 (by omega),hl,Nat.sub_self];rfl
 ·rw[if_neg e]
  by_cases h:q<p
  ·rw[List.append_assoc,qx4 (by omega),List.getElem?_take,if_pos h]
  ·rw[List.append_assoc,qx3 (by omega),hl,qx3 (by simp only[List.length_cons,List.length_nil];omega),List.getElem?_drop]
   congr 1
   simp only[List.length_cons,List.length_nil]
   omega
theorem at_set1 {m:MemS}(h:m.ok){p:Nat}(hp:p<m.n*16)(x:Int)(q:Nat):(m.set1 p x).at q=if p=q then x else m.at q:=by
 unfold MemS.set1 MemS.at
 dsimp only
 rw[putI_get (by rw[h.1];exact hp)]
 by_cases e:p=q
 ·rw[if_pos e,if_pos e];rfl
 ·rw[if_neg e,if_neg e]
theorem at_log2 {m:MemS}(h:m.ok){p:Nat}(hp:p+1<m.n*16)(a o:Int)(q:Nat):(m.log2 p a o).at q=if p+1=q then o else if p=q then a else m.at q:=by
 unfold MemS.log2
 rw[at_set1 (set1_ok h (by omega)) hp,at_set1 h (by omega)]
theorem lg_in2 {c:Cfg}{first room many:Int}{m:MemS}(h:LogP c first room m)(hm:0≤many)(hm2:many<room):lgPos first many+1<m.n*16:=(lg_in h (j:=1) hm hm2 (by omega)).2.2
theorem ent_log2 {c:Cfg}{first room many:Int}{m:MemS}(h:LogP c first room m)(hm:0≤many)(hm2:many<room)(a o:Int){i:Int}(hi:0≤i)(hi2:i≤many):
 (m.log2 (lgPos first many) a o).ent first i=if i=many then(a,o)else m.ent first i:=by
 have hp:=lg_in2 h hm hm2
 unfold MemS.ent
 rw[at_log2 h.ok hp,at_log2 h.ok hp]
 by_cases e:i=many
 ·subst e
  rw[if_pos rfl,if_neg (by omega),if_pos rfl,if_pos rfl]
 ·rw[if_neg e]
  have h1:lgPos first i+2≤lgPos first many:=by unfold lgPos;omega
  rw[if_neg (by omega),if_neg (by omega),if_neg (by omega),if_neg (by omega)]
structure DeP (d:DealS):Prop where
 d0:0≤d.depth
 d1:d.depth≤d.nest
 n8:d.nest≤8
 fa:d.failing=true→1≤d.depth
theorem de_failed {d:DealS}(h:DeP d)(c:Int):DeP (d.failed c):=by
 unfold DealS.failed
 cases hd:d.depth==0 with
 |true=>exact h
 |false=>
  cases hf:d.failing with
  |true=>exact h
  |false=>
   have h0:d.depth≠0:=by simpa using hd
   have h1:=h.d0
   exact⟨h.d0,h.d1,h.n8,fun _=>by show 1≤d.depth;omega⟩
theorem de_begun {d:DealS}(h:DeP d){s:W16}{p st:Int}:DeP (d.begun s p st):=by
 unfold DealS.begun
 cases st==0
 case true=>exact h
 cases hf:d.failing
 case true=>exact h
 cases hn:d.depth==d.nest
 case true=>exact h
 have hne:d.depth≠d.nest:=by simpa using hn
 have h0:=h.d0
 have h1:=h.d1
 have h2:=h.n8
 have hw:IntKind.i64.wrap (d.depth+1)=d.depth+1:=wrap_id _ (by omega)
 rw[hw]
 cases d.depth==0
 ·exact⟨by show 0≤d.depth+1;omega,by show d.depth+1≤d.nest;omega,h2,fun q=>by cases q⟩
 ·exact⟨by show 0≤d.depth+1;omega,by show d.depth+1≤d.nest;omega,h2,fun q=>by cases q⟩
theorem de_ended {d:DealS}(h:DeP d):DeP d.ended:=by
 unfold DealS.ended
 cases hd:d.depth==0
 case true=>exact h
 cases hf:d.failing
 case true=>exact h
 have hne:d.depth≠0:=by simpa using hd
 have h0:=h.d0
 have h1:=h.d1
 have h2:=h.n8
 have hw:IntKind.i64.wrap (d.depth-1)=d.depth-1:=wrap_id _ (by omega)
 rw[hw]
 cases decide (d.depth-1>0)
 ·exact⟨by show 0≤d.depth-1;omega,by show d.depth-1≤d.nest;omega,h2,fun q=>by cases q⟩
 ·exact⟨by show 0≤d.depth-1;omega,by show d.depth-1≤d.nest;omega,h2,fun q=>by cases q⟩
theorem de_over {d:DealS}(h:DeP d):DeP d.over:=by
 unfold DealS.over
 have h0:=h.d0
 have h1:=h.d1
 cases d.failing
 ·exact h
 ·exact⟨by show(0:Int)≤0;omega,by show 0≤d.nest;omega,h.n8,fun q=>by cases q⟩
structure KInv (k:CoT):Prop where
 pl:planOk k.c=true
 cc:k.ne.c=k.c
 g:CaG k.ne.ca
 ba:k.ne.ba.ok
 bd:k.ne.ba.data=dataP k.c
 mo:k.me.ok
 lg:LogP k.c k.lf k.lr k.me
 m0:0≤k.lm
 m1:k.lm≤k.lr
 lf:dataP k.c≤k.lf
 en: ∀i,0≤i→i<k.lm→whE k.c (k.me.ent k.lf i).1=0∧0≤(k.me.ent k.lf i).1∧(k.me.ent k.lf i).1<4294967296
 de:DeP k.ne.de
 pr: ∀i∈k.prog,cmay i.op i.a i.b i.c i.n=true
 pn:k.prog.length≤1024
theorem KInv.mp {k:CoT}(h:KInv k)(h1:k.hal=false)(h2:k.ne.waits=false):MemP k:=⟨h1,h.g.ok,h.g.wf,h.ba,h2,h.cc,h.pl,h.lg,h.m0,h.m1⟩
theorem KInv.sp {k:CoT}(h:KInv k)(h1:k.hal=false)(h2:k.ne.waits=false){st:Int}(hs:st≠0):StepP k st:=by
 refine⟨h.mp h1 h2,hs,fun hf=>⟨h.mp h1 h2,hf,fun hm=>?_⟩,fun hf=>⟨h.mp h1 h2,hf,hs,?_,h.pr,h.pn⟩⟩
 ·have:=h.m0
  exact h.en (k.lm-1) (by omega) (by omega)
 ·have:=h.de.d1
  have:=h.de.n8
  omega
theorem KInv.de' {k:CoT}(h:KInv k){d:DealS}(hd:DeP d):KInv (k.setD d):=⟨h.pl,h.cc,h.g,h.ba,h.bd,h.mo,h.lg,h.m0,h.m1,h.lf,h.en,hd,h.pr,h.pn⟩
theorem KInv.fails {k:CoT}(h:KInv k)(w:Int):KInv (k.fails w).1:=h.de' (de_failed h.de w)
theorem KInv.regs {k:CoT}(h:KInv k)(r:W16)(a n:Int)(hl:Bool)(f:Int):KInv {k with r:=r,at_:=a,count:=n,hal:=hl,fl:=f}:=⟨h.pl,h.cc,h.g,h.ba,h.bd,h.mo,h.lg,h.m0,h.m1,h.lf,h.en,h.de,h.pr,h.pn⟩
theorem KInv.put {k:CoT}(h:KInv k)(a x:Int):KInv (k.put a x):=h.regs _ k.at_ k.count k.hal k.fl
theorem KInv.clr {k:CoT}(h:KInv k){d:DealS}(hd:DeP d){m:MarksS}:KInv {k with ne:={k.ne with de:=d,ma:=m},lm:=0}:=⟨h.pl,h.cc,h.g,h.ba,h.bd,h.mo,h.lg,by show(0:Int)≤0;omega,h.lg.r,h.lf,fun i h0 h1=>by have h1:i<0:=h1;omega,hd,h.pr,h.pn⟩
theorem KInv.ca' {k:CoT}(h:KInv k){ca:CacheS}(hg:CaG ca)(m:MarksS):KInv {k with ne:={k.ne with ca:=ca,ma:=m}}:=⟨h.pl,h.cc,hg,h.ba,h.bd,h.mo,h.lg,h.m0,h.m1,h.lf,h.en,h.de,h.pr,h.pn⟩
theorem KInv.loaded {k:CoT}(h:KInv k)(ad:Int):KInv (k.loaded ad):=h.ca' (use_G h.g _).1 _
theorem KInv.log {k:CoT}(h:KInv k){ad o:Int}(hf:(k.lm==k.lr)=false)(he:whE k.c ad=0)(h0:0≤ad)(h1:ad<4294967296){ca:CacheS}(hg:CaG ca)(m:MarksS):
 KInv {k with ne:={k.ne with ca:=ca,ma:=m},lm:=k.lm+1,me:=k.me.log2 (lgPos k.lf k.lm) ad o}:=by
 have hm0:=h.m0
 have hm1:=h.m1
 have hne:k.lm≠k.lr:=by simpa using hf
 have hp:=lg_in2 h.lg hm0 (show k.lm<k.lr by omega)
 have ho:(k.me.log2 (lgPos k.lf k.lm) ad o).ok:=log2_ok h.mo hp
 refine⟨h.pl,h.cc,hg,h.ba,h.bd,ho,⟨ho,h.lg.f,h.lg.r,h.lg.r32,h.lg.fits⟩,by show 0≤k.lm+1;omega,by show k.lm+1≤k.lr;omega,h.lf,fun i i0 i1=>?_,h.de,h.pr,h.pn⟩
 have i1:i<k.lm+1:=i1
 show whE k.c ((k.me.log2 (lgPos k.lf k.lm) ad o).ent k.lf i).1=0∧0≤((k.me.log2 (lgPos k.lf k.lm) ad o).ent k.lf i).1∧((k.me.log2 (lgPos k.lf k.lm) ad o).ent k.lf i).1<4294967296
 rw[ent_log2 h.lg hm0 (by omega) ad o i0 (by omega)]
 by_cases e:i=k.lm
 ·rw[if_pos e];exact⟨he,h0,h1⟩
 ·rw[if_neg e];exact h.en i i0 (by omega)
structure Eff (k k':CoT):Prop where
 sm:SameC k k'
 ba:k'.ne.ba=k.ne.ba
 wt:k'.ne.waits=k.ne.waits
 mn:k'.me.n=k.me.n
 ln: ∀b l',k'.ne.ca.get b=some l'→ ∃l,k.ne.ca.get b=some l∧(l'.state=l.state∨l'.state=3)
theorem eff_of {k k':CoT}(sm:SameC k k')(h1:k'.ne.ca=k.ne.ca)(h2:k'.ne.ba=k.ne.ba)(h3:k'.ne.waits=k.ne.waits)(h4:k'.me.n=k.me.n):Eff k k':=⟨sm,h2,h3,h4,fun b l' h=>⟨l',by rw[←h1];exact h,.inl rfl⟩⟩
theorem Eff.tr {a b c:CoT}(h:Eff a b)(g:Eff b c):Eff a c:=⟨h.sm.tr g.sm,g.ba.trans h.ba,g.wt.trans h.wt,g.mn.trans h.mn,fun x l' hl=>by
 obtain⟨l,h1,h2⟩:=g.ln x l' hl
 obtain⟨l0,h3,h4⟩:=h.ln x l h1
 refine⟨l0,h3,?_⟩
 rcases h2 with h2|h2
 ·rcases h4 with h4|h4
  ·exact .inl (h2.trans h4)
  ·exact .inr (h2.trans h4)
 ·exact .inr h2⟩
structure Res (k:CoT)(p:CoT×EvS):Prop where
 inv:KInv p.1
 eff:Eff k p.1
 kd:p.2.kind≠0
 co:p.2.core=k.id
theorem Res.tr {a b:CoT}{p:CoT×EvS}(h:Eff a b)(g:Res b p):Res a p:=⟨g.inv,h.tr g.eff,g.kd,g.co.trans h.sm.id⟩
theorem res_fails {k:CoT}(h:KInv k)(w:Int):Res k (k.fails w):=⟨h.fails w,eff_of (sm_fails k w) rfl rfl rfl rfl,by show(5:Int)≠0;decide,rfl⟩
theorem res_faults {k:CoT}(h:KInv k)(w:Int):Res k (k.faults w):=by
 have hx:k.faults w=cond k.opn (k.fails (fCause w)) ({k with hal:=true,fl:=w},k.ev 11 0 w):=rfl
 rw[hx]
 cases k.opn
 ·exact⟨h.regs k.r k.at_ k.count true w,eff_of ⟨rfl,rfl,rfl,rfl,rfl⟩ rfl rfl rfl rfl,by show(11:Int)≠0;decide,rfl⟩
 ·exact res_fails h _
theorem res_counted {k:CoT}(h:KInv k):Res k k.counted:=by
 have hx:k.counted=cond k.opn ({k with count:=IntKind.i64.wrap (k.count+1)},k.ev 3 0 0) (k,k.ev 1 0 0):=rfl
 rw[hx]
 cases k.opn
 ·exact⟨h,eff_of ⟨rfl,rfl,rfl,rfl,rfl⟩ rfl rfl rfl rfl,by show(1:Int)≠0;decide,rfl⟩
 ·exact⟨h.regs k.r k.at_ _ k.hal k.fl,eff_of ⟨rfl,rfl,rfl,rfl,rfl⟩ rfl rfl rfl rfl,by show(3:Int)≠0;decide,rfl⟩
theorem res_done {k:CoT}(h:KInv k):Res k k.done:=Res.tr (b:=k.next) (eff_of ⟨rfl,rfl,rfl,rfl,rfl⟩ rfl rfl rfl rfl) (res_counted (h.regs k.r _ k.count k.hal k.fl))
theorem res_stepped {k:CoT}(h:KInv k)(i:CodeS):Res k (k.stepped i):=Res.tr (b:={k with r:=doR k.r i.op i.a i.b i.c i.n,at_:=doA k.r k.at_ i.op i.a i.b i.n}) (eff_of ⟨rfl,rfl,rfl,rfl,rfl⟩ rfl rfl rfl rfl) (res_counted (h.regs _ _ k.count k.hal k.fl))
theorem res_halt {k:CoT}(h:KInv k):Res k k.haltR:=by
 have hx:k.haltR=cond k.opn (k.faults 2) ({k with hal:=true},k.ev 10 0 0):=rfl
 rw[hx]
 cases k.opn
 ·exact⟨h.regs k.r k.at_ k.count true k.fl,eff_of ⟨rfl,rfl,rfl,rfl,rfl⟩ rfl rfl rfl rfl,by show(10:Int)≠0;decide,rfl⟩
 ·exact res_faults h 2
theorem res_begin {k:CoT}(h:KInv k)(n st:Int):Res k (k.beginR n st):=by
 have hb:KInv (k.begun n st):=h.de' (de_begun h.de)
 have he:Eff k (k.begun n st):=eff_of ⟨rfl,rfl,rfl,rfl,rfl⟩ rfl rfl rfl rfl
 have hx:k.beginR n st=cond (k.ne.de.beginE st==0) (cond k.opn (k.begun n st).done ({(k.begun n st).next with count:=1},k.ev 2 0 0)) (k.fails 4):=rfl
 rw[hx]
 cases k.ne.de.beginE st==0
 ·exact res_fails h 4
 cases k.opn
 ·exact⟨hb.regs _ _ _ _ _,he.tr (eff_of ⟨rfl,rfl,rfl,rfl,rfl⟩ rfl rfl rfl rfl),by show(2:Int)≠0;decide,rfl⟩
 ·exact Res.tr he (res_done hb)
theorem res_end {k:CoT}(h:KInv k):Res k k.endR:=by
 have hx:k.endR=cond (k.ne.de.endE==0) (cond k.ne.de.endC (k.committed.next,k.ev 4 (IntKind.i64.wrap (k.count+1)) 0) (k.setD k.ne.de.ended).done) (k.faults 3):=rfl
 rw[hx]
 cases k.ne.de.endE==0
 ·exact res_faults h 3
 cases k.ne.de.endC
 ·exact Res.tr (b:=k.setD k.ne.de.ended) (eff_of ⟨rfl,rfl,rfl,rfl,rfl⟩ rfl rfl rfl rfl) (res_done (h.de' (de_ended h.de)))
 ·exact⟨(h.clr (de_ended h.de)).regs _ _ _ _ _,eff_of ⟨rfl,rfl,rfl,rfl,rfl⟩ rfl rfl rfl rfl,by show(4:Int)≠0;decide,rfl⟩
theorem res_abort {k:CoT}(h:KInv k)(n:Int):Res k (k.abortR n):=by
 have hx:k.abortR n=cond k.opn (k.fails (abCause n)) k.done:=rfl
 rw[hx]
 cases k.opn
 ·exact res_done h
 ·exact res_fails h _
theorem res_test {k:CoT}(h:KInv k)(a:Int):Res k (k.testR a):=Res.tr (b:=k.put a (cond k.opn 1 0)) (eff_of ⟨rfl,rfl,rfl,rfl,rfl⟩ rfl rfl rfl rfl) (res_done (h.put a _))
theorem res_put {k:CoT}(h:KInv k)(a x:Int):Res k (k.put a x).done:=Res.tr (b:=k.put a x) (eff_of ⟨rfl,rfl,rfl,rfl,rfl⟩ rfl rfl rfl rfl) (res_done (h.put a x))
theorem hit_get {k:NearS}(h:CaG k.ca){b:Int}{wr:Bool}(hh:k.hit b wr=true): ∃l,k.ca.get b=some l∧(wr=true→l.state≠1):=by
 unfold NearS.hit at hh
 obtain⟨h1,h2⟩:=andE hh
 rw[is_get _ h]at h1
 obtain⟨l,hl⟩:=Option.isSome_iff_exists.1 h1
 refine⟨l,hl,fun hw=>?_⟩
 rw[hw,line_get hl]at h2
 simpa using h2
theorem eff_stored {k:CoT}(h:KInv k){ad x:Int}{l:LineS}(hg:k.ne.ca.get (whB k.c ad)=some l)(hs:l.state≠1)(w0:0≤whW k.c ad)(w1:whW k.c ad<16)(hf:k.full=false)(he:whE k.c ad=0)(a0:0≤ad)(a1:ad<4294967296):KInv (k.stored ad x)∧Eff k (k.stored ad x):=by
 obtain⟨g1,g2⟩:=write_G h.g (x:=x) hg hs w0 w1
 have hln: ∀b l',(k.ne.ca.write (whB k.c ad) (whW k.c ad) x).get b=some l'→ ∃l,k.ne.ca.get b=some l∧(l'.state=l.state∨l'.state=3):=fun b l' hl=>by
  rw[g2]at hl
  by_cases e:whB k.c ad=b
  ·rw[if_pos e]at hl;cases hl
   exact⟨l,by rw[←e];exact hg,.inr rfl⟩
  ·rw[if_neg e]at hl
   exact⟨l',hl,.inl rfl⟩
 cases ho:k.opn with
 |false=>
  rw[stored_f ho]
  exact⟨h.ca' g1 _,⟨⟨rfl,rfl,rfl,rfl,rfl⟩,rfl,rfl,rfl,hln⟩⟩
 |true=>
  rw[full_t ho]at hf
  rw[stored_t ho]
  exact⟨h.log hf he a0 a1 g1 _,⟨⟨rfl,rfl,rfl,rfl,rfl⟩,rfl,rfl,rfl,hln⟩⟩
theorem eff_loaded {k:CoT}(h:KInv k)(ad:Int):KInv (k.loaded ad)∧Eff k (k.loaded ad):=
 ⟨h.loaded ad,⟨⟨rfl,rfl,rfl,rfl,rfl⟩,rfl,rfl,rfl,fun b l' hl=>⟨l',by rw[←(use_G h.g _).2];exact hl,.inl rfl⟩⟩⟩
theorem res_gets {k:CoT}(h:KInv k){i:CodeS}(ho:i.op=9∨i.op=10∨i.op=11)(he:whE k.c (k.addr i)=0)(hh:k.ne.hit (whB k.c (k.addr i)) (i.op !=9)=true):Res k (k.getsR i (k.addr i)):=by
 obtain⟨l,hg,hs⟩:=hit_get h.g hh
 obtain⟨_,_,w0,w1⟩:=wh_ok h.pl (wrap32b (getR k.r i.b+IntKind.u32.wrap i.n)).1 (wrap32b (getR k.r i.b+IntKind.u32.wrap i.n)).2 he
 have a0:0≤k.addr i:=(wrap32b _).1
 have a1:k.addr i<4294967296:=(wrap32b _).2
 have w0:0≤whW k.c (k.addr i):=w0
 have w1:whW k.c (k.addr i)<16:=w1
 generalize k.addr i=ad at *
 have hL:Res k ((k.loaded ad).put i.a (k.was ad)).done:=Res.tr (eff_loaded h ad).2 (res_put (eff_loaded h ad).1 _ _)
 have hx:k.getsR i ad=cond (i.op==10) (cond k.full (k.fails 3) (k.stored ad (getR k.r i.a)).done) (cond (i.op==11&&(k.was ad==getR k.r i.a)) (cond k.full (k.fails 3) ((k.stored ad (getR k.r i.c)).put i.a (k.was ad)).done) ((k.loaded ad).put i.a (k.was ad)).done):=rfl
 rw[hx]
 rcases ho with e|e|e<;>rw[e]
 ·exact hL
 ·show Res k (cond k.full (k.fails 3) (k.stored ad (getR k.r i.a)).done)
  cases hf:k.full
  ·obtain⟨s1,s2⟩:=eff_stored h (x:=getR k.r i.a) hg (hs (by rw[e];rfl)) w0 w1 hf he a0 a1
   exact Res.tr s2 (res_done s1)
  ·exact res_fails h 3
 ·show Res k (cond (k.was ad==getR k.r i.a) (cond k.full (k.fails 3) ((k.stored ad (getR k.r i.c)).put i.a (k.was ad)).done) ((k.loaded ad).put i.a (k.was ad)).done)
  cases k.was ad==getR k.r i.a
  ·exact hL
  ·cases hf:k.full
   ·obtain⟨s1,s2⟩:=eff_stored h (x:=getR k.r i.c) hg (hs (by rw[e];rfl)) w0 w1 hf he a0 a1
    exact Res.tr s2 (res_put s1 _ _)
   ·exact res_fails h 3
theorem res_over {k:CoT}(h:KInv k)(hm:(k.lm==0)=true):Res k k.overR:=by
 have hm:=eq_of_beq hm
 refine⟨?_,eff_of ⟨rfl,rfl,rfl,rfl,rfl⟩ rfl rfl rfl rfl,by show(7:Int)≠0;decide,rfl⟩
 exact⟨h.pl,h.cc,h.g,h.ba,h.bd,h.mo,h.lg,h.m0,h.m1,h.lf,h.en,de_over h.de,h.pr,h.pn⟩
theorem res_undone {k:CoT}(h:KInv k)(hm:(k.lm==0)=false)(hh:k.ne.hit (whB k.c k.uA) true=true):Res k (k.undone,k.ev 6 0 0):=by
 obtain⟨l,hg,hs⟩:=hit_get h.g hh
 have hne:k.lm≠0:=by simpa using hm
 have hm0:=h.m0
 have hm1:=h.m1
 obtain⟨e,u0,u1⟩:=h.en (k.lm-1) (by omega) (by omega)
 obtain⟨_,_,w0,w1⟩:=wh_ok h.pl u0 u1 e
 have w0:0≤whW k.c k.uA:=w0
 have w1:whW k.c k.uA<16:=w1
 obtain⟨g1,g2⟩:=write_G h.g (x:=k.uO) hg (hs rfl) w0 w1
 refine⟨⟨h.pl,h.cc,g1,h.ba,h.bd,h.mo,h.lg,by show 0≤k.lm-1;omega,by show k.lm-1≤k.lr;omega,h.lf,fun i i0 i1=>h.en i i0 (by have i1:i<k.lm-1:=i1;omega),h.de,h.pr,h.pn⟩,⟨⟨rfl,rfl,rfl,rfl,rfl⟩,rfl,rfl,rfl,fun b l' hl=>?_⟩,by show(6:Int)≠0;decide,rfl⟩
 have hl:(k.ne.ca.write (whB k.c k.uA) (whW k.c k.uA) k.uO).get b=some l':=hl
 rw[g2]at hl
 by_cases e:whB k.c k.uA=b
 ·rw[if_pos e]at hl;cases hl
  exact⟨l,by rw[←e];exact hg,.inr rfl⟩
 ·rw[if_neg e]at hl
  exact⟨l',hl,.inl rfl⟩
def CoT.wants (k:CoT):Option (Int×Bool):=cond k.ne.de.failing (cond (k.lm==0) none (some (whB k.c k.uA,true))) (match k.code with
 |none=>none
 |some i=>cond (i.op==9||(i.op==10||i.op==11)) (cond (whE k.c (k.addr i)==0) (some (whB k.c (k.addr i),i.op !=9)) none) none)
def askW (k:CoT)(b:Int)(wr:Bool):WkR:=cond ((k.ne.askR b wr).2.2.1==0) (k.setN (k.ne.askR b wr).2.2.2,(k.ne.askR b wr).2.1,k.ev 8 0 0,0) (k,[],ev0,110)
theorem ask_hit {k:NearS}{b:Int}{wr:Bool}(h:k.hit b wr=true):k.askR b wr=(true,[],0,k):=by unfold NearS.askR;rw[h];rfl
theorem ask_miss {k:NearS}{b:Int}{wr:Bool}(h:k.hit b wr=false):(k.askR b wr).1=false:=by
 rcases askR_cases (k:=k) (b:=b) (wr:=wr)with⟨_,h1⟩|h1|⟨n,l,k',h1,_⟩
 ·rw[h]at h1;cases h1
 ·rw[h1]
 ·rw[h1]
theorem work_do {k:CoT}(h:KInv k)(st:Int):match k.wants with
 |none=> ∃p,k.workR st=one p∧Res k p
 |some (b,wr)=>0≤b∧b<dataP k.c∧((k.ne.hit b wr=true∧ ∃p,k.workR st=one p∧Res k p)∨(k.ne.hit b wr=false∧k.workR st=askW k b wr)):=by
 unfold CoT.wants CoT.workR
 cases hf:k.ne.de.failing with
 |true=>
  have hx:k.undoR=cond (k.lm==0) (one k.overR) (cond (k.ne.askR (whB k.c k.uA) true).1 (one (k.undone,k.ev 6 0 0)) (askW k (whB k.c k.uA) true)):=rfl
  cases hm:k.lm==0 with
  |true=>exact⟨k.overR,by show k.undoR=_;rw[hx,hm];rfl,res_over h hm⟩
  |false=>
   have hne:k.lm≠0:=by simpa using hm
   have hm0:=h.m0
   obtain⟨e,u0,u1⟩:=h.en (k.lm-1) (by omega) (by omega)
   obtain⟨b0,b1,_,_⟩:=wh_ok h.pl u0 u1 e
   refine⟨b0,b1,?_⟩
   rcases hit_or k.ne (whB k.c k.uA) true with hh|hh
   ·exact .inl ⟨hh,(k.undone,k.ev 6 0 0),by show k.undoR=_;rw[hx,hm,ask_hit hh];rfl,res_undone h hm hh⟩
   ·exact .inr ⟨hh,by show k.undoR=_;rw[hx,hm,ask_miss hh];rfl⟩
 |false=>
  show match(match k.code with
   |none=>none
   |some i=>cond (i.op==9||(i.op==10||i.op==11)) (cond (whE k.c (k.addr i)==0) (some (whB k.c (k.addr i),i.op !=9)) none) none)with
   |none=> ∃p,k.instR st=one p∧Res k p
   |some (b,wr)=>0≤b∧b<dataP k.c∧((k.ne.hit b wr=true∧ ∃p,k.instR st=one p∧Res k p)∨(k.ne.hit b wr=false∧k.instR st=askW k b wr))
  cases hc:k.code with
  |none=>exact⟨k.faults 1,by unfold CoT.instR;rw[hc],res_faults h 1⟩
  |some i=>
   have hi:=code_instR (st:=st) hc
   have hcm:=h.pr i (at_p hc).m
   have hop:k.opR i st=cond (plainOp i.op) (one (k.stepped i)) (cond (i.op==0) (one k.haltR) (cond (i.op==17) (one (k.beginR i.n st)) (cond (i.op==18) (one k.endR) (cond (i.op==19) (one (k.abortR i.n)) (cond (i.op==20) (one (k.testR i.a)) (k.memoR i)))))):=rfl
   have hmem:i.op=9∨i.op=10∨i.op=11→match(cond (whE k.c (k.addr i)==0) (some (whB k.c (k.addr i),i.op !=9)) none:Option (Int×Bool))with
    |none=> ∃p,k.instR st=one p∧Res k p
    |some (b,wr)=>0≤b∧b<dataP k.c∧((k.ne.hit b wr=true∧ ∃p,k.instR st=one p∧Res k p)∨(k.ne.hit b wr=false∧k.instR st=askW k b wr)):=fun h9=>by
    have hm:k.instR st=k.memoR i:=by rw[hi,hop];rcases h9 with e|e|e<;>rw[e]<;>rfl
    rw[hm]
    have hx:k.memoR i=cond (whE k.c (k.addr i)==0) (cond (k.ne.askR (whB k.c (k.addr i)) (i.op !=9)).1 (one (k.getsR i (k.addr i))) (askW k (whB k.c (k.addr i)) (i.op !=9))) (one (k.faults (fltOf (whE k.c (k.addr i))))):=rfl
    rw[hx]
    cases he:whE k.c (k.addr i)==0 with
    |false=>exact⟨_,rfl,res_faults h _⟩
    |true=>
     have he':=eq_of_beq he
     obtain⟨b0,b1,_,_⟩:=wh_ok h.pl (wrap32b (getR k.r i.b+IntKind.u32.wrap i.n)).1 (wrap32b (getR k.r i.b+IntKind.u32.wrap i.n)).2 he'
     refine⟨b0,b1,?_⟩
     rcases hit_or k.ne (whB k.c (k.addr i)) (i.op !=9)with hh|hh
     ·exact .inl ⟨hh,_,by rw[ask_hit hh];rfl,res_gets h h9 he' hh⟩
     ·exact .inr ⟨hh,by rw[ask_miss hh];rfl⟩
   rcases op_cases hcm with hpl|⟨ha,hpl⟩
   ·have hn:(i.op==9||(i.op==10||i.op==11))=false:=by
     cases h9:(i.op==9||(i.op==10||i.op==11))with
     |false=>rfl
     |true=>
      simp only[Bool.or_eq_true,beq_iff_eq]at h9
      rcases h9 with e|e|e<;>rw[e]at hpl<;>cases hpl
    dsimp only
    rw[hn]
    exact⟨k.stepped i,by rw[hi,hop,hpl];rfl,res_stepped h i⟩
   ·dsimp only
    rcases ask_cases ha with e|e|e|e|e|e|e|e
    ·rw[e];exact⟨k.haltR,by rw[hi,hop,e];rfl,res_halt h⟩
    ·have:=hmem (.inl e);rw[e]at this ⊢;exact this
    ·have:=hmem (.inr (.inl e));rw[e]at this ⊢;exact this
    ·have:=hmem (.inr (.inr e));rw[e]at this ⊢;exact this
    ·rw[e];exact⟨k.beginR i.n st,by rw[hi,hop,e];rfl,res_begin h _ _⟩
    ·rw[e];exact⟨k.endR,by rw[hi,hop,e];rfl,res_end h⟩
    ·rw[e];exact⟨k.abortR i.n,by rw[hi,hop,e];rfl,res_abort h _⟩
    ·rw[e];exact⟨k.testR i.a,by rw[hi,hop,e];rfl,res_test h _⟩
structure One (k:CoT)(h:Ho1):Prop where
 ki:KInv k
 id0:k.id=0
 nid:k.ne.id=0
 co:k.c.cores=1
 wt:k.ne.waits=false
 be:k.ne.ba.p.L=[]
 ln: ∀b l,k.ne.ca.get b=some l→2≤l.state∧0≤b∧h.ow[b.toNat]? =some 0
 job:h.job=none
 ol:(h.ow.length:Int)=dataP k.c
 oo: ∀o∈h.ow,o= -1∨o=0
 mn:(k.me.n:Int)=k.c.blocks
theorem One.res {k:CoT}{h:Ho1}(o:One k h){p:CoT×EvS}(r:Res k p):One p.1 h where
 ki:=r.inv
 id0:=r.eff.sm.id.trans o.id0
 nid:=r.eff.sm.ni.trans o.nid
 co:=by rw[r.eff.sm.c];exact o.co
 wt:=r.eff.wt.trans o.wt
 be:=by rw[r.eff.ba];exact o.be
 ln:=fun b l' hl=>by
  obtain⟨l,h1,h2⟩:=r.eff.ln b l' hl
  obtain⟨g1,g2,g3⟩:=o.ln b l h1
  exact⟨by omega,g2,g3⟩
 job:=o.job
 ol:=by rw[r.eff.sm.c];exact o.ol
 oo:=o.oo
 mn:=by rw[r.eff.mn,r.eff.sm.c];exact o.mn
theorem One.dat {k:CoT}{h:Ho1}(o:One k h):dataP k.c≤k.c.blocks∧dataP k.c≤255∧1≤dataP k.c:=by
 obtain⟨d1,d2,d3⟩:=data_bd o.ki.pl
 obtain⟨⟨c1,c2,_,_,_,_,_,_,c3,c4,_⟩,_⟩:=planOk_iff.1 o.ki.pl
 rw[dataP_t o.ki.pl,d3]
 rw[o.co]at d3 ⊢
 omega
theorem note_ask {b st:Int}(wr:Bool)(h0:0≤b)(h1:b<256):noteE ⟨cond wr 2 1,0,-1,b,st,0,false,false,wZ⟩=0:=by
 unfold noteE noteOk
 dsimp only
 rw[qd2 (show¬b<0 by omega),qd2 (show¬b≥256 by omega)]
 cases wr<;>rfl
theorem note_put {b:Int}(s:Bool)(d:W16)(h0:0≤b)(h1:b<256):noteE ⟨3,0,-1,b,0,0,true,s,d⟩=0:=by
 unfold noteE noteOk
 dsimp only
 rw[qd2 (show¬b<0 by omega),qd2 (show¬b≥256 by omega)]
 rfl
theorem note_pack {b:Int}(h0:0≤b)(h1:b<256):noteE ⟨8,-1,0,b,0,0,false,false,w0⟩=0:=by
 unfold noteE noteOk
 dsimp only
 rw[qd2 (show¬b<0 by omega),qd2 (show¬b≥256 by omega)]
 rfl
theorem note_data {b s:Int}(d:W16)(h0:0≤b)(h1:b<256)(hs:s=2∨s=3):noteE ⟨6,-1,0,b,0,s,true,false,d⟩=0:=by
 unfold noteE noteOk
 dsimp only
 rw[qd2 (show¬b<0 by omega),qd2 (show¬b≥256 by omega)]
 rcases hs with rfl|rfl<;>rfl
theorem note_done {b:Int}(h0:0≤b)(h1:b<256):noteE ⟨11,0,-1,b,0,0,false,false,wZ⟩=0:=by
 unfold noteE noteOk
 dsimp only
 rw[qd2 (show¬b<0 by omega),qd2 (show¬b≥256 by omega)]
 rfl
theorem One.empty {k:CoT}{h:Ho1}(o:One k h)(b:Int):k.ne.ba.is b=false∧k.ne.ba.ix b=none:=by
 have e:k.ne.ba.ix b=none:=by
  unfold BacksS.ix PoolB.ix
  rw[o.be];rfl
 exact⟨by unfold BacksS.is;rw[e];rfl,e⟩
theorem One.room {k:CoT}{h:Ho1}(o:One k h):(k.ne.ba.p.roomI==0)=false:=by
 have hk:k.ne.ba.p.ok:=o.ki.ba
 obtain⟨_,h1,h2⟩:=hk
 unfold PoolB.roomI
 rw[o.be]
 show(IntKind.i64.wrap (k.ne.ba.p.room-(0:Nat))==0)=false
 rw[wrap_id _ (by omega)]
 exact beq_eq_false_iff_ne.mpr (by omega)
def NearS.askA (k:NearS)(b:Int)(wr:Bool):NearS:={k with ask:=k.askN b wr,waits:=true}
def NearS.askB (k:NearS)(b:Int)(wr:Bool)(l:LineS):NearS:={k with ask:=k.askN b wr,waits:=true,ca:=k.ca.drop l.block,ba:=k.ba.put l.block l.data}
theorem One.ask {k:CoT}{h:Ho1}(o:One k h){b:Int}{wr:Bool}(hm:k.ne.hit b wr=false):
 (k.ne.ca.goes b=none∧askW k b wr=(k.setN (k.ne.askA b wr),[k.ne.askN b wr],k.ev 8 0 0,0))∨
 ∃l,k.ne.ca.goes b=some l∧askW k b wr=(k.setN (k.ne.askB b wr l),[k.ne.putN l,k.ne.askN b wr],k.ev 8 0 0,0):=by
 unfold askW NearS.askR
 rw[hm,(o.empty b).1]
 cases hg:k.ne.ca.goes b with
 |none=>exact .inl ⟨rfl,rfl⟩
 |some l=>
  refine .inr ⟨l,rfl,?_⟩
  obtain⟨h1,_,_⟩:=goes_line o.ki.g hg
  obtain⟨h2,_,_⟩:=o.ln _ _ h1
  dsimp only[cond_false]
  rw[show(l.state !=1)=true by simp;omega,o.room]
  rfl
theorem KInv.nears {k:CoT}(h:KInv k){n:NearS}(h1:n.c=k.ne.c)(h2:n.de=k.ne.de)(g:CaG n.ca)(hb:n.ba.ok)(hd:n.ba.data=k.ne.ba.data):KInv (k.setN n):=
 ⟨h.pl,h1.trans h.cc,g,hb,hd.trans h.bd,h.mo,h.lg,h.m0,h.m1,h.lf,h.en,by show DeP n.de;rw[h2];exact h.de,h.pr,h.pn⟩
theorem wants_setN {k:CoT}{n:NearS}(h2:n.de=k.ne.de):(k.setN n).wants=k.wants:=by
 unfold CoT.wants CoT.setN
 dsimp only
 rw[h2]
 rfl
theorem bput_ok {p:PoolB}(h:p.ok)(x:BackS):(p.put x).ok:=by
 obtain⟨⟨h1,h2,h3⟩,h4,h5⟩:=h
 unfold PoolB.put
 cases hc:decide ((p.L.length:Int)≥p.room)with
 |true=>exact⟨⟨h1,h2,h3⟩,h4,h5⟩
 |false=>
  have hc:=of_decide_eq_false hc
  exact⟨⟨fun q=>(by cases q),rfl,by show(p.L++[x]).length≤65536;rw[List.length_append,List.length_singleton];omega⟩,h4,h5⟩
theorem bsput {k:BacksS}(h:k.ok)(b:Int)(x:W16):(k.put b x).ok∧(k.put b x).data=k.data:=by
 unfold BacksS.put
 cases decide (b<0)
 case true=>exact⟨h,rfl⟩
 cases decide (b≥k.data)
 case true=>exact⟨h,rfl⟩
 cases k.is b
 ·exact⟨bput_ok h _,rfl⟩
 ·exact⟨h,rfl⟩
theorem bsput_one {k:BacksS}(h:k.ok)(he:k.p.L=[]){b:Int}(h0:0≤b)(h1:b<k.data)(x:W16):(k.put b x).p.L=[⟨b,x,true⟩]:=by
 have hi:k.is b=false:=by
  unfold BacksS.is BacksS.ix PoolB.ix
  rw[he];rfl
 obtain⟨_,h4,h5⟩:=h
 unfold BacksS.put PoolB.put
 rw[qd2 (show¬b<0 by omega),qd2 (show¬b≥k.data by omega),hi,he]
 simp only[cond_false]
 rw[qd2 (show¬((([]:List BackS).length:Nat):Int)≥k.p.room by show¬(0:Int)≥k.p.room;omega)]
 rfl
theorem bdrop_one {k:BacksS}(h:k.ok){b:Int}{x:W16}(he:k.p.L=[⟨b,x,true⟩]):k.is b=true∧(k.drop b).p.L=[]∧(k.drop b).ok∧(k.drop b).data=k.data:=by
 have hi:k.ix b=some 0:=by
  unfold BacksS.ix PoolB.ix
  rw[he]
  show cond (b==b) (some 0) none=_
  rw[beq_self_eq_true];rfl
 obtain⟨⟨h1,h2,h3⟩,h4,h5⟩:=h
 have e:k.drop b={k with p:=⟨k.p.room,k.p.nl,[],bcsL [⟨b,x,true⟩]++k.p.J⟩}:=by
  unfold BacksS.drop
  rw[hi]
  show({k with p:=k.p.take ((0:Nat):Int)}:BacksS)=_
  unfold PoolB.take PoolB.inn PoolB.taken
  rw[he]
  rfl
 refine⟨by unfold BacksS.is;rw[hi];rfl,by rw[e],?_,by rw[e]⟩
 rw[e]
 refine⟨⟨fun q=>?_,?_,by show(0:Nat)≤65536;omega⟩,h4,h5⟩
 ·have q:k.p.nl=true:=q
  have:=(h1 q).1
  rw[he]at this;cases this
 ·show(bcsL [⟨b,x,true⟩]++k.p.J).all (af 8)=true
  rw[List.all_append,h2];rfl
end Go.Proofs.YtpcbedgaecbfmaaGreatDoor
