/- Caches: what their code answers. No condition. -/
import Derived.Test.YtpcbedgaecbfmaaGreatDoorK31
import Derived.Test.YtpcbedgaecbfmaaGreatDoorK1
noncomputable section
namespace Go.Proofs.YtpcbedgaecbfmaaGreatDoor
set_option maxRecDepth 100000
open Go.Proofs.YtpcbedgaecbfmaaGreatDoor.Ev Go.RowKit
structure LineS where
 block:Int
 state:Int
 data:W16
abbrev lnL (n:LineS):List Value:=.int .i64 n.block::.int .u8 n.state::w16C n.data []
def lnV (n:LineS):Value:=.agg ⟨lnL n⟩
def lnsL:List LineS→List Value
 |[]=>[]
 |n::l=>lnL n++lnsL l
def lnOk (cs:List Value)(o:Nat):Bool:=(gS cs).okI .i64 (o+0)&&((gS cs).okI .u8 (o+1)&&(((gS cs).okI .u32 (o+2)&&((gS cs).okI .u32 (o+3)&&((gS cs).okI .u32 (o+4)&&((gS cs).okI .u32 (o+5)&&((gS cs).okI .u32 (o+6)&&((gS cs).okI .u32 (o+7)&&((gS cs).okI .u32 (o+8)&&((gS cs).okI .u32 (o+9)&&((gS cs).okI .u32 (o+10)&&((gS cs).okI .u32 (o+11)&&((gS cs).okI .u32 (o+12)&&((gS cs).okI .u32 (o+13)&&((gS cs).okI .u32 (o+14)&&((gS cs).okI .u32 (o+15)&&((gS cs).okI .u32 (o+16)&&((gS cs).okI .u32 (o+17)&&true))))))))))))))))&&true))
def lnS (cs:List Value)(o:Nat):LineS:=⟨(gS cs).int .i64 (o+0),(gS cs).int .u8 (o+1),⟨(gS cs).int .u32 (o+2),(gS cs).int .u32 (o+3),(gS cs).int .u32 (o+4),(gS cs).int .u32 (o+5),(gS cs).int .u32 (o+6),(gS cs).int .u32 (o+7),(gS cs).int .u32 (o+8),(gS cs).int .u32 (o+9),(gS cs).int .u32 (o+10),(gS cs).int .u32 (o+11),(gS cs).int .u32 (o+12),(gS cs).int .u32 (o+13),(gS cs).int .u32 (o+14),(gS cs).int .u32 (o+15),(gS cs).int .u32 (o+16),(gS cs).int .u32 (o+17)⟩⟩
theorem lnL_len (n:LineS):(lnL n).length=18:=rfl
theorem lnL_af (n:LineS):(lnL n).all (af 8)=true:=rfl
theorem lnsL_len: ∀L:List LineS,(lnsL L).length=L.length*18
 |[]=>rfl
 |n::l=>by simp only[lnsL,List.length_append,lnsL_len l,List.length_cons,List.length_nil];omega
theorem lnsL_af: ∀L:List LineS,(lnsL L).all (af 8)=true
 |[]=>rfl
 |n::l=>by simp only[lnsL,List.all_append,lnL_af,lnsL_af l,Bool.and_self]
theorem lnL_inj {n m:LineS}(h:lnL n=lnL m):n=m:=by
 obtain⟨_,_,⟨_,_,_,_,_,_,_,_,_,_,_,_,_,_,_,_⟩⟩:=n
 obtain⟨_,_,⟨_,_,_,_,_,_,_,_,_,_,_,_,_,_,_,_⟩⟩:=m
 simp only[lnL,w16C,List.cons.injEq,Value.int.injEq,Value.bool.injEq,true_and,and_true]at h
 simp only[LineS.mk.injEq,W16.mk.injEq]
 simp_all
theorem lnsL_inj: ∀{a b:List LineS} {J J':List Value},a.length=b.length→lnsL a++J=lnsL b++J'→a=b∧J=J'
 |[],[],J,J',_,h=>⟨rfl,h⟩
 |[],_::_,_,_,h,_=>by simp at h
 |_::_,[],_,_,h,_=>by simp at h
 |n::l,m::k,J,J',h,e=>by
  simp only[lnsL,List.append_assoc]at e
  have h1:lnL n=lnL m:=List.append_inj_left e rfl
  have h2:=List.append_inj_right e (by rfl)
  obtain⟨e1,e2⟩:=lnsL_inj (by simpa using h) h2
  exact⟨by rw[e1,lnL_inj h1],e2⟩
theorem lns_get: ∀{L:List LineS} {J:List Value} {i j:Nat} {n:LineS},L[i]? =some n→j<18→(lnsL L++J)[i*18+j]? =(lnL n)[j]?
 |[],J,i,j,n,h,_=>by simp at h
 |m::l,J,0,j,n,h,hj=>by
  simp at h;subst h
  rw[lnsL,List.append_assoc,qx4 (by rw[lnL_len];omega),Nat.zero_mul,Nat.zero_add]
 |m::l,J,i+1,j,n,h,hj=>by
  rw[lnsL,List.append_assoc,qx3 (by rw[lnL_len];omega),lnL_len,show(i+1)*18+j-18=i*18+j from by omega]
  exact lns_get (L:=l) (i:=i) (by simpa using h) hj
theorem ln_at {L:List LineS}{J:List Value}{i:Nat}{n:LineS}(h:L[i]? =some n):lnOk (lnsL L++J) (i*18)=true∧lnS (lnsL L++J) (i*18)=n:=by
 have g: ∀j,j<18→(lnsL L++J)[i*18+j]? =(lnL n)[j]? :=fun j hj=>lns_get h hj
 obtain⟨_,_,⟨_,_,_,_,_,_,_,_,_,_,_,_,_,_,_,_⟩⟩:=n
 unfold lnOk lnS
 simp only[gS,genOf]
 rw[g 0 (by omega),g 1 (by omega),g 2 (by omega),g 3 (by omega),g 4 (by omega),g 5 (by omega),g 6 (by omega),g 7 (by omega),g 8 (by omega),g 9 (by omega),g 10 (by omega),g 11 (by omega),g 12 (by omega),g 13 (by omega),g 14 (by omega),g 15 (by omega),g 16 (by omega),g 17 (by omega)]
 exact⟨rfl,rfl⟩
theorem lnsL_set: ∀{L:List LineS} {J:List Value} {i:Nat} {n:LineS},i<L.length→splice (lnsL L++J) (i*18) (lnL n)=lnsL (L.set i n)++J
 |[],J,i,n,h=>by simp at h
 |m::l,J,0,n,h=>by
  have e:(lnsL (m::l)++J)=lnL m++(lnsL l++J):=by rw[lnsL,List.append_assoc]
  unfold splice
  rw[e,Nat.zero_mul,List.take_zero,Nat.zero_add,show(lnL n).length=(lnL m).length from rfl,List.drop_left,List.set_cons_zero,lnsL,List.nil_append]
  simp only[List.append_assoc]
 |m::l,J,i+1,n,h=>by
  have ih:=lnsL_set (L:=l) (J:=J) (i:=i) (n:=n) (by simpa using h)
  have e:(lnsL (m::l)++J)=lnL m++(lnsL l++J):=by rw[lnsL,List.append_assoc]
  unfold splice at ih ⊢
  have h1:(lnL m++(lnsL l++J)).take ((i+1)*18)=lnL m++(lnsL l++J).take (i*18):=by
   rw[List.take_append,List.take_of_length_le (by rw[lnL_len];omega),lnL_len,show(i+1)*18-18=i*18 from by omega]
  have h2:(lnL m++(lnsL l++J)).drop ((i+1)*18+(lnL n).length)=(lnsL l++J).drop (i*18+(lnL n).length):=by
   rw[List.drop_append,List.drop_eq_nil_of_le (by rw[lnL_len,lnL_len];omega),List.nil_append,lnL_len,lnL_len,show(i+1)*18+18-18=i*18+18 from by omega]
  rw[e,h1,h2,List.set_cons_succ,lnsL]
  simp only[List.append_assoc]at ih ⊢
  rw[ih]
theorem lns_set1': ∀{L:List LineS} {J:List Value} {i j:Nat} {n n':LineS} {v:Value},L[i]? =some n→j<18→lnL n'=(lnL n).set j v→(lnsL L++J).set (i*18+j) v=lnsL (L.set i n')++J
 |[],J,i,j,n,n',v,h,_,_=>by simp at h
 |m::l,J,0,j,n,n',v,h,hj,e=>by
  simp at h;subst h
  rw[List.set_cons_zero,lnsL,lnsL,List.append_assoc,List.append_assoc,Nat.zero_mul,Nat.zero_add,List.set_append_left _ _ (by rw[lnL_len];exact hj),e]
 |m::l,J,i+1,j,n,n',v,h,hj,e=>by
  rw[List.set_cons_succ,lnsL,lnsL,List.append_assoc,List.append_assoc,List.set_append_right _ _ (by rw[lnL_len];omega),lnL_len,show(i+1)*18+j-18=i*18+j from by omega]
  rw[lns_set1' (L:=l) (i:=i) (by simpa using h) hj e]
def lnRow (cs:List Value):LObj:=.row ⟨cs,168,(0,0),0,false,false⟩
def bRow (b:Int):LObj:=.row ⟨[.int .i64 b],3,(0,0),0,false,false⟩
abbrev hasV:Value:=.func (.func 226) #[] #[pK 1001]
abbrev freV:Value:=.func (.func 192) #[] #[]
abbrev slO (o n c:Nat):Value:=.slice (some ⟨1000,o,none⟩) n c
theorem r_ixH (gl:Gl)(i:Int)(cs:List Value)(o n c:Nat)(b:Int):rV sy0 gl H0 221 0 [8,0,1,7,4] [4] 1002 ([.int .i64 i,slO o n c,hasV,.int .i64 n,.int .i64 0],[some (lnRow cs),some (bRow b)]) [] noC=
 letI A:Rws:=[some (.row ⟨cs,168,(0,0),0,false,false⟩),some (.row ⟨[.int .i64 b],3,(0,0),0,false,false⟩)]
 letI C:=List.all cs (af 8)&&true
 letI B:Option (LSt⊕Out):=cond C (some (.inl ([.int .i64 (IntKind.i64.wrap (i+1)),.slice (some ⟨1000,o,none⟩) n c,.func (Fn.func 226) #[] #[pK 1001],.int .i64 ((↑n:Int)),.int .i64 0],A))) none
 letI D:=genOf (genSym Value.nilFunc) cs
 letI E:=decide (i<(↑n:Int))
 cond E (cond (decide (0≤i)&&E&&(n.ble c)) (cond (lnOk cs (o+i.toNat*18)) (cond (D.int .u8 (o+i.toNat*18+1) !=0) (cond (D.int .i64 (o+i.toNat*18+0)==b) (cond C (some (.inr (.ret,([.int .i64 i],A)))) none) B) B) none) none) (cond C (some (.inr (.exit 0,([.int .i64 0],
 A)))) none):=by kernel_rfl
theorem r_ixF (gl:Gl)(i:Int)(cs:List Value)(o n c:Nat):rV sy0 gl H0 221 0 [8,0,1,7,4] [4] 1001 ([.int .i64 i,slO o n c,freV,.int .i64 n,.int .i64 0],[some (lnRow cs)]) [] noC=
 letI A:Rws:=[some (.row ⟨cs,168,(0,0),0,false,false⟩)]
 letI B:=List.all cs (af 8)&&true
 letI C:=decide (i<(↑n:Int))
 cond C (cond (decide (0≤i)&&C&&(n.ble c)) (cond (lnOk cs (o+i.toNat*18)) (cond ((genOf (genSym Value.nilFunc) cs).int .u8 (o+i.toNat*18+1)==0) (cond B (some (.inr (.ret,([.int .i64 i],A)))) none) (cond B (some (.inl ([.int .i64 (IntKind.i64.wrap (i+1)),.slice (some ⟨1000,o,
 none⟩) n c,.func (Fn.func 192) #[] #[],.int .i64 ((↑n:Int)),.int .i64 0],A))) none)) none) none) (cond B (some (.inr (.exit 0,([.int .i64 0],A)))) none):=by kernel_rfl
abbrev HIx (t:List Value→Rws→Bool)(e:Ex)(vs:List Value)(rows:Rws):Hs:=hsOf [] [] [(221,[(0,⟨[8,0,1,7,4],[4],gH t (e,vs,rows)⟩)])]
theorem r_ixA (gl:Gl)(t:List Value→Rws→Bool)(ix:Int)(cs:List Value)(o n c:Nat)(b:Int):cV sy0 gl (HIx t .ret [.int .i64 ix] [some (lnRow cs),some (bRow b)]) 221 [slO o n c,hasV] [some (lnRow cs),some (bRow b)] noV=
 letI A:Rws:=[some (.row ⟨cs,168,(0,0),0,false,false⟩),some (.row ⟨[.int .i64 b],3,(0,0),0,false,false⟩)]
 letI B:=List.all cs (af 8)&&true
 cond B (cond (t [.int .i64 0,.slice (some ⟨1000,o,none⟩) n c,.func (Fn.func 226) #[] #[pK 1001],goInt (↑n:Int),.int .i64 0] A) (cond B (cond B (some (.normal,([.int .i64 ix],A))) none) none) none) none:=by kernel_rfl
theorem r_ixB (gl:Gl)(t:List Value→Rws→Bool)(ix:Int)(cs:List Value)(o n c:Nat):cV sy0 gl (HIx t .ret [.int .i64 ix] [some (lnRow cs)]) 221 [slO o n c,freV] [some (lnRow cs)] noV=
 letI A:=List.all cs (af 8)&&true
 letI B:Rws:=[some (.row ⟨cs,168,(0,0),0,false,false⟩)]
 cond A (cond (t [.int .i64 0,.slice (some ⟨1000,o,none⟩) n c,.func (Fn.func 192) #[] #[],goInt (↑n:Int),.int .i64 0] B) (cond A (cond A (some (.normal,([.int .i64 ix],B))) none) none) none) none:=by kernel_rfl
theorem r_ixA2 (gl:Gl)(t:List Value→Rws→Bool)(ix:Int)(cs:List Value)(o n c:Nat)(b:Int):cV sy0 gl (HIx t (.exit 0) [.int .i64 ix] [some (lnRow cs),some (bRow b)]) 221 [slO o n c,hasV] [some (lnRow cs),some (bRow b)] noV=
 letI A:Rws:=[some (.row ⟨cs,168,(0,0),0,false,false⟩),some (.row ⟨[.int .i64 b],3,(0,0),0,false,false⟩)]
 letI B:=List.all cs (af 8)&&true
 cond B (cond (t [.int .i64 0,.slice (some ⟨1000,o,none⟩) n c,.func (Fn.func 226) #[] #[pK 1001],goInt (↑n:Int),.int .i64 0] A) (cond B (cond B (some (.normal,([.int .i64 (-1)],A))) none) none) none) none:=by kernel_rfl
theorem r_ixB2 (gl:Gl)(t:List Value→Rws→Bool)(ix:Int)(cs:List Value)(o n c:Nat):cV sy0 gl (HIx t (.exit 0) [.int .i64 ix] [some (lnRow cs)]) 221 [slO o n c,freV] [some (lnRow cs)] noV=
 letI A:=List.all cs (af 8)&&true
 letI B:Rws:=[some (.row ⟨cs,168,(0,0),0,false,false⟩)]
 cond A (cond (t [.int .i64 0,.slice (some ⟨1000,o,none⟩) n c,.func (Fn.func 192) #[] #[],goInt (↑n:Int),.int .i64 0] B) (cond A (cond A (some (.normal,([.int .i64 (-1)],B))) none) none) none) none:=by kernel_rfl
def ixFrom {α:Type}(p:α→Bool):List α→Nat→Option Nat
 |[],_=>none
 |l::L,j=>cond (p l) (some j) (ixFrom p L (j+1))
def ixN:Option Nat→Int
 |some j=>(j:Int)
 |none=> -1
def hasP (b:Int)(l:LineS):Bool:=l.state !=0&&l.block==b
def freP (l:LineS):Bool:=l.state==0
def seg (L:List LineS)(k n:Nat):List LineS:=(L.drop k).take n
def ixFin (r:Option Nat)(rows:Rws):Out:=match r with
 |some j=>(.ret,[.int .i64 (j:Int)],rows)
 |none=>(.exit 0,[.int .i64 0],rows)
def ixSt (f:Value)(i:Int)(o n c:Nat)(rows:Rws):LSt:=([.int .i64 i,slO o n c,f,.int .i64 n,.int .i64 0],rows)
theorem seg_get {L:List LineS}{k n i:Nat}(h:k+n≤L.length)(hi:i<n): ∃l,L[k+i]? =some l∧(seg L k n).drop i=l::(seg L k n).drop (i+1):=by
 have h1:k+i<L.length:=by omega
 refine⟨L[k+i],qx2 h1,?_⟩
 have h2:i<(seg L k n).length:=by unfold seg;rw[List.length_take,List.length_drop];omega
 rw[List.drop_eq_getElem_cons h2]
 congr 1
 simp[seg]
theorem seg_end {L:List LineS}{k n:Nat}(h:k+n≤L.length):(seg L k n).drop n=[]:=List.drop_eq_nil_of_le (by unfold seg;rw[List.length_take,List.length_drop];omega)
theorem lns_at0 {L:List LineS}{i:Nat}{n:LineS}(h:L[i]? =some n):lnOk (lnsL L) (i*18)=true∧lnS (lnsL L) (i*18)=n:=by
 have:=ln_at (J:=[]) h
 rw[List.append_nil]at this;exact this
theorem lnS_b (cs:List Value)(o:Nat):(gS cs).int .i64 (o+0)=(lnS cs o).block:=rfl
theorem lnS_s (cs:List Value)(o:Nat):(gS cs).int .u8 (o+1)=(lnS cs o).state:=rfl
theorem ix_loop {gl:Gl}(hgl:Low gl){f:Value}{rows:Rws}{p:LineS→Bool}{L:List LineS}{k n c:Nat}(hl:1000+rows.length≤most)(h:k+n≤L.length)
 (hr: ∀i l,i<n→L[k+i]? =some l→rV sy0 gl H0 221 0 [8,0,1,7,4] [4] (1000+rows.length) (ixSt f (i:Int) (k*18) n c rows) [] noC=some (cond (p l) (.inr (.ret,[.int .i64 (i:Int)],rows)) (.inl (ixSt f ((i+1:Nat):Int) (k*18) n c rows))))
 (he:rV sy0 gl H0 221 0 [8,0,1,7,4] [4] (1000+rows.length) (ixSt f (n:Int) (k*18) n c rows) [] noC=some (.inr (.exit 0,[.int .i64 0],rows))):
 LpOK Tryz.prog gl 221 0 ⟨[8,0,1,7,4],[4],gH (atS (ixSt f 0 (k*18) n c rows).1 rows) (ixFin (ixFrom p (seg L k n) 0) rows)⟩:=
 loop_ofV goodT hgl tglob fun vs rows' t r h1 h2=>by
  obtain⟨rfl,rfl,rfl⟩:=gH_run h1 h2
  refine⟨hl,{i:Nat//i≤n},fun i=>ixSt f ((i.1:Nat):Int) (k*18) n c rows',fun i=>some (ixFin (ixFrom p ((seg L k n).drop i.1) i.1) rows'),fun i=>n-i.1,⟨0,Nat.zero_le _⟩,.inl rfl,rfl,?_⟩
  rintro⟨i,hi⟩ o ho
  simp only at hi ho
  cases ho
  by_cases e:i=n
  ·subst e
   refine⟨sy0,H0,100,40,40,_,[],noC,syG_ok _,H0_ok,he,?_⟩
   rw[seg_end h];rfl
  ·obtain⟨l,g1,g2⟩:=seg_get h (show i<n by omega)
   refine⟨sy0,H0,100,40,40,_,[],noC,syG_ok _,H0_ok,hr i l (by omega) g1,?_⟩
   rw[g2,ixFrom]
   cases hp:p l with
   |true=>rfl
   |false=>exact⟨⟨i+1,by omega⟩,rfl,by show n-(i+1)<n-i;omega,rfl⟩
theorem HIx_ok {gl:Gl}{t:List Value→Rws→Bool}{e:Ex}{vs:List Value}{rows:Rws}(h:LpOK Tryz.prog gl 221 0 ⟨[8,0,1,7,4],[4],gH t (e,vs,rows)⟩):(HIx t e vs rows).OK Tryz.prog gl:=
 hsOf_ok (fun _ h=>nomatch h) (fun _ h=>nomatch h) (fun p hp q hq=>by
  simp only[List.mem_singleton]at hp;subst hp
  simp only[List.mem_singleton]at hq;subst hq
  exact h)
theorem ix_has {gl:Gl}(hgl:Low gl){L:List LineS}{k n c:Nat}{b:Int}(h:k+n≤L.length)(hc:n≤c)(hn:n≤65536):
 SubOK Tryz.prog gl 221 (gH (atS [slO (k*18) n c,hasV] [some (lnRow (lnsL L)),some (bRow b)]) (.normal,[.int .i64 (ixN (ixFrom (hasP b) (seg L k n) 0))],[some (lnRow (lnsL L)),some (bRow b)])):=by
 have haf:=andI (lnsL_af L) (rfl:true=true)
 have hlp:=ix_loop hgl (f:=hasV) (rows:=[some (lnRow (lnsL L)),some (bRow b)]) (p:=hasP b) (c:=c) (by show 1002≤most;decide) h (fun i l hi hl=>by
  obtain⟨o1,o2⟩:=lns_at0 hl
  rw[show(k+i)*18=k*18+i*18 from Nat.add_mul ..]at o1 o2
  refine(r_ixH gl (i:Int) (lnsL L) (k*18) n c b).trans ?_
  rw[Int.toNat_natCast,lnS_b,lnS_s,o1,o2,haf,wrap_id ((i:Int)+1) (by omega),qd1 (show(i:Int)<(n:Int) by omega),qd1 (show(0:Int)≤(i:Int) by omega),nbl hc]
  unfold hasP
  cases l.state !=0<;>cases l.block==b<;>rfl) (by
  refine(r_ixH gl (n:Int) (lnsL L) (k*18) n c b).trans ?_
  rw[qd2 (show¬(n:Int)<(n:Int) by omega),haf];rfl)
 cases hq:ixFrom (hasP b) (seg L k n) 0 with
 |none=>
  rw[hq]at hlp
  exact sub_atV goodT hgl tglob ⟨sy0,_,100,40,40,noV,syG_ok _,HIx_ok hlp,(r_ixA2 gl _ 0 (lnsL L) (k*18) n c b).trans (by
   rw[haf]
   exact condI rfl (condI (atS_self _ _) rfl))⟩
 |some j=>
  rw[hq]at hlp
  exact sub_atV goodT hgl tglob ⟨sy0,_,100,40,40,noV,syG_ok _,HIx_ok hlp,(r_ixA gl _ (j:Int) (lnsL L) (k*18) n c b).trans (by
   rw[haf]
   exact condI rfl (condI (atS_self _ _) rfl))⟩
theorem ix_fre {gl:Gl}(hgl:Low gl){L:List LineS}{k n c:Nat}(h:k+n≤L.length)(hc:n≤c)(hn:n≤65536):
 SubOK Tryz.prog gl 221 (gH (atS [slO (k*18) n c,freV] [some (lnRow (lnsL L))]) (.normal,[.int .i64 (ixN (ixFrom freP (seg L k n) 0))],[some (lnRow (lnsL L))])):=by
 have haf:=andI (lnsL_af L) (rfl:true=true)
 have hlp:=ix_loop hgl (f:=freV) (rows:=[some (lnRow (lnsL L))]) (p:=freP) (c:=c) (by show 1001≤most;decide) h (fun i l hi hl=>by
  obtain⟨o1,o2⟩:=lns_at0 hl
  rw[show(k+i)*18=k*18+i*18 from Nat.add_mul ..]at o1 o2
  refine(r_ixF gl (i:Int) (lnsL L) (k*18) n c).trans ?_
  rw[Int.toNat_natCast,lnS_s,o1,o2,haf,wrap_id ((i:Int)+1) (by omega),qd1 (show(i:Int)<(n:Int) by omega),qd1 (show(0:Int)≤(i:Int) by omega),nbl hc]
  unfold freP
  cases l.state==0<;>rfl) (by
  refine(r_ixF gl (n:Int) (lnsL L) (k*18) n c).trans ?_
  rw[qd2 (show¬(n:Int)<(n:Int) by omega),haf];rfl)
 cases hq:ixFrom freP (seg L k n) 0 with
 |none=>
  rw[hq]at hlp
  exact sub_atV goodT hgl tglob ⟨sy0,_,100,40,40,noV,syG_ok _,HIx_ok hlp,(r_ixB2 gl _ 0 (lnsL L) (k*18) n c).trans (by
   rw[haf]
   exact condI rfl (condI (atS_self _ _) rfl))⟩
 |some j=>
  rw[hq]at hlp
  exact sub_atV goodT hgl tglob ⟨sy0,_,100,40,40,noV,syG_ok _,HIx_ok hlp,(r_ixB gl _ (j:Int) (lnsL L) (k*18) n c).trans (by
   rw[haf]
   exact condI rfl (condI (atS_self _ _) rfl))⟩
def isA (a:Addr):Bool:=Nat.beq a.block 1000&&Nat.beq a.off 0&&a.spot.isNone
theorem isA_t {a:Addr}(h:isA a=true):a=⟨1000,0,none⟩:=by
 obtain⟨b,o,s⟩:=a
 simp only[isA,qa1]at h
 obtain⟨⟨k1,k2⟩,k3⟩:=h
 have k1:=qe1 k1
 have k2:=qe1 k2
 cases s with
 |some _=>cases k3
 |none=>rw[k1,k2]
def hdT {α:Type}(D:Dec α)(t:Rws→α→DT Out):Hd:=fun vs rows=>match vs with
 | .pointer (some a)::args=>cond (isA a) ((D.dec args).map fun x=>t rows x) none
 |_=>none
theorem hdT_sub {gl:Gl}{f:FuncId}{α:Type}{D:Dec α}{t:Rws→α→DT Out}(h: ∀r x o,(t r x).run=some o→SubOK Tryz.prog gl f (gH (atS (pK 1000::D.enc x) r) o)):SubOK Tryz.prog gl f (hdT D t):=by
 intro vs rows dt e u rows' h1 h2
 unfold hdT at h1
 split at h1
 case h_2=>cases h1
 rename_i a args
 obtain⟨h3,h4⟩:=condT h1
 obtain⟨x,h5,h6⟩:=qm1.1 h4
 subst h6
 have e1:args=D.enc x:=D.ok _ _ h5
 have e2:=isA_t h3
 subst e1;subst e2
 refine h rows x _ h2 _ _ (.br (atS (pK 1000::D.enc x) rows _ _) (.ret (e,[u],rows')) .fail) e u rows' rfl ?_
 show cond (atS (pK 1000::D.enc x) rows (pK 1000::D.enc x) rows) (some _) none=_
 rw[atS_self];rfl
def hdO {α:Type}(D:Dec α)(g:Rws→α→Bool)(v:Rws→α→Value)(n:Rws→α→Rws):Hd:=hdT D fun r x=>.br (g r x) (.ret (.normal,[v r x],n r x)) .fail
theorem hdO_sub {gl:Gl}{f:FuncId}{α:Type}{D:Dec α}{g:Rws→α→Bool}{v:Rws→α→Value}{n:Rws→α→Rws}(h: ∀r x,g r x=true→SubOK Tryz.prog gl f (gH (atS (pK 1000::D.enc x) r) (.normal,[v r x],n r x))):SubOK Tryz.prog gl f (hdO D g v n):=
 hdT_sub fun r x o ho=>by
  obtain⟨h1,h2⟩:=condT (show cond (g r x) (some (.normal,[v r x],n r x)) none=some o from ho)
  cases h2
  exact h r x h1
def hdIx (g:List Value→Nat→Nat→Nat→Bool)(ih:List Value→Nat→Nat→Int→Int)(iff:List Value→Nat→Nat→Int):Hd:=fun vs rows=>match vs,rows with
 |[.slice (some a) n c,.func _ _ _],[some (.row ls),some (.row bk)]=>(match bk.cells with
  |[.int _ b]=>some (.br (cl (vs=[slO a.off n c,hasV]∧rows=[some (lnRow ls.cells),some (bRow b)])) (.br (g ls.cells a.off n c) (.ret (.normal,[.int .i64 (ih ls.cells a.off n b)],[some (lnRow ls.cells),some (bRow b)])) .fail) .fail)
  |_=>none)
 |[.slice (some a) n c,.func _ _ _],[some (.row ls)]=>some (.br (cl (vs=[slO a.off n c,freV]∧rows=[some (lnRow ls.cells)])) (.br (g ls.cells a.off n c) (.ret (.normal,[.int .i64 (iff ls.cells a.off n)],[some (lnRow ls.cells)])) .fail) .fail)
 |_,_=>none
def afU (g:Int→Int→Int→Bool)(us:Int→Int→Int→Int):AF:=fun args _=>match args with
 |[.int .u8 m,.int .i64 w,.int .i64 y]=>some (g w y m,.tuple #[.int .u8 (us w y m),.int .i64 0])
 |_=>none
def afW (g:Int→Int→Bool)(vc:Int→Int→Int):AF:=fun args _=>match args with
 |[.int .u8 m,.int .i64 w]=>some (g w m,.tuple #[.int .i64 (vc w m),.int .i64 0])
 |_=>none
abbrev sy12:Sy:=syG [(1001,.nilFunc),(1002,.nilFunc)]
def HSt (st:Cfg→Int→Int):Hs:=hsOf [(225,afCi .i64 ttCi fun c n=>.int .i64 (st c n))] [] []
def ln0:LineS:=⟨0,0,⟨0,0,0,0,0,0,0,0,0,0,0,0,0,0,0,0⟩⟩
theorem r_caSet (gl:Gl)(st:Cfg→Int→Int)(c:Cfg)(nl ns:Nat)(ls ks:List Value)(b:Int):cV sy12 gl (HSt st) 209 [pK 1000,.int .i64 b] (cacheX c nl ns ls ks) noV=
 letI F:=IntKind.i64.wrap (st c b+1)*c.ways
 letI C:=IntKind.i64.wrap F
 letI H:=List.all ls (af 8)&&(List.all ks (af 8)&&true)
 letI I:=st c b*c.ways
 letI A:=IntKind.i64.wrap I
 letI B:=nl.ble nl&&(decide (0≤IntKind.i64.wrap I))&&(decide (IntKind.i64.wrap I≤IntKind.i64.wrap F))&&(decide (IntKind.i64.wrap F≤(↑nl:Int)))
 letI G:=0+A.toNat*18
 letI J:=nl.beq A.toNat
 letI K:=cacheX c nl ns ls ks
 letI L:=C.toNat-A.toNat
 letI D:Option Out:=qs [c.ways,c.ways] (qn [nl,nl] (cond H (some (.normal,([.tuple #[.int .i64 (st c b),.slice (some ⟨1001,0+A.toNat*18,none⟩) L (nl-A.toNat)]],K))) none))
 letI E:Option Out:=qs [c.ways,c.ways] (qn [nl,nl] (cond H (some (.normal,([.tuple #[.int .i64 (st c b),.slice (some ⟨1001,0,none⟩) L 0]],K))) none))
 cond B (cond J (cond B (cond J (qn [C.toNat-A.toNat] E) (cond (G.beq 0&&true&&true) (qn [C.toNat-A.toNat] (cond (decide (nl-A.toNat=0)) E none)) none)) none) (cond B (cond J (cond (Nat.beq 0 G&&true&&true) (qn [C.toNat-A.toNat] (cond (decide (0=nl-A.toNat)) D none)) none)
 (cond (G.beq G&&true&&true) (qn [C.toNat-A.toNat,nl-A.toNat] D) none)) none)) none:=by kernel_rfl
structure SetF where
 g:Rws→Int→Bool
 sn:Rws→Int→Int
 lo:Rws→Int→Nat
 wn:Rws→Int→Nat
 cp:Rws→Int→Nat
def hdSet (F:SetF):Hd:=hdO (decI .i64) F.g (fun r b=>.tuple #[.int .i64 (F.sn r b),.slice (some ⟨1001,F.lo r b,none⟩) (F.wn r b) (F.cp r b)]) fun r _=>r
structure IxF where
 g:List Value→Nat→Nat→Nat→Bool
 h:List Value→Nat→Nat→Int→Int
 f:List Value→Nat→Nat→Int
def HFi (F:SetF)(I:IxF):Hs:=hsOf [] [(209,hdSet F),(221,hdIx I.g I.h I.f)] []
theorem r_caFi (gl:Gl)(F:SetF)(I:IxF)(c:Cfg)(nl ns:Nat)(ls ks:List Value)(b:Int):cV sy12 gl (HFi F I) 179 [pK 1000,.int .i64 b] (cacheX c nl ns ls ks) noV=
 letI A:=cacheX c nl ns ls ks
 letI B:=List.all ls (af 8)&&(List.all ks (af 8)&&true)
 letI C:Option Out:=cond B (some (.normal,([.tuple #[.int .i64 0,.slice none 0 0,.int .i64 (-1)]],A))) none
 letI D:=List.all ls (af 8)&&true
 cond (decide (b≥0)) (cond (decide (b<256)) (cond B (cond (F.g A b) (cond B (cond D (cond (cl ([.slice (some {block:=1000,off:=F.lo A b}) (F.wn A b) (F.cp A b),.func (Fn.func 226) #[] #[pK 1001]]=[slO (F.lo A b) (F.wn A b) (F.cp A b),hasV]∧[some (.row ⟨ls,168,(0,0),0,false,
 false⟩),some (.row ⟨[.int .i64 b],3,(0,0),0,false,false⟩)]=[some (lnRow ls),some (bRow b)])) (cond (I.g ls (F.lo A b) (F.wn A b) (F.cp A b)) (cond D (cond B (some (.normal,([.tuple #[.int .i64 (F.sn A b),.slice (some ⟨1001,F.lo A b,none⟩) (F.wn A b) (F.cp A b),.int .i64 (I.h ls (F.lo
 A b) (F.wn A b) b)]],A))) none) none) none) none) none) none) none) none) C) C:=by kernel_rfl
structure FindF extends SetF where
 mb:Int→Bool
 fi:Rws→Int→Int
def hdFind (F:FindF):Hd:=hdT (decI .i64) fun r b=>.br (F.g r b) (.br (F.mb b) (.ret (.normal,[.tuple #[.int .i64 (F.sn r b),.slice (some ⟨1001,F.lo r b,none⟩) (F.wn r b) (F.cp r b),.int .i64 (F.fi r b)]],r)) (.ret (.normal,[.tuple #[.int .i64 0,.slice none 0 0,.int .i64 (-1)]],r))) .fail
structure VicF where
 gu:Int→Int→Int→Bool
 us:Int→Int→Int→Int
 gv:Int→Int→Bool
 vc:Int→Int→Int
def HCa (F:FindF)(I:IxF)(V:VicF):Hs:=hsOf [(222,afU V.gu V.us),(193,afW V.gv V.vc)] [(179,hdFind F),(221,hdIx I.g I.h I.f)] []
def vR:PlanV:=⟨[.op 1000],fun _=>[.cl 1000 []]⟩
theorem r_caFind (gl:Gl)(F:FindF)(I:IxF)(V:VicF)(c:Cfg)(nl ns:Nat)(ls ks:List Value)(b:Int):cV sy12 gl (HCa F I V) 124 [pK 1000,.int .i64 b] (bx (cacheX c nl ns ls ks)) vR=
 letI A:=cacheX c nl ns ls ks
 letI B:=List.all ks (af 8)&&true
 letI D:=List.all ls (af 8)&&B
 letI E:=F.lo A b+(F.fi A b).toNat*18
 letI G:=List.all ls (af 8)&&B&&true
 letI H:Rws:=[some (.box (A++[]) [])]
 letI C:Option Out:=cond G (some (.normal,([.tuple #[lnV ln0,.bool false]],H))) none
 cond (List.all ls (af 8)&&B&&true&&true&&true&&true) (cond D (cond (F.g A b) (cond (F.mb b) (cond D (cond (decide (F.fi A b<0)) C (cond (decide (0≤F.fi A b)&&(decide (F.fi A b<(↑(F.wn A b):Int)))&&((F.wn A b).ble (F.cp A b))) (cond (lnOk ls E) (cond G (some (.normal,([.tuple
 #[lnV (lnS ls E),.bool true]],H))) none) none) none)) none) (cond D C none)) none) none) none:=by kernel_rfl
theorem r_caDrop (gl:Gl)(F:FindF)(I:IxF)(V:VicF)(c:Cfg)(nl ns:Nat)(ls ks:List Value)(b:Int):cV sy12 gl (HCa F I V) 146 [pK 1000,.int .i64 b] (bx (cacheX c nl ns ls ks)) vR=
 letI A:=cacheX c nl ns ls ks
 letI B:=List.all ks (af 8)&&true
 letI C:Option Out:=cond (List.all ls (af 8)&&B&&true) (some (.normal,([.bool false],[some (.box (A++[]) [])]))) none
 letI D:=splice ls (F.lo A b+(F.fi A b).toNat*18) (lnL ln0)
 letI E:=List.all ls (af 8)&&B
 cond (List.all ls (af 8)&&B&&true&&true&&true&&true) (cond E (cond (F.g A b) (cond (F.mb b) (cond E (cond (decide (F.fi A b<0)) C (cond (decide (0≤F.fi A b)&&(decide (F.fi A b<(↑(F.wn A b):Int)))&&((F.wn A b).ble (F.cp A b))) (cond ((F.lo A b+(F.fi A b).toNat*18+18).ble
 ls.length&&true&&true) (cond (List.all D (af 8)&&B&&true) (some (.normal,([.bool true],[some (.box ((cacheX c nl ns (D) ks)++[]) [])]))) none) none) none)) none) (cond E C none)) none) none) none:=by kernel_rfl
theorem r_caUse (gl:Gl)(F:FindF)(I:IxF)(V:VicF)(c:Cfg)(nl ns:Nat)(ls ks:List Value)(b:Int):cV sy12 gl (HCa F I V) 199 [pK 1000,.int .i64 b] (bx (cacheX c nl ns ls ks)) vR=
 letI A:=cacheX c nl ns ls ks
 letI C:=List.all ks (af 8)&&true
 letI D:=genOf (genSym Value.nilFunc) ks
 letI E:=0+(F.sn A b).toNat*1
 letI H:=decide (0≤F.sn A b)&&(decide (F.sn A b<(↑ns:Int)))&&(ns.ble ns)
 letI K:=List.all ls (af 8)&&C
 letI L:=decide (F.fi A b≥0)
 letI N:=V.us c.ways (F.fi A b) (D.int .u8 E)
 letI B:=splice ks E [.int .u8 N]
 letI J:=List.all ls (af 8)&&(List.all B (af 8)&&true)&&true
 letI M:Rws:=[some (.box ((cacheX c nl ns ls (B))++[]) [])]
 letI O:=List.all ls (af 8)&&C&&true
 letI P:Rws:=[some (.box (A++[]) [])]
 letI G:Option Out:=cond O (some (.normal,([.bool false],P))) none
 cond (List.all ls (af 8)&&C&&true&&true&&true&&true) (cond K (cond (F.g A b) (cond (F.mb b) (cond K (cond L (cond H (cond (D.okI .u8 E) (cond (V.gu c.ways (F.fi A b) (D.int .u8 E)) (cond H (cond ((0+(F.sn A b).toNat*1+[Value.int .u8 N].length).ble ks.length&&true&&true) (qs
 [c.ways] (cond (D.okI .u8 E) (qs [D.int .u8 E] (qn [ns,ns,ns,ns,ns,ns] (cond L (cond J (some (.normal,([.bool true],M))) none) (cond J (some (.normal,([.bool false],M))) none)))) none)) none) none) none) none) none) (cond L (cond O (some (.normal,([.bool true],P))) none) G)) none) (cond
 K G none)) none) none) none:=by kernel_rfl
theorem r_caPut (gl:Gl)(F:FindF)(I:IxF)(V:VicF)(c:Cfg)(nl ns:Nat)(ls ks:List Value)(x:LineS):cV sy12 gl (HCa F I V) 175 [pK 1000,lnV x] (bx (cacheX c nl ns ls ks)) vR=
 letI A:=cacheX c nl ns ls ks
 letI C:=genOf (genSym Value.nilFunc) ks
 letI E:=decide (0≤F.sn A x.block)&&(decide (F.sn A x.block<(↑ns:Int)))&&(ns.ble ns)
 letI J:=F.wn A x.block
 letI K:=List.all ks (af 8)&&true
 letI L:=F.fi A x.block
 letI N:=F.lo A x.block
 letI H:=I.f ls N J
 letI O:=F.cp A x.block
 letI P:=splice ls (F.lo A x.block+H.toNat*18) (lnL x)
 letI Q:=splice ls (F.lo A x.block+L.toNat*18) (lnL x)
 letI R:=List.all ls (af 8)&&K
 letI W:=List.all ls (af 8)&&K&&true
 letI X:=F.sn A x.block
 letI B:=0+X.toNat*1
 letI M:=C.int .u8 B
 letI S:=splice ks B [.int .u8 (V.us c.ways H M)]
 letI T:=splice ks B [.int .u8 (V.us c.ways L M)]
 letI U:=C.okI .u8 B
 letI Y:=decide (F.fi A x.block<0)
 letI Z:=List.all ls (af 8)&&true
 letI z0:Rws:=[some (.box (A++[]) [])]
 letI D:Option Out:=cond W (some (.normal,([.int .i64 2],z0))) none
 letI G:Option Out:=cond W (some (.normal,([.int .i64 7],z0))) none
 cond (List.all ls (af 8)&&K&&true&&true&&true&&true) (cond (decide (x.block≥0)) (cond (decide (x.block<256)) (cond (decide (x.state<1)) D (cond (decide (x.state>3)) D (cond R (cond (F.g A x.block) (cond (F.mb x.block) (cond R (cond Y (cond Z (cond (cl ([.slice (some
 {block:=1000,off:=F.lo A x.block}) J O,.func (Fn.func 192) #[] #[]]=[slO N J O,freV]∧[some (.row ⟨ls,168,(0,0),0,false,false⟩)]=[some (lnRow ls)])) (cond (I.g ls N J O) (cond Z (cond (decide (I.f ls N J<0)) G (cond (decide (0≤I.f ls N J)&&(decide (I.f ls N J<(↑J:
 Int)))&&(J.ble O)) (cond ((F.lo A x.block+H.toNat*18+(lnL x).length).ble ls.length&&true&&true) (cond E (cond U (cond (V.gu c.ways H M) (cond E (cond ((0+X.toNat*1+[Value.int .u8 (V.us c.ways H M)].length).ble ks.length&&true&&true) (qs [c.ways] (cond U (qs [C.int .u8 B] (qn
 [ns,ns,ns,ns,ns,ns] (cond (List.all P (af 8)&&(List.all S (af 8)&&true)&&true) (some (.normal,([.int .i64 0],[some (.box ((cacheX c nl ns (P) (S))++[]) [])]))) none))) none)) none) none) none) none) none) none) none)) none) none) none) none) (cond Y G (cond (decide (0≤F.fi A
 x.block)&&(decide (F.fi A x.block<(↑J:Int)))&&(J.ble O)) (cond ((F.lo A x.block+L.toNat*18+(lnL x).length).ble ls.length&&true&&true) (cond E (cond U (cond (V.gu c.ways L M) (cond E (cond ((0+X.toNat*1+[Value.int .u8 (V.us c.ways L M)].length).ble ks.length&&true&&true)
 (qs [c.ways] (cond U (qs [C.int .u8 B] (qn [ns,ns,ns,ns,ns,ns] (cond (List.all Q (af 8)&&(List.all T (af 8)&&true)&&true) (some (.normal,([.int .i64 0],[some (.box ((cacheX c nl ns (Q) (T))++[]) [])]))) none))) none)) none) none) none) none) none) none) none))) none) (cond R G none))
 none) none))) D) D) none:=by kernel_rfl
theorem r_caGoes (gl:Gl)(F:FindF)(I:IxF)(V:VicF)(c:Cfg)(nl ns:Nat)(ls ks:List Value)(b:Int):cV sy12 gl (HCa F I V) 142 [pK 1000,.int .i64 b] (bx (cacheX c nl ns ls ks)) vR=
 letI A:=cacheX c nl ns ls ks
 letI D:=List.all ks (af 8)&&true
 letI E:=genOf (genSym Value.nilFunc) ks
 letI G:=0+(F.sn A b).toNat*1
 letI C:=E.int .u8 G
 letI H:=List.all ls (af 8)&&D
 letI J:=F.lo A b+(V.vc c.ways C).toNat*18
 letI K:=List.all ls (af 8)&&D&&true
 letI L:=List.all ls (af 8)&&true
 letI M:Rws:=[some (.box (A++[]) [])]
 letI B:Option Out:=cond K (some (.normal,([.tuple #[lnV ln0,.bool false]],M))) none
 cond (List.all ls (af 8)&&D&&true&&true&&true&&true) (cond H (cond (F.g A b) (cond (F.mb b) (cond H (cond (decide (F.fi A b≥0)) B (cond L (cond (cl ([.slice (some {block:=1000,off:=F.lo A b}) (F.wn A b) (F.cp A b),.func (Fn.func 192) #[] #[]]=[slO (F.lo A b) (F.wn A b) (F.cp A
 b),freV]∧[some (.row ⟨ls,168,(0,0),0,false,false⟩)]=[some (lnRow ls)])) (cond (I.g ls (F.lo A b) (F.wn A b) (F.cp A b)) (cond L (cond (decide (I.f ls (F.lo A b) (F.wn A b)≥0)) B (cond (decide (0≤F.sn A b)&&(decide (F.sn A b<(↑ns:Int)))&&(ns.ble ns)) (cond (E.okI .u8 G) (cond
 (V.gv c.ways C) (qs [c.ways] (cond (E.okI .u8 G) (qs [E.int .u8 G] (qn [ns,ns] (cond (decide (0≤V.vc c.ways C)&&(decide (V.vc c.ways C<(↑(F.wn A b):Int)))&&((F.wn A b).ble (F.cp A b))) (cond (lnOk ls J) (cond K (some (.normal,([.tuple #[lnV (lnS ls J),.bool true]],M))) none) none)
 none))) none)) none) none) none)) none) none) none) none)) none) (cond H B none)) none) none) none:=by kernel_rfl
theorem r_caWrite (gl:Gl)(F:FindF)(I:IxF)(V:VicF)(c:Cfg)(nl ns:Nat)(ls ks:List Value)(b w x:Int):cV sy12 gl (HCa F I V) 148 [pK 1000,.int .i64 b,.int .i64 w,.int .u32 x] (bx (cacheX c nl ns ls ks)) vR=
 letI A:=cacheX c nl ns ls ks
 letI D:=decide (0≤F.fi A b)&&(decide (F.fi A b<(↑(F.wn A b):Int)))&&((F.wn A b).ble (F.cp A b))
 letI E:=splice ls (F.lo A b+(F.fi A b).toNat*18+2+w.toNat*1) [.int .u32 x]
 letI G:=0+(F.sn A b).toNat*1
 letI H:=F.lo A b+(F.fi A b).toNat*18+1
 letI J:=List.all ks (af 8)&&true
 letI B:=List.all ls (af 8)&&J&&true
 letI K:=genSym Value.nilFunc
 letI L:Rws:=[some (.box (A++[]) [])]
 letI M:=decide (0≤F.sn A b)&&(decide (F.sn A b<(↑ns:Int)))&&(ns.ble ns)
 letI O:=List.all ls (af 8)&&J
 letI P:Option Out:=cond B (some (.normal,([.int .i64 4],L))) none
 letI Q:Option Out:=cond B (some (.normal,([.int .i64 5],L))) none
 letI R:=genOf K ks
 letI C:=R.int .u8 G
 letI N:=V.us c.ways (F.fi A b) C
 letI S:=splice ks G [.int .u8 N]
 letI T:=splice E H [.int .u8 3]
 cond (List.all ls (af 8)&&J&&true&&true&&true&&true) (cond O (cond (F.g A b) (cond (F.mb b) (cond O (cond (decide (F.fi A b<0)) P (cond (decide (w<0)) Q (cond (decide (w≥16)) Q (cond D (cond ((genOf K ls).okI .u8 H) (cond ((genOf K ls).int .u8 H==1) (cond B (some (.normal,([.int
 .i64 8],L))) none) (cond D (cond (decide (0≤w)&&(decide (w<16))) (cond ((F.lo A b+(F.fi A b).toNat*18+2+w.toNat*1+[Value.int .u32 x].length).ble ls.length&&true&&true) (cond D (cond ((F.lo A b+(F.fi A b).toNat*18+1+1).ble E.length&&true&&true) (cond M (cond (R.okI
 .u8 G) (cond (V.gu c.ways (F.fi A b) C) (cond M (cond ((0+(F.sn A b).toNat*1+[Value.int .u8 N].length).ble ks.length&&true&&true) (qs [c.ways] (cond (R.okI .u8 G) (qs [R.int .u8 G] (qn [ns,ns,ns,ns,ns,ns] (cond (List.all T (af 8)&&(List.all S (af 8)&&true)&&true) (some
 (.normal,([.int .i64 0],[some (.box ((cacheX c nl ns (T) (S))++[]) [])]))) none))) none)) none) none) none) none) none) none) none) none) none) none)) none) none)))) none) (cond O P none)) none) none) none:=by kernel_rfl
theorem r_caTurn (gl:Gl)(F:FindF)(I:IxF)(V:VicF)(c:Cfg)(nl ns:Nat)(ls ks:List Value)(b s:Int):cV sy12 gl (HCa F I V) 173 [pK 1000,.int .i64 b,.int .u8 s] (bx (cacheX c nl ns ls ks)) vR=
 letI A:=cacheX c nl ns ls ks
 letI B:=List.all ks (af 8)&&true
 letI C:=List.all ls (af 8)&&B&&true
 letI D:Rws:=[some (.box (A++[]) [])]
 letI E:=splice ls (F.lo A b+(F.fi A b).toNat*18+1) [.int .u8 s]
 letI G:=List.all ls (af 8)&&B
 letI H:Option Out:=cond C (some (.normal,([.int .i64 4],D))) none
 letI J:Option Out:=cond C (some (.normal,([.int .i64 2],D))) none
 cond (List.all ls (af 8)&&B&&true&&true&&true&&true) (cond G (cond (F.g A b) (cond (F.mb b) (cond G (cond (decide (F.fi A b<0)) H (cond (decide (s<1)) J (cond (decide (s>3)) J (cond (decide (0≤F.fi A b)&&(decide (F.fi A b<(↑(F.wn A b):Int)))&&((F.wn A b).ble (F.cp A b)))
 (cond ((F.lo A b+(F.fi A b).toNat*18+1+[Value.int .u8 s].length).ble ls.length&&true&&true) (cond (List.all E (af 8)&&B&&true) (some (.normal,([.int .i64 0],[some (.box ((cacheX c nl ns (E) ks)++[]) [])]))) none) none) none)))) none) (cond G H none)) none) none) none:=by kernel_rfl
theorem dltN (j:Nat){i:Decidable ((j:Int)<0)}: @decide _ i=false:=qd2 (by omega)
theorem dgeN (j:Nat){i:Decidable ((j:Int)≥0)}: @decide _ i=true:=qd1 (by omega)
theorem d0N (j:Nat){i:Decidable (0≤(j:Int))}: @decide _ i=true:=qd1 (by omega)
theorem dltNN {a b:Nat}(h:a<b){i:Decidable ((a:Int)<(b:Int))}: @decide _ i=true:=qd1 (by omega)
theorem dneg {i:Decidable ((-1:Int)<0)}: @decide _ i=true:=qd1 (by omega)
theorem dneg2 {i:Decidable ((-1:Int)≥0)}: @decide _ i=false:=qd2 (by omega)
theorem dT {p:Prop}(h:p){i:Decidable p}: @decide p i=true:=qd1 h
theorem dF {p:Prop}(h: ¬p){i:Decidable p}: @decide p i=false:=qd2 h
theorem splice_one {l:List Value}{o:Nat}{v:Value}(h:o<l.length):splice l o [v]=l.set o v:=by
 unfold splice
 rw[List.set_eq_take_append_cons_drop,if_pos h,List.append_assoc]
 rfl
abbrev u8L (ms:List Int):List Value:=ms.map (Value.int .u8)
theorem u8_af (ws:List Int):(u8L ws).all (af 8)=true:=List.all_eq_true.2 fun v hv=>by
 obtain⟨z,_,rfl⟩:=List.mem_map.1 hv;rfl
theorem u8_inj {a b:List Int}(h:u8L a=u8L b):a=b:=List.map_inj_right (fun x y e=>by cases e;rfl)|>.1 h
theorem g8_ok {ws:List Int}{o:Nat}(h:o<ws.length):(gS (u8L ws)).okI .u8 o=true:=by
 show cellIsI .u8 (u8L ws)[o]? =true
 rw[List.getElem?_map,qx2 h];rfl
theorem g8_int (ws:List Int)(o:Nat):(gS (u8L ws)).int .u8 o=(ws[o]?).getD 0:=by
 show cellI (u8L ws)[o]? =_
 rw[List.getElem?_map]
 cases ws[o]? <;>rfl
theorem u8_set {ws:List Int}{o:Nat}{x:Int}(h:o<ws.length):splice (u8L ws) o [.int .u8 x]=u8L (ws.set o x):=by
 rw[splice_one (by rw[List.length_map];exact h),←List.map_set]
structure CacheS where
 c:Cfg
 lines:List LineS
 mm:List Int
abbrev cacheR (k:CacheS):Rws:=cacheX k.c k.lines.length k.mm.length (lnsL k.lines) (u8L k.mm)
def CacheS.ok (k:CacheS):Prop:=planOk k.c=true∧k.lines.length=k.c.sets.toNat*k.c.ways.toNat∧k.mm.length=k.c.sets.toNat∧ ∀m∈k.mm,memOk m
theorem lnsL_inj0 {a b:List LineS}(h:lnsL a=lnsL b):a=b:=by
 have hl:a.length=b.length:=by
  have:=congrArg List.length h
  rw[lnsL_len,lnsL_len]at this;omega
 exact(lnsL_inj (J:=[]) (J':=[]) hl (by rw[h])).1
theorem cacheR_inj {k k':CacheS}(h:cacheR k=cacheR k'):k=k':=by
 obtain⟨⟨c1,c2,c3,c4,c5,c6,c7,c8⟩,l,m⟩:=k
 obtain⟨⟨d1,d2,d3,d4,d5,d6,d7,d8⟩,l',m'⟩:=k'
 simp only[cacheX,cacheRow,List.cons_append,List.nil_append,List.cons.injEq,Option.some.injEq,LObj.row.injEq,LBlk.mk.injEq,Value.int.injEq,Value.slice.injEq,true_and,and_true]at h
 obtain⟨⟨h1,h2,h3,h4,h5,h6,h7,h8,_⟩,h9,h10⟩:=h
 rw[lnsL_inj0 h9,u8_inj h10,h1,h2,h3,h4,h5,h6,h7,h8]
def isCache (r:Rws):Bool:=cl (∃k:CacheS,k.ok∧r=cacheR k)
def cOf (r:Rws):CacheS:=open Classical in if h: ∃k:CacheS,r=cacheR k then h.choose else⟨⟨0,0,0,0,0,0,0,0⟩,[],[]⟩
theorem cOf_eq (k:CacheS):cOf (cacheR k)=k:=by
 have hx: ∃q:CacheS,cacheR k=cacheR q:=⟨k,rfl⟩
 unfold cOf
 rw[dif_pos hx]
 exact(cacheR_inj hx.choose_spec).symm
theorem isCache_t {k:CacheS}(h:k.ok):isCache (cacheR k)=true:=cl_t ⟨k,h,rfl⟩
def lnOf (cs:List Value):List LineS:=open Classical in if h: ∃L,cs=lnsL L then h.choose else[]
theorem lnOf_eq (L:List LineS):lnOf (lnsL L)=L:=by
 have hx: ∃q,lnsL L=lnsL q:=⟨L,rfl⟩
 unfold lnOf
 rw[dif_pos hx]
 exact(lnsL_inj0 hx.choose_spec).symm
def iF:IxF:=⟨fun cs o n c=>cl (∃L k,cs=lnsL L∧o=k*18∧k+n≤L.length∧n≤c∧n≤65536),fun cs o n b=>ixN (ixFrom (hasP b) (seg (lnOf cs) (o/18) n) 0),fun cs o n=>ixN (ixFrom freP (seg (lnOf cs) (o/18) n) 0)⟩
theorem sub_ix {gl:Gl}(hgl:Low gl):SubOK Tryz.prog gl 221 (hdIx iF.g iF.h iF.f):=by
 intro vs rows t e u rows' h1 h2
 unfold hdIx at h1
 split at h1
 ·rename_i a n c _ _ _ ls bk
  split at h1
  ·rename_i k b _
   cases h1
   obtain⟨q1,h3⟩:=condT (show cond (cl _) _ none=some (e,[u],rows')from h2)
   obtain⟨q2,h4⟩:=condT (show cond (iF.g _ _ _ _) _ none=some (e,[u],rows')from h3)
   obtain⟨e1,e2⟩:=of_cl q1
   obtain⟨L,k,e3,e4,e5,e6,e7⟩:=of_cl q2
   have:=ix_has hgl (L:=L) (k:=k) (n:=n) (c:=c) (b:=b) e5 e6 e7
   rw[←e3,←e4]at this
   refine this _ _ _ e u rows' rfl ?_
   rw[e1,e2]
   show cond (atS _ _ _ _) (some _) none=_
   rw[atS_self,←h4]
   show _=some (Ex.normal,[Value.int .i64 (ixN (ixFrom (hasP b) (seg (lnOf ls.cells) (a.off/18) n) 0))],_)
   rw[e3,lnOf_eq,e4,Nat.mul_div_cancel _ (by decide)]
   rfl
  ·cases h1
 ·rename_i a n c _ _ _ ls
  cases h1
  obtain⟨q1,h3⟩:=condT (show cond (cl _) _ none=some (e,[u],rows')from h2)
  obtain⟨q2,h4⟩:=condT (show cond (iF.g _ _ _ _) _ none=some (e,[u],rows')from h3)
  obtain⟨e1,e2⟩:=of_cl q1
  obtain⟨L,k,e3,e4,e5,e6,e7⟩:=of_cl q2
  have:=ix_fre hgl (L:=L) (k:=k) (n:=n) (c:=c) e5 e6 e7
  rw[←e3,←e4]at this
  refine this _ _ _ e u rows' rfl ?_
  rw[e1,e2]
  show cond (atS _ _ _ _) (some _) none=_
  rw[atS_self,←h4]
  show _=some (Ex.normal,[Value.int .i64 (ixN (ixFrom freP (seg (lnOf ls.cells) (a.off/18) n) 0))],_)
  rw[e3,lnOf_eq,e4,Nat.mul_div_cancel _ (by decide)]
  rfl
 ·cases h1
theorem pw2_3:pw2 3=false:=by decide
theorem plan_way {c:Cfg}(h:planOk c=true):wayOk c.ways:=by
 obtain⟨⟨_,_,_,_,h1,h2,_⟩,_,h3,_⟩:=planOk_iff.1 h
 have:c.ways≠3:=fun e=>by rw[e,pw2_3]at h3;cases h3
 unfold wayOk;omega
theorem set_bd {c:Cfg}(h:planOk c=true)(b:Int):0≤setI c b∧setI c b<c.sets:=by
 obtain⟨⟨_,_,h1,h2,_⟩,_⟩:=planOk_iff.1 h
 unfold setI
 rw[h,cond_true]
 cases decide (b<0)with
 |true=>exact⟨Int.le_refl _,by show(0:Int)<c.sets;omega⟩
 |false=>
  simp only[cond_false]
  have e:IntKind.i64.wrap (c.sets-1)=c.sets-1:=wrap_id _ (by omega)
  rw[e,BitVec.toNat_and]
  have hle:(BitVec.ofInt 64 b).toNat&&&(BitVec.ofInt 64 (c.sets-1)).toNat≤(BitVec.ofInt 64 (c.sets-1)).toNat:=Nat.and_le_right
  have h3:(BitVec.ofInt 64 (c.sets-1)).toNat=(c.sets-1).toNat:=by
   rw[BitVec.toNat_ofInt]
   congr 1
   exact Int.emod_eq_of_lt (by omega) (by omega)
  rw[h3]at hle ⊢
  rw[wrap_id _ (by omega)]
  omega
def CacheS.sn (k:CacheS)(b:Int):Nat:=(setI k.c b).toNat
def CacheS.w (k:CacheS):Nat:=k.c.ways.toNat
def CacheS.lo (k:CacheS)(b:Int):Nat:=k.sn b*k.w
theorem CacheS.lo_bd {k:CacheS}(h:k.ok)(b:Int):k.lo b+k.w≤k.lines.length∧k.sn b<k.mm.length∧(k.sn b:Int)=setI k.c b∧(k.w:Int)=k.c.ways∧wayOk k.c.ways∧k.lines.length≤64∧1≤k.w:=by
 obtain⟨hp,h1,h2,h3⟩:=h
 obtain⟨s0,s1⟩:=set_bd hp b
 have hw:=plan_way hp
 obtain⟨⟨_,_,q1,q2,q3,q4,_⟩,_⟩:=planOk_iff.1 hp
 have hs:k.sn b+1≤k.c.sets.toNat:=by unfold CacheS.sn;omega
 have hm:=Nat.mul_le_mul_right k.w hs
 rw[Nat.add_mul,Nat.one_mul]at hm
 have hm2:k.c.sets.toNat*k.c.ways.toNat≤16*4:=Nat.mul_le_mul (by omega) (by omega)
 refine⟨?_,?_,?_,?_,hw,?_,?_⟩
 ·unfold CacheS.lo;rw[h1];exact hm
 ·rw[h2];omega
 ·unfold CacheS.sn;omega
 ·unfold CacheS.w;omega
 ·rw[h1];exact hm2
 ·unfold CacheS.w;omega
def sF:SetF:=⟨fun r _=>isCache r,fun r b=>setI (cOf r).c b,fun r b=>(cOf r).lo b*18,fun r _=>(cOf r).w,fun r b=>(cOf r).lines.length-(cOf r).lo b⟩
theorem HSt_ok {gl:Gl}(hgl:Low gl):(HSt setI).OK Tryz.prog gl:=hsOf_ok (fun p hp=>by
 simp only[List.mem_cons,List.not_mem_nil,or_false]at hp
 subst hp;exact fn_pSet hgl) (fun _ h=>nomatch h) (fun _ h=>nomatch h)
theorem sub_caSet {gl:Gl}(hgl:Low gl):SubOK Tryz.prog gl 209 (hdSet sF):=hdO_sub fun r b hr=>by
 obtain⟨k,hk,rfl⟩:=of_cl hr
 obtain⟨b1,b2,b3,b4,b5,b6,b7⟩:=CacheS.lo_bd hk b
 refine sub_atV goodT hgl tglob ⟨sy12,_,100,40,40,noV,syG_ok _,HSt_ok hgl,(r_caSet gl setI k.c k.lines.length k.mm.length (lnsL k.lines) (u8L k.mm) b).trans ?_⟩
 have hw:k.w≤4:=by unfold wayOk at b5;omega
 have hm:k.sn b*k.w+k.w≤64:=Nat.le_trans b1 b6
 have e1:setI k.c b*k.c.ways=((k.lo b:Nat):Int):=by rw[←b3,←b4];rfl
 have e2:IntKind.i64.wrap (setI k.c b+1)*k.c.ways=((k.lo b+k.w:Nat):Int):=by
  have:k.sn b≤64:=by
   have:=Nat.mul_le_mul_left (k.sn b) b7
   omega
  rw[←b3,wrap_id _ (by omega),←b4,Int.add_mul,Int.one_mul]
  rfl
 have hlo:k.lo b≤64:=by omega
 have e3:IntKind.i64.wrap ((k.lo b:Nat):Int)=((k.lo b:Nat):Int):=wrap_id _ (by omega)
 have e4:IntKind.i64.wrap ((k.lo b+k.w:Nat):Int)=((k.lo b+k.w:Nat):Int):=wrap_id _ (by omega)
 have e5:decide (((k.lo b:Nat):Int)≤((k.lo b+k.w:Nat):Int))=true:=qd1 (by omega)
 have e6:decide (((k.lo b+k.w:Nat):Int)≤((k.lines.length:Nat):Int))=true:=qd1 (by omega)
 have e7:k.lines.length.beq (k.lo b)=false:=by
  cases h:k.lines.length.beq (k.lo b)with
  |false=>rfl
  |true=>have:=qe1 h;omega
 have e8:k.lo b+k.w-k.lo b=k.w:=by omega
 simp only[e1,e2,e3,e4,e5,e6,e7,e8,d0N,nble,Int.toNat_natCast,Nat.zero_add,lnsL_af,u8_af,qs_eq,qn_eq,Bool.and_self,cond_true,cond_false,Nat.beq_refl]
 show _=some (Ex.normal,[Value.tuple #[.int .i64 (setI (cOf (cacheR k)).c b),.slice (some ⟨1001,(cOf (cacheR k)).lo b*18,none⟩) (cOf (cacheR k)).w ((cOf (cacheR k)).lines.length-(cOf (cacheR k)).lo b)]],cacheR k)
 rw[cOf_eq]
def CacheS.fi (k:CacheS)(b:Int):Option Nat:=ixFrom (hasP b) (seg k.lines (k.lo b) k.w) 0
def CacheS.fr (k:CacheS)(b:Int):Option Nat:=ixFrom freP (seg k.lines (k.lo b) k.w) 0
def mbI (b:Int):Bool:=decide (b≥0)&&decide (b<256)
def fF:FindF:=⟨sF,mbI,fun r b=>ixN ((cOf r).fi b)⟩
theorem HFi_ok {gl:Gl}(hgl:Low gl):(HFi sF iF).OK Tryz.prog gl:=hsOf_ok (fun _ h=>nomatch h) (fun p hp=>by
 simp only[List.mem_cons,List.not_mem_nil,or_false]at hp
 rcases hp with rfl|rfl
 ·exact sub_caSet hgl
 ·exact sub_ix hgl) (fun _ h=>nomatch h)
theorem iF_g {k:CacheS}(h:k.ok)(b:Int):iF.g (lnsL k.lines) (k.lo b*18) k.w (k.lines.length-k.lo b)=true:=by
 obtain⟨b1,b2,b3,b4,b5,b6,b7⟩:=CacheS.lo_bd h b
 exact cl_t ⟨k.lines,k.lo b,rfl,rfl,b1,by omega,by omega⟩
theorem iF_h (k:CacheS)(b:Int):iF.h (lnsL k.lines) (k.lo b*18) k.w b=ixN (k.fi b):=by
 show ixN (ixFrom (hasP b) (seg (lnOf (lnsL k.lines)) (k.lo b*18/18) k.w) 0)=_
 rw[lnOf_eq,Nat.mul_div_cancel _ (by decide)];rfl
theorem iF_f (k:CacheS)(b:Int):iF.f (lnsL k.lines) (k.lo b*18) k.w=ixN (k.fr b):=by
 show ixN (ixFrom freP (seg (lnOf (lnsL k.lines)) (k.lo b*18/18) k.w) 0)=_
 rw[lnOf_eq,Nat.mul_div_cancel _ (by decide)];rfl
theorem sF_g {k:CacheS}(h:k.ok)(b:Int):sF.g (cacheR k) b=true:=isCache_t h
theorem sF_sn (k:CacheS)(b:Int):sF.sn (cacheR k) b=setI k.c b:=by show setI (cOf (cacheR k)).c b=_;rw[cOf_eq]
theorem sF_lo (k:CacheS)(b:Int):sF.lo (cacheR k) b=k.lo b*18:=by show(cOf (cacheR k)).lo b*18=_;rw[cOf_eq]
theorem sF_wn (k:CacheS)(b:Int):sF.wn (cacheR k) b=k.w:=by show(cOf (cacheR k)).w=_;rw[cOf_eq]
theorem sF_cp (k:CacheS)(b:Int):sF.cp (cacheR k) b=k.lines.length-k.lo b:=by show(cOf (cacheR k)).lines.length-(cOf (cacheR k)).lo b=_;rw[cOf_eq]
theorem fF_fi (k:CacheS)(b:Int):fF.fi (cacheR k) b=ixN (k.fi b):=by show ixN ((cOf (cacheR k)).fi b)=_;rw[cOf_eq]
theorem cl_True:cl True=true:=cl_t trivial
theorem sub_caFi {gl:Gl}(hgl:Low gl):SubOK Tryz.prog gl 179 (hdFind fF):=hdT_sub fun r b o ho=>by
 obtain⟨h1,h2⟩:=condT (show cond (isCache r) _ none=some o from ho)
 obtain⟨k,hk,rfl⟩:=of_cl h1
 refine sub_atV goodT hgl tglob ⟨sy12,_,100,40,40,noV,syG_ok _,HFi_ok hgl,(r_caFi gl sF iF k.c k.lines.length k.mm.length (lnsL k.lines) (u8L k.mm) b).trans ?_⟩
 rw[←h2]
 simp only[lnsL_af,u8_af,sF_g hk,sF_sn,sF_lo,sF_wn,sF_cp,iF_g hk,iF_h,Bool.and_self,cond_true]
 show _=cond (mbI b) (some (Ex.normal,[Value.tuple #[.int .i64 (sF.sn (cacheR k) b),.slice (some ⟨1001,sF.lo (cacheR k) b,none⟩) (sF.wn (cacheR k) b) (sF.cp (cacheR k) b),.int .i64 (fF.fi (cacheR k) b)]],cacheR k)) _
 rw[sF_sn,sF_lo,sF_wn,sF_cp,fF_fi]
 unfold mbI
 cases decide (b≥0)with
 |false=>rfl
 |true=>
  cases decide (b<256)with
  |false=>rfl
  |true=>
   refine Eq.trans (b:=cond (cl _) _ none) rfl ?_
   rw[cl_t (by first|exact⟨rfl,rfl⟩|exact⟨trivial,rfl⟩)]
   rfl
def vF:VicF:=⟨fun w y m=>cl (useOk w y m),usM,fun w m=>cl (wayOk w∧memOk m),vcM⟩
theorem fn_vUse {gl:Gl}(hgl:Low gl):FnOK Tryz.prog gl 222 (afU vF.gu vF.us):=fn_res hgl H0_ok fun args σ v h=>by
 unfold afU at h
 split at h
 ·simp only[Option.some.injEq,Prod.mk.injEq]at h
  obtain⟨h1,rfl⟩:=h
  exact⟨rfl,q_vUse gl (of_cl h1)⟩
 ·cases h
theorem fn_vVic {gl:Gl}(hgl:Low gl):FnOK Tryz.prog gl 193 (afW vF.gv vF.vc):=fn_res hgl H0_ok fun args σ v h=>by
 unfold afW at h
 split at h
 ·simp only[Option.some.injEq,Prod.mk.injEq]at h
  obtain⟨h1,rfl⟩:=h
  obtain⟨h2,h3⟩:=of_cl h1
  exact⟨rfl,q_vVic gl h2 h3⟩
 ·cases h
theorem HCa_ok {gl:Gl}(hgl:Low gl):(HCa fF iF vF).OK Tryz.prog gl:=hsOf_ok (fun p hp=>by
 simp only[List.mem_cons,List.not_mem_nil,or_false]at hp
 rcases hp with rfl|rfl
 ·exact fn_vUse hgl
 ·exact fn_vVic hgl) (fun p hp=>by
 simp only[List.mem_cons,List.not_mem_nil,or_false]at hp
 rcases hp with rfl|rfl
 ·exact sub_caFi hgl
 ·exact sub_ix hgl) (fun _ h=>nomatch h)
theorem cache_sub {gl:Gl}(hgl:Low gl){f:FuncId}{α:Type}{D:Dec α}{v:CacheS→α→Value}{n:CacheS→α→CacheS}(h: ∀k,k.ok→ ∀x,cV sy12 gl (HCa fF iF vF) f (pK 1000::D.enc x) (bx (cacheR k)) vR=some (.normal,[v k x],bx (cacheR (n k x)))):
 SubOK Tryz.prog gl f (hdM D (fun r _=>isCache r) (fun r x=>v (cOf r) x) fun r x=>cacheR (n (cOf r) x)):=hdM_sub fun r x hr=>by
 obtain⟨k,hk,rfl⟩:=of_cl hr
 rw[cOf_eq]
 exact sub_atV goodT hgl tglob ⟨sy12,_,100,40,40,vR,syG_ok _,HCa_ok hgl,h k hk x⟩
theorem ixFrom_some {α:Type}{p:α→Bool}: ∀{L:List α} {s j:Nat},ixFrom p L s=some j→s≤j∧ ∃l,L[j-s]? =some l∧p l=true
 |[],s,j,h=>by cases h
 |l::L,s,j,h=>by
  simp only[ixFrom]at h
  cases hp:p l with
  |true=>
   rw[hp]at h
   simp only[cond_true,Option.some.injEq]at h
   subst h
   exact⟨Nat.le_refl _,l,by rw[Nat.sub_self];rfl,hp⟩
  |false=>
   rw[hp]at h
   obtain⟨h1,l',h2,h3⟩:=ixFrom_some (L:=L) (s:=s+1) h
   refine⟨by omega,l',?_,h3⟩
   rw[show j-s=(j-(s+1))+1 from by omega,List.getElem?_cons_succ];exact h2
theorem seg_some {L:List LineS}{k n j:Nat}{l:LineS}(h:(seg L k n)[j]? =some l):j<n∧L[k+j]? =some l:=by
 unfold seg at h
 rw[List.getElem?_take]at h
 split at h
 ·rename_i hj;rw[List.getElem?_drop]at h;exact⟨hj,h⟩
 ·cases h
theorem fi_some {k:CacheS}{b:Int}{j:Nat}(h:k.fi b=some j):j<k.w∧ ∃l,k.lines[k.lo b+j]? =some l∧hasP b l=true:=by
 obtain⟨_,l,h2,h3⟩:=ixFrom_some h
 rw[Nat.sub_zero]at h2
 obtain⟨h4,h5⟩:=seg_some h2
 exact⟨h4,l,h5,h3⟩
theorem fr_some {k:CacheS}{b:Int}{j:Nat}(h:k.fr b=some j):j<k.w∧ ∃l,k.lines[k.lo b+j]? =some l∧freP l=true:=by
 obtain⟨_,l,h2,h3⟩:=ixFrom_some h
 rw[Nat.sub_zero]at h2
 obtain⟨h4,h5⟩:=seg_some h2
 exact⟨h4,l,h5,h3⟩
def CacheS.ix (k:CacheS)(b:Int):Option Nat:=cond (mbI b) (k.fi b) none
def CacheS.get (k:CacheS)(b:Int):Option LineS:=(k.ix b).bind fun j=>k.lines[k.lo b+j]?
def CacheS.line (k:CacheS)(b:Int):LineS:=(k.get b).getD ln0
def CacheS.is (k:CacheS)(b:Int):Bool:=(k.ix b).isSome
def CacheS.m (k:CacheS)(b:Int):Int:=(k.mm[k.sn b]?).getD 0
def CacheS.touch (k:CacheS)(b:Int)(j:Nat):CacheS:={k with mm:=k.mm.set (k.sn b) (usM k.c.ways (j:Int) (k.m b))}
def CacheS.setL (k:CacheS)(b:Int)(j:Nat)(l:LineS):CacheS:={k with lines:=k.lines.set (k.lo b+j) l}
theorem fF_s:fF.toSetF=sF:=rfl
theorem fF_mb:fF.mb=mbI:=rfl
theorem ixN_none:ixN none= -1:=by unfold ixN;simp
theorem ixN_some (j:Nat):ixN (some j)=(j:Int):=by unfold ixN;simp
theorem ln_off (a b:Nat):a*18+b*18=(a+b)*18:=by omega
theorem sub_caFind {gl:Gl}(hgl:Low gl):SubOK Tryz.prog gl 124 (hdM (decI .i64) (fun r _=>isCache r) (fun r b=>.tuple #[lnV ((cOf r).line b),.bool ((cOf r).is b)]) fun r _=>cacheR (cOf r)):=
 cache_sub hgl (D:=decI .i64) (v:=fun k b=>.tuple #[lnV (k.line b),.bool (k.is b)]) (n:=fun k _=>k) fun k hk b=>(r_caFind gl fF iF vF k.c k.lines.length k.mm.length (lnsL k.lines) (u8L k.mm) b).trans (by
 obtain⟨b1,b2,b3,b4,b5,b6,b7⟩:=CacheS.lo_bd hk b
 simp only[lnsL_af,u8_af,fF_s,fF_mb,sF_g hk,sF_sn,sF_lo,sF_wn,sF_cp,fF_fi,Bool.and_self,cond_true]
 unfold CacheS.line CacheS.is CacheS.get CacheS.ix
 cases mbI b with
 |false=>rfl
 |true=>
  cases hf:k.fi b with
  |none=>simp only[ixN_none,dneg];rfl
  |some j=>
   obtain⟨h1,l,h2,_⟩:=fi_some hf
   obtain⟨o1,o2⟩:=lns_at0 h2
   simp only[ixN_some,dltN,d0N,dltNN h1,nbl (show k.w≤k.lines.length-k.lo b by omega),Int.toNat_natCast,ln_off,o1,o2,cond_true,cond_false,Bool.and_self,Option.bind_some,h2]
   rfl)
theorem sub_caDrop {gl:Gl}(hgl:Low gl):SubOK Tryz.prog gl 146 (hdM (decI .i64) (fun r _=>isCache r) (fun r b=>.bool ((cOf r).is b)) fun r b=>cacheR (match(cOf r).ix b with
 |some j=>(cOf r).setL b j ln0
 |none=>cOf r)):=
 cache_sub hgl (D:=decI .i64) (v:=fun k b=>.bool (k.is b)) (n:=fun k b=>match k.ix b with
  |some j=>k.setL b j ln0
  |none=>k) fun k hk b=>(r_caDrop gl fF iF vF k.c k.lines.length k.mm.length (lnsL k.lines) (u8L k.mm) b).trans (by
 obtain⟨b1,b2,b3,b4,b5,b6,b7⟩:=CacheS.lo_bd hk b
 simp only[lnsL_af,u8_af,fF_s,fF_mb,sF_g hk,sF_sn,sF_lo,sF_wn,sF_cp,fF_fi,Bool.and_self,cond_true]
 unfold CacheS.is CacheS.ix
 cases mbI b with
 |false=>rfl
 |true=>
  cases hf:k.fi b with
  |none=>simp only[ixN_none,dneg];rfl
  |some j=>
   obtain⟨h1,l,h2,_⟩:=fi_some hf
   have h3:k.lo b+j<k.lines.length:=by omega
   have e1:splice (lnsL k.lines) ((k.lo b+j)*18) (lnL ln0)=lnsL (k.lines.set (k.lo b+j) ln0):=by
    have:=lnsL_set (J:=[]) (n:=ln0) h3
    rw[List.append_nil,List.append_nil]at this;exact this
   have e2:((k.lo b+j)*18+18).ble (lnsL k.lines).length=true:=nbl (by rw[lnsL_len];omega)
   simp only[ixN_some,dltN,d0N,dltNN h1,nbl (show k.w≤k.lines.length-k.lo b by omega),Int.toNat_natCast,ln_off,e1,e2,lnsL_af,cond_true,cond_false,Bool.and_self]
   unfold CacheS.setL
   simp only[cond_false,cond_true,cacheX,List.length_set]
   rfl)
theorem m_ok {k:CacheS}(h:k.ok)(b:Int):memOk (k.m b):=by
 have h1:=(CacheS.lo_bd h b).2.1
 unfold CacheS.m
 rw[qx2 h1]
 exact h.2.2.2 _ (List.getElem_mem h1)
theorem sn_N {k:CacheS}(h:k.ok)(b:Int):sF.sn (cacheR k) b=((k.sn b:Nat):Int):=by rw[sF_sn,(CacheS.lo_bd h b).2.2.1]
theorem vF_gu {k:CacheS}(h:k.ok){b:Int}{j:Nat}(hj:j<k.w):vF.gu k.c.ways (j:Int) (k.m b)=true:=by
 obtain⟨b1,b2,b3,b4,b5,b6,b7⟩:=CacheS.lo_bd h b
 exact cl_t ⟨b5,by omega,by omega,m_ok h b⟩
theorem vF_us:vF.us=usM:=rfl
theorem vF_vc:vF.vc=vcM:=rfl
theorem vF_gv {k:CacheS}(h:k.ok)(b:Int):vF.gv k.c.ways (k.m b)=true:=cl_t ⟨(CacheS.lo_bd h b).2.2.2.2.1,m_ok h b⟩
theorem g8_m (k:CacheS)(b:Int):(gS (u8L k.mm)).int .u8 (k.sn b)=k.m b:=g8_int _ _
theorem len1 {a:Nat}{x:Value}{ms:List Int}(h:a<ms.length):(a+[x].length).ble (u8L ms).length=true:=nbl (by rw[List.length_map];exact h)
def CacheS.use (k:CacheS)(b:Int):CacheS:=match k.ix b with
 |some j=>k.touch b j
 |none=>k
theorem sub_caUse {gl:Gl}(hgl:Low gl):SubOK Tryz.prog gl 199 (hdM (decI .i64) (fun r _=>isCache r) (fun r b=>.bool ((cOf r).is b)) fun r b=>cacheR ((cOf r).use b)):=
 cache_sub hgl (D:=decI .i64) (v:=fun k b=>.bool (k.is b)) (n:=fun k b=>k.use b) fun k hk b=>(r_caUse gl fF iF vF k.c k.lines.length k.mm.length (lnsL k.lines) (u8L k.mm) b).trans (by
 obtain⟨b1,b2,b3,b4,b5,b6,b7⟩:=CacheS.lo_bd hk b
 simp only[lnsL_af,u8_af,fF_s,fF_mb,sF_g hk,sn_N hk,fF_fi,Bool.and_self,cond_true,Nat.zero_add,Nat.mul_one,Int.toNat_natCast,d0N,dltNN b2,nble,g8_ok b2,qs_eq,qn_eq]
 unfold CacheS.is CacheS.use CacheS.ix
 cases mbI b with
 |false=>rfl
 |true=>
  cases hf:k.fi b with
  |none=>simp only[ixN_none,dneg2];rfl
  |some j=>
   obtain⟨h1,l,h2,_⟩:=fi_some hf
   simp only[ixN_some,dgeN,g8_m,vF_us,vF_gu hk h1,u8_set b2,len1 b2,u8_af,cond_true,cond_false,Bool.and_self]
   unfold CacheS.touch
   simp only[cond_false,cond_true,cacheX,List.length_set]
   rfl)
def CacheS.turnE (k:CacheS)(b s:Int):Int:=match k.ix b with
 |none=>4
 |some _=>cond (decide (s<1)) 2 (cond (decide (s>3)) 2 0)
def CacheS.turn (k:CacheS)(b s:Int):CacheS:=match k.ix b with
 |none=>k
 |some j=>cond (decide (s<1)) k (cond (decide (s>3)) k (k.setL b j {k.line b with state:=s}))
theorem lns_set1 {L:List LineS}{i j:Nat}{n n':LineS}{v:Value}(h:L[i]? =some n)(hj:j<18)(e:lnL n'=(lnL n).set j v):splice (lnsL L) (i*18+j) [v]=lnsL (L.set i n'):=by
 have hi:i<L.length:=(qx1.1 h).1
 rw[splice_one (by rw[lnsL_len];omega)]
 have:=lns_set1' (J:=[]) h hj e
 rw[List.append_nil,List.append_nil]at this
 exact this
theorem line_at {k:CacheS}{b:Int}{j:Nat}{l:LineS}(h1:k.ix b=some j)(h2:k.lines[k.lo b+j]? =some l):k.line b=l:=by
 unfold CacheS.line CacheS.get
 rw[h1]
 show((k.lines[k.lo b+j]?).getD ln0)=l
 rw[h2];rfl
def decIu (k:IntKind):Dec (Int×Int):=⟨fun vs=>match vs with
 |[.int .i64 a,.int j b]=>cond (decide (j=k)) (some (a,b)) none
 |_=>none,fun p=>[.int .i64 p.1,.int k p.2],fun vs a h=>by
 split at h
 ·obtain⟨h1,h2⟩:=condT h
  cases h2
  rw[of_decide_eq_true h1]
 ·cases h⟩
theorem sub_caTurn {gl:Gl}(hgl:Low gl):SubOK Tryz.prog gl 173 (hdM (decIu .u8) (fun r _=>isCache r) (fun r x=>.int .i64 ((cOf r).turnE x.1 x.2)) fun r x=>cacheR ((cOf r).turn x.1 x.2)):=
 cache_sub hgl (D:=decIu .u8) (v:=fun k x=>.int .i64 (k.turnE x.1 x.2)) (n:=fun k x=>k.turn x.1 x.2) fun k hk x=>by
 obtain⟨b,s⟩:=x
 refine(r_caTurn gl fF iF vF k.c k.lines.length k.mm.length (lnsL k.lines) (u8L k.mm) b s).trans ?_
 obtain⟨b1,b2,b3,b4,b5,b6,b7⟩:=CacheS.lo_bd hk b
 simp only[lnsL_af,u8_af,fF_s,fF_mb,sF_g hk,sF_lo,sF_wn,sF_cp,fF_fi,Bool.and_self,cond_true]
 cases hix:k.ix b with
 |none=>
  unfold CacheS.turnE CacheS.turn
  rw[hix]
  unfold CacheS.ix at hix
  cases hm:mbI b with
  |false=>rfl
  |true=>rw[hm]at hix;simp only[cond_true]at hix;simp only[hix,ixN_none,dneg];rfl
 |some j=>
  have hf:=hix
  unfold CacheS.ix at hf
  cases hm:mbI b with
  |false=>rw[hm]at hf;cases hf
  |true=>
   rw[hm]at hf
   have hf:k.fi b=some j:=hf
   obtain⟨h1,l,h2,_⟩:=fi_some hf
   have e1:splice (lnsL k.lines) ((k.lo b+j)*18+1) [.int .u8 s]=lnsL (k.lines.set (k.lo b+j) {l with state:=s}):=lns_set1 h2 (by decide) rfl
   have e2:((k.lo b+j)*18+1+[Value.int .u8 s].length).ble (lnsL k.lines).length=true:=nbl (by rw[lnsL_len];show _+1+1≤_;omega)
   unfold CacheS.turnE CacheS.turn
   rw[hix]
   simp only[hf,ixN_some,dltN,d0N,dltNN h1,nbl (show k.w≤k.lines.length-k.lo b by omega),Int.toNat_natCast,ln_off,e1,e2,lnsL_af,cond_true,cond_false,Bool.and_self,line_at hix h2]
   cases decide (s<1)with
   |true=>rfl
   |false=>
    cases decide (s>3)with
    |true=>rfl
    |false=>
     unfold CacheS.setL
     simp only[cond_false,cond_true,cacheX,List.length_set]
     rfl
def W16.put (r:W16)(w:Nat)(x:Int):W16:=match w with
 |0=>{r with a0:=x}
 |1=>{r with a1:=x}
 |2=>{r with a2:=x}
 |3=>{r with a3:=x}
 |4=>{r with a4:=x}
 |5=>{r with a5:=x}
 |6=>{r with a6:=x}
 |7=>{r with a7:=x}
 |8=>{r with a8:=x}
 |9=>{r with a9:=x}
 |10=>{r with a10:=x}
 |11=>{r with a11:=x}
 |12=>{r with a12:=x}
 |13=>{r with a13:=x}
 |14=>{r with a14:=x}
 |15=>{r with a15:=x}
 |_=>r
theorem lt16 {w:Nat}(h:w<16):w=0∨w=1∨w=2∨w=3∨w=4∨w=5∨w=6∨w=7∨w=8∨w=9∨w=10∨w=11∨w=12∨w=13∨w=14∨w=15:=by omega
theorem lnL_put (l:LineS){w:Nat}(h:w<16)(x:Int):lnL {l with data:=l.data.put w x}=(lnL l).set (2+w) (.int .u32 x):=by
 rcases lt16 h with rfl|rfl|rfl|rfl|rfl|rfl|rfl|rfl|rfl|rfl|rfl|rfl|rfl|rfl|rfl|rfl<;>rfl
def CacheS.writeE (k:CacheS)(b w:Int):Int:=cond (k.is b) (cond (decide (w<0)) 5 (cond (decide (w≥16)) 5 (cond ((k.line b).state==1) 8 0))) 4
def CacheS.write (k:CacheS)(b w x:Int):CacheS:=match k.ix b with
 |none=>k
 |some j=>cond (decide (w<0)) k (cond (decide (w≥16)) k (cond ((k.line b).state==1) k ((k.setL b j {k.line b with data:=(k.line b).data.put w.toNat x,state:=3}).touch b j)))
theorem sub_caWrite {gl:Gl}(hgl:Low gl):SubOK Tryz.prog gl 148 (hdM decI2u (fun r _=>isCache r) (fun r x=>.int .i64 ((cOf r).writeE x.1 x.2.1)) fun r x=>cacheR ((cOf r).write x.1 x.2.1 x.2.2)):=
 cache_sub hgl (D:=decI2u) (v:=fun k x=>.int .i64 (k.writeE x.1 x.2.1)) (n:=fun k x=>k.write x.1 x.2.1 x.2.2) fun k hk x=>by
 obtain⟨b,w,x⟩:=x
 refine(r_caWrite gl fF iF vF k.c k.lines.length k.mm.length (lnsL k.lines) (u8L k.mm) b w x).trans ?_
 obtain⟨b1,b2,b3,b4,b5,b6,b7⟩:=CacheS.lo_bd hk b
 simp only[lnsL_af,u8_af,fF_s,fF_mb,sF_g hk,sF_lo,sF_wn,sF_cp,fF_fi,sn_N hk,Bool.and_self,cond_true,Nat.zero_add,Nat.mul_one,Int.toNat_natCast,d0N,dltNN b2,nble,g8_ok b2,qs_eq,qn_eq]
 cases hix:k.ix b with
 |none=>
  unfold CacheS.writeE CacheS.write CacheS.is
  rw[hix]
  unfold CacheS.ix at hix
  cases hm:mbI b with
  |false=>rfl
  |true=>rw[hm]at hix;simp only[cond_true]at hix;simp only[hix,ixN_none,dneg];rfl
 |some j=>
  have hf:=hix
  unfold CacheS.ix at hf
  cases hm:mbI b with
  |false=>rw[hm]at hf;cases hf
  |true=>
   rw[hm]at hf
   have hf:k.fi b=some j:=hf
   obtain⟨h1,l,h2,_⟩:=fi_some hf
   obtain⟨o1,o2⟩:=lns_at0 h2
   have hi:k.lo b+j<k.lines.length:=by omega
   have g1:(lnsL k.lines)[(k.lo b+j)*18+1]? =some (.int .u8 l.state):=by
    have:=lns_get (J:=[]) h2 (show 1<18 by decide)
    rw[List.append_nil]at this
    exact this
   have g2:(gS (lnsL k.lines)).okI .u8 ((k.lo b+j)*18+1)=true:=by show cellIsI .u8 _=true;rw[g1];rfl
   have g3:(gS (lnsL k.lines)).int .u8 ((k.lo b+j)*18+1)=l.state:=by show cellI _=_;rw[g1];rfl
   unfold CacheS.writeE CacheS.write CacheS.is
   rw[hix]
   simp only[hf,ixN_some,dltN,d0N,dltNN h1,nbl (show k.w≤k.lines.length-k.lo b by omega),Int.toNat_natCast,ln_off,g2,g3,cond_true,cond_false,Bool.and_self,line_at hix h2,Option.isSome_some]
   cases hw0:decide (w<0)with
   |true=>rfl
   |false=>
    cases hw1:decide (w≥16)with
    |true=>rfl
    |false=>
     cases hs:l.state==1 with
     |true=>rfl
     |false=>
      have w0:=of_decide_eq_false hw0
      have w1:=of_decide_eq_false hw1
      have hw:w.toNat<16:=by omega
      have e1:splice (lnsL k.lines) ((k.lo b+j)*18+2+w.toNat) [.int .u32 x]=lnsL (k.lines.set (k.lo b+j) {l with data:=l.data.put w.toNat x}):=by
       rw[Nat.add_assoc];exact lns_set1 h2 (by omega) (lnL_put l hw x)
      have e2:((k.lo b+j)*18+2+w.toNat+[Value.int .u32 x].length).ble (lnsL k.lines).length=true:=nbl (by rw[lnsL_len];show _+2+_+1≤_;omega)
      have e3:splice (lnsL (k.lines.set (k.lo b+j) {l with data:=l.data.put w.toNat x})) ((k.lo b+j)*18+1) [.int .u8 3]=lnsL (k.lines.set (k.lo b+j) {l with data:=l.data.put w.toNat x,state:=3}):=by
       have:=lns_set1 (L:=k.lines.set (k.lo b+j) {l with data:=l.data.put w.toNat x}) (i:=k.lo b+j) (j:=1) (n:={l with data:=l.data.put w.toNat x}) (n':={l with data:=l.data.put w.toNat x,state:=3}) (v:=.int .u8 3) (by rw[List.getElem?_set_self hi]) (by decide) rfl
       rw[List.set_set]at this
       exact this
      have e4:((k.lo b+j)*18+1+1).ble (lnsL (k.lines.set (k.lo b+j) {l with data:=l.data.put w.toNat x})).length=true:=nbl (by rw[lnsL_len,List.length_set];omega)
      have e5:decide (0≤w)=true:=qd1 (by omega)
      have e6:decide (w<16)=true:=qd1 (by omega)
      simp only[e1,e2,e3,e4,e5,e6,g8_m,vF_us,vF_gu hk h1,u8_set b2,len1 b2,lnsL_af,u8_af,cond_true,cond_false,Bool.and_self]
      unfold CacheS.setL CacheS.touch CacheS.m CacheS.sn
      simp only[cond_false,cond_true,cacheX,List.length_set]
      rfl
theorem ix_cases {k:CacheS}(b:Int):(mbI b=false∧k.ix b=none)∨(mbI b=true∧k.fi b=none∧k.ix b=none)∨ ∃j,mbI b=true∧k.fi b=some j∧k.ix b=some j:=by
 unfold CacheS.ix
 cases mbI b with
 |false=>exact .inl ⟨rfl,rfl⟩
 |true=>cases h:k.fi b with
  |none=>exact .inr (.inl ⟨rfl,rfl,rfl⟩)
  |some j=>exact .inr (.inr ⟨j,rfl,rfl,rfl⟩)
def CacheS.gn (k:CacheS)(b:Int):Int:=vcM k.c.ways (k.m b)
def CacheS.goes (k:CacheS)(b:Int):Option LineS:=cond (mbI b) (match k.fi b with
 |some _=>none
 |none=>(match k.fr b with
  |some _=>none
  |none=>k.lines[k.lo b+(k.gn b).toNat]?)) none
def CacheS.gone (k:CacheS)(b:Int):LineS:=(k.goes b).getD ln0
def CacheS.goesB (k:CacheS)(b:Int):Bool:=(k.goes b).isSome
theorem gn_bd {k:CacheS}(h:k.ok)(b:Int): ∃j:Nat,k.gn b=(j:Int)∧j<k.w∧ ∃l,k.lines[k.lo b+j]? =some l:=by
 obtain⟨b1,b2,b3,b4,b5,b6,b7⟩:=CacheS.lo_bd h b
 obtain⟨h1,h2⟩:=vcM_ok b5 (m_ok h b)
 have e:k.gn b=vcM k.c.ways (k.m b):=rfl
 exact⟨(k.gn b).toNat,by omega,by omega,_,qx2 (by omega)⟩
theorem sub_caGoes {gl:Gl}(hgl:Low gl):SubOK Tryz.prog gl 142 (hdM (decI .i64) (fun r _=>isCache r) (fun r b=>.tuple #[lnV ((cOf r).gone b),.bool ((cOf r).goesB b)]) fun r _=>cacheR (cOf r)):=
 cache_sub hgl (D:=decI .i64) (v:=fun k b=>.tuple #[lnV (k.gone b),.bool (k.goesB b)]) (n:=fun k _=>k) fun k hk b=>(r_caGoes gl fF iF vF k.c k.lines.length k.mm.length (lnsL k.lines) (u8L k.mm) b).trans (by
 obtain⟨b1,b2,b3,b4,b5,b6,b7⟩:=CacheS.lo_bd hk b
 simp only[lnsL_af,u8_af,fF_s,fF_mb,sF_g hk,sF_lo,sF_wn,sF_cp,fF_fi,sn_N hk,iF_g hk,iF_f,Bool.and_self,cond_true,Nat.zero_add,Nat.mul_one,Int.toNat_natCast,d0N,dltNN b2,nble,g8_ok b2,g8_m,vF_gv hk,vF_vc,qs_eq,qn_eq]
 unfold CacheS.gone CacheS.goesB CacheS.goes
 cases mbI b with
 |false=>rfl
 |true=>
  cases hf:k.fi b with
  |some j=>simp only[ixN_some,dgeN];rfl
  |none=>
   simp only[ixN_none,dneg2,cond_true,cond_false]
   refine Eq.trans (b:=cond (cl _) _ none) rfl ?_
   rw[cl_t (by first|exact⟨rfl,rfl⟩|exact⟨trivial,rfl⟩)]
   cases hr:k.fr b with
   |some j=>simp only[ixN_some,dgeN];rfl
   |none=>
    obtain⟨j,e1,h1,l,h2⟩:=gn_bd hk b
    obtain⟨o1,o2⟩:=lns_at0 h2
    have e3:vcM k.c.ways (k.m b)=(j:Int):=e1
    simp only[ixN_none,dneg2,e1,e3,d0N,dltNN h1,nbl (show k.w≤k.lines.length-k.lo b by omega),Int.toNat_natCast,ln_off,o1,o2,h2,cond_true,cond_false,Bool.and_self]
    rfl)
def CacheS.putJ (k:CacheS)(b:Int):Option Nat:=match k.ix b with
 |some j=>some j
 |none=>k.fr b
def linOk (x:LineS):Bool:=mbI x.block&&(!decide (x.state<1)&&!decide (x.state>3))
def CacheS.putE (k:CacheS)(x:LineS):Int:=cond (linOk x) (match k.putJ x.block with
 |some _=>0
 |none=>7) 2
def CacheS.put (k:CacheS)(x:LineS):CacheS:=cond (linOk x) (match k.putJ x.block with
 |some j=>(k.setL x.block j x).touch x.block j
 |none=>k) k
def decLn:Dec LineS:=⟨fun vs=>match vs with
 |[.agg ⟨[.int .i64 b,.int .u8 s,.int .u32 a0,.int .u32 a1,.int .u32 a2,.int .u32 a3,.int .u32 a4,.int .u32 a5,.int .u32 a6,.int .u32 a7,.int .u32 a8,.int .u32 a9,.int .u32 a10,.int .u32 a11,.int .u32 a12,.int .u32 a13,.int .u32 a14,.int .u32 a15]⟩]=>some ⟨b,s,⟨a0,a1,a2,a3,a4,a5,a6,a7,a8,a9,a10,a11,a12,a13,a14,a15⟩⟩
 |_=>none,fun n=>[lnV n],fun vs a h=>by
 split at h
 ·cases h;rfl
 ·cases h⟩
theorem mb_parts (b:Int):mbI b=true→decide (b≥0)=true∧decide (b<256)=true:=fun h=>by
 unfold mbI at h
 simpa using h
theorem sub_caPut {gl:Gl}(hgl:Low gl):SubOK Tryz.prog gl 175 (hdM decLn (fun r _=>isCache r) (fun r x=>.int .i64 ((cOf r).putE x)) fun r x=>cacheR ((cOf r).put x)):=
 cache_sub hgl (D:=decLn) (v:=fun k x=>.int .i64 (k.putE x)) (n:=fun k x=>k.put x) fun k hk x=>by
 have hD:decLn.enc x=[lnV x]:=rfl
 rw[hD]
 refine(r_caPut gl fF iF vF k.c k.lines.length k.mm.length (lnsL k.lines) (u8L k.mm) x).trans ?_
 obtain⟨b1,b2,b3,b4,b5,b6,b7⟩:=CacheS.lo_bd hk x.block
 have st: ∀j,j<k.w→splice (lnsL k.lines) ((k.lo x.block+j)*18) (lnL x)=lnsL (k.lines.set (k.lo x.block+j) x):=fun j hj=>by
  have:=lnsL_set (J:=[]) (n:=x) (show k.lo x.block+j<k.lines.length by omega)
  rw[List.append_nil,List.append_nil]at this;exact this
 have st2: ∀j,j<k.w→((k.lo x.block+j)*18+(lnL x).length).ble (lnsL k.lines).length=true:=fun j hj=>nbl (by rw[lnsL_len,lnL_len];omega)
 simp only[lnsL_af,u8_af,fF_s,fF_mb,sF_g hk,sF_lo,sF_wn,sF_cp,fF_fi,sn_N hk,iF_g hk,iF_f,Bool.and_self,cond_true,Nat.zero_add,Nat.mul_one,Int.toNat_natCast,d0N,dltNN b2,nble,g8_ok b2,g8_m,vF_us,u8_set b2,len1 b2,qs_eq,qn_eq]
 unfold CacheS.putE CacheS.put CacheS.putJ linOk
 rcases ix_cases (k:=k) x.block with⟨h1,h2⟩|⟨h1,h2,h3⟩|⟨j,h1,h2,h3⟩
 ·have h0:decide (x.block≥0)=false∨decide (x.block<256)=false:=by
   unfold mbI at h1
   cases h5:decide (x.block≥0)with
   |false=>exact .inl rfl
   |true=>rw[h5]at h1;exact .inr h1
  rw[h1]
  rcases h0 with h0|h0
  ·rw[h0];rfl
  ·rw[h0];cases decide (x.block≥0)<;>rfl
 ·obtain⟨p1,p2⟩:=mb_parts _ h1
  simp only[h1,h2,h3,p1,p2,ixN_none,dneg,cond_true,cond_false]
  cases decide (x.state<1)with
  |true=>rfl
  |false=>
   cases decide (x.state>3)with
   |true=>rfl
   |false=>
    refine Eq.trans (b:=cond (cl _) _ none) rfl ?_
    rw[cl_t (by first|exact⟨rfl,rfl⟩|exact⟨trivial,rfl⟩)]
    cases hr:k.fr x.block with
    |none=>simp only[ixN_none,dneg];rfl
    |some j=>
     obtain⟨hj,_⟩:=fr_some hr
     simp only[ixN_some,dltN,d0N,dltNN hj,nbl (show k.w≤k.lines.length-k.lo x.block by omega),Int.toNat_natCast,ln_off,vF_gu hk hj,cond_true,cond_false,Bool.and_self]
     simp only[st j hj,st2 j hj,lnsL_af,u8_af,Bool.and_self,cond_true]
     unfold CacheS.setL CacheS.touch CacheS.m CacheS.sn
     simp only[Bool.not_false,Bool.not_true,Bool.and_self,Bool.true_and,cond_false,cond_true,cacheX,List.length_set]
     rfl
 ·obtain⟨p1,p2⟩:=mb_parts _ h1
  obtain⟨hj,_⟩:=fi_some h2
  simp only[h1,h2,h3,p1,p2,ixN_some,dltN,cond_true,cond_false]
  cases decide (x.state<1)with
  |true=>rfl
  |false=>
   cases decide (x.state>3)with
   |true=>rfl
   |false=>
    simp only[d0N,dltNN hj,nbl (show k.w≤k.lines.length-k.lo x.block by omega),Int.toNat_natCast,ln_off,vF_gu hk hj,cond_true,cond_false,Bool.and_self]
    simp only[st j hj,st2 j hj,lnsL_af,u8_af,Bool.and_self,cond_true]
    unfold CacheS.setL CacheS.touch CacheS.m CacheS.sn
    simp only[Bool.not_false,Bool.not_true,Bool.and_self,Bool.true_and,cond_false,cond_true,cacheX,List.length_set]
    rfl
end Go.Proofs.YtpcbedgaecbfmaaGreatDoor
