/- CoreHalted answers true and turns nothing, of any plan, any row of words and any number of steps, whatever the tape and the order of evaluation, where the listed variables start as the program's text lays them. -/
import Derived.Test.YtpcbedgaecbfmaaGreatDoorK94
import Derived.Test.YtpcbedgaecbfmaaGreatDoorCards
import Derived.Test.YtpcbedgaecbfmaaGreatDoorTie
import Derived.WalkKit
import Derived.ProofKit
import Derived.OpenShut
import Derived.ChangeMaps5
import Derived.Deep.DeepHandedRow
import Derived.Deep.DeepWitnessRowRef
import Derived.Lay
/-CoreHalted answers true and turns nothing,of any plan,any row of words and any number of steps,whatever the tape and the order of evaluation,where the listed variables start as the program's text lays them. -/
noncomputable section
set_option maxRecDepth 100000
namespace Go.Proofs.YtpcbedgaecbfmaaGreatDoor.coreHalted
open Go.ChangeShapes Go.WideShapes Go.ChangeAt Go.RowKit Go.Proofs.YtpcbedgaecbfmaaGreatDoor.Ev Go.Proofs.YtpcbedgaecbfmaaGreatDoor
theorem own:ownKnob Tryz.prog.godebug=none:=by kernel_rfl
theorem g6:Tryz.prog.globalNamed "strconv.ErrRange" =some 6:=by kernel_rfl
theorem g5:Tryz.prog.globalNamed "strconv.ErrSyntax" =some 5:=by kernel_rfl
theorem g7:Tryz.prog.globalNamed "internal/strconv.uint64pow10" =some 7:=by kernel_rfl
theorem g0:Tryz.prog.globalNamed "undertow/code.forms" =some 0:=by kernel_rfl
theorem g1:Tryz.prog.globalNamed "math/bits.deBruijn32tab" =some 1:=by kernel_rfl
theorem g8:Tryz.prog.globalNamed "math/bits.deBruijn64tab" =some 8:=by kernel_rfl
theorem t7:(Tryz.prog.globals[7]?).map (·.type)=some 372:=by kernel_rfl
theorem t0:(Tryz.prog.globals[0]?).map (·.type)=some 78:=by kernel_rfl
theorem t1:(Tryz.prog.globals[1]?).map (·.type)=some 335:=by kernel_rfl
theorem t8:(Tryz.prog.globals[8]?).map (·.type)=some 375:=by kernel_rfl
theorem noHandle:(Rows.coreHaltedRow.laid.filter fun x=>x.2.handleName?.isSome)=[]:=by kernel_rfl
theorem laidOf {W:World}(h:laidMetH Tryz.prog Rows.coreHaltedRow.laid W):laidMet Tryz.prog Rows.coreHaltedRow.laid W:=by
 unfold laidMetH at h
 rw[noHandle]at h
 exact h
theorem ready (W:World)(hL:laidMetH Tryz.prog Rows.coreHaltedRow.laid W)(hs:W.ShapedOpen Tryz.prog): ∃u0 o0 u1 o1,∃bs:List Nat,bs.length=2∧Rel Tryz.prog (glC u0 o0 u1 o1) (phi0 Tryz.prog.globals.size bs) LS.start W:=by
 have hL2:=laidOf hL
 have hn:Tryz.prog.globals.size≤900:=of_decide_eq_true (by kernel_rfl)
 obtain⟨hg0,u0,a0,hc0,hsp0,hb0⟩:=sentinel (name:= "strconv.ErrRange") hL2 (.tail _ (.tail _ (.tail _ (.tail _ (.tail _ (.head _)))))) g6
 obtain⟨hg1,u1,a1,hc1,hsp1,hb1⟩:=sentinel (name:= "strconv.ErrSyntax") hL2 (.tail _ (.tail _ (.tail _ (.tail _ (.tail _ (.tail _ (.head _))))))) g5
 have k6:TabOK Tryz.prog (phi0 Tryz.prog.globals.size [a0.block,a1.block]) W (6,[.iface u0 (.pointer (some ⟨900,a0.off,none⟩))]):=sent_ok (j:=0) hg0 hn rfl hc0 hsp0
 have k5:TabOK Tryz.prog (phi0 Tryz.prog.globals.size [a0.block,a1.block]) W (5,[.iface u1 (.pointer (some ⟨901,a1.off,none⟩))]):=sent_ok (j:=1) hg1 hn rfl hc1 hsp1
 have k7:TabOK Tryz.prog (phi0 Tryz.prog.globals.size [a0.block,a1.block]) W (7,pow10L.map (.int .u64)):=tab_ok (name:= "internal/strconv.uint64pow10") (zs:=pow10L) hL2 (.tail _ (.tail _ (.head _))) g7 t7 Tryz.underlying372 Tryz.underlying25 (by kernel_rfl) (by kernel_rfl)
 have k0:TabOK Tryz.prog (phi0 Tryz.prog.globals.size [a0.block,a1.block]) W (0,formsL.map (.int .i64)):=tab_ok (name:= "undertow/code.forms") (zs:=formsL) hL2 (.tail _ (.tail _ (.tail _ (.head _)))) g0 t0 Tryz.underlying78 Tryz.underlying3 (by kernel_rfl) (by kernel_rfl)
 have k1:TabOK Tryz.prog (phi0 Tryz.prog.globals.size [a0.block,a1.block]) W (1,db32L.map (.int .u8)):=tab_ok (name:= "math/bits.deBruijn32tab") (zs:=db32L) hL2 (.head _) g1 t1 Tryz.underlying335 Tryz.underlying5 (by kernel_rfl) (by kernel_rfl)
 have k8:TabOK Tryz.prog (phi0 Tryz.prog.globals.size [a0.block,a1.block]) W (8,db64L.map (.int .u8)):=tab_ok (name:= "math/bits.deBruijn64tab") (zs:=db64L) hL2 (.tail _ (.head _)) g8 t8 Tryz.underlying375 Tryz.underlying5 (by kernel_rfl) (by kernel_rfl)
 refine⟨u0,a0.off,u1,a1.off,_,rfl,rel_start (bs:=[a0.block,a1.block]) hn (by simp) (fun b hb=>?_) (shaped_size hs (by kernel_rfl)) (glOf_ok ?_)⟩
 ·simp only[List.mem_cons,List.not_mem_nil,or_false]at hb
  rcases hb with rfl|rfl
  ·exact hb0
  ·exact hb1
 intro x hx
 simp only[List.mem_cons,List.not_mem_nil,or_false]at hx
 rcases hx with rfl|rfl|rfl|rfl|rfl|rfl
 ·exact k6
 ·exact k5
 ·exact k7
 ·exact k0
 ·exact k1
 ·exact k8
theorem walk (c:Cfg)(v:Value)(steps:Int)(hsteps:(Lit.int .i64 steps).wf=true)(W:World)(hL:laidMetH Tryz.prog Rows.coreHaltedRow.laid W)(hsh:W.ShapedOpen Tryz.prog)(hv:v=.slice none 0 0∨ ∃(blk off cap:Nat) (ws:List Int),v=.slice (some ⟨blk,off,none⟩) ws.length cap∧ws.length≤cap∧ws.length≤9223372036854775807∧(∀(i:Nat) x,(ws.map (Value.int .u32))[i]? =some x→W.cell? ⟨blk,off+i,none⟩=some x)∧WordsOk ws∧blk<W.heap.size):
 Calls Tryz.prog 4 #[cfgV c,v,.int .i64 steps] W (fun e W'=>e=.returned (.bool true)∧Below W.heap.size W W'):=by
 obtain⟨u0,o0,u1,o1,bs,hbs,hr⟩:=ready W hL hsh
 have hw:Ready Tryz.prog (glC u0 o0 u1 o1) W:=⟨_,hr⟩
 exact coreHalted_calls hbs hr c hv steps
theorem reads (os:Os){H:Type}(enc:TypeId×Value→H): ∃places,DataW.whole enc Tryz.prog ((World.laidAll Tryz.prog os Rows.coreHaltedRow.laid).forCall (fun _ _=>0) ⟨#[],#[.agg #[.int .i64 0,.int .i64 0,.int .i64 0,.int .i64 0,.int .i64 0,.int .i64 0,.int .i64 0,.int .i64 0],.slice none 0 0,.int .i64 0],[]⟩).memory Tryz.f4.params.toList Rows.coreHaltedSpec.vars false (#[.agg #[.int .i64 0,.int .i64 0,.int .i64 0,.int .i64 0,.int .i64 0,.int .i64 0,.int .i64 0,.int .i64 0],.slice none 0 0,.int .i64 0]:Array Value).toList 8=some ([.agg [.lit (.int .i64 0),.lit (.int .i64 0),.lit (.int .i64 0),.lit (.int .i64 0),.lit (.int .i64 0),.lit (.int .i64 0),.lit (.int .i64 0),.lit (.int .i64 0)],.nil,.lit (.int .i64 0)],[],places):=
 ⟨[],by kernel_rfl⟩
theorem lifted (os:Os)(started:os.Started)(H:Type)(enc:TypeId×Value→H)(F:Stop.Interp):
 ReturnsInHanded {} Tryz.checked os 4 .any ((OpenSpec.ofChange Rows.coreHaltedSpec).preRow enc Tryz.prog Tryz.f4 Rows.coreHaltedRow.domain false Rows.coreHaltedRow.laid) (((OpenSpec.ofChange Rows.coreHaltedSpec).at F).post enc Tryz.prog Tryz.f4 false true false false):=by
 obtain⟨places,hx⟩:=reads os enc
 refine returnsInHanded_of_row (C:=Tryz.checked) (s:=OpenSpec.ofChange Rows.coreHaltedSpec) own started (by kernel_rfl) Tryz.func4
  (witness_row_atRef (enc:=enc) (C:=Tryz.checked) false (World.laidAll Tryz.prog os Rows.coreHaltedRow.laid) #[.agg #[.int .i64 0,.int .i64 0,.int .i64 0,.int .i64 0,.int .i64 0,.int .i64 0,.int .i64 0,.int .i64 0],.slice none 0 0,.int .i64 0] (World.laidAll_os _ _ _) (by kernel_rfl) (by kernel_rfl) (by kernel_rfl)
   (OpenSpec.preRow_of_cond 8 hx (by kernel_rfl) (fun k hk=>by cases hk) (by kernel_rfl) (laidMet_laidAll #[.agg #[.int .i64 0,.int .i64 0,.int .i64 0,.int .i64 0,.int .i64 0,.int .i64 0,.int .i64 0,.int .i64 0],.slice none 0 0,.int .i64 0] (by kernel_rfl) (by kernel_rfl)))) ?_
 intro W base args ds gs before hval hW _ _ hwt hL hsh _
 have hp:Tryz.f4.params= #[23,24,3]:=by kernel_rfl
 rw[hp]at hwt
 obtain⟨v0,v1,v2,d0,d1,d2,q0,q1,q2,rfl,rfl,ht0,ht1,ht2⟩: ∃v0 v1 v2 d0 d1 d2 q0 q1 q2,args= #[v0,v1,v2]∧ds=[d0,d1,d2]∧DataW.Trod enc Tryz.prog W 0 (fun _=>true) true 23 v0 d0 q0∧DataW.Trod enc Tryz.prog W 0 (fun _=>true) true 24 v1 d1 q1∧DataW.Trod enc Tryz.prog W 0 (fun _=>true) true 3 v2 d2 q2:=by
  obtain⟨p,q,hA,_⟩:=id hW
  rw[hp]at hA
  obtain⟨v0,vs0,d0,ds0,p0,r0,e0,rfl,_,h0,hA0⟩:=trodAll_cons hA
  obtain⟨v1,vs1,d1,ds1,p1,r1,e1,rfl,_,h1,hA1⟩:=trodAll_cons hA0
  obtain⟨v2,vs2,d2,ds2,p2,r2,e2,rfl,_,h2,hA2⟩:=trodAll_cons hA1
  obtain⟨rfl,rfl,_⟩:=trodAll_nil hA2
  subst e2
  subst e1
  exact⟨v0,v1,v2,d0,d1,d2,p0,p1,p2,Array.ext' e0,rfl,h0,h1,h2⟩
 have hok0:Value.okWide Tryz.prog W .any base 23 v0:=hval 0 23 v0 (by rw[hp];rfl) rfl
 obtain⟨c,rfl⟩:=open_cfg hok0 ht0
 have hok1:Value.okWide Tryz.prog W .any base 24 v1:=hval 1 24 v1 (by rw[hp];rfl) rfl
 have hop:=open_u32s hok1 ht1
 have hok2:Value.okWide Tryz.prog W .any base 3 v2:=hval 2 3 v2 (by rw[hp];rfl) rfl
 obtain⟨steps,rfl,rfl,_,wsteps⟩:=open_int Tryz.underlying3 hok2 ht2
 refine(walk c v1 steps wsteps W hL hsh hop).mono fun e W' ⟨he,hB⟩=>?_
 subst he
 exact⟨_,rfl,post_trueN (t:=4) (m:=4) (by kernel_rfl) (by kernel_rfl) rfl Tryz.underlying4 rfl hW hB⟩
theorem andT {a b:Bool}(h:a=true)(k:b=true):(a&&b)=true:=by rw[h,k];rfl
set_option maxHeartbeats 0 in
theorem closed:joinedFacts Tryz.pinned.checked.prog 4 Tryz.f4 (OpenSpec.ofChange Rows.coreHaltedSpec).bare Rows.coreHaltedRow=true:=by
 unfold joinedFacts
 repeat' (with_reducible refine andT ?_ ?_)
 all_goals as_aux_lemma=>kernel_rfl
theorem said:Rows.CoreHaltedSaid:=
 OpenClaim.holds_of_cond 4 Tryz.f4 rfl rfl rfl rfl rfl rfl rfl ⟨rfl,rfl,rfl,rfl,rfl⟩ rfl rfl rfl rfl rfl (by kernel_rfl) Tryz.func4 closed
  (of_decide_eq_true (by kernel_rfl)) (by unfold Func.isWrapper;first|(rw[if_pos (by decide+kernel)];kernel_rfl)|(rw[if_neg (by decide+kernel)];exact⟨rfl,rfl⟩))
  (fun os started H enc _ F=>by rw[OpenClaim.pre_eq_preRow];exact lifted os started H enc F)
theorem plain (f:FuncId)(fn:Func)(hf:Tryz.pinned.checked.prog.funcNamed "undertow/undertowlaw24.CoreHalted" =some f)(hfn:Tryz.pinned.checked.prog.funcs[f]? =some fn):
 true=Tryz.pinned.checked.prog.looks []∧ ∀(j:Nat) t,fn.params[j]? =some t→Tryz.pinned.checked.prog.wantsStandIn t=false:=by
 obtain rfl:f=4:=Option.some.inj ((show Tryz.prog.funcNamed "undertow/undertowlaw24.CoreHalted" =some 4 by kernel_rfl).symm.trans hf)|>.symm
 obtain rfl:fn=Tryz.f4:=(Option.some.inj (Tryz.func4.symm.trans hfn)).symm
 refine⟨by kernel_rfl,fun j t ht=>?_⟩
 rw[show Tryz.f4.params= #[23,24,3]from by kernel_rfl]at ht
 cases j with
 |zero=>cases ht;kernel_rfl
 |succ j=>
  cases j with
  |zero=>cases ht;kernel_rfl
  |succ j=>
   cases j with
   |zero=>cases ht;kernel_rfl
   |succ j=>
    simp at ht
theorem card:Rows.CoreHaltedCardSaid:=
 Claim7.holds_tied_plain_at .later [] _ _ _ _ said (fun _ h=>by cases h) (by kernel_rfl) (fun _ h=>by cases h) coreHalted_row_tie rfl ⟨rfl,rfl⟩ (by kernel_rfl) rfl plain (by kernel_rfl)
end Go.Proofs.YtpcbedgaecbfmaaGreatDoor.coreHalted
namespace Go.Proofs.YtpcbedgaecbfmaaGreatDoor
theorem coreHalted_card_holds:Rows.CoreHaltedCardSaid:=coreHalted.card
end Go.Proofs.YtpcbedgaecbfmaaGreatDoor
