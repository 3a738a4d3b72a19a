/- ElideTells answers true and turns nothing, of any lock, any tries, any name and any body, whatever the tape and the order of evaluation, where the listed variables start as the program's text lays them. -/
import Derived.Test.YtgohbcbdgakjeaaGreatDoorR3
import Derived.Test.YtgohbcbdgakjeaaGreatDoorCards
import Derived.Test.YtgohbcbdgakjeaaGreatDoorTie
import Derived.WalkKit
import Derived.ProofKit
import Derived.OpenShut
import Derived.ChangeMaps5
import Derived.Deep.DeepHandedRow
import Derived.Deep.DeepWitnessRowRef
import Derived.Lay
/- ElideTells answers true and turns nothing, of any lock, any tries, any name and any body, whatever the tape and the order of evaluation, where the listed variables start as the program's text lays them. -/
noncomputable section
namespace Go.Proofs.YtgohbcbdgakjeaaGreatDoor.elideTells
open Go.ChangeShapes Go.WideShapes Go.ChangeAt Go.RowKit Go.Proofs.YtgohbcbdgakjeaaGreatDoor.Ev Go.Proofs.YtgohbcbdgakjeaaGreatDoor
theorem own : ownKnob Tryz.prog.godebug = none := by kernel_rfl
theorem g6 : Tryz.prog.globalNamed "strconv.ErrRange" = some 6 := by kernel_rfl
theorem g5 : Tryz.prog.globalNamed "strconv.ErrSyntax" = some 5 := by kernel_rfl
theorem g2 : Tryz.prog.globalNamed "internal/strconv.uint64pow10" = some 2 := by kernel_rfl
theorem g1 : Tryz.prog.globalNamed "undertow/code.forms" = some 1 := by kernel_rfl
theorem g0 : Tryz.prog.globalNamed "internal/bytealg.MaxLen" = some 0 := by kernel_rfl
theorem g7 : Tryz.prog.globalNamed "math/bits.deBruijn32tab" = some 7 := by kernel_rfl
theorem g8 : Tryz.prog.globalNamed "math/bits.deBruijn64tab" = some 8 := by kernel_rfl
theorem t2 : (Tryz.prog.globals[2]?).map (·.type) = some 149 := by kernel_rfl
theorem t1 : (Tryz.prog.globals[1]?).map (·.type) = some 95 := by kernel_rfl
theorem t7 : (Tryz.prog.globals[7]?).map (·.type) = some 172 := by kernel_rfl
theorem t8 : (Tryz.prog.globals[8]?).map (·.type) = some 173 := by kernel_rfl
theorem noHandle : (Rows.elideTellsRow.laid.filter fun x => x.2.handleName?.isSome) = [] := by kernel_rfl
theorem laidOf {W : World} (h : laidMetH Tryz.prog Rows.elideTellsRow.laid W) : laidMet Tryz.prog Rows.elideTellsRow.laid W := by
 unfold laidMetH at h
 rw [noHandle] at h
 exact h
theorem ready (W : World) (hL : laidMetH Tryz.prog Rows.elideTellsRow.laid W) (hs : W.ShapedOpen Tryz.prog) : ∃ m u0 o0 u1 o1, ∃ bs : List Nat, bs.length = 2 ∧ Rel Tryz.prog (glE m u0 o0 u1 o1) (phi0 Tryz.prog.globals.size bs) LS.start W := by
 have hL2 := laidOf hL
 have hn : Tryz.prog.globals.size ≤ 900 := of_decide_eq_true (by kernel_rfl)
 obtain ⟨hg0, u0, a0, hc0, hsp0, hb0⟩ := sentinel (name := "strconv.ErrRange") hL2 (.tail _ (.tail _ (.tail _ (.tail _ (.tail _ (.head _)))))) g6
 obtain ⟨hg1, u1, a1, hc1, hsp1, hb1⟩ := sentinel (name := "strconv.ErrSyntax") hL2 (.tail _ (.tail _ (.tail _ (.tail _ (.tail _ (.tail _ (.head _))))))) g5
 obtain ⟨m, hcellm⟩ := Tryz.laysM146.s1_3 W hs
 have k6 : TabOK Tryz.prog (phi0 Tryz.prog.globals.size [a0.block, a1.block]) W (6, [.iface u0 (.pointer (some ⟨900, a0.off, none⟩))]) := sent_ok (j := 0) hg0 hn rfl hc0 hsp0
 have k5 : TabOK Tryz.prog (phi0 Tryz.prog.globals.size [a0.block, a1.block]) W (5, [.iface u1 (.pointer (some ⟨901, a1.off, none⟩))]) := sent_ok (j := 1) hg1 hn rfl hc1 hsp1
 have k2 : TabOK Tryz.prog (phi0 Tryz.prog.globals.size [a0.block, a1.block]) W (2, pow10L.map (.int .u64)) := tab_ok (name := "internal/strconv.uint64pow10") (zs := pow10L) hL2 (.tail _ (.tail _ (.head _))) g2 t2 Tryz.underlying149 Tryz.underlying126 (by kernel_rfl) (by kernel_rfl)
 have k1 : TabOK Tryz.prog (phi0 Tryz.prog.globals.size [a0.block, a1.block]) W (1, formsL.map (.int .i64)) := tab_ok (name := "undertow/code.forms") (zs := formsL) hL2 (.tail _ (.tail _ (.tail _ (.head _)))) g1 t1 Tryz.underlying95 Tryz.underlying3 (by kernel_rfl) (by kernel_rfl)
 have k0 : TabOK Tryz.prog (phi0 Tryz.prog.globals.size [a0.block, a1.block]) W (0, [.int .i64 m]) := ⟨Nat.le_of_ble_eq_true (by kernel_rfl), fun k v hk => by
  cases k with
  | zero => simp at hk; subst hk; exact ⟨_, hcellm, .int _ _⟩
  | succ k => simp at hk⟩
 have k7 : TabOK Tryz.prog (phi0 Tryz.prog.globals.size [a0.block, a1.block]) W (7, db32L.map (.int .u8)) := tab_ok (name := "math/bits.deBruijn32tab") (zs := db32L) hL2 (.head _) g7 t7 Tryz.underlying172 Tryz.underlying5 (by kernel_rfl) (by kernel_rfl)
 have k8 : TabOK Tryz.prog (phi0 Tryz.prog.globals.size [a0.block, a1.block]) W (8, db64L.map (.int .u8)) := tab_ok (name := "math/bits.deBruijn64tab") (zs := db64L) hL2 (.tail _ (.head _)) g8 t8 Tryz.underlying173 Tryz.underlying5 (by kernel_rfl) (by kernel_rfl)
 refine ⟨m, u0, a0.off, u1, a1.off, _, rfl, rel_start (bs := [a0.block, a1.block]) hn (by simp) (fun b hb => ?_) (shaped_size hs (by kernel_rfl)) (glOf_ok ?_)⟩
 ·simp only [List.mem_cons, List.not_mem_nil, or_false] at hb
  rcases hb with rfl | rfl
  ·exact hb0
  ·exact hb1
 intro x hx
 simp only [List.mem_cons, List.not_mem_nil, or_false] at hx
 rcases hx with rfl | rfl | rfl | rfl | rfl | rfl | rfl
 ·exact k6
 ·exact k5
 ·exact k2
 ·exact k1
 ·exact k0
 ·exact k7
 ·exact k8
theorem walk (lk : Int) (hlk : (Lit.int .u32 lk).wf = true) (tr : Int) (htr : (Lit.int .i64 tr).wf = true) (n : ByteArray) (body : ByteArray) (W : World) (hL : laidMetH Tryz.prog Rows.elideTellsRow.laid W) (hsh : W.ShapedOpen Tryz.prog) :
  Calls Tryz.prog 4 #[.int .u32 lk, .int .i64 tr, .string n, .string body] W (fun e W' => e = .returned (.bool true) ∧ Below W.heap.size W W') := by
 obtain ⟨m, u0, o0, u1, o1, bs, hbs, hr⟩ := ready W hL hsh
 have hw : Ready Tryz.prog (glE m u0 o0 u1 o1) W := ⟨_, hr⟩
 exact elideTells_calls m u0 o0 u1 o1 n body hlk hw
theorem reads (os : Os) {H : Type} (enc : TypeId × Value → H) : ∃ places, DataW.whole enc Tryz.prog ((World.laidAll Tryz.prog os Rows.elideTellsRow.laid).forCall (fun _ _ => 0) ⟨#[], #[.int .u32 0, .int .i64 0, .string ⟨#[]⟩, .string ⟨#[]⟩], []⟩).memory Tryz.f4.params.toList Rows.elideTellsSpec.vars false (#[.int .u32 0, .int .i64 0, .string ⟨#[]⟩, .string ⟨#[]⟩] : Array Value).toList 8 = some ([.lit (.int .u32 0), .lit (.int .i64 0), .lit (.string []), .lit (.string [])], [], places) :=
 ⟨[], by kernel_rfl⟩
set_option maxRecDepth 100000 in
theorem lifted (os : Os) (started : os.Started) (H : Type) (enc : TypeId × Value → H) (F : Stop.Interp) :
  ReturnsInHanded {} Tryz.checked os 4 .any ((OpenSpec.ofChange Rows.elideTellsSpec).preRow enc Tryz.prog Tryz.f4 Rows.elideTellsRow.domain false Rows.elideTellsRow.laid) (((OpenSpec.ofChange Rows.elideTellsSpec).at F).post enc Tryz.prog Tryz.f4 false true false false) := by
 obtain ⟨places, hx⟩ := reads os enc
 refine returnsInHanded_of_row (C := Tryz.checked) (s := OpenSpec.ofChange Rows.elideTellsSpec) own started (by kernel_rfl) Tryz.func4
  (witness_row_atRef (enc := enc) (C := Tryz.checked) false (World.laidAll Tryz.prog os Rows.elideTellsRow.laid) #[.int .u32 0, .int .i64 0, .string ⟨#[]⟩, .string ⟨#[]⟩] (World.laidAll_os _ _ _) (by kernel_rfl) (by kernel_rfl) (by kernel_rfl)
   (OpenSpec.preRow_of_cond 8 hx (by kernel_rfl) (fun k hk => by cases hk) (by kernel_rfl) (laidMet_laidAll #[.int .u32 0, .int .i64 0, .string ⟨#[]⟩, .string ⟨#[]⟩] (by kernel_rfl) (by kernel_rfl)))) ?_
 intro W base args ds gs before hval hW _ _ hwt hL hsh _
 have hp : Tryz.f4.params = #[26, 3, 9, 9] := by kernel_rfl
 rw [hp] at hwt
 obtain ⟨v0, v1, v2, v3, d0, d1, d2, d3, q0, q1, q2, q3, rfl, rfl, ht0, ht1, ht2, ht3⟩ : ∃ v0 v1 v2 v3 d0 d1 d2 d3 q0 q1 q2 q3, args = #[v0, v1, v2, v3] ∧ ds = [d0, d1, d2, d3] ∧ DataW.Trod enc Tryz.prog W 0 (fun _ => true) true 26 v0 d0 q0 ∧ DataW.Trod enc Tryz.prog W 0 (fun _ => true) true 3 v1 d1 q1 ∧ DataW.Trod enc Tryz.prog W 0 (fun _ => true) true 9 v2 d2 q2 ∧ DataW.Trod enc Tryz.prog W 0 (fun _ => true) true 9 v3 d3 q3 := by
  obtain ⟨p, q, hA, _⟩ := id hW
  rw [hp] at hA
  obtain ⟨v0, vs0, d0, ds0, p0, r0, e0, rfl, _, h0, hA0⟩ := trodAll_cons hA
  obtain ⟨v1, vs1, d1, ds1, p1, r1, e1, rfl, _, h1, hA1⟩ := trodAll_cons hA0
  obtain ⟨v2, vs2, d2, ds2, p2, r2, e2, rfl, _, h2, hA2⟩ := trodAll_cons hA1
  obtain ⟨v3, vs3, d3, ds3, p3, r3, e3, rfl, _, h3, hA3⟩ := trodAll_cons hA2
  obtain ⟨rfl, rfl, _⟩ := trodAll_nil hA3
  subst e3
  subst e2
  subst e1
  exact ⟨v0, v1, v2, v3, d0, d1, d2, d3, p0, p1, p2, p3, Array.ext' e0, rfl, h0, h1, h2, h3⟩
 have hok0 : Value.okWide Tryz.prog W .any base 26 v0 := hval 0 26 v0 (by rw [hp]; rfl) rfl
 obtain ⟨lk, rfl, rfl, _, wlk⟩ := open_int Tryz.underlying26 hok0 ht0
 have hok1 : Value.okWide Tryz.prog W .any base 3 v1 := hval 1 3 v1 (by rw [hp]; rfl) rfl
 obtain ⟨tr, rfl, rfl, _, wtr⟩ := open_int Tryz.underlying3 hok1 ht1
 have hok2 : Value.okWide Tryz.prog W .any base 9 v2 := hval 2 9 v2 (by rw [hp]; rfl) rfl
 obtain ⟨n, rfl, rfl, _, _⟩ := ChangeMaps.open_string Tryz.underlying9 hok2 ht2
 have hok3 : Value.okWide Tryz.prog W .any base 9 v3 := hval 3 9 v3 (by rw [hp]; rfl) rfl
 obtain ⟨body, rfl, rfl, _, _⟩ := ChangeMaps.open_string Tryz.underlying9 hok3 ht3
 refine (walk lk wlk tr wtr n body W hL hsh).mono fun e W' ⟨he, hB⟩ => ?_
 subst he
 exact ⟨_, rfl, post_trueN (t := 4) (m := 4) (by kernel_rfl) (by kernel_rfl) rfl Tryz.underlying4 rfl hW hB⟩
theorem andT {a b : Bool} (h : a = true) (k : b = true) : (a && b) = true := by rw [h, k]; rfl
set_option maxRecDepth 100000 in
set_option maxHeartbeats 0 in
theorem closed : joinedFacts Tryz.pinned.checked.prog 4 Tryz.f4 (OpenSpec.ofChange Rows.elideTellsSpec).bare Rows.elideTellsRow = true := by
 unfold joinedFacts
 repeat' (with_reducible refine andT ?_ ?_)
 all_goals as_aux_lemma => kernel_rfl
theorem said : Rows.ElideTellsSaid :=
 OpenClaim.holds_of_cond 4 Tryz.f4 rfl rfl rfl rfl rfl rfl rfl ⟨rfl, rfl, rfl, rfl, rfl⟩ rfl rfl rfl rfl rfl (by kernel_rfl) Tryz.func4 closed
  (of_decide_eq_true (by kernel_rfl)) (by unfold Func.isWrapper; first | (rw [if_pos (by decide +kernel)]; kernel_rfl) | (rw [if_neg (by decide +kernel)]; exact ⟨rfl, rfl⟩))
  (fun os started H enc _ F => by rw [OpenClaim.pre_eq_preRow]; exact lifted os started H enc F)
theorem plain (f : FuncId) (fn : Func) (hf : Tryz.pinned.checked.prog.funcNamed "undertow/undertowlaw25.ElideTells" = some f) (hfn : Tryz.pinned.checked.prog.funcs[f]? = some fn) :
  true = Tryz.pinned.checked.prog.looks [] ∧ ∀ (j : Nat) t, fn.params[j]? = some t → Tryz.pinned.checked.prog.wantsStandIn t = false := by
 obtain rfl : f = 4 := Option.some.inj ((show Tryz.prog.funcNamed "undertow/undertowlaw25.ElideTells" = some 4 by kernel_rfl).symm.trans hf) |>.symm
 obtain rfl : fn = Tryz.f4 := (Option.some.inj (Tryz.func4.symm.trans hfn)).symm
 refine ⟨by kernel_rfl, fun j t ht => ?_⟩
 rw [show Tryz.f4.params = #[26, 3, 9, 9] from by kernel_rfl] at ht
 cases j with
 | zero => cases ht; kernel_rfl
 | succ j =>
  cases j with
  | zero => cases ht; kernel_rfl
  | succ j =>
   cases j with
   | zero => cases ht; kernel_rfl
   | succ j =>
    cases j with
    | zero => cases ht; kernel_rfl
    | succ j =>
     simp at ht
theorem card : Rows.ElideTellsCardSaid :=
 Claim7.holds_tied_plain_at .later [] _ _ _ _ said (fun _ h => by cases h) (by kernel_rfl) (fun _ h => by cases h) elideTells_row_tie rfl ⟨rfl, rfl⟩ (by kernel_rfl) rfl plain (by kernel_rfl)
end Go.Proofs.YtgohbcbdgakjeaaGreatDoor.elideTells
namespace Go.Proofs.YtgohbcbdgakjeaaGreatDoor
theorem elideTells_card_holds : Rows.ElideTellsCardSaid := elideTells.card
end Go.Proofs.YtgohbcbdgakjeaaGreatDoor
