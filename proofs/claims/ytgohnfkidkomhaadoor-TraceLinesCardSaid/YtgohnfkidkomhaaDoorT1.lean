/- trace.May and trace.Line answer whether an event may be, and its line: events whose count is an int and whose cause has 32 bits. -/
import Derived.Test.YtgohnfkidkomhaaDoorK1
import Derived.Test.YtgohnfkidkomhaaDoorShelf
import Derived.Shelf.Strconv.Itoa3
import Derived.Lib.AppendIntMem
import Derived.Lib.Walk
import Derived.WalkKit
import Derived.ProofKit
import Derived.Test.YtgohnfkidkomhaaDoorM1
noncomputable section
namespace Go.Proofs.YtgohnfkidkomhaaDoor
open Go.ChangeShapes Go.WideShapes Go.ChangeAt Go.RowKit Go.Shelf Go.Sort Go.Lib

/-! strconv.FormatUint to the base 10. -/
set_option maxHeartbeats 6400000 in
set_option maxRecDepth 100000 in
theorem fmtUint (u : Nat) (hu64 : u < 18446744073709551616) (w : World) (htab : Lib.TabIs Tryd.prog w "internal/strconv.uint64pow10" .u64 Lib.pow10Tab) :
    Calls Tryd.prog 102 #[.int .u64 (u : Int), .int .i64 10] w fun e w' => e = .returned (.string ⟨(Lib.decDigits u).toArray⟩) ∧ ∃ k os, w' = grow (w.drewN k) os := by
  by_cases hs : u < 100
  · go_enter Tryd.func102, Tryd.ntmps102
    go_wp2_with fail
    refine (Tryd.internal_strconv_small u hs _).mono ?_
    rintro e w' ⟨rfl, rfl⟩
    go_wp2
    go_ret
    refine ⟨rfl, 0, #[], by simp [World.drewN_zero]⟩
  · have hu1 : 1 ≤ u := by omega
    have hnd20 : Lib.nDigits u ≤ 20 := by have := Lib.numDigits_eq u hu1 hu64; split at this <;> omega
    have hal : Tryd.prog.arrayLen 156 = 24 := by kernel_rfl
    have hae : Tryd.prog.elem 156 = 5 := by kernel_rfl
    have hsl1 : ∀ W, (Instr.sliceAt 156 (.pointer (some ⟨w.heap.size, 0, none⟩)) none (some (.int .i64 (Lib.nDigits u : Int))) none).run Tryd.prog W = .ok (.slice (some ⟨w.heap.size, 0, none⟩) (Lib.nDigits u) 24) W := fun W => by
      rw [run_sliceAt_array_h W 156 ⟨w.heap.size, 0, none⟩ (by simp [Program.arrayLen, Program.elem, Tryd.underlying156]) .i64 (Lib.nDigits u : Int) (by omega) (by rw [hal]; omega)]
      go_simp
    have hH0 := Lib.holds_zero0 w 156 (Lib.nDigits u) (by omega)
    have hfmt := Tryd.internal_strconv_formatBase10 w.heap.size 0 24 u (Array.replicate (Lib.nDigits u) 0) (w.alloc (.cells Lib.zeros24 156)) hH0 (by rw [Array.size_replicate]; exact Lib.lt_pow_nDigits u) hu64 (by rw [Array.size_replicate]; omega)
    rw [Array.size_replicate] at hfmt
    have HH0 := Lib.hid hH0
    clear hH0 hal hae
    go_enter Tryd.func102, Tryd.ntmps102
    go_wp2_with fail
    refine (Tryd.internal_strconv_numDigits u hu1 hu64 _ (Lib.tabIs_alloc htab _)).mono ?_
    rintro e w' ⟨rfl, rfl⟩
    go_wp2_with fail
    refine hfmt.mono ?_
    rintro e w' ⟨rfl, k, v', dk, rfl, hF⟩
    have hcv : (convert 77 9 (.slice (some ⟨w.heap.size, 0, none⟩) (Lib.nDigits u) 24)).run Tryd.prog ((putRow (fun (b : UInt8) => Value.int .u8 (b.toNat : Int)) (w.alloc (.cells Lib.zeros24 156)) w.heap.size 0 dk).drewN k) = .ok (.string ⟨(Lib.decDigits u).toArray⟩) ((putRow (fun (b : UInt8) => Value.int .u8 (b.toNat : Int)) (w.alloc (.cells Lib.zeros24 156)) w.heap.size 0 dk).drewN k) := by
      have h := run_convert_bytes_back (P := Tryd.prog) ((putRow (fun (b : UInt8) => Value.int .u8 (b.toNat : Int)) (w.alloc (.cells Lib.zeros24 156)) w.heap.size 0 dk).drewN k) 77 9 5 ⟨w.heap.size, 0, none⟩ 24 (Lib.decDigits u) Tryd.underlying77 Tryd.underlying5 Tryd.underlying9 (fun j hj => by
        rw [Lib.row_is_numeral hF j hj, Lib.add_plain, World.cell?_drewN]
        exact cell?_putRow (fun (b : UInt8) => Value.int .u8 (b.toNat : Int)) _ w.heap.size 0 _ dk HH0.out (by rw [hF.size, Array.size_replicate]) j (by rw [hF.size]; rw [Lib.decDigits_length] at hj; exact hj))
      rw [Lib.decDigits_length] at h
      exact h
    go_wp2
    go_ret
    obtain ⟨os, eo⟩ := Lib.fin_at w (.cells Lib.zeros24 156) dk k 0
    exact ⟨rfl, k, os, eo⟩
set_option maxRecDepth 100000 in
theorem fmtUint2 (u : Nat) (hu64 : u < 18446744073709551616) (w : World) (htab : Lib.TabIs Tryd.prog w "internal/strconv.uint64pow10" .u64 Lib.pow10Tab) :
    Calls Tryd.prog 66 #[.int .u64 (u : Int), .int .i64 10] w fun e w' => e = .returned (.string ⟨(Lib.decDigits u).toArray⟩) ∧ ∃ k os, w' = grow (w.drewN k) os := by
  have h := fmtUint u hu64 w htab
  go_enter Tryd.func66, Tryd.ntmps66
  go_wp2_with fail
  refine h.mono ?_
  rintro e w' ⟨rfl, hw⟩
  go_wp2
  go_ret
  exact ⟨rfl, hw⟩
open Go.Proofs.YtgohnfkidkomhaaDoor.Ev
def afFmtU (it : Int → ByteArray) : AF := fun args _ => match args with
  | [.int .u64 n, .int .i64 b] => some (decide (0 ≤ n) && decide (n < 18446744073709551616) && decide (b = 10), .string (it n))
  | _ => none
theorem fn_fmtU {gl : Gl} (hgl : ∀ g k v, gl g k = some v → g < 1000 ∧ lowV 8 v = true) (hp : ∀ (i : Nat) z, Lib.pow10Tab[i]? = some z → gl 2 i = some (.int .u64 z)) : FnOK Tryd.prog gl 66 (afFmtU itoaB) := FnOK.flat hgl tglob fun args σ v h => by
  unfold afFmtU at h
  split at h
  · rename_i n b
    simp only [Option.some.injEq, Prod.mk.injEq, Bool.and_eq_true, decide_eq_true_eq] at h
    obtain ⟨⟨⟨h1, h2⟩, rfl⟩, rfl⟩ := h
    obtain ⟨u, rfl⟩ := Int.eq_ofNat_of_zero_le h1
    refine ⟨rfl, rfl, fun w hw => ?_⟩
    obtain ⟨φ, hr⟩ := hw
    have ht := tab_gl hr (name := "internal/strconv.uint64pow10") (k := .u64) (zs := Lib.pow10Tab) (g := 2) (by kernel_rfl) (Nat.le_of_ble_eq_true (by kernel_rfl)) hp (by kernel_rfl)
    refine Calls.mono (fmtUint2 u (by omega) w ht) ?_
    rintro e w' ⟨rfl, k, os, rfl⟩
    refine ⟨by rw [itoaB_pos h1]; rfl, ?_⟩
    have e : (w.drewN k).heap = w.heap := by simp
    refine ⟨rfl, rfl, rfl, by simp [Go.Sort.grow], fun i hi => ?_⟩
    show ((w.drewN k).heap ++ os)[i]? = _
    rw [e, Array.getElem?_append_left hi]
  · cases h
end Go.Proofs.YtgohnfkidkomhaaDoor

noncomputable section
namespace Go.Proofs.YtgohnfkidkomhaaDoor
open Go.Proofs.YtgohnfkidkomhaaDoor.Ev Go.RowKit

/-! Events. -/
def evV (k c n u : Int) : Value := .agg #[.int .u8 k, .int .i64 c, .int .i64 n, .int .u32 u]
noncomputable abbrev evT (gl : Gl) (H : Hs) (f : FuncId) (args : List Value) : Option Value := callSK noSy Tryd.prog gl exB H 100 40 40 (.fn f) args LS.start flatR
set_option maxRecDepth 100000 in
theorem r_tmay (gl : Gl) (k c n u : Int) : evT gl HB0 32 [evV k c n u] =
 cond (decide (k < 1)) (
  some (.int IntKind.i64 2)) (
  cond (decide (k > 12)) (
   some (.int IntKind.i64 2)) (
   cond (decide (c < -1)) (
    some (.int IntKind.i64 2)) (
    cond (decide (c ≥ 16)) (
     some (.int IntKind.i64 2)) (
     cond (c == -1) (
      cond (k != 12) (
       some (.int IntKind.i64 2)) (
       cond (k == 4) (
        cond (decide (n > 1)) (
         cond (decide (n < 0)) (
          some (.int IntKind.i64 2)) (
          cond (n == 1) (
           some (.int IntKind.i64 2)) (
           cond (k == 5) (
            some (.int IntKind.i64 0)) (
            cond (k == 7) (
             some (.int IntKind.i64 0)) (
             cond (k == 11) (
              some (.int IntKind.i64 0)) (
              cond (u != 0) (
               some (.int IntKind.i64 2)) (
               some (.int IntKind.i64 0)))))))) (
         some (.int IntKind.i64 2))) (
        cond (decide (n > 1)) (
         some (.int IntKind.i64 2)) (
         cond (decide (n < 0)) (
          some (.int IntKind.i64 2)) (
          cond (n == 1) (
           some (.int IntKind.i64 2)) (
           cond (k == 5) (
            some (.int IntKind.i64 0)) (
            cond (k == 7) (
             some (.int IntKind.i64 0)) (
             cond (k == 11) (
              some (.int IntKind.i64 0)) (
              cond (u != 0) (
               some (.int IntKind.i64 2)) (
               some (.int IntKind.i64 0))))))))))) (
      cond (k == 4) (
       cond (decide (n > 1)) (
        cond (decide (n < 0)) (
         some (.int IntKind.i64 2)) (
         cond (n == 1) (
          some (.int IntKind.i64 2)) (
          cond (k == 5) (
           some (.int IntKind.i64 0)) (
           cond (k == 7) (
            some (.int IntKind.i64 0)) (
            cond (k == 11) (
             some (.int IntKind.i64 0)) (
             cond (u != 0) (
              some (.int IntKind.i64 2)) (
              some (.int IntKind.i64 0)))))))) (
        some (.int IntKind.i64 2))) (
       cond (decide (n > 1)) (
        some (.int IntKind.i64 2)) (
        cond (decide (n < 0)) (
         some (.int IntKind.i64 2)) (
         cond (n == 1) (
          some (.int IntKind.i64 2)) (
          cond (k == 5) (
           some (.int IntKind.i64 0)) (
           cond (k == 7) (
            some (.int IntKind.i64 0)) (
            cond (k == 11) (
             some (.int IntKind.i64 0)) (
             cond (u != 0) (
              some (.int IntKind.i64 2)) (
              some (.int IntKind.i64 0)))))))))))))) := by kernel_rfl
set_option maxRecDepth 100000 in
theorem r_tmayR (gl : Gl) (k c n u : Int) : evT gl HB0 33 [evV k c n u] =
 cond (decide (k < 1)) (
  some (.bool false)) (
  cond (decide (k > 12)) (
   some (.bool false)) (
   cond (decide (c < -1)) (
    some (.bool false)) (
    cond (decide (c > 15)) (
     some (.bool false)) (
     cond (c == -1) (
      cond (k != 12) (
       some (.bool false)) (
       cond (k == 4) (
        cond (decide (n < 2)) (
         some (.bool false)) (
         cond (k != 4) (
          cond (n != 0) (
           some (.bool false)) (
           cond (u == 0) (
            some (.bool true)) (
            cond (k == 5) (
             some (.bool true)) (
             cond (k == 7) (
              some (.bool true)) (
              cond (k == 11) (
               some (.bool true)) (
               some (.bool false))))))) (
          cond (u == 0) (
           some (.bool true)) (
           cond (k == 5) (
            some (.bool true)) (
            cond (k == 7) (
             some (.bool true)) (
             cond (k == 11) (
              some (.bool true)) (
              some (.bool false)))))))) (
        cond (k != 4) (
         cond (n != 0) (
          some (.bool false)) (
          cond (u == 0) (
           some (.bool true)) (
           cond (k == 5) (
            some (.bool true)) (
            cond (k == 7) (
             some (.bool true)) (
             cond (k == 11) (
              some (.bool true)) (
              some (.bool false))))))) (
         cond (u == 0) (
          some (.bool true)) (
          cond (k == 5) (
           some (.bool true)) (
           cond (k == 7) (
            some (.bool true)) (
            cond (k == 11) (
             some (.bool true)) (
             some (.bool false))))))))) (
      cond (k == 4) (
       cond (decide (n < 2)) (
        some (.bool false)) (
        cond (k != 4) (
         cond (n != 0) (
          some (.bool false)) (
          cond (u == 0) (
           some (.bool true)) (
           cond (k == 5) (
            some (.bool true)) (
            cond (k == 7) (
             some (.bool true)) (
             cond (k == 11) (
              some (.bool true)) (
              some (.bool false))))))) (
         cond (u == 0) (
          some (.bool true)) (
          cond (k == 5) (
           some (.bool true)) (
           cond (k == 7) (
            some (.bool true)) (
            cond (k == 11) (
             some (.bool true)) (
             some (.bool false)))))))) (
       cond (k != 4) (
        cond (n != 0) (
         some (.bool false)) (
         cond (u == 0) (
          some (.bool true)) (
          cond (k == 5) (
           some (.bool true)) (
           cond (k == 7) (
            some (.bool true)) (
            cond (k == 11) (
             some (.bool true)) (
             some (.bool false))))))) (
        cond (u == 0) (
         some (.bool true)) (
         cond (k == 5) (
          some (.bool true)) (
          cond (k == 7) (
           some (.bool true)) (
           cond (k == 11) (
            some (.bool true)) (
            some (.bool false)))))))))))) := by kernel_rfl
end Go.Proofs.YtgohnfkidkomhaaDoor

noncomputable section
namespace Go.Proofs.YtgohnfkidkomhaaDoor
open Go.Proofs.YtgohnfkidkomhaaDoor.Ev Go.RowKit

/-! Events: which may be, and their lines. -/
theorem condC {R : Type} {b : Bool} {x y r : Option R} (h1 : b = true → x = r) (h2 : b = false → y = r) : cond b x y = r := by
  cases b
  · exact h2 rfl
  · exact h1 rfl
def EMay (k c n u : Int) : Prop := 1 ≤ k ∧ k ≤ 12 ∧ -1 ≤ c ∧ c ≤ 15 ∧ (c = -1 → k = 12) ∧ (k = 4 → 2 ≤ n) ∧ (k ≠ 4 → n = 0) ∧ (u = 0 ∨ k = 5 ∨ k = 7 ∨ k = 11)
instance (k c n u : Int) : Decidable (EMay k c n u) := by unfold EMay; infer_instance
def emay (k c n u : Int) : Bool := decide (EMay k c n u)
set_option maxHeartbeats 4000000 in
theorem tmay_eq (gl : Gl) (k c n u : Int) : evT gl HB0 32 [evV k c n u] = some (.int .i64 (cond (emay k c n u) 0 2)) := by
  rw [r_tmay]
  unfold emay
  by_cases hP : EMay k c n u
  · rw [decide_eq_true hP, cond_true]
    unfold EMay at hP
    repeat' (refine condC (fun h => ?_) (fun h => ?_))
    all_goals first | rfl | (exfalso; simp only [decide_eq_true_eq, decide_eq_false_iff_not, bneI, beqI, Bool.not_eq_true', Bool.not_eq_false'] at *; omega)
  · rw [decide_eq_false hP, cond_false]
    unfold EMay at hP
    repeat' (refine condC (fun h => ?_) (fun h => ?_))
    all_goals first | rfl | (exfalso; simp only [decide_eq_true_eq, decide_eq_false_iff_not, bneI, beqI, Bool.not_eq_true', Bool.not_eq_false'] at *; omega)
set_option maxHeartbeats 4000000 in
theorem tmayR_eq (gl : Gl) (k c n u : Int) : evT gl HB0 33 [evV k c n u] = some (.bool (emay k c n u)) := by
  rw [r_tmayR]
  unfold emay
  by_cases hP : EMay k c n u
  · rw [decide_eq_true hP]
    unfold EMay at hP
    repeat' (refine condC (fun h => ?_) (fun h => ?_))
    all_goals first | rfl | (exfalso; simp only [decide_eq_true_eq, decide_eq_false_iff_not, bneI, beqI, Bool.not_eq_true', Bool.not_eq_false'] at *; omega)
  · rw [decide_eq_false hP]
    unfold EMay at hP
    repeat' (refine condC (fun h => ?_) (fun h => ?_))
    all_goals first | rfl | (exfalso; simp only [decide_eq_true_eq, decide_eq_false_iff_not, bneI, beqI, Bool.not_eq_true', Bool.not_eq_false'] at *; omega)
abbrev C4 (α : Type) := Int → Int → Int → Int → α
def afEv (gg : C4 Bool) (vv : C4 Value) : AF := fun args _ => match args with
  | [.agg ⟨[.int .u8 k, .int .i64 c, .int .i64 n, .int .u32 u]⟩] => some (gg k c n u, vv k c n u)
  | _ => none
theorem fnEv {gl : Gl} (hgl : Low gl) {sy : Sy} (hsy : SyOK gl sy) {H : Hs} (hH : H.OK Tryd.prog gl) {f : FuncId} {gg : C4 Bool} {vv : C4 Value} (h : ∀ k c n u, gg k c n u = true → callSK sy Tryd.prog gl exB H 100 40 40 (.fn f) [evV k c n u] LS.start flatR = some (vv k c n u)) : FnOK Tryd.prog gl f (afEv gg vv) :=
  fn_of hsy goodB hgl tglob hH (L := 100) (G := 40) (d := 40) fun args σ v e => by
    unfold afEv at e
    split at e
    · rename_i k c n u
      simp only [Option.some.injEq, Prod.mk.injEq] at e
      obtain ⟨h1, rfl⟩ := e
      exact ⟨rfl, h k c n u h1⟩
    · cases e
def tt4 : C4 Bool := fun _ _ _ _ => true
def mayC : C4 Value := fun k c n u => .int .i64 (cond (emay k c n u) 0 2)
def mayR : C4 Value := fun k c n u => .bool (emay k c n u)
theorem fn_tmay {gl : Gl} (hgl : Low gl) : FnOK Tryd.prog gl 32 (afEv tt4 mayC) := fnEv hgl noSy_ok HB0_ok fun k c n u _ => tmay_eq gl k c n u
theorem fn_tmayR {gl : Gl} (hgl : Low gl) : FnOK Tryd.prog gl 33 (afEv tt4 mayR) := fnEv hgl noSy_ok HB0_ok fun k c n u _ => tmayR_eq gl k c n u
end Go.Proofs.YtgohnfkidkomhaaDoor

noncomputable section
namespace Go.Proofs.YtgohnfkidkomhaaDoor
open Go.Proofs.YtgohnfkidkomhaaDoor.Ev Go.RowKit

/-! Events' lines. -/
def v4 (k : IntKind) (m : Int) : C4 Value := fun _ _ _ _ => .int k m
def b4 (b : Bool) : C4 Value := fun _ _ _ _ => .bool b
def HTl (gg : C4 Bool) (m : Int) (it fu : Int → ByteArray) : Hs := hsOf [(32, afEv gg (v4 .i64 m)), (62, afItoa it), (66, afFmtU fu), (67, afJoin)] [] []
def HTr (gg : C4 Bool) (b : Bool) (it : Int → ByteArray) (p : Int → Bool) : Hs := hsOf [(33, afEv gg (b4 b)), (68, afDig p it)] [] []
set_option maxRecDepth 100000 in
theorem r_eb0 (gl : Gl) (gg : C4 Bool) (it fu : Int → ByteArray) (k c n u : Int) : evT gl (HTl gg 2 it fu) 30 [evV k c n u] =
 cond (gg k c n u) (
  some (.tuple #[(.string ((⟨#[]⟩ : ByteArray))), (.int IntKind.i64 2)])) (
  none) := by kernel_rfl
set_option maxRecDepth 100000 in
theorem r_fb0 (gl : Gl) (gg : C4 Bool) (it : Int → ByteArray) (p : Int → Bool) (k c n u : Int) : evT gl (HTr gg false it p) 31 [evV k c n u] =
 cond (gg k c n u) (
  some (.tuple #[(.string ((⟨#[]⟩ : ByteArray))), (.int IntKind.i64 2)])) (
  none) := by kernel_rfl
set_option maxRecDepth 100000 in
theorem r_el1 (gl : Gl) (gg : C4 Bool) (it fu : Int → ByteArray) (c n u : Int) : evT gl (HTl gg 0 it fu) 30 [evV 1 c n u] =
 cond (gg 1 c n u) (
  cond (c != -1) (
   cond (decide (-9223372036854775808 ≤ c) && (decide (c ≤ 9223372036854775807))) (
    cond ((joinB (⟨#[32]⟩ : ByteArray) [it c, (⟨#[114, 101, 116, 105, 114, 101]⟩ : ByteArray)]).size.ble 140737488355328) (
     some (.tuple #[(.string (joinB (⟨#[32]⟩ : ByteArray) [it c, (⟨#[114, 101, 116, 105, 114, 101]⟩ : ByteArray)])), (.int IntKind.i64 0)])) (
     none)) (
    none)) (
   some (.tuple #[(.string (joinB (⟨#[32]⟩ : ByteArray) [(⟨#[104, 111, 109, 101]⟩ : ByteArray), (⟨#[114, 101, 116, 105, 114, 101]⟩ : ByteArray)])), (.int IntKind.i64 0)]))) (
  none) := by kernel_rfl
set_option maxRecDepth 100000 in
theorem r_er1 (gl : Gl) (gg : C4 Bool) (it : Int → ByteArray) (p : Int → Bool) (c n u : Int) : evT gl (HTr gg true it p) 31 [evV 1 c n u] =
 cond (gg 1 c n u) (
  cond (decide (c ≥ 0)) (
   cond (p c) (
    cond (((it c).size + 1).ble 9223372036854775807) (
     cond (((it c ++ (⟨#[32]⟩ : ByteArray)).size + 6).ble 9223372036854775807) (
      some (.tuple #[(.string (it c ++ (⟨#[32]⟩ : ByteArray) ++ (⟨#[114, 101, 116, 105, 114, 101]⟩ : ByteArray))), (.int IntKind.i64 0)])) (
      none)) (
     none)) (
    none)) (
   some (.tuple #[(.string ((⟨#[104, 111, 109, 101]⟩ : ByteArray) ++ (⟨#[32]⟩ : ByteArray) ++ (⟨#[114, 101, 116, 105, 114, 101]⟩ : ByteArray))), (.int IntKind.i64 0)]))) (
  none) := by kernel_rfl
set_option maxRecDepth 100000 in
theorem r_el2 (gl : Gl) (gg : C4 Bool) (it fu : Int → ByteArray) (c n u : Int) : evT gl (HTl gg 0 it fu) 30 [evV 2 c n u] =
 cond (gg 2 c n u) (
  cond (c != -1) (
   cond (decide (-9223372036854775808 ≤ c) && (decide (c ≤ 9223372036854775807))) (
    cond ((joinB (⟨#[32]⟩ : ByteArray) [it c, (⟨#[98, 101, 103, 105, 110]⟩ : ByteArray)]).size.ble 140737488355328) (
     some (.tuple #[(.string (joinB (⟨#[32]⟩ : ByteArray) [it c, (⟨#[98, 101, 103, 105, 110]⟩ : ByteArray)])), (.int IntKind.i64 0)])) (
     none)) (
    none)) (
   some (.tuple #[(.string (joinB (⟨#[32]⟩ : ByteArray) [(⟨#[104, 111, 109, 101]⟩ : ByteArray), (⟨#[98, 101, 103, 105, 110]⟩ : ByteArray)])), (.int IntKind.i64 0)]))) (
  none) := by kernel_rfl
set_option maxRecDepth 100000 in
theorem r_er2 (gl : Gl) (gg : C4 Bool) (it : Int → ByteArray) (p : Int → Bool) (c n u : Int) : evT gl (HTr gg true it p) 31 [evV 2 c n u] =
 cond (gg 2 c n u) (
  cond (decide (c ≥ 0)) (
   cond (p c) (
    cond (((it c).size + 1).ble 9223372036854775807) (
     cond (((it c ++ (⟨#[32]⟩ : ByteArray)).size + 5).ble 9223372036854775807) (
      some (.tuple #[(.string (it c ++ (⟨#[32]⟩ : ByteArray) ++ (⟨#[98, 101, 103, 105, 110]⟩ : ByteArray))), (.int IntKind.i64 0)])) (
      none)) (
     none)) (
    none)) (
   some (.tuple #[(.string ((⟨#[104, 111, 109, 101]⟩ : ByteArray) ++ (⟨#[32]⟩ : ByteArray) ++ (⟨#[98, 101, 103, 105, 110]⟩ : ByteArray))), (.int IntKind.i64 0)]))) (
  none) := by kernel_rfl
set_option maxRecDepth 100000 in
theorem r_el3 (gl : Gl) (gg : C4 Bool) (it fu : Int → ByteArray) (c n u : Int) : evT gl (HTl gg 0 it fu) 30 [evV 3 c n u] =
 cond (gg 3 c n u) (
  cond (c != -1) (
   cond (decide (-9223372036854775808 ≤ c) && (decide (c ≤ 9223372036854775807))) (
    cond ((joinB (⟨#[32]⟩ : ByteArray) [it c, (⟨#[105, 110, 115, 105, 100, 101]⟩ : ByteArray)]).size.ble 140737488355328) (
     some (.tuple #[(.string (joinB (⟨#[32]⟩ : ByteArray) [it c, (⟨#[105, 110, 115, 105, 100, 101]⟩ : ByteArray)])), (.int IntKind.i64 0)])) (
     none)) (
    none)) (
   some (.tuple #[(.string (joinB (⟨#[32]⟩ : ByteArray) [(⟨#[104, 111, 109, 101]⟩ : ByteArray), (⟨#[105, 110, 115, 105, 100, 101]⟩ : ByteArray)])), (.int IntKind.i64 0)]))) (
  none) := by kernel_rfl
set_option maxRecDepth 100000 in
theorem r_er3 (gl : Gl) (gg : C4 Bool) (it : Int → ByteArray) (p : Int → Bool) (c n u : Int) : evT gl (HTr gg true it p) 31 [evV 3 c n u] =
 cond (gg 3 c n u) (
  cond (decide (c ≥ 0)) (
   cond (p c) (
    cond (((it c).size + 1).ble 9223372036854775807) (
     cond (((it c ++ (⟨#[32]⟩ : ByteArray)).size + 6).ble 9223372036854775807) (
      some (.tuple #[(.string (it c ++ (⟨#[32]⟩ : ByteArray) ++ (⟨#[105, 110, 115, 105, 100, 101]⟩ : ByteArray))), (.int IntKind.i64 0)])) (
      none)) (
     none)) (
    none)) (
   some (.tuple #[(.string ((⟨#[104, 111, 109, 101]⟩ : ByteArray) ++ (⟨#[32]⟩ : ByteArray) ++ (⟨#[105, 110, 115, 105, 100, 101]⟩ : ByteArray))), (.int IntKind.i64 0)]))) (
  none) := by kernel_rfl
set_option maxRecDepth 100000 in
theorem r_el4 (gl : Gl) (gg : C4 Bool) (it fu : Int → ByteArray) (c n u : Int) : evT gl (HTl gg 0 it fu) 30 [evV 4 c n u] =
 cond (gg 4 c n u) (
  cond (c != -1) (
   cond (decide (-9223372036854775808 ≤ c) && (decide (c ≤ 9223372036854775807))) (
    cond (decide (-9223372036854775808 ≤ n) && (decide (n ≤ 9223372036854775807))) (
     cond ((joinB (⟨#[32]⟩ : ByteArray) [it c, (⟨#[99, 111, 109, 109, 105, 116]⟩ : ByteArray), it n]).size.ble 140737488355328) (
      some (.tuple #[(.string (joinB (⟨#[32]⟩ : ByteArray) [it c, (⟨#[99, 111, 109, 109, 105, 116]⟩ : ByteArray), it n])), (.int IntKind.i64 0)])) (
      none)) (
     none)) (
    none)) (
   cond (decide (-9223372036854775808 ≤ n) && (decide (n ≤ 9223372036854775807))) (
    cond ((joinB (⟨#[32]⟩ : ByteArray) [(⟨#[104, 111, 109, 101]⟩ : ByteArray), (⟨#[99, 111, 109, 109, 105, 116]⟩ : ByteArray), it n]).size.ble   140737488355328) (
     some (.tuple #[(.string (joinB (⟨#[32]⟩ : ByteArray) [(⟨#[104, 111, 109, 101]⟩ : ByteArray), (⟨#[99, 111, 109, 109, 105, 116]⟩ : ByteArray), it n])), (.int IntKind.i64 0)])) (
     none)) (
    none))) (
  none) := by kernel_rfl
set_option maxRecDepth 100000 in
theorem r_er4 (gl : Gl) (gg : C4 Bool) (it : Int → ByteArray) (p : Int → Bool) (c n u : Int) : evT gl (HTr gg true it p) 31 [evV 4 c n u] =
 cond (gg 4 c n u) (
  cond (decide (c ≥ 0)) (
   cond (p c) (
    cond (((it c).size + 1).ble 9223372036854775807) (
     cond (((it c ++ (⟨#[32]⟩ : ByteArray)).size + 6).ble 9223372036854775807) (
      cond (((it c ++ (⟨#[32]⟩ : ByteArray) ++ (⟨#[99, 111, 109, 109, 105, 116]⟩ : ByteArray)).size + 1).ble 9223372036854775807) (
       cond (p n) (
        cond (((it c ++ (⟨#[32]⟩ : ByteArray) ++ (⟨#[99, 111, 109, 109, 105, 116]⟩ : ByteArray) ++ (⟨#[32]⟩ : ByteArray)).size + (it n).size).ble   9223372036854775807) (
         some (.tuple #[(.string (it c ++ (⟨#[32]⟩ : ByteArray) ++ (⟨#[99, 111, 109, 109, 105, 116]⟩ : ByteArray) ++ (⟨#[32]⟩ : ByteArray) ++ it n)), (.int IntKind.i64 0)])) (
         none)) (
        none)) (
       none)) (
      none)) (
     none)) (
    none)) (
   cond (p n) (
    cond ((12 + (it n).size).ble 9223372036854775807) (
     some (.tuple #[(.string ((⟨#[104, 111, 109, 101]⟩ : ByteArray) ++ (⟨#[32]⟩ : ByteArray) ++ (⟨#[99, 111, 109, 109, 105, 116]⟩ : ByteArray) ++     (⟨#[32]⟩ : ByteArray) ++   it n)), (.int IntKind.i64 0)])) (
     none)) (
    none))) (
  none) := by kernel_rfl
set_option maxRecDepth 100000 in
theorem r_el5 (gl : Gl) (gg : C4 Bool) (it fu : Int → ByteArray) (c n u : Int) : evT gl (HTl gg 0 it fu) 30 [evV 5 c n u] =
 cond (gg 5 c n u) (
  cond (c != -1) (
   cond (decide (-9223372036854775808 ≤ c) && (decide (c ≤ 9223372036854775807))) (
    cond (decide (0 ≤ IntKind.u64.wrap u) && (decide (IntKind.u64.wrap u < 18446744073709551616)) && true) (
     cond ((joinB (⟨#[32]⟩ : ByteArray) [it c, (⟨#[102, 97, 105, 108]⟩ : ByteArray), fu (IntKind.u64.wrap u)]).size.ble 140737488355328) (
      some (.tuple #[(.string (joinB (⟨#[32]⟩ : ByteArray) [it c, (⟨#[102, 97, 105, 108]⟩ : ByteArray), fu (IntKind.u64.wrap u)])), (.int IntKind.i64 0)])) (
      none)) (
     none)) (
    none)) (
   cond (decide (0 ≤ IntKind.u64.wrap u) && (decide (IntKind.u64.wrap u < 18446744073709551616)) && true) (
    cond ((joinB (⟨#[32]⟩ : ByteArray)         [(⟨#[104, 111, 109, 101]⟩ : ByteArray), (⟨#[102, 97, 105, 108]⟩ : ByteArray), fu (IntKind.u64.wrap u)]).size.ble   140737488355328) (
     some (.tuple #[(.string (joinB (⟨#[32]⟩ : ByteArray) [(⟨#[104, 111, 109, 101]⟩ : ByteArray), (⟨#[102, 97, 105, 108]⟩ : ByteArray), fu (IntKind.u64.wrap u)])), (.int IntKind.i64 0)])) (
     none)) (
    none))) (
  none) := by kernel_rfl
set_option maxRecDepth 100000 in
theorem r_er5 (gl : Gl) (gg : C4 Bool) (it : Int → ByteArray) (p : Int → Bool) (c n u : Int) : evT gl (HTr gg true it p) 31 [evV 5 c n u] =
 cond (gg 5 c n u) (
  cond (decide (c ≥ 0)) (
   cond (p c) (
    cond (((it c).size + 1).ble 9223372036854775807) (
     cond (((it c ++ (⟨#[32]⟩ : ByteArray)).size + 4).ble 9223372036854775807) (
      cond (((it c ++ (⟨#[32]⟩ : ByteArray) ++ (⟨#[102, 97, 105, 108]⟩ : ByteArray)).size + 1).ble 9223372036854775807) (
       cond (p (IntKind.i64.wrap u)) (
        cond (((it c ++ (⟨#[32]⟩ : ByteArray) ++ (⟨#[102, 97, 105, 108]⟩ : ByteArray) ++ (⟨#[32]⟩ : ByteArray)).size +       (it (IntKind.i64.wrap u)).size).ble   9223372036854775807) (
         some (.tuple #[(.string (it c ++ (⟨#[32]⟩ : ByteArray) ++ (⟨#[102, 97, 105, 108]⟩ : ByteArray) ++ (⟨#[32]⟩ : ByteArray) ++ it (IntKind.i64.wrap u))), (.int IntKind.i64 0)])) (
         none)) (
        none)) (
       none)) (
      none)) (
     none)) (
    none)) (
   cond (p (IntKind.i64.wrap u)) (
    cond ((10 + (it (IntKind.i64.wrap u)).size).ble 9223372036854775807) (
     some (.tuple #[(.string ((⟨#[104, 111, 109, 101]⟩ : ByteArray) ++ (⟨#[32]⟩ : ByteArray) ++ (⟨#[102, 97, 105, 108]⟩ : ByteArray) ++ (⟨#[32]⟩ : ByteArray) ++   it (IntKind.i64.wrap u))), (.int IntKind.i64 0)])) (
     none)) (
    none))) (
  none) := by kernel_rfl
set_option maxRecDepth 100000 in
theorem r_el6 (gl : Gl) (gg : C4 Bool) (it fu : Int → ByteArray) (c n u : Int) : evT gl (HTl gg 0 it fu) 30 [evV 6 c n u] =
 cond (gg 6 c n u) (
  cond (c != -1) (
   cond (decide (-9223372036854775808 ≤ c) && (decide (c ≤ 9223372036854775807))) (
    cond ((joinB (⟨#[32]⟩ : ByteArray) [it c, (⟨#[117, 110, 100, 111]⟩ : ByteArray)]).size.ble 140737488355328) (
     some (.tuple #[(.string (joinB (⟨#[32]⟩ : ByteArray) [it c, (⟨#[117, 110, 100, 111]⟩ : ByteArray)])), (.int IntKind.i64 0)])) (
     none)) (
    none)) (
   some (.tuple #[(.string (joinB (⟨#[32]⟩ : ByteArray) [(⟨#[104, 111, 109, 101]⟩ : ByteArray), (⟨#[117, 110, 100, 111]⟩ : ByteArray)])), (.int IntKind.i64 0)]))) (
  none) := by kernel_rfl
set_option maxRecDepth 100000 in
theorem r_er6 (gl : Gl) (gg : C4 Bool) (it : Int → ByteArray) (p : Int → Bool) (c n u : Int) : evT gl (HTr gg true it p) 31 [evV 6 c n u] =
 cond (gg 6 c n u) (
  cond (decide (c ≥ 0)) (
   cond (p c) (
    cond (((it c).size + 1).ble 9223372036854775807) (
     cond (((it c ++ (⟨#[32]⟩ : ByteArray)).size + 4).ble 9223372036854775807) (
      some (.tuple #[(.string (it c ++ (⟨#[32]⟩ : ByteArray) ++ (⟨#[117, 110, 100, 111]⟩ : ByteArray))), (.int IntKind.i64 0)])) (
      none)) (
     none)) (
    none)) (
   some (.tuple #[(.string ((⟨#[104, 111, 109, 101]⟩ : ByteArray) ++ (⟨#[32]⟩ : ByteArray) ++ (⟨#[117, 110, 100, 111]⟩ : ByteArray))), (.int IntKind.i64 0)]))) (
  none) := by kernel_rfl
set_option maxRecDepth 100000 in
theorem r_el7 (gl : Gl) (gg : C4 Bool) (it fu : Int → ByteArray) (c n u : Int) : evT gl (HTl gg 0 it fu) 30 [evV 7 c n u] =
 cond (gg 7 c n u) (
  cond (c != -1) (
   cond (decide (-9223372036854775808 ≤ c) && (decide (c ≤ 9223372036854775807))) (
    cond (decide (0 ≤ IntKind.u64.wrap u) && (decide (IntKind.u64.wrap u < 18446744073709551616)) && true) (
     cond ((joinB (⟨#[32]⟩ : ByteArray) [it c, (⟨#[97, 98, 111, 114, 116]⟩ : ByteArray), fu (IntKind.u64.wrap u)]).size.ble 140737488355328) (
      some (.tuple #[(.string (joinB (⟨#[32]⟩ : ByteArray) [it c, (⟨#[97, 98, 111, 114, 116]⟩ : ByteArray), fu (IntKind.u64.wrap u)])), (.int IntKind.i64 0)])) (
      none)) (
     none)) (
    none)) (
   cond (decide (0 ≤ IntKind.u64.wrap u) && (decide (IntKind.u64.wrap u < 18446744073709551616)) && true) (
    cond ((joinB (⟨#[32]⟩ : ByteArray)         [(⟨#[104, 111, 109, 101]⟩ : ByteArray), (⟨#[97, 98, 111, 114, 116]⟩ : ByteArray), fu (IntKind.u64.wrap u)]).size.ble   140737488355328) (
     some (.tuple #[(.string (joinB (⟨#[32]⟩ : ByteArray)   [(⟨#[104, 111, 109, 101]⟩ : ByteArray), (⟨#[97, 98, 111, 114, 116]⟩ : ByteArray), fu (IntKind.u64.wrap u)])), (.int IntKind.i64 0)])) (
     none)) (
    none))) (
  none) := by kernel_rfl
set_option maxRecDepth 100000 in
theorem r_er7 (gl : Gl) (gg : C4 Bool) (it : Int → ByteArray) (p : Int → Bool) (c n u : Int) : evT gl (HTr gg true it p) 31 [evV 7 c n u] =
 cond (gg 7 c n u) (
  cond (decide (c ≥ 0)) (
   cond (p c) (
    cond (((it c).size + 1).ble 9223372036854775807) (
     cond (((it c ++ (⟨#[32]⟩ : ByteArray)).size + 5).ble 9223372036854775807) (
      cond (((it c ++ (⟨#[32]⟩ : ByteArray) ++ (⟨#[97, 98, 111, 114, 116]⟩ : ByteArray)).size + 1).ble 9223372036854775807) (
       cond (p (IntKind.i64.wrap u)) (
        cond (((it c ++ (⟨#[32]⟩ : ByteArray) ++ (⟨#[97, 98, 111, 114, 116]⟩ : ByteArray) ++ (⟨#[32]⟩ : ByteArray)).size +       (it (IntKind.i64.wrap u)).size).ble   9223372036854775807) (
         some (.tuple #[(.string (it c ++ (⟨#[32]⟩ : ByteArray) ++ (⟨#[97, 98, 111, 114, 116]⟩ : ByteArray) ++ (⟨#[32]⟩ : ByteArray) ++ it (IntKind.i64.wrap u))), (.int IntKind.i64 0)])) (
         none)) (
        none)) (
       none)) (
      none)) (
     none)) (
    none)) (
   cond (p (IntKind.i64.wrap u)) (
    cond ((11 + (it (IntKind.i64.wrap u)).size).ble 9223372036854775807) (
     some (.tuple #[(.string ((⟨#[104, 111, 109, 101]⟩ : ByteArray) ++ (⟨#[32]⟩ : ByteArray) ++ (⟨#[97, 98, 111, 114, 116]⟩ : ByteArray) ++ (⟨#[32]⟩ : ByteArray) ++   it (IntKind.i64.wrap u))), (.int IntKind.i64 0)])) (
     none)) (
    none))) (
  none) := by kernel_rfl
set_option maxRecDepth 100000 in
theorem r_el8 (gl : Gl) (gg : C4 Bool) (it fu : Int → ByteArray) (c n u : Int) : evT gl (HTl gg 0 it fu) 30 [evV 8 c n u] =
 cond (gg 8 c n u) (
  cond (c != -1) (
   cond (decide (-9223372036854775808 ≤ c) && (decide (c ≤ 9223372036854775807))) (
    cond ((joinB (⟨#[32]⟩ : ByteArray) [it c, (⟨#[97, 115, 107]⟩ : ByteArray)]).size.ble 140737488355328) (
     some (.tuple #[(.string (joinB (⟨#[32]⟩ : ByteArray) [it c, (⟨#[97, 115, 107]⟩ : ByteArray)])), (.int IntKind.i64 0)])) (
     none)) (
    none)) (
   some (.tuple #[(.string (joinB (⟨#[32]⟩ : ByteArray) [(⟨#[104, 111, 109, 101]⟩ : ByteArray), (⟨#[97, 115, 107]⟩ : ByteArray)])), (.int IntKind.i64 0)]))) (
  none) := by kernel_rfl
set_option maxRecDepth 100000 in
theorem r_er8 (gl : Gl) (gg : C4 Bool) (it : Int → ByteArray) (p : Int → Bool) (c n u : Int) : evT gl (HTr gg true it p) 31 [evV 8 c n u] =
 cond (gg 8 c n u) (
  cond (decide (c ≥ 0)) (
   cond (p c) (
    cond (((it c).size + 1).ble 9223372036854775807) (
     cond (((it c ++ (⟨#[32]⟩ : ByteArray)).size + 3).ble 9223372036854775807) (
      some (.tuple #[(.string (it c ++ (⟨#[32]⟩ : ByteArray) ++ (⟨#[97, 115, 107]⟩ : ByteArray))), (.int IntKind.i64 0)])) (
      none)) (
     none)) (
    none)) (
   some (.tuple #[(.string ((⟨#[104, 111, 109, 101]⟩ : ByteArray) ++ (⟨#[32]⟩ : ByteArray) ++ (⟨#[97, 115, 107]⟩ : ByteArray))), (.int IntKind.i64 0)]))) (
  none) := by kernel_rfl
set_option maxRecDepth 100000 in
theorem r_el9 (gl : Gl) (gg : C4 Bool) (it fu : Int → ByteArray) (c n u : Int) : evT gl (HTl gg 0 it fu) 30 [evV 9 c n u] =
 cond (gg 9 c n u) (
  cond (c != -1) (
   cond (decide (-9223372036854775808 ≤ c) && (decide (c ≤ 9223372036854775807))) (
    cond ((joinB (⟨#[32]⟩ : ByteArray) [it c, (⟨#[110, 97, 99, 107]⟩ : ByteArray)]).size.ble 140737488355328) (
     some (.tuple #[(.string (joinB (⟨#[32]⟩ : ByteArray) [it c, (⟨#[110, 97, 99, 107]⟩ : ByteArray)])), (.int IntKind.i64 0)])) (
     none)) (
    none)) (
   some (.tuple #[(.string (joinB (⟨#[32]⟩ : ByteArray) [(⟨#[104, 111, 109, 101]⟩ : ByteArray), (⟨#[110, 97, 99, 107]⟩ : ByteArray)])), (.int IntKind.i64 0)]))) (
  none) := by kernel_rfl
set_option maxRecDepth 100000 in
theorem r_er9 (gl : Gl) (gg : C4 Bool) (it : Int → ByteArray) (p : Int → Bool) (c n u : Int) : evT gl (HTr gg true it p) 31 [evV 9 c n u] =
 cond (gg 9 c n u) (
  cond (decide (c ≥ 0)) (
   cond (p c) (
    cond (((it c).size + 1).ble 9223372036854775807) (
     cond (((it c ++ (⟨#[32]⟩ : ByteArray)).size + 4).ble 9223372036854775807) (
      some (.tuple #[(.string (it c ++ (⟨#[32]⟩ : ByteArray) ++ (⟨#[110, 97, 99, 107]⟩ : ByteArray))), (.int IntKind.i64 0)])) (
      none)) (
     none)) (
    none)) (
   some (.tuple #[(.string ((⟨#[104, 111, 109, 101]⟩ : ByteArray) ++ (⟨#[32]⟩ : ByteArray) ++ (⟨#[110, 97, 99, 107]⟩ : ByteArray))), (.int IntKind.i64 0)]))) (
  none) := by kernel_rfl
set_option maxRecDepth 100000 in
theorem r_el10 (gl : Gl) (gg : C4 Bool) (it fu : Int → ByteArray) (c n u : Int) : evT gl (HTl gg 0 it fu) 30 [evV 10 c n u] =
 cond (gg 10 c n u) (
  cond (c != -1) (
   cond (decide (-9223372036854775808 ≤ c) && (decide (c ≤ 9223372036854775807))) (
    cond ((joinB (⟨#[32]⟩ : ByteArray) [it c, (⟨#[104, 97, 108, 116]⟩ : ByteArray)]).size.ble 140737488355328) (
     some (.tuple #[(.string (joinB (⟨#[32]⟩ : ByteArray) [it c, (⟨#[104, 97, 108, 116]⟩ : ByteArray)])), (.int IntKind.i64 0)])) (
     none)) (
    none)) (
   some (.tuple #[(.string (joinB (⟨#[32]⟩ : ByteArray) [(⟨#[104, 111, 109, 101]⟩ : ByteArray), (⟨#[104, 97, 108, 116]⟩ : ByteArray)])), (.int IntKind.i64 0)]))) (
  none) := by kernel_rfl
set_option maxRecDepth 100000 in
theorem r_er10 (gl : Gl) (gg : C4 Bool) (it : Int → ByteArray) (p : Int → Bool) (c n u : Int) : evT gl (HTr gg true it p) 31 [evV 10 c n u] =
 cond (gg 10 c n u) (
  cond (decide (c ≥ 0)) (
   cond (p c) (
    cond (((it c).size + 1).ble 9223372036854775807) (
     cond (((it c ++ (⟨#[32]⟩ : ByteArray)).size + 4).ble 9223372036854775807) (
      some (.tuple #[(.string (it c ++ (⟨#[32]⟩ : ByteArray) ++ (⟨#[104, 97, 108, 116]⟩ : ByteArray))), (.int IntKind.i64 0)])) (
      none)) (
     none)) (
    none)) (
   some (.tuple #[(.string ((⟨#[104, 111, 109, 101]⟩ : ByteArray) ++ (⟨#[32]⟩ : ByteArray) ++ (⟨#[104, 97, 108, 116]⟩ : ByteArray))), (.int IntKind.i64 0)]))) (
  none) := by kernel_rfl
set_option maxRecDepth 100000 in
theorem r_el11 (gl : Gl) (gg : C4 Bool) (it fu : Int → ByteArray) (c n u : Int) : evT gl (HTl gg 0 it fu) 30 [evV 11 c n u] =
 cond (gg 11 c n u) (
  cond (c != -1) (
   cond (decide (-9223372036854775808 ≤ c) && (decide (c ≤ 9223372036854775807))) (
    cond (decide (0 ≤ IntKind.u64.wrap u) && (decide (IntKind.u64.wrap u < 18446744073709551616)) && true) (
     cond ((joinB (⟨#[32]⟩ : ByteArray) [it c, (⟨#[102, 97, 117, 108, 116]⟩ : ByteArray), fu (IntKind.u64.wrap u)]).size.ble   140737488355328) (
      some (.tuple #[(.string (joinB (⟨#[32]⟩ : ByteArray) [it c, (⟨#[102, 97, 117, 108, 116]⟩ : ByteArray), fu (IntKind.u64.wrap u)])), (.int IntKind.i64 0)])) (
      none)) (
     none)) (
    none)) (
   cond (decide (0 ≤ IntKind.u64.wrap u) && (decide (IntKind.u64.wrap u < 18446744073709551616)) && true) (
    cond ((joinB (⟨#[32]⟩ : ByteArray)         [(⟨#[104, 111, 109, 101]⟩ : ByteArray), (⟨#[102, 97, 117, 108, 116]⟩ : ByteArray), fu (IntKind.u64.wrap u)]).size.ble   140737488355328) (
     some (.tuple #[(.string (joinB (⟨#[32]⟩ : ByteArray)   [(⟨#[104, 111, 109, 101]⟩ : ByteArray), (⟨#[102, 97, 117, 108, 116]⟩ : ByteArray), fu (IntKind.u64.wrap u)])), (.int IntKind.i64 0)])) (
     none)) (
    none))) (
  none) := by kernel_rfl
set_option maxRecDepth 100000 in
theorem r_er11 (gl : Gl) (gg : C4 Bool) (it : Int → ByteArray) (p : Int → Bool) (c n u : Int) : evT gl (HTr gg true it p) 31 [evV 11 c n u] =
 cond (gg 11 c n u) (
  cond (decide (c ≥ 0)) (
   cond (p c) (
    cond (((it c).size + 1).ble 9223372036854775807) (
     cond (((it c ++ (⟨#[32]⟩ : ByteArray)).size + 5).ble 9223372036854775807) (
      cond (((it c ++ (⟨#[32]⟩ : ByteArray) ++ (⟨#[102, 97, 117, 108, 116]⟩ : ByteArray)).size + 1).ble 9223372036854775807) (
       cond (p (IntKind.i64.wrap u)) (
        cond (((it c ++ (⟨#[32]⟩ : ByteArray) ++ (⟨#[102, 97, 117, 108, 116]⟩ : ByteArray) ++ (⟨#[32]⟩ : ByteArray)).size +       (it (IntKind.i64.wrap u)).size).ble   9223372036854775807) (
         some (.tuple #[(.string (it c ++ (⟨#[32]⟩ : ByteArray) ++ (⟨#[102, 97, 117, 108, 116]⟩ : ByteArray) ++ (⟨#[32]⟩ : ByteArray) ++ it (IntKind.i64.wrap u))), (.int IntKind.i64 0)])) (
         none)) (
        none)) (
       none)) (
      none)) (
     none)) (
    none)) (
   cond (p (IntKind.i64.wrap u)) (
    cond ((11 + (it (IntKind.i64.wrap u)).size).ble 9223372036854775807) (
     some (.tuple #[(.string ((⟨#[104, 111, 109, 101]⟩ : ByteArray) ++ (⟨#[32]⟩ : ByteArray) ++ (⟨#[102, 97, 117, 108, 116]⟩ : ByteArray) ++ (⟨#[32]⟩ : ByteArray) ++   it (IntKind.i64.wrap u))), (.int IntKind.i64 0)])) (
     none)) (
    none))) (
  none) := by kernel_rfl
set_option maxRecDepth 100000 in
theorem r_el12 (gl : Gl) (gg : C4 Bool) (it fu : Int → ByteArray) (c n u : Int) : evT gl (HTl gg 0 it fu) 30 [evV 12 c n u] =
 cond (gg 12 c n u) (
  cond (c != -1) (
   cond (decide (-9223372036854775808 ≤ c) && (decide (c ≤ 9223372036854775807))) (
    cond ((joinB (⟨#[32]⟩ : ByteArray) [it c, (⟨#[110, 111, 116, 101]⟩ : ByteArray)]).size.ble 140737488355328) (
     some (.tuple #[(.string (joinB (⟨#[32]⟩ : ByteArray) [it c, (⟨#[110, 111, 116, 101]⟩ : ByteArray)])), (.int IntKind.i64 0)])) (
     none)) (
    none)) (
   some (.tuple #[(.string (joinB (⟨#[32]⟩ : ByteArray) [(⟨#[104, 111, 109, 101]⟩ : ByteArray), (⟨#[110, 111, 116, 101]⟩ : ByteArray)])), (.int IntKind.i64 0)]))) (
  none) := by kernel_rfl
set_option maxRecDepth 100000 in
theorem r_er12 (gl : Gl) (gg : C4 Bool) (it : Int → ByteArray) (p : Int → Bool) (c n u : Int) : evT gl (HTr gg true it p) 31 [evV 12 c n u] =
 cond (gg 12 c n u) (
  cond (decide (c ≥ 0)) (
   cond (p c) (
    cond (((it c).size + 1).ble 9223372036854775807) (
     cond (((it c ++ (⟨#[32]⟩ : ByteArray)).size + 4).ble 9223372036854775807) (
      some (.tuple #[(.string (it c ++ (⟨#[32]⟩ : ByteArray) ++ (⟨#[110, 111, 116, 101]⟩ : ByteArray))), (.int IntKind.i64 0)])) (
      none)) (
     none)) (
    none)) (
   some (.tuple #[(.string ((⟨#[104, 111, 109, 101]⟩ : ByteArray) ++ (⟨#[32]⟩ : ByteArray) ++ (⟨#[110, 111, 116, 101]⟩ : ByteArray))), (.int IntKind.i64 0)]))) (
  none) := by kernel_rfl
end Go.Proofs.YtgohnfkidkomhaaDoor

noncomputable section
namespace Go.Proofs.YtgohnfkidkomhaaDoor
open Go.Proofs.YtgohnfkidkomhaaDoor.Ev Go.RowKit

/-! Events' lines: what they are. -/
def wordsL : List ByteArray := [(⟨#[]⟩ : ByteArray), (⟨#[114, 101, 116, 105, 114, 101]⟩ : ByteArray), (⟨#[98, 101, 103, 105, 110]⟩ : ByteArray), (⟨#[105, 110, 115, 105, 100, 101]⟩ : ByteArray), (⟨#[99, 111, 109, 109, 105, 116]⟩ : ByteArray), (⟨#[102, 97, 105, 108]⟩ : ByteArray), (⟨#[117, 110, 100, 111]⟩ : ByteArray), (⟨#[97, 98, 111, 114, 116]⟩ : ByteArray), (⟨#[97, 115, 107]⟩ : ByteArray), (⟨#[110, 97, 99, 107]⟩ : ByteArray), (⟨#[104, 97, 108, 116]⟩ : ByteArray), (⟨#[102, 97, 117, 108, 116]⟩ : ByteArray), (⟨#[110, 111, 116, 101]⟩ : ByteArray)]
def kindB (k : Int) : ByteArray := nthS wordsL k.toNat
def homeB : ByteArray := (⟨#[104, 111, 109, 101]⟩ : ByteArray)
def whoB (c : Int) : ByteArray := cond (decide (c = -1)) homeB (itoaB c)
def restB (k n u : Int) : ByteArray := cond (decide (k = 4)) ((⟨#[32]⟩ : ByteArray) ++ itoaB n) (cond (decide (k = 5) || decide (k = 7) || decide (k = 11)) ((⟨#[32]⟩ : ByteArray) ++ itoaB u) ⟨#[]⟩)
def tlB (k c n u : Int) : ByteArray := whoB c ++ ((⟨#[32]⟩ : ByteArray) ++ (kindB k ++ restB k n u))
def GT : C4 Bool := fun _ _ n u => decide (n ≤ 9223372036854775807) && (decide (0 ≤ u) && decide (u < 4294967296))
def GG : C4 Bool := fun k c n u => emay k c n u && GT k c n u
def GB : C4 Bool := fun k c n u => !emay k c n u
def evLV : C4 Value := fun k c n u => cond (emay k c n u) (.tuple #[.string (tlB k c n u), .int .i64 0]) (.tuple #[.string (⟨#[]⟩ : ByteArray), .int .i64 2])
theorem rngJ {x : Int} (h : -9223372036854775808 ≤ x ∧ x ≤ 9223372036854775807) : (decide (-9223372036854775808 ≤ x) && decide (x ≤ 9223372036854775807)) = true := by
  rw [decide_eq_true h.1, decide_eq_true h.2]; rfl
theorem rngU {x : Int} (h : 0 ≤ x ∧ x < 4294967296) : (decide (0 ≤ x) && decide (x < 18446744073709551616) && true) = true ∧ IntKind.u64.wrap x = x ∧ IntKind.i64.wrap x = x := by
  have e : IntKind.u64.wrap x = x := by
    simp [IntKind.wrap, IntKind.bits, IntKind.signed]; omega
  rw [e, decide_eq_true (by omega), decide_eq_true (by omega)]
  exact ⟨rfl, rfl, wrap_64 (by omega) (by omega)⟩
theorem belowJ {x : Int} (h0 : 0 ≤ x) (h1 : x ≤ 9223372036854775807) : below 9223372036854775808 x = true := by
  unfold below
  rw [decide_eq_true h0, decide_eq_true (by omega)]; rfl
theorem sizeB (l : Array UInt8) : (⟨l⟩ : ByteArray).size = l.size := rfl
theorem tl_1 (gl : Gl) (c n u : Int) (h : EMay 1 c n u) (hn : n ≤ 9223372036854775807) (hu : 0 ≤ u ∧ u < 4294967296) :
    evT gl (HTl GG 0 itoaB itoaB) 30 [evV 1 c n u] = some (.tuple #[.string (tlB 1 c n u), .int .i64 0]) ∧ evT gl (HTr GG true itoaB (below 9223372036854775808)) 31 [evV 1 c n u] = some (.tuple #[.string (tlB 1 c n u), .int .i64 0]) := by
  have hg : GG 1 c n u = true := by
    unfold GG GT emay
    rw [decide_eq_true h, decide_eq_true hn, decide_eq_true hu.1, decide_eq_true hu.2]; rfl
  have h2 := h
  unfold EMay at h2
  rw [r_el1, r_er1, hg, cond_true, cond_true]
  obtain ⟨u1, u2, u3⟩ := rngU hu
  have zn := itoa_size (n := n) (by omega) hn
  have zu := itoa_size (n := u) (by omega) (by omega)
  have rn := rngJ (x := n) (by omega)
  have pn := belowJ (x := n) (by omega) hn
  have pu := belowJ (x := u) hu.1 (by omega)
  have z6 : ∀ l : Array UInt8, l.size ≤ 8 → (⟨l⟩ : ByteArray).size ≤ 8 := fun _ h => h
  have hc : c ≠ -1 := fun e => absurd (h2.2.2.2.2.1 e) (by decide)
  have c1 : (c != -1) = true := by rw [bneI, decide_eq_false hc]; rfl
  have c2 : decide (c ≥ 0) = true := decide_eq_true (by omega)
  have rc := rngJ (x := c) (by omega)
  have pc := belowJ (x := c) (by omega) (by omega)
  have zc := itoa_size (n := c) (by omega) (by omega)
  have ew : whoB c = itoaB c := by unfold whoB; rw [decide_eq_false hc]; rfl
  unfold tlB
  rw [ew]
  simp (disch := (first | omega | decide)) only [c1, c2, rc, pc, rn, pn, pu, u1, u2, u3, joinB, ByteArray.size_append, sizeB, List.size_toArray, List.length_cons, List.length_nil, nble, cond_true, ByteArray.append_assoc]
  exact ⟨rfl, rfl⟩
theorem tl_2 (gl : Gl) (c n u : Int) (h : EMay 2 c n u) (hn : n ≤ 9223372036854775807) (hu : 0 ≤ u ∧ u < 4294967296) :
    evT gl (HTl GG 0 itoaB itoaB) 30 [evV 2 c n u] = some (.tuple #[.string (tlB 2 c n u), .int .i64 0]) ∧ evT gl (HTr GG true itoaB (below 9223372036854775808)) 31 [evV 2 c n u] = some (.tuple #[.string (tlB 2 c n u), .int .i64 0]) := by
  have hg : GG 2 c n u = true := by
    unfold GG GT emay
    rw [decide_eq_true h, decide_eq_true hn, decide_eq_true hu.1, decide_eq_true hu.2]; rfl
  have h2 := h
  unfold EMay at h2
  rw [r_el2, r_er2, hg, cond_true, cond_true]
  obtain ⟨u1, u2, u3⟩ := rngU hu
  have zn := itoa_size (n := n) (by omega) hn
  have zu := itoa_size (n := u) (by omega) (by omega)
  have rn := rngJ (x := n) (by omega)
  have pn := belowJ (x := n) (by omega) hn
  have pu := belowJ (x := u) hu.1 (by omega)
  have z6 : ∀ l : Array UInt8, l.size ≤ 8 → (⟨l⟩ : ByteArray).size ≤ 8 := fun _ h => h
  have hc : c ≠ -1 := fun e => absurd (h2.2.2.2.2.1 e) (by decide)
  have c1 : (c != -1) = true := by rw [bneI, decide_eq_false hc]; rfl
  have c2 : decide (c ≥ 0) = true := decide_eq_true (by omega)
  have rc := rngJ (x := c) (by omega)
  have pc := belowJ (x := c) (by omega) (by omega)
  have zc := itoa_size (n := c) (by omega) (by omega)
  have ew : whoB c = itoaB c := by unfold whoB; rw [decide_eq_false hc]; rfl
  unfold tlB
  rw [ew]
  simp (disch := (first | omega | decide)) only [c1, c2, rc, pc, rn, pn, pu, u1, u2, u3, joinB, ByteArray.size_append, sizeB, List.size_toArray, List.length_cons, List.length_nil, nble, cond_true, ByteArray.append_assoc]
  exact ⟨rfl, rfl⟩
theorem tl_3 (gl : Gl) (c n u : Int) (h : EMay 3 c n u) (hn : n ≤ 9223372036854775807) (hu : 0 ≤ u ∧ u < 4294967296) :
    evT gl (HTl GG 0 itoaB itoaB) 30 [evV 3 c n u] = some (.tuple #[.string (tlB 3 c n u), .int .i64 0]) ∧ evT gl (HTr GG true itoaB (below 9223372036854775808)) 31 [evV 3 c n u] = some (.tuple #[.string (tlB 3 c n u), .int .i64 0]) := by
  have hg : GG 3 c n u = true := by
    unfold GG GT emay
    rw [decide_eq_true h, decide_eq_true hn, decide_eq_true hu.1, decide_eq_true hu.2]; rfl
  have h2 := h
  unfold EMay at h2
  rw [r_el3, r_er3, hg, cond_true, cond_true]
  obtain ⟨u1, u2, u3⟩ := rngU hu
  have zn := itoa_size (n := n) (by omega) hn
  have zu := itoa_size (n := u) (by omega) (by omega)
  have rn := rngJ (x := n) (by omega)
  have pn := belowJ (x := n) (by omega) hn
  have pu := belowJ (x := u) hu.1 (by omega)
  have z6 : ∀ l : Array UInt8, l.size ≤ 8 → (⟨l⟩ : ByteArray).size ≤ 8 := fun _ h => h
  have hc : c ≠ -1 := fun e => absurd (h2.2.2.2.2.1 e) (by decide)
  have c1 : (c != -1) = true := by rw [bneI, decide_eq_false hc]; rfl
  have c2 : decide (c ≥ 0) = true := decide_eq_true (by omega)
  have rc := rngJ (x := c) (by omega)
  have pc := belowJ (x := c) (by omega) (by omega)
  have zc := itoa_size (n := c) (by omega) (by omega)
  have ew : whoB c = itoaB c := by unfold whoB; rw [decide_eq_false hc]; rfl
  unfold tlB
  rw [ew]
  simp (disch := (first | omega | decide)) only [c1, c2, rc, pc, rn, pn, pu, u1, u2, u3, joinB, ByteArray.size_append, sizeB, List.size_toArray, List.length_cons, List.length_nil, nble, cond_true, ByteArray.append_assoc]
  exact ⟨rfl, rfl⟩
theorem tl_4 (gl : Gl) (c n u : Int) (h : EMay 4 c n u) (hn : n ≤ 9223372036854775807) (hu : 0 ≤ u ∧ u < 4294967296) :
    evT gl (HTl GG 0 itoaB itoaB) 30 [evV 4 c n u] = some (.tuple #[.string (tlB 4 c n u), .int .i64 0]) ∧ evT gl (HTr GG true itoaB (below 9223372036854775808)) 31 [evV 4 c n u] = some (.tuple #[.string (tlB 4 c n u), .int .i64 0]) := by
  have hg : GG 4 c n u = true := by
    unfold GG GT emay
    rw [decide_eq_true h, decide_eq_true hn, decide_eq_true hu.1, decide_eq_true hu.2]; rfl
  have h2 := h
  unfold EMay at h2
  rw [r_el4, r_er4, hg, cond_true, cond_true]
  obtain ⟨u1, u2, u3⟩ := rngU hu
  have zn := itoa_size (n := n) (by omega) hn
  have zu := itoa_size (n := u) (by omega) (by omega)
  have rn := rngJ (x := n) (by omega)
  have pn := belowJ (x := n) (by omega) hn
  have pu := belowJ (x := u) hu.1 (by omega)
  have z6 : ∀ l : Array UInt8, l.size ≤ 8 → (⟨l⟩ : ByteArray).size ≤ 8 := fun _ h => h
  have hc : c ≠ -1 := fun e => absurd (h2.2.2.2.2.1 e) (by decide)
  have c1 : (c != -1) = true := by rw [bneI, decide_eq_false hc]; rfl
  have c2 : decide (c ≥ 0) = true := decide_eq_true (by omega)
  have rc := rngJ (x := c) (by omega)
  have pc := belowJ (x := c) (by omega) (by omega)
  have zc := itoa_size (n := c) (by omega) (by omega)
  have ew : whoB c = itoaB c := by unfold whoB; rw [decide_eq_false hc]; rfl
  unfold tlB
  rw [ew]
  simp (disch := (first | omega | decide)) only [c1, c2, rc, pc, rn, pn, pu, u1, u2, u3, joinB, ByteArray.size_append, sizeB, List.size_toArray, List.length_cons, List.length_nil, nble, cond_true, ByteArray.append_assoc]
  exact ⟨rfl, rfl⟩
theorem tl_5 (gl : Gl) (c n u : Int) (h : EMay 5 c n u) (hn : n ≤ 9223372036854775807) (hu : 0 ≤ u ∧ u < 4294967296) :
    evT gl (HTl GG 0 itoaB itoaB) 30 [evV 5 c n u] = some (.tuple #[.string (tlB 5 c n u), .int .i64 0]) ∧ evT gl (HTr GG true itoaB (below 9223372036854775808)) 31 [evV 5 c n u] = some (.tuple #[.string (tlB 5 c n u), .int .i64 0]) := by
  have hg : GG 5 c n u = true := by
    unfold GG GT emay
    rw [decide_eq_true h, decide_eq_true hn, decide_eq_true hu.1, decide_eq_true hu.2]; rfl
  have h2 := h
  unfold EMay at h2
  rw [r_el5, r_er5, hg, cond_true, cond_true]
  obtain ⟨u1, u2, u3⟩ := rngU hu
  have zn := itoa_size (n := n) (by omega) hn
  have zu := itoa_size (n := u) (by omega) (by omega)
  have rn := rngJ (x := n) (by omega)
  have pn := belowJ (x := n) (by omega) hn
  have pu := belowJ (x := u) hu.1 (by omega)
  have z6 : ∀ l : Array UInt8, l.size ≤ 8 → (⟨l⟩ : ByteArray).size ≤ 8 := fun _ h => h
  have hc : c ≠ -1 := fun e => absurd (h2.2.2.2.2.1 e) (by decide)
  have c1 : (c != -1) = true := by rw [bneI, decide_eq_false hc]; rfl
  have c2 : decide (c ≥ 0) = true := decide_eq_true (by omega)
  have rc := rngJ (x := c) (by omega)
  have pc := belowJ (x := c) (by omega) (by omega)
  have zc := itoa_size (n := c) (by omega) (by omega)
  have ew : whoB c = itoaB c := by unfold whoB; rw [decide_eq_false hc]; rfl
  unfold tlB
  rw [ew]
  simp (disch := (first | omega | decide)) only [c1, c2, rc, pc, rn, pn, pu, u1, u2, u3, joinB, ByteArray.size_append, sizeB, List.size_toArray, List.length_cons, List.length_nil, nble, cond_true, ByteArray.append_assoc]
  exact ⟨rfl, rfl⟩
theorem tl_6 (gl : Gl) (c n u : Int) (h : EMay 6 c n u) (hn : n ≤ 9223372036854775807) (hu : 0 ≤ u ∧ u < 4294967296) :
    evT gl (HTl GG 0 itoaB itoaB) 30 [evV 6 c n u] = some (.tuple #[.string (tlB 6 c n u), .int .i64 0]) ∧ evT gl (HTr GG true itoaB (below 9223372036854775808)) 31 [evV 6 c n u] = some (.tuple #[.string (tlB 6 c n u), .int .i64 0]) := by
  have hg : GG 6 c n u = true := by
    unfold GG GT emay
    rw [decide_eq_true h, decide_eq_true hn, decide_eq_true hu.1, decide_eq_true hu.2]; rfl
  have h2 := h
  unfold EMay at h2
  rw [r_el6, r_er6, hg, cond_true, cond_true]
  obtain ⟨u1, u2, u3⟩ := rngU hu
  have zn := itoa_size (n := n) (by omega) hn
  have zu := itoa_size (n := u) (by omega) (by omega)
  have rn := rngJ (x := n) (by omega)
  have pn := belowJ (x := n) (by omega) hn
  have pu := belowJ (x := u) hu.1 (by omega)
  have z6 : ∀ l : Array UInt8, l.size ≤ 8 → (⟨l⟩ : ByteArray).size ≤ 8 := fun _ h => h
  have hc : c ≠ -1 := fun e => absurd (h2.2.2.2.2.1 e) (by decide)
  have c1 : (c != -1) = true := by rw [bneI, decide_eq_false hc]; rfl
  have c2 : decide (c ≥ 0) = true := decide_eq_true (by omega)
  have rc := rngJ (x := c) (by omega)
  have pc := belowJ (x := c) (by omega) (by omega)
  have zc := itoa_size (n := c) (by omega) (by omega)
  have ew : whoB c = itoaB c := by unfold whoB; rw [decide_eq_false hc]; rfl
  unfold tlB
  rw [ew]
  simp (disch := (first | omega | decide)) only [c1, c2, rc, pc, rn, pn, pu, u1, u2, u3, joinB, ByteArray.size_append, sizeB, List.size_toArray, List.length_cons, List.length_nil, nble, cond_true, ByteArray.append_assoc]
  exact ⟨rfl, rfl⟩
theorem tl_7 (gl : Gl) (c n u : Int) (h : EMay 7 c n u) (hn : n ≤ 9223372036854775807) (hu : 0 ≤ u ∧ u < 4294967296) :
    evT gl (HTl GG 0 itoaB itoaB) 30 [evV 7 c n u] = some (.tuple #[.string (tlB 7 c n u), .int .i64 0]) ∧ evT gl (HTr GG true itoaB (below 9223372036854775808)) 31 [evV 7 c n u] = some (.tuple #[.string (tlB 7 c n u), .int .i64 0]) := by
  have hg : GG 7 c n u = true := by
    unfold GG GT emay
    rw [decide_eq_true h, decide_eq_true hn, decide_eq_true hu.1, decide_eq_true hu.2]; rfl
  have h2 := h
  unfold EMay at h2
  rw [r_el7, r_er7, hg, cond_true, cond_true]
  obtain ⟨u1, u2, u3⟩ := rngU hu
  have zn := itoa_size (n := n) (by omega) hn
  have zu := itoa_size (n := u) (by omega) (by omega)
  have rn := rngJ (x := n) (by omega)
  have pn := belowJ (x := n) (by omega) hn
  have pu := belowJ (x := u) hu.1 (by omega)
  have z6 : ∀ l : Array UInt8, l.size ≤ 8 → (⟨l⟩ : ByteArray).size ≤ 8 := fun _ h => h
  have hc : c ≠ -1 := fun e => absurd (h2.2.2.2.2.1 e) (by decide)
  have c1 : (c != -1) = true := by rw [bneI, decide_eq_false hc]; rfl
  have c2 : decide (c ≥ 0) = true := decide_eq_true (by omega)
  have rc := rngJ (x := c) (by omega)
  have pc := belowJ (x := c) (by omega) (by omega)
  have zc := itoa_size (n := c) (by omega) (by omega)
  have ew : whoB c = itoaB c := by unfold whoB; rw [decide_eq_false hc]; rfl
  unfold tlB
  rw [ew]
  simp (disch := (first | omega | decide)) only [c1, c2, rc, pc, rn, pn, pu, u1, u2, u3, joinB, ByteArray.size_append, sizeB, List.size_toArray, List.length_cons, List.length_nil, nble, cond_true, ByteArray.append_assoc]
  exact ⟨rfl, rfl⟩
theorem tl_8 (gl : Gl) (c n u : Int) (h : EMay 8 c n u) (hn : n ≤ 9223372036854775807) (hu : 0 ≤ u ∧ u < 4294967296) :
    evT gl (HTl GG 0 itoaB itoaB) 30 [evV 8 c n u] = some (.tuple #[.string (tlB 8 c n u), .int .i64 0]) ∧ evT gl (HTr GG true itoaB (below 9223372036854775808)) 31 [evV 8 c n u] = some (.tuple #[.string (tlB 8 c n u), .int .i64 0]) := by
  have hg : GG 8 c n u = true := by
    unfold GG GT emay
    rw [decide_eq_true h, decide_eq_true hn, decide_eq_true hu.1, decide_eq_true hu.2]; rfl
  have h2 := h
  unfold EMay at h2
  rw [r_el8, r_er8, hg, cond_true, cond_true]
  obtain ⟨u1, u2, u3⟩ := rngU hu
  have zn := itoa_size (n := n) (by omega) hn
  have zu := itoa_size (n := u) (by omega) (by omega)
  have rn := rngJ (x := n) (by omega)
  have pn := belowJ (x := n) (by omega) hn
  have pu := belowJ (x := u) hu.1 (by omega)
  have z6 : ∀ l : Array UInt8, l.size ≤ 8 → (⟨l⟩ : ByteArray).size ≤ 8 := fun _ h => h
  have hc : c ≠ -1 := fun e => absurd (h2.2.2.2.2.1 e) (by decide)
  have c1 : (c != -1) = true := by rw [bneI, decide_eq_false hc]; rfl
  have c2 : decide (c ≥ 0) = true := decide_eq_true (by omega)
  have rc := rngJ (x := c) (by omega)
  have pc := belowJ (x := c) (by omega) (by omega)
  have zc := itoa_size (n := c) (by omega) (by omega)
  have ew : whoB c = itoaB c := by unfold whoB; rw [decide_eq_false hc]; rfl
  unfold tlB
  rw [ew]
  simp (disch := (first | omega | decide)) only [c1, c2, rc, pc, rn, pn, pu, u1, u2, u3, joinB, ByteArray.size_append, sizeB, List.size_toArray, List.length_cons, List.length_nil, nble, cond_true, ByteArray.append_assoc]
  exact ⟨rfl, rfl⟩
theorem tl_9 (gl : Gl) (c n u : Int) (h : EMay 9 c n u) (hn : n ≤ 9223372036854775807) (hu : 0 ≤ u ∧ u < 4294967296) :
    evT gl (HTl GG 0 itoaB itoaB) 30 [evV 9 c n u] = some (.tuple #[.string (tlB 9 c n u), .int .i64 0]) ∧ evT gl (HTr GG true itoaB (below 9223372036854775808)) 31 [evV 9 c n u] = some (.tuple #[.string (tlB 9 c n u), .int .i64 0]) := by
  have hg : GG 9 c n u = true := by
    unfold GG GT emay
    rw [decide_eq_true h, decide_eq_true hn, decide_eq_true hu.1, decide_eq_true hu.2]; rfl
  have h2 := h
  unfold EMay at h2
  rw [r_el9, r_er9, hg, cond_true, cond_true]
  obtain ⟨u1, u2, u3⟩ := rngU hu
  have zn := itoa_size (n := n) (by omega) hn
  have zu := itoa_size (n := u) (by omega) (by omega)
  have rn := rngJ (x := n) (by omega)
  have pn := belowJ (x := n) (by omega) hn
  have pu := belowJ (x := u) hu.1 (by omega)
  have z6 : ∀ l : Array UInt8, l.size ≤ 8 → (⟨l⟩ : ByteArray).size ≤ 8 := fun _ h => h
  have hc : c ≠ -1 := fun e => absurd (h2.2.2.2.2.1 e) (by decide)
  have c1 : (c != -1) = true := by rw [bneI, decide_eq_false hc]; rfl
  have c2 : decide (c ≥ 0) = true := decide_eq_true (by omega)
  have rc := rngJ (x := c) (by omega)
  have pc := belowJ (x := c) (by omega) (by omega)
  have zc := itoa_size (n := c) (by omega) (by omega)
  have ew : whoB c = itoaB c := by unfold whoB; rw [decide_eq_false hc]; rfl
  unfold tlB
  rw [ew]
  simp (disch := (first | omega | decide)) only [c1, c2, rc, pc, rn, pn, pu, u1, u2, u3, joinB, ByteArray.size_append, sizeB, List.size_toArray, List.length_cons, List.length_nil, nble, cond_true, ByteArray.append_assoc]
  exact ⟨rfl, rfl⟩
theorem tl_10 (gl : Gl) (c n u : Int) (h : EMay 10 c n u) (hn : n ≤ 9223372036854775807) (hu : 0 ≤ u ∧ u < 4294967296) :
    evT gl (HTl GG 0 itoaB itoaB) 30 [evV 10 c n u] = some (.tuple #[.string (tlB 10 c n u), .int .i64 0]) ∧ evT gl (HTr GG true itoaB (below 9223372036854775808)) 31 [evV 10 c n u] = some (.tuple #[.string (tlB 10 c n u), .int .i64 0]) := by
  have hg : GG 10 c n u = true := by
    unfold GG GT emay
    rw [decide_eq_true h, decide_eq_true hn, decide_eq_true hu.1, decide_eq_true hu.2]; rfl
  have h2 := h
  unfold EMay at h2
  rw [r_el10, r_er10, hg, cond_true, cond_true]
  obtain ⟨u1, u2, u3⟩ := rngU hu
  have zn := itoa_size (n := n) (by omega) hn
  have zu := itoa_size (n := u) (by omega) (by omega)
  have rn := rngJ (x := n) (by omega)
  have pn := belowJ (x := n) (by omega) hn
  have pu := belowJ (x := u) hu.1 (by omega)
  have z6 : ∀ l : Array UInt8, l.size ≤ 8 → (⟨l⟩ : ByteArray).size ≤ 8 := fun _ h => h
  have hc : c ≠ -1 := fun e => absurd (h2.2.2.2.2.1 e) (by decide)
  have c1 : (c != -1) = true := by rw [bneI, decide_eq_false hc]; rfl
  have c2 : decide (c ≥ 0) = true := decide_eq_true (by omega)
  have rc := rngJ (x := c) (by omega)
  have pc := belowJ (x := c) (by omega) (by omega)
  have zc := itoa_size (n := c) (by omega) (by omega)
  have ew : whoB c = itoaB c := by unfold whoB; rw [decide_eq_false hc]; rfl
  unfold tlB
  rw [ew]
  simp (disch := (first | omega | decide)) only [c1, c2, rc, pc, rn, pn, pu, u1, u2, u3, joinB, ByteArray.size_append, sizeB, List.size_toArray, List.length_cons, List.length_nil, nble, cond_true, ByteArray.append_assoc]
  exact ⟨rfl, rfl⟩
theorem tl_11 (gl : Gl) (c n u : Int) (h : EMay 11 c n u) (hn : n ≤ 9223372036854775807) (hu : 0 ≤ u ∧ u < 4294967296) :
    evT gl (HTl GG 0 itoaB itoaB) 30 [evV 11 c n u] = some (.tuple #[.string (tlB 11 c n u), .int .i64 0]) ∧ evT gl (HTr GG true itoaB (below 9223372036854775808)) 31 [evV 11 c n u] = some (.tuple #[.string (tlB 11 c n u), .int .i64 0]) := by
  have hg : GG 11 c n u = true := by
    unfold GG GT emay
    rw [decide_eq_true h, decide_eq_true hn, decide_eq_true hu.1, decide_eq_true hu.2]; rfl
  have h2 := h
  unfold EMay at h2
  rw [r_el11, r_er11, hg, cond_true, cond_true]
  obtain ⟨u1, u2, u3⟩ := rngU hu
  have zn := itoa_size (n := n) (by omega) hn
  have zu := itoa_size (n := u) (by omega) (by omega)
  have rn := rngJ (x := n) (by omega)
  have pn := belowJ (x := n) (by omega) hn
  have pu := belowJ (x := u) hu.1 (by omega)
  have z6 : ∀ l : Array UInt8, l.size ≤ 8 → (⟨l⟩ : ByteArray).size ≤ 8 := fun _ h => h
  have hc : c ≠ -1 := fun e => absurd (h2.2.2.2.2.1 e) (by decide)
  have c1 : (c != -1) = true := by rw [bneI, decide_eq_false hc]; rfl
  have c2 : decide (c ≥ 0) = true := decide_eq_true (by omega)
  have rc := rngJ (x := c) (by omega)
  have pc := belowJ (x := c) (by omega) (by omega)
  have zc := itoa_size (n := c) (by omega) (by omega)
  have ew : whoB c = itoaB c := by unfold whoB; rw [decide_eq_false hc]; rfl
  unfold tlB
  rw [ew]
  simp (disch := (first | omega | decide)) only [c1, c2, rc, pc, rn, pn, pu, u1, u2, u3, joinB, ByteArray.size_append, sizeB, List.size_toArray, List.length_cons, List.length_nil, nble, cond_true, ByteArray.append_assoc]
  exact ⟨rfl, rfl⟩
theorem tl_12 (gl : Gl) (c n u : Int) (h : EMay 12 c n u) (hn : n ≤ 9223372036854775807) (hu : 0 ≤ u ∧ u < 4294967296) :
    evT gl (HTl GG 0 itoaB itoaB) 30 [evV 12 c n u] = some (.tuple #[.string (tlB 12 c n u), .int .i64 0]) ∧ evT gl (HTr GG true itoaB (below 9223372036854775808)) 31 [evV 12 c n u] = some (.tuple #[.string (tlB 12 c n u), .int .i64 0]) := by
  have hg : GG 12 c n u = true := by
    unfold GG GT emay
    rw [decide_eq_true h, decide_eq_true hn, decide_eq_true hu.1, decide_eq_true hu.2]; rfl
  have h2 := h
  unfold EMay at h2
  rw [r_el12, r_er12, hg, cond_true, cond_true]
  obtain ⟨u1, u2, u3⟩ := rngU hu
  have zn := itoa_size (n := n) (by omega) hn
  have zu := itoa_size (n := u) (by omega) (by omega)
  have rn := rngJ (x := n) (by omega)
  have pn := belowJ (x := n) (by omega) hn
  have pu := belowJ (x := u) hu.1 (by omega)
  have z6 : ∀ l : Array UInt8, l.size ≤ 8 → (⟨l⟩ : ByteArray).size ≤ 8 := fun _ h => h
  by_cases hc : c = -1
  · subst hc
    exact ⟨rfl, rfl⟩
  · have c1 : (c != -1) = true := by rw [bneI, decide_eq_false hc]; rfl
    have c2 : decide (c ≥ 0) = true := decide_eq_true (by omega)
    have rc := rngJ (x := c) (by omega)
    have pc := belowJ (x := c) (by omega) (by omega)
    have zc := itoa_size (n := c) (by omega) (by omega)
    have ew : whoB c = itoaB c := by unfold whoB; rw [decide_eq_false hc]; rfl
    unfold tlB
    rw [ew]
    simp (disch := (first | omega | decide)) only [c1, c2, rc, pc, rn, pn, pu, u1, u2, u3, joinB, ByteArray.size_append, sizeB, List.size_toArray, List.length_cons, List.length_nil, nble, cond_true, ByteArray.append_assoc]
    exact ⟨rfl, rfl⟩
theorem tl_all (gl : Gl) (k c n u : Int) (h : EMay k c n u) (hn : n ≤ 9223372036854775807) (hu : 0 ≤ u ∧ u < 4294967296) :
    evT gl (HTl GG 0 itoaB itoaB) 30 [evV k c n u] = some (.tuple #[.string (tlB k c n u), .int .i64 0]) ∧ evT gl (HTr GG true itoaB (below 9223372036854775808)) 31 [evV k c n u] = some (.tuple #[.string (tlB k c n u), .int .i64 0]) := by
  have h2 := h
  unfold EMay at h2
  rcases (show k = 1 ∨ k = 2 ∨ k = 3 ∨ k = 4 ∨ k = 5 ∨ k = 6 ∨ k = 7 ∨ k = 8 ∨ k = 9 ∨ k = 10 ∨ k = 11 ∨ k = 12 by omega) with rfl | rfl | rfl | rfl | rfl | rfl | rfl | rfl | rfl | rfl | rfl | rfl
  · exact tl_1 gl c n u h hn hu
  · exact tl_2 gl c n u h hn hu
  · exact tl_3 gl c n u h hn hu
  · exact tl_4 gl c n u h hn hu
  · exact tl_5 gl c n u h hn hu
  · exact tl_6 gl c n u h hn hu
  · exact tl_7 gl c n u h hn hu
  · exact tl_8 gl c n u h hn hu
  · exact tl_9 gl c n u h hn hu
  · exact tl_10 gl c n u h hn hu
  · exact tl_11 gl c n u h hn hu
  · exact tl_12 gl c n u h hn hu
theorem fnEv2 {gl : Gl} (hgl : Low gl) {f : FuncId} {gg : C4 Bool} {vv : C4 Value} (h : ∀ k c n u, gg k c n u = true → af 8 (vv k c n u) = true ∧ ∃ H : Hs, H.OK Tryd.prog gl ∧ evT gl H f [evV k c n u] = some (vv k c n u)) : FnOK Tryd.prog gl f (afEv gg vv) :=
  FnOK.flat hgl tglob fun args σ v e => by
    unfold afEv at e
    split at e
    · rename_i k c n u
      simp only [Option.some.injEq, Prod.mk.injEq] at e
      obtain ⟨h1, rfl⟩ := e
      obtain ⟨h2, H, hH, h3⟩ := h k c n u h1
      exact ⟨rfl, h2, fun w hw => flatS noSy_ok goodB hgl tglob hH (L := 100) (G := 40) (d := 40) rfl h3 hw⟩
    · cases e
theorem afEv_w {gl : Gl} {f : FuncId} {gg gg' : C4 Bool} {vv vv' : C4 Value} (h : FnOK Tryd.prog gl f (afEv gg vv)) (hw : ∀ k c n u, gg' k c n u = true → gg k c n u = true ∧ vv k c n u = vv' k c n u) : FnOK Tryd.prog gl f (afEv gg' vv') := by
  intro args σ c v hk hc
  unfold afEv at hk
  split at hk
  · rename_i k cc n u
    simp only [Option.some.injEq, Prod.mk.injEq] at hk
    obtain ⟨h1, rfl⟩ := hk
    rw [hc] at h1
    obtain ⟨h2, h3⟩ := hw k cc n u h1
    exact h _ σ true _ (by show some (gg k cc n u, vv k cc n u) = _; rw [h2, h3]) rfl
  · cases hk
theorem dig_all {gl : Gl} (hgl : Low gl) : FnOK Tryd.prog gl 68 (afDig (below 9223372036854775808) itoaB) := dig_nat hgl 9223372036854775808 (Nat.le_refl _)
theorem HTl_ok {gl : Gl} (hgl : Low gl) (hp : GlP gl) : (HTl GG 0 itoaB itoaB).OK Tryd.prog gl := one_ok fun p h => by
  simp only [List.mem_cons, List.not_mem_nil, or_false] at h
  rcases h with rfl | rfl | rfl | rfl
  · refine afEv_w (fn_tmay hgl) fun k c n u h => ⟨rfl, ?_⟩
    unfold GG at h
    unfold mayC
    rw [(Bool.and_eq_true_iff.1 h).1]; rfl
  · exact fnItoa hgl hp
  · exact fn_fmtU hgl hp
  · exact fn_join
theorem HTb_ok {gl : Gl} (hgl : Low gl) (hp : GlP gl) : (HTl GB 2 itoaB itoaB).OK Tryd.prog gl := one_ok fun p h => by
  simp only [List.mem_cons, List.not_mem_nil, or_false] at h
  rcases h with rfl | rfl | rfl | rfl
  · refine afEv_w (fn_tmay hgl) fun k c n u h => ⟨rfl, ?_⟩
    unfold GB at h
    unfold mayC
    rw [show emay k c n u = false by simpa using h]; rfl
  · exact fnItoa hgl hp
  · exact fn_fmtU hgl hp
  · exact fn_join
theorem HTr_ok {gl : Gl} (hgl : Low gl) : (HTr GG true itoaB (below 9223372036854775808)).OK Tryd.prog gl := one_ok fun p h => by
  simp only [List.mem_cons, List.not_mem_nil, or_false] at h
  rcases h with rfl | rfl
  · refine afEv_w (fn_tmayR hgl) fun k c n u h => ⟨rfl, ?_⟩
    unfold GG at h
    unfold mayR
    rw [(Bool.and_eq_true_iff.1 h).1]; rfl
  · exact dig_all hgl
theorem HTs_ok {gl : Gl} (hgl : Low gl) : (HTr GB false itoaB (below 9223372036854775808)).OK Tryd.prog gl := one_ok fun p h => by
  simp only [List.mem_cons, List.not_mem_nil, or_false] at h
  rcases h with rfl | rfl
  · refine afEv_w (fn_tmayR hgl) fun k c n u h => ⟨rfl, ?_⟩
    unfold GB at h
    unfold mayR
    rw [show emay k c n u = false by simpa using h]; rfl
  · exact dig_all hgl
theorem evLV_af (k c n u : Int) : af 8 (evLV k c n u) = true := by
  unfold evLV
  cases emay k c n u <;> rfl
theorem GT_f {k c n u : Int} (h : GT k c n u = true) : n ≤ 9223372036854775807 ∧ 0 ≤ u ∧ u < 4294967296 := by
  unfold GT at h
  simpa only [Bool.and_eq_true, decide_eq_true_eq] using h
theorem fn_tline {gl : Gl} (hgl : Low gl) (hp : GlP gl) : FnOK Tryd.prog gl 30 (afEv GT evLV) := fnEv2 hgl fun k c n u h => ⟨evLV_af k c n u, by
  have hf := GT_f h
  unfold evLV
  cases he : emay k c n u with
  | true => exact ⟨_, HTl_ok hgl hp, (tl_all gl k c n u (of_decide_eq_true he) hf.1 hf.2).1⟩
  | false => exact ⟨_, HTb_ok hgl hp, by rw [r_eb0]; unfold GB; rw [he]; rfl⟩⟩
theorem fn_tlineR {gl : Gl} (hgl : Low gl) : FnOK Tryd.prog gl 31 (afEv GT evLV) := fnEv2 hgl fun k c n u h => ⟨evLV_af k c n u, by
  have hf := GT_f h
  unfold evLV
  cases he : emay k c n u with
  | true => exact ⟨_, HTr_ok hgl, (tl_all gl k c n u (of_decide_eq_true he) hf.1 hf.2).2⟩
  | false => exact ⟨_, HTs_ok hgl, by rw [r_fb0]; unfold GB; rw [he]; rfl⟩⟩
end Go.Proofs.YtgohnfkidkomhaaDoor
