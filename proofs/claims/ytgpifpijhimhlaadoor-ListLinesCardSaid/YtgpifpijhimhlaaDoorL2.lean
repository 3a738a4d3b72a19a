/- What Digits, Itoa, Join and both Mays answer, as assumed answers of the evaluator. No condition but the laid tables. -/
import Derived.Test.YtgpifpijhimhlaaDoorL1
import Derived.Test.YtgpifpijhimhlaaDoorEv5
import Derived.WalkKit
import Derived.ProofKit
import Derived.Lib.Hide
import Derived.Lib.ItoaMem
import Derived.Lib.ItoaLen
import Derived.WalkSpells
import Derived.WalkLawsBesides
import Derived.Test.YtgpifpijhimhlaaDoorShelf
noncomputable section
namespace Go.Proofs.YtgpifpijhimhlaaDoor
open Go.Proofs.YtgpifpijhimhlaaDoor.Ev Go.RowKit
theorem good : Go.Proofs.YtgpifpijhimhlaaDoor.Ev.Good Tryd.prog (fun _ => none) := ⟨by kernel_rfl, fun f fn hf => by
  have h2 : (Tryd.prog.funcs.toList.all fun fn => !(fn.name == "runtime.NumGoroutine")) = true := by kernel_rfl
  have := List.all_eq_true.1 h2 fn (by rw [← Array.getElem?_toList] at hf; exact List.mem_of_getElem? hf)
  simpa using this, fun f k hk => by cases hk⟩
def formOf (op : Int) : Nat := ([0,1,1,1,1,1,1,1,2,2,2,1,3,2,2,2,4,4,0,5,6,0] : List Nat).getD op.toNat 7
def okC (op a b c n : Int) : Bool := okF (formOf op) a b c n
theorem okC_high (m : Nat) (a b c n : Int) : okC (Int.ofNat (m + 22)) a b c n = false := by
  have : formOf (Int.ofNat (m + 22)) = 7 := rfl
  unfold okC; rw [this]; rfl
theorem flat_code (op a b c n : Int) : ([code op a b c n] : List Value).all (af 8) = true := rfl
variable {w : World}
theorem s23_x (m : Nat) (a b c n : Int) : callK Tryd.prog glT (fun _ => none) noAsm 100 40 40 (.fn 23) [code (Int.ofNat (m + 22)) a b c n] LS.start flatR = some (.int .i64 (cond (okC (Int.ofNat (m + 22)) a b c n) 0 2)) := by
  rw [r23_x, okC_high, show decide (Int.ofNat (m + 22) ≥ 22) = true from by simp; omega]; rfl
theorem s27_x (m : Nat) (a b c n : Int) : callK Tryd.prog glT (fun _ => none) noAsm 100 40 40 (.fn 27) [code (Int.ofNat (m + 22)) a b c n] LS.start flatR = some (.bool (okC (Int.ofNat (m + 22)) a b c n)) := by
  rw [r27_x, okC_high, show decide (Int.ofNat (m + 22) > 21) = true from by simp; omega]; rfl
/-- code.May, whatever is asked. -/
theorem may_code (m : Nat) (a b c n : Int) (hw : Ready Tryd.prog glT w) : Calls Tryd.prog 23 #[code (Int.ofNat m) a b c n] w (fun e w' => e = .returned (.int .i64 (cond (okC (Int.ofNat m) a b c n) 0 2)) ∧ Below w.heap.size w w') :=
  match m with
  | 0 => flatK good noAsm_ok (flat_code ..) (s23_0 a b c n) hw
  | 1 => flatK good noAsm_ok (flat_code ..) (s23_1 a b c n) hw
  | 2 => flatK good noAsm_ok (flat_code ..) (s23_2 a b c n) hw
  | 3 => flatK good noAsm_ok (flat_code ..) (s23_3 a b c n) hw
  | 4 => flatK good noAsm_ok (flat_code ..) (s23_4 a b c n) hw
  | 5 => flatK good noAsm_ok (flat_code ..) (s23_5 a b c n) hw
  | 6 => flatK good noAsm_ok (flat_code ..) (s23_6 a b c n) hw
  | 7 => flatK good noAsm_ok (flat_code ..) (s23_7 a b c n) hw
  | 8 => flatK good noAsm_ok (flat_code ..) (s23_8 a b c n) hw
  | 9 => flatK good noAsm_ok (flat_code ..) (s23_9 a b c n) hw
  | 10 => flatK good noAsm_ok (flat_code ..) (s23_10 a b c n) hw
  | 11 => flatK good noAsm_ok (flat_code ..) (s23_11 a b c n) hw
  | 12 => flatK good noAsm_ok (flat_code ..) (s23_12 a b c n) hw
  | 13 => flatK good noAsm_ok (flat_code ..) (s23_13 a b c n) hw
  | 14 => flatK good noAsm_ok (flat_code ..) (s23_14 a b c n) hw
  | 15 => flatK good noAsm_ok (flat_code ..) (s23_15 a b c n) hw
  | 16 => flatK good noAsm_ok (flat_code ..) (s23_16 a b c n) hw
  | 17 => flatK good noAsm_ok (flat_code ..) (s23_17 a b c n) hw
  | 18 => flatK good noAsm_ok (flat_code ..) (s23_18 a b c n) hw
  | 19 => flatK good noAsm_ok (flat_code ..) (s23_19 a b c n) hw
  | 20 => flatK good noAsm_ok (flat_code ..) (s23_20 a b c n) hw
  | 21 => flatK good noAsm_ok (flat_code ..) (s23_21 a b c n) hw
  | m + 22 => flatK good noAsm_ok (flat_code ..) (s23_x m a b c n) hw
/-- The document's May, whatever is asked. -/
theorem may_ref (m : Nat) (a b c n : Int) (hw : Ready Tryd.prog glT w) : Calls Tryd.prog 27 #[code (Int.ofNat m) a b c n] w (fun e w' => e = .returned (.bool (okC (Int.ofNat m) a b c n)) ∧ Below w.heap.size w w') :=
  match m with
  | 0 => flatK good noAsm_ok (flat_code ..) (s27_0 a b c n) hw
  | 1 => flatK good noAsm_ok (flat_code ..) (s27_1 a b c n) hw
  | 2 => flatK good noAsm_ok (flat_code ..) (s27_2 a b c n) hw
  | 3 => flatK good noAsm_ok (flat_code ..) (s27_3 a b c n) hw
  | 4 => flatK good noAsm_ok (flat_code ..) (s27_4 a b c n) hw
  | 5 => flatK good noAsm_ok (flat_code ..) (s27_5 a b c n) hw
  | 6 => flatK good noAsm_ok (flat_code ..) (s27_6 a b c n) hw
  | 7 => flatK good noAsm_ok (flat_code ..) (s27_7 a b c n) hw
  | 8 => flatK good noAsm_ok (flat_code ..) (s27_8 a b c n) hw
  | 9 => flatK good noAsm_ok (flat_code ..) (s27_9 a b c n) hw
  | 10 => flatK good noAsm_ok (flat_code ..) (s27_10 a b c n) hw
  | 11 => flatK good noAsm_ok (flat_code ..) (s27_11 a b c n) hw
  | 12 => flatK good noAsm_ok (flat_code ..) (s27_12 a b c n) hw
  | 13 => flatK good noAsm_ok (flat_code ..) (s27_13 a b c n) hw
  | 14 => flatK good noAsm_ok (flat_code ..) (s27_14 a b c n) hw
  | 15 => flatK good noAsm_ok (flat_code ..) (s27_15 a b c n) hw
  | 16 => flatK good noAsm_ok (flat_code ..) (s27_16 a b c n) hw
  | 17 => flatK good noAsm_ok (flat_code ..) (s27_17 a b c n) hw
  | 18 => flatK good noAsm_ok (flat_code ..) (s27_18 a b c n) hw
  | 19 => flatK good noAsm_ok (flat_code ..) (s27_19 a b c n) hw
  | 20 => flatK good noAsm_ok (flat_code ..) (s27_20 a b c n) hw
  | 21 => flatK good noAsm_ok (flat_code ..) (s27_21 a b c n) hw
  | m + 22 => flatK good noAsm_ok (flat_code ..) (s27_x m a b c n) hw

/-! As assumed answers. -/
theorem low_glT : ∀ g k v, glT g k = some v → lowV 8 v = true := by
  intro g k v h
  unfold glT at h
  rw [Bool.cond_eq_ite] at h
  split at h
  · obtain ⟨n, _, rfl⟩ := Option.map_eq_some_iff.1 h; rfl
  · cases h
theorem glob900 : Tryd.prog.globals.size ≤ 900 := Nat.le_of_ble_eq_true (by kernel_rfl)
def afCode (f : Int → Int → Int → Int → Int → Value) : AF := fun args _ => match args with
  | [.agg x] => (match x.toList with
    | [.int .u8 op, .int .i64 a, .int .i64 b, .int .i64 c, .int .i64 n] => some (decide (0 ≤ op), f op a b c n)
    | _ => none)
  | _ => none
theorem afCode_spec {f : Int → Int → Int → Int → Int → Value} {args : List Value} {σ : LS} {v : Value} (h : afCode f args σ = some (true, v)) : ∃ (m : Nat) (a b c n : Int), args = [code (Int.ofNat m) a b c n] ∧ v = f (Int.ofNat m) a b c n := by
  unfold afCode at h
  split at h
  · rename_i x
    split at h
    · rename_i op a b c n e
      simp only [Option.some.injEq, Prod.mk.injEq, decide_eq_true_eq] at h
      obtain ⟨m, rfl⟩ : ∃ m : Nat, op = Int.ofNat m := ⟨op.toNat, by simp; omega⟩
      refine ⟨m, a, b, c, n, ?_, h.2.symm⟩
      unfold code
      rw [← e]
    · cases h
  · cases h
abbrev Ok5 := Int → Int → Int → Int → Int → Bool
def af23 (ok : Ok5) : AF := afCode fun op a b c n => .int .i64 (cond (ok op a b c n) 0 2)
def af27 (ok : Ok5) : AF := afCode fun op a b c n => .bool (ok op a b c n)
theorem fn23 : FnOK Tryd.prog glT 23 (af23 okC) := FnOK.flat low_glT glob900 fun args σ v h => by
  obtain ⟨m, a, b, c, n, rfl, rfl⟩ := afCode_spec h
  exact ⟨rfl, rfl, fun w hw => may_code m a b c n hw⟩
theorem fn27 : FnOK Tryd.prog glT 27 (af27 okC) := FnOK.flat low_glT glob900 fun args σ v h => by
  obtain ⟨m, a, b, c, n, rfl, rfl⟩ := afCode_spec h
  exact ⟨rfl, rfl, fun w hw => may_ref m a b c n hw⟩
end Go.Proofs.YtgpifpijhimhlaaDoor

namespace Go.Proofs.YtgpifpijhimhlaaDoor
open Go.ChangeShapes Go.WideShapes Go.ChangeAt Go.RowKit

theorem digits_small_eval : ((List.range 10).all fun n => Go.Proofs.YtgpifpijhimhlaaDoor.Ev.isFlat (.string ⟨#[UInt8.ofNat (48 + n)]⟩) (Go.Proofs.YtgpifpijhimhlaaDoor.Ev.callF Tryd.prog glT (fun _ => none) [] 5000 100 40 (.fn 29) [.int .i64 (Int.ofNat n)] Go.Proofs.YtgpifpijhimhlaaDoor.Ev.LS.start)) = true := by kernel_rfl

def Post (l : List UInt8) (w : World) (e : Ending) (w' : World) : Prop := e = .returned (.string ⟨l.toArray⟩) ∧ Below w.heap.size w w'

theorem dec_step (n : Nat) (h : 10 ≤ n) : Lib.decDigits n = Lib.decDigits (n / 10) ++ Lib.decDigits (n % 10) := by
  rw [Lib.decDigits, dif_neg (by omega), Lib.decDigits_one (i := n % 10) (by omega)]

set_option maxRecDepth 100000 in
theorem digits_step (n : Nat) (h : 10 ≤ n) (hn : n ≤ 4611686018427387904) (w : World) (P1 : World → Prop)
    (ih : ∀ m, m < n → ∀ w, P1 w → Calls Tryd.prog 29 #[.int .i64 (m : Int)] w (Post (Lib.decDigits m) w)) (hP : ∀ w w', P1 w → Below w.heap.size w w' → P1 w') (hw : P1 w) :
    Calls Tryd.prog 29 #[.int .i64 (n : Int)] w (Post (Lib.decDigits n) w) := by
  have e1 : decide ((n : Int) < 0) = false := by simp
  have e2 : decide ((n : Int) < 10) = false := by simp; omega
  have c1 : Calls Tryd.prog 29 #[.int .i64 ((n : Int) / 10)] w (Post (Lib.decDigits (n / 10)) w) := by
    have := ih (n / 10) (by omega) w hw
    simpa using this
  have c2 : ∀ w1, Below w.heap.size w w1 → Calls Tryd.prog 29 #[.int .i64 ((n : Int) % 10)] w1 (Post (Lib.decDigits (n % 10)) w1) := fun w1 h1 => by
    have := ih (n % 10) (by omega) w1 (hP w w1 hw h1)
    simpa using this
  have hd := dec_step n h
  have Hd : Hid (Lib.decDigits n = Lib.decDigits (n / 10) ++ Lib.decDigits (n % 10)) := Lib.hid hd
  clear ih hP hw hd
  have h0 : (0 : Int) ≤ (n : Int) := by omega
  have h9 : (n : Int) ≤ 4611686018427387904 := by omega
  go_enter Tryd.func29, Tryd.ntmps29
  go_wp2_with fail
  refine c1.mono ?_
  rintro e w1 ⟨rfl, hb1⟩
  have c3 := c2 w1 hb1
  go_wp2_with fail
  refine c3.mono ?_
  rintro e w2 ⟨rfl, hb2⟩
  have hl : (Lib.decDigits (n / 10)).length + (Lib.decDigits (n % 10)).length ≤ 9223372036854775807 := by
    rw [Lib.decDigits_length, Lib.decDigits_length]
    have := Lib.nDigits_le20 (n / 10) (by omega)
    have := Lib.nDigits_le20 (n % 10) (by omega)
    omega
  go_wp2
  go_ret
  exact ⟨by rw [Hd.out]; congr 2, hb1.trans (hb2.mono hb1.size)⟩

/-- Digits, of a number that is not negative, wherever the tables stand (it reads none). -/
theorem digits_nat : ∀ (n : Nat), n ≤ 4611686018427387904 → ∀ w, Go.Proofs.YtgpifpijhimhlaaDoor.Ev.Ready Tryd.prog glT w → Calls Tryd.prog 29 #[.int .i64 (n : Int)] w (Post (Lib.decDigits n) w) := by
  intro n
  induction n using Nat.strongRecOn with
  | _ n ih =>
    intro hn w hw
    by_cases h : n < 10
    · have he := List.all_eq_true.1 digits_small_eval n (List.mem_range.2 h)
      have := Go.Proofs.YtgpifpijhimhlaaDoor.Ev.flat_ok (P := Tryd.prog) (gl := glT) (ext := fun _ => none) (tbl := []) (args := [.int .i64 (n : Int)]) (v := .string ⟨#[UInt8.ofNat (48 + n)]⟩) good (fun f hf => by cases hf) rfl he hw
      rw [Lib.decDigits_one h]
      exact this
    · exact digits_step n (by omega) hn w (Go.Proofs.YtgpifpijhimhlaaDoor.Ev.Ready Tryd.prog glT) (fun m hm w hw => ih m hm (by omega) w hw) (fun w w' h1 h2 => h1.below h2) hw
set_option maxRecDepth 100000 in
theorem digits_neg (m : Nat) (h : 1 ≤ m) (hn : m ≤ 4611686018427387904) (w : World) (hw : Go.Proofs.YtgpifpijhimhlaaDoor.Ev.Ready Tryd.prog glT w) :
    Calls Tryd.prog 29 #[.int .i64 (-(m : Int))] w (Post (45 :: Lib.decDigits m) w) := by
  have e1 : decide (-(m : Int) < 0) = true := by simp; omega
  have c1 := digits_nat m hn w hw
  have h0 : (1 : Int) ≤ (m : Int) := by omega
  have h9 : (m : Int) ≤ 4611686018427387904 := by omega
  have hl : (Lib.decDigits m).length ≤ 20 := by rw [Lib.decDigits_length]; exact Lib.nDigits_le20 m (by omega)
  go_enter Tryd.func29, Tryd.ntmps29
  go_wp2_with fail
  refine c1.mono ?_
  rintro e w1 ⟨rfl, hb1⟩
  have hl2 : 1 + (Lib.decDigits m).length ≤ 9223372036854775807 := by omega
  go_wp2
  go_ret
  exact ⟨by congr 2, hb1⟩

theorem digits_int (n : Int) (h0 : -4611686018427387904 ≤ n) (h1 : n ≤ 4611686018427387904) (w : World) (hw : Go.Proofs.YtgpifpijhimhlaaDoor.Ev.Ready Tryd.prog glT w) :
    Calls Tryd.prog 29 #[.int .i64 n] w (Post (Lib.itoa n) w) := by
  by_cases h : 0 ≤ n
  · obtain ⟨m, rfl⟩ : ∃ m : Nat, n = (m : Int) := ⟨n.toNat, by omega⟩
    rw [Lib.itoa_nonneg]
    exact digits_nat m (by omega) w hw
  · obtain ⟨m, rfl⟩ : ∃ m : Nat, n = -(m : Int) := ⟨n.natAbs, by omega⟩
    rw [Lib.itoa_neg m (by omega)]
    exact digits_neg m (by omega) (by omega) w hw

end Go.Proofs.YtgpifpijhimhlaaDoor

namespace Go.Proofs.YtgpifpijhimhlaaDoor
open Go.Proofs.YtgpifpijhimhlaaDoor.Ev Go.RowKit

def pow10 : List Int := [1, 10, 100, 1000, 10000, 100000, 1000000, 10000000, 100000000, 1000000000, 10000000000, 100000000000, 1000000000000, 10000000000000, 100000000000000, 1000000000000000, 10000000000000000, 100000000000000000, 1000000000000000000, 10000000000000000000]
theorem pow10_eq : pow10 = Lib.pow10Tab := by decide +kernel
theorem name1 : Tryd.prog.globalNamed "internal/strconv.uint64pow10" = some 1 := by kernel_rfl
theorem glob1 : 1 < Tryd.prog.globals.size := Nat.le_of_ble_eq_true (by kernel_rfl)

def itoaB (n : Int) : ByteArray := ⟨(Lib.itoa n).toArray⟩
def afNum (t : LS → Bool) (it : Int → ByteArray) : AF := fun args σ => match args with
  | [.int .i64 n] => cond (t σ) (some (decide (-4611686018427387904 ≤ n) && decide (n ≤ 4611686018427387904), .string (it n))) none
  | _ => none
theorem afNum_spec {t : LS → Bool} {it : Int → ByteArray} {args : List Value} {σ : LS} {v : Value} (h : afNum t it args σ = some (true, v)) :
    ∃ n : Int, args = [.int .i64 n] ∧ v = .string (it n) ∧ t σ = true ∧ -4611686018427387904 ≤ n ∧ n ≤ 4611686018427387904 := by
  unfold afNum at h
  split at h
  · rename_i n
    rw [Bool.cond_eq_ite] at h
    split at h
    · rename_i ht
      simp only [Option.some.injEq, Prod.mk.injEq, Bool.and_eq_true, decide_eq_true_eq] at h
      exact ⟨n, rfl, h.2.symm, ht, h.1.1, h.1.2⟩
    · cases h
  · cases h
def af24 (it : Int → ByteArray) : AF := afNum (hasTab 1 .u64 pow10) it
def af29 (it : Int → ByteArray) : AF := afNum (fun _ => true) it

theorem below_grow {w : World} {k : Nat} {os : Array Obj} : Below w.heap.size w (Go.Sort.grow (w.drewN k) os) := by
  have e : (w.drewN k).heap = w.heap := by simp
  have e1 : ∀ k : Nat, (w.drewN k).os = w.os ∧ (w.drewN k).tape = w.tape ∧ (w.drewN k).output = w.output := fun k => by
    unfold World.drewN
    exact ⟨rfl, rfl, rfl⟩
  refine ⟨(e1 k).1, (e1 k).2.1, (e1 k).2.2, by simp [Go.Sort.grow], fun i hi => ?_⟩
  show ((w.drewN k).heap ++ os)[i]? = _
  rw [e, Array.getElem?_append_left hi]

theorem fn24 : FnOK Tryd.prog glT 24 (af24 itoaB) := by
  intro args σ c v hk hc φ w args' hr hl
  subst hc
  obtain ⟨n, rfl, rfl, h1, h2, h3⟩ := afNum_spec hk
  have e : args'.toList = [.int .i64 n] := LR.of_af hl rfl
  have e : args' = #[.int .i64 n] := by rw [← Array.toArray_toList (xs := args'), e]
  subst e
  refine Calls.mono (Tryd.strconv_Itoa n (by omega) (by omega) w ?_) ?_
  · rw [← pow10_eq]; exact hasTab_spec hr glob1 name1 h1
  · rintro e w1 ⟨rfl, k, os, rfl⟩
    exact ⟨_, rfl, .string _, below_grow⟩

theorem fn29 : FnOK Tryd.prog glT 29 (af29 itoaB) := FnOK.flat low_glT glob900 fun args σ v h => by
  obtain ⟨n, rfl, rfl, _, h2, h3⟩ := afNum_spec h
  exact ⟨rfl, rfl, fun w hw => digits_int n h2 h3 w hw⟩

/-! strings.Join. -/
def strsOf : List Value → Option (List ByteArray)
  | [] => some []
  | .string s :: l => (strsOf l).map (s :: ·)
  | _ => none
def joinB (sep : ByteArray) : List ByteArray → ByteArray
  | [] => .empty
  | [x] => x
  | x :: y :: l => x ++ sep ++ joinB sep (y :: l)
theorem strsOf_spec : ∀ {l : List Value} {r : List ByteArray}, strsOf l = some r → l = r.map Value.string
  | [], r, h => by cases h; rfl
  | v :: l, r, h => by
    cases v with
    | string s =>
      obtain ⟨r', h1, rfl⟩ := Option.map_eq_some_iff.1 h
      rw [List.map_cons, ← strsOf_spec h1]
    | _ => simp [strsOf] at h
theorem joinB_spec (sep : ByteArray) : ∀ l : List ByteArray, (joinB sep l).data.toList = Lib.join (l.map (·.data.toList)) sep.data.toList
  | [] => rfl
  | [x] => by simp [joinB, Lib.join_one]
  | x :: y :: l => by
    have ih := joinB_spec sep (y :: l)
    unfold Lib.join at ih ⊢
    rw [List.map_cons] at ih
    rw [List.map_cons, List.map_cons, List.intercalate_cons_cons, ← ih]
    simp [joinB, ByteArray.data_append]
def af45 : AF := fun args σ => match args with
  | [.slice (some a) n c, .string sep] => (match σ.heap.get a.block with
    | some (.row b) => (strsOf ((b.cells.drop a.off).take n)).bind fun xs => cond (Nat.beq xs.length n && Nat.ble 1 n && Nat.ble n c && Nat.ble n 1000) (some (Nat.ble (joinB sep xs).size 140737488355328, .string (joinB sep xs))) none
    | _ => none)
  | _ => none
theorem fn45 : FnOK Tryd.prog glT 45 af45 := by
  intro args σ c v hk hc φ w args' hr hl
  subst hc
  unfold af45 at hk
  split at hk
  · rename_i a n cc sep
    split at hk
    · rename_i b hb
      obtain ⟨xs, h1, h2⟩ := Option.bind_eq_some_iff.1 hk
      rw [Bool.cond_eq_ite] at h2
      split at h2
      case isFalse => cases h2
      rename_i hcnd
      simp only [Bool.and_eq_true] at hcnd
      simp only [Option.some.injEq, Prod.mk.injEq] at h2
      obtain ⟨⟨⟨g1, g2⟩, g3⟩, g4⟩ := hcnd
      obtain ⟨g5, rfl⟩ := h2
      have g1 := Nat.eq_of_beq_eq_true g1
      have g2 := Nat.le_of_ble_eq_true g2
      have g3 := Nat.le_of_ble_eq_true g3
      have g4 := Nat.le_of_ble_eq_true g4
      have g5 := Nat.le_of_ble_eq_true g5
      subst g1
      have hcells := strsOf_spec h1
      obtain ⟨hlen, hl⟩ := hl
      obtain ⟨x0, x1, e⟩ : ∃ x0 x1, args'.toList = [x0, x1] := by
        match hq : args'.toList, hlen with
        | [x0, x1], _ => exact ⟨x0, x1, rfl⟩
      have v0 := hl 0 _ x0 rfl (by rw [e]; rfl)
      have v1 := hl 1 _ x1 rfl (by rw [e]; rfl)
      cases v1
      cases v0 with
      | slice _ a' _ _ c' hs =>
        obtain ⟨s1, s2, r, s3, s4, s5, s6⟩ := hs
        obtain ⟨r', x, hr1, hr2, hr3⟩ := hr.live a.block _ hb
        rw [s3] at hr1; cases hr1
        obtain ⟨cl, fz', rfl, hcl, hcap⟩ := hr3
        have hoff : a'.off = a.off ∧ cc ≤ c' := by
          cases hrc : r.cap with
          | none => obtain ⟨h, h'⟩ := s5 hrc; exact ⟨h, by omega⟩
          | some q =>
            obtain ⟨S, z⟩ := q
            obtain ⟨h, h', _⟩ := s6 S z hrc
            exact ⟨h' (by omega), h⟩
        obtain ⟨blk, off, spot⟩ := a'
        simp only at s2 s4 hoff
        obtain ⟨rfl, hcc⟩ := hoff
        subst s2
        subst s4
        have e : args' = #[.slice (some ⟨r.blk, a.off, none⟩) xs.length c', .string sep] := by rw [← Array.toArray_toList (xs := args'), e]
        subst e
        refine Calls.mono (Tryd.strings_Join r.blk a.off c' xs sep w ?_ (hr.bound _ _ s3) (by omega) (by omega) ?_) ?_
        · intro j y hj
          have h3 : ((b.cells.drop a.off).take xs.length)[j]? = some (.string y) := by rw [hcells, List.getElem?_map, hj]; rfl
          have hjl : j < xs.length := (List.getElem?_eq_some_iff.1 hj).1
          rw [List.getElem?_take_of_lt hjl, List.getElem?_drop] at h3
          obtain ⟨v', h4, h5⟩ := hcl _ _ h3
          cases h5
          unfold World.cell?
          simp only [hr2]
          simpa using h4
        · rw [← joinB_spec, Array.length_toList]; exact g5
        · rintro e w1 ⟨rfl, hb⟩
          refine ⟨_, rfl, ?_, hb⟩
          have : (⟨(Lib.join (xs.map (·.data.toList)) sep.data.toList).toArray⟩ : ByteArray) = joinB sep xs := by rw [← joinB_spec]
          rw [this]
          exact .string _
    · cases hk
  · cases hk

/-- The answers that are assumed where an instruction's line is told. -/
def asmL (ok : Ok5) (it : Int → ByteArray) : Asm := asmOf [(23, af23 ok), (27, af27 ok), (24, af24 it), (29, af29 it), (45, af45)]
theorem asmL_ok : AsmOK Tryd.prog glT (asmL okC itoaB) := asmOf_ok fun p hp => by
  simp only [List.mem_cons, List.not_mem_nil, or_false] at hp
  rcases hp with rfl | rfl | rfl | rfl | rfl
  · exact fn23
  · exact fn27
  · exact fn24
  · exact fn29
  · exact fn45
end Go.Proofs.YtgpifpijhimhlaaDoor
