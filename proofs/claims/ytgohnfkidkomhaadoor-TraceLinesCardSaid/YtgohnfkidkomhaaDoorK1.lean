/- Bytes of strings, decimal numbers, strconv.Itoa by the shelf, known cells of a row that came in. No condition but those of the texts. -/
import Derived.Test.YtgohnfkidkomhaaDoorEv6
import Derived.Test.YtgohnfkidkomhaaDoorProg
import Derived.Laws.Strings
import Derived.Test.YtgohnfkidkomhaaDoorShelf
import Derived.Lib.AtoiErrMem
import Derived.Lib.ItoaMem
import Derived.ChangeArms
import Derived.WideShapes
import Derived.ChangeShapes
noncomputable section
noncomputable section
namespace Go.Proofs.YtgohnfkidkomhaaDoor
open Go.Proofs.YtgohnfkidkomhaaDoor.Ev Go.RowKit

theorem tglob : Tryd.prog.globals.size ≤ 900 := of_decide_eq_true (by kernel_rfl)
theorem goodT : Go.Proofs.YtgohnfkidkomhaaDoor.Ev.Good Tryd.prog (fun _ => none) := ⟨by kernel_rfl, fun f fn hf => by
  have h2 : (Tryd.prog.funcs.toList.all fun fn => !(fn.name == "runtime.NumGoroutine")) = true := by kernel_rfl
  have := List.all_eq_true.1 h2 fn (by rw [← Array.getElem?_toList] at hf; exact List.mem_of_getElem? hf)
  simpa using this, fun f k h => by cases h⟩
def qs {R : Type} : List Int → Option R → Option R
  | [], k => k
  | a :: l, k => cond (decide (a = a)) (qs l k) none
theorem qs_eq {R : Type} : ∀ (l : List Int) (k : Option R), qs l k = k
  | [], _ => rfl
  | _ :: l, k => by simp [qs, qs_eq l k]
theorem wrap_id (n : Int) (h : -9223372036854775808 ≤ n ∧ n ≤ 9223372036854775807) : IntKind.i64.wrap n = n := by
  simp only [IntKind.wrap, IntKind.bits, IntKind.signed]
  simp
  omega
end Go.Proofs.YtgohnfkidkomhaaDoor

noncomputable section
namespace Go.Proofs.YtgohnfkidkomhaaDoor
open Go.Proofs.YtgohnfkidkomhaaDoor.Ev Go.RowKit

/-! What a byte is. -/
noncomputable abbrev ev (gl : Gl) (H : Hs) (f : FuncId) (args : List Value) : Option Value := callSK noSy Tryd.prog gl (fun _ => none) H 100 40 40 (.fn f) args LS.start flatR
/-! Where a run of such bytes ends. -/
noncomputable abbrev rnd (gl : Gl) (H : Hs) (b : Nat) (f n : Nat) (live out : List Nat) (st : LSt) : Option (LSt ⊕ Out) := roundK noSy Tryd.prog gl (fun _ => none) H 100 40 40 f n live st (rndK Tryd.prog b live out)
end Go.Proofs.YtgohnfkidkomhaaDoor

noncomputable section
namespace Go.Proofs.YtgohnfkidkomhaaDoor
open Go.Proofs.YtgohnfkidkomhaaDoor.Ev Go.RowKit

/-! Strings, byte by byte. -/
theorem nthB_lt {l : List UInt8} {n : Nat} (h : n < l.length) : nthB l n = some l[n] := by rw [nthB_eq]; exact List.getElem?_eq_getElem h
theorem data_len (s : ByteArray) : s.data.toList.length = s.size := by simp
theorem byteAt_lt {s : ByteArray} {i : Int} (h0 : 0 ≤ i) (h1 : i < (s.size : Int)) : byteAt s i = ((s.data.toList[i.toNat]'(by rw [data_len]; omega)).toNat : Int) := by
  unfold byteAt
  rw [nthB_lt (by rw [data_len]; omega)]
  rfl
theorem ext_bytes {a b : ByteArray} (hs : a.size = b.size) (h : ∀ i : Int, 0 ≤ i → i < (a.size : Int) → byteAt a i = byteAt b i) : a = b := by
  have : a.data.toList = b.data.toList := by
    apply List.ext_getElem (by rw [data_len, data_len, hs])
    intro n h1 h2
    rw [data_len] at h1 h2
    have := h (n : Int) (by omega) (by omega)
    rw [byteAt_lt (by omega) (by omega), byteAt_lt (by omega) (by omega)] at this
    simp only [Int.toNat_natCast] at this
    exact UInt8.toNat_inj.1 (by omega)
  obtain ⟨⟨la⟩⟩ := a
  obtain ⟨⟨lb⟩⟩ := b
  simp only at this
  rw [this]
theorem beqS (a b : ByteArray) : (a.toList == b.toList) = decide (a = b) := by
  rw [ByteArray.toList_eq, ByteArray.toList_eq]
  by_cases h : a = b
  · subst h; simp
  · rw [decide_eq_false h, beq_eq_false_iff_ne]
    intro e
    obtain ⟨⟨la⟩⟩ := a
    obtain ⟨⟨lb⟩⟩ := b
    simp only at e
    exact h (by rw [e])
theorem subS_size {s : ByteArray} {l h : Int} (h0 : 0 ≤ l) (h1 : l ≤ h) (h2 : h ≤ (s.size : Int)) : ((subS s l h).size : Int) = h - l := by
  unfold subS
  rw [ByteArray.size_extract]
  omega
theorem byteAt_subS {s : ByteArray} {l h : Int} (h0 : 0 ≤ l) (h1 : l ≤ h) (h2 : h ≤ (s.size : Int)) {i : Int} (i0 : 0 ≤ i) (i1 : i < h - l) : byteAt (subS s l h) i = byteAt s (l + i) := by
  have hs := subS_size h0 h1 h2
  rw [byteAt_lt i0 (by omega), byteAt_lt (by omega) (by omega)]
  congr 2
  unfold subS
  have e : (s.extract l.toNat h.toNat).data.toList = (s.data.toList.take h.toNat).drop l.toNat := by
    rw [ByteArray.data_extract]
    simp [List.drop_take]
  simp only [e, List.getElem_drop, List.getElem_take]
  congr 1
  omega
end Go.Proofs.YtgohnfkidkomhaaDoor

noncomputable section
namespace Go.Proofs.YtgohnfkidkomhaaDoor
open Go.Proofs.YtgohnfkidkomhaaDoor.Ev Go.RowKit

theorem brT {c : Bool} {t : DT Out} {r : Out} (h : DT.run (.br c t .fail) = some r) : c = true ∧ t.run = some r := condT h
end Go.Proofs.YtgohnfkidkomhaaDoor

noncomputable section
namespace Go.Proofs.YtgohnfkidkomhaaDoor
open Go.Proofs.YtgohnfkidkomhaaDoor.Ev Go.RowKit

/-! token.Line: its loop. -/
structure Tok where
  kind : Int
  text : ByteArray
  n : Int
  at_ : Int
theorem veq_str (x : ByteArray) : veq 8 (.string x) (.string x) = true := by simp [veq]
end Go.Proofs.YtgohnfkidkomhaaDoor

noncomputable section
namespace Go.Proofs.YtgohnfkidkomhaaDoor
open Go.Proofs.YtgohnfkidkomhaaDoor.Ev Go.RowKit

/-! token.Line: its loop's answer, and its own. -/
theorem brC {c : Bool} {t e : DT Out} {r : Out} (h : DT.run (.br c t e) = some r) : (c = true ∧ t.run = some r) ∨ (c = false ∧ e.run = some r) := by
  cases c
  · exact .inr ⟨rfl, h⟩
  · exact .inl ⟨rfl, h⟩
theorem nbeq (a b : Nat) : (Nat.beq a b = true) = (a = b) := propext ⟨Nat.eq_of_beq_eq_true, fun h => h ▸ Nat.beq_refl a⟩
end Go.Proofs.YtgohnfkidkomhaaDoor

noncomputable section
namespace Go.Proofs.YtgohnfkidkomhaaDoor
open Go.Proofs.YtgohnfkidkomhaaDoor.Ev Go.RowKit

/-! The document's line: the inner loop, and rounds of the outer. -/
structure TCell where
  z : Int
  e : ByteArray
  y : Int
  x : Int
end Go.Proofs.YtgohnfkidkomhaaDoor

noncomputable section
namespace Go.Proofs.YtgohnfkidkomhaaDoor
open Go.Proofs.YtgohnfkidkomhaaDoor.Ev Go.RowKit

/-! slices.Equal: tokens that are the same. -/
/-! The law. -/
def afW : AF := fun args _ => match args with
  | [] => some (true, .bool true)
  | _ => none
end Go.Proofs.YtgohnfkidkomhaaDoor

noncomputable section
namespace Go.Proofs.YtgohnfkidkomhaaDoor
open Go.Proofs.YtgohnfkidkomhaaDoor.Ev Go.RowKit

/-! Blanks ahead of a line, a remark behind it: the same tokens. -/
structure LExt (S s : ByteArray) (n : Int) : Prop where
  n0 : 0 ≤ n
  size : n + (s.size : Int) + 2 ≤ (S.size : Int)
  mid : ∀ i, 0 ≤ i → i < (s.size : Int) → byteAt S (i + n) = byteAt s i
  pre : ∀ i, 0 ≤ i → i < n → byteAt S i = 32
  tab : byteAt S ((s.size : Int) + n) = 9
  hash : byteAt S ((s.size : Int) + n + 1) = 35

section
variable {S s : ByteArray} {n : Int}
end
end Go.Proofs.YtgohnfkidkomhaaDoor

noncomputable section
namespace Go.Proofs.YtgohnfkidkomhaaDoor
open Go.Proofs.YtgohnfkidkomhaaDoor.Ev Go.RowKit

/-! Strings put together, byte by byte. -/
theorem app_size (a b : ByteArray) : ((a ++ b).size : Int) = a.size + b.size := by rw [ByteArray.size_append]; omega
theorem byteAt_l {a b : ByteArray} {i : Int} (h0 : 0 ≤ i) (h1 : i < (a.size : Int)) : byteAt (a ++ b) i = byteAt a i := by
  have := app_size a b
  rw [byteAt_lt h0 (by omega), byteAt_lt h0 h1]
  have e : (a ++ b).data.toList = a.data.toList ++ b.data.toList := by simp [ByteArray.data_append]
  simp only [e]
  rw [List.getElem_append_left (by rw [data_len]; omega)]
theorem byteAt_r {a b : ByteArray} {i : Int} (h0 : (a.size : Int) ≤ i) (h1 : i < (a.size : Int) + b.size) : byteAt (a ++ b) i = byteAt b (i - a.size) := by
  have := app_size a b
  rw [byteAt_lt (by omega) (by omega), byteAt_lt (by omega) (by omega)]
  have e : (a ++ b).data.toList = a.data.toList ++ b.data.toList := by simp [ByteArray.data_append]
  simp only [e]
  rw [List.getElem_append_right (by rw [data_len]; omega)]
  have e2 : i.toNat - a.data.toList.length = (i - (a.size : Int)).toNat := by rw [data_len]; omega
  simp only [e2]
/-! A text that stands at a place. -/
structure AtS (S : ByteArray) (a : Int) (t : ByteArray) : Prop where
  a0 : 0 ≤ a
  le : a + t.size ≤ (S.size : Int)
  eq : ∀ i, 0 ≤ i → i < (t.size : Int) → byteAt S (a + i) = byteAt t i
theorem AtS.l {S : ByteArray} {a : Int} {t u : ByteArray} (h : AtS S a (t ++ u)) : AtS S a t := by
  have := app_size t u
  have := h.le
  exact ⟨h.a0, by omega, fun i i0 i1 => by rw [h.eq i i0 (by omega), byteAt_l i0 i1]⟩
theorem AtS.r {S : ByteArray} {a : Int} {t u : ByteArray} (h : AtS S a (t ++ u)) : AtS S (a + t.size) u := by
  have e := app_size t u
  have := h.le
  have := h.a0
  refine ⟨by omega, by omega, fun i i0 i1 => ?_⟩
  rw [show a + (t.size : Int) + i = a + ((t.size : Int) + i) by omega, h.eq _ (by omega) (by omega), byteAt_r (by omega) (by omega)]
  congr 1; omega
/-! Numbers told and read. -/
def itoaB (n : Int) : ByteArray := ⟨(Lib.itoa n).toArray⟩
def decB (m : Nat) : ByteArray := ⟨(Lib.decDigits m).toArray⟩
theorem dec_digit : ∀ (m : Nat) (c : UInt8), c ∈ Lib.decDigits m → 48 ≤ c.toNat ∧ c.toNat ≤ 57 := by
  intro m
  induction m using Nat.strongRecOn with
  | _ m ih =>
    intro c hc
    by_cases h : m < 10
    · rw [Lib.decDigits, dif_pos h] at hc
      simp only [List.mem_cons, List.not_mem_nil, or_false] at hc
      subst hc
      simp only [UInt8.toNat_ofNat']
      omega
    · rw [Lib.decDigits, dif_neg h] at hc
      simp only [List.mem_append, List.mem_cons, List.not_mem_nil, or_false] at hc
      rcases hc with hc | rfl
      · exact ih (m / 10) (by omega) c hc
      · simp only [UInt8.toNat_ofNat']
        omega
theorem itoaB_pos {n : Int} (h : 0 ≤ n) : itoaB n = decB n.toNat := by
  unfold itoaB decB Lib.itoa
  rw [if_neg (by omega)]
theorem itoaB_neg {n : Int} (h : n < 0) : itoaB n = (⟨#[45]⟩ : ByteArray) ++ decB n.natAbs := by
  unfold itoaB decB Lib.itoa
  rw [if_pos h]
  apply ByteArray.ext
  simp

/-! What stands behind a token. -/
/-! Tokens told. -/
end Go.Proofs.YtgohnfkidkomhaaDoor

noncomputable section
namespace Go.Proofs.YtgohnfkidkomhaaDoor
open Go.Proofs.YtgohnfkidkomhaaDoor.Ev Go.RowKit

/-! Tokens that came in: known cells of the block 902. -/
theorem xNE : XkOK Tryd.prog 116 .same := ⟨Tryd.f116, Tryd.func116, by kernel_rfl, by kernel_rfl, (show Extern.find Tryd.f116 = some Extern.AbiNoEscape.same by kernel_rfl)⟩
def exB : Ext := extOf [(116, .same)]
theorem goodB : Go.Proofs.YtgohnfkidkomhaaDoor.Ev.Good Tryd.prog exB := good_of (by kernel_rfl) (by kernel_rfl) (by
  intro x hx
  simp only [List.mem_cons, List.not_mem_nil, or_false] at hx
  subst hx
  exact xNE)
end Go.Proofs.YtgohnfkidkomhaaDoor

noncomputable section
namespace Go.Proofs.YtgohnfkidkomhaaDoor
open Go.Proofs.YtgohnfkidkomhaaDoor.Ev Go.RowKit

/-! strings.Builder: bytes and strings written behind what is there; what was written, as a string. -/
def HB0 : Hs := hsOf [] [] []
theorem HB0_ok {gl : Gl} : HB0.OK Tryd.prog gl := hsOf_ok (fun _ h => by cases h) (fun _ h => by cases h) (fun _ h => by cases h)
end Go.Proofs.YtgohnfkidkomhaaDoor

noncomputable section
namespace Go.Proofs.YtgohnfkidkomhaaDoor
open Go.Proofs.YtgohnfkidkomhaaDoor.Ev Go.RowKit

theorem condI {R : Type} {b : Bool} {x y r : Option R} (h : b = true) (k : x = r) : cond b x y = r := by rw [h]; exact k
theorem condE {R : Type} {b : Bool} {x y r : Option R} (h : b = false) (k : y = r) : cond b x y = r := by rw [h]; exact k
abbrev p0 : Value := .pointer (some ⟨1000, 0, none⟩)
theorem nbeq_f {a b : Nat} (h : a ≠ b) : Nat.beq a b = false := Bool.eq_false_iff.2 fun e => h (Nat.eq_of_beq_eq_true e)
theorem nble {a b : Nat} (h : a ≤ b) : Nat.ble a b = true := Nat.ble_eq_true_of_le h
theorem andI {a b : Bool} (h : a = true) (k : b = true) : (a && b) = true := by rw [h, k]; rfl
end Go.Proofs.YtgohnfkidkomhaaDoor

noncomputable section
namespace Go.Proofs.YtgohnfkidkomhaaDoor
open Go.Proofs.YtgohnfkidkomhaaDoor.Ev Go.RowKit

/-! token.Text: its loop. -/
def afItoa (it : Int → ByteArray) : AF := fun args _ => match args with
  | [.int .i64 n] => some (decide (-9223372036854775808 ≤ n) && decide (n ≤ 9223372036854775807), .string (it n))
  | _ => none
end Go.Proofs.YtgohnfkidkomhaaDoor

noncomputable section
namespace Go.Proofs.YtgohnfkidkomhaaDoor
open Go.Proofs.YtgohnfkidkomhaaDoor.Ev Go.RowKit

/-! token.Text: its loop's answer, and its own. -/
structure TokB (t : Tok) : Prop where
  tx : t.text.size ≤ 1000
  n : -9223372036854775808 ≤ t.n ∧ t.n ≤ 9223372036854775807
theorem fnItoa {gl : Gl} (hgl : ∀ g k v, gl g k = some v → g < 1000 ∧ lowV 8 v = true) (hp : ∀ (i : Nat) z, Lib.pow10Tab[i]? = some z → gl 2 i = some (.int .u64 z)) : FnOK Tryd.prog gl 62 (afItoa itoaB) := FnOK.flat hgl tglob fun args σ v h => by
  unfold afItoa at h
  split at h
  · rename_i n
    simp only [Option.some.injEq, Prod.mk.injEq, Bool.and_eq_true, decide_eq_true_eq] at h
    obtain ⟨⟨h1, h2⟩, rfl⟩ := h
    refine ⟨rfl, rfl, fun w hw => ?_⟩
    obtain ⟨φ, hr⟩ := hw
    have ht := tab_gl hr (name := "internal/strconv.uint64pow10") (k := .u64) (zs := Lib.pow10Tab) (g := 2) (by kernel_rfl) (Nat.le_of_ble_eq_true (by kernel_rfl)) hp (by kernel_rfl)
    refine Calls.mono (Tryd.strconv_Itoa n h1 h2 w ht) ?_
    rintro e w' ⟨rfl, k, os, rfl⟩
    refine ⟨rfl, ?_⟩
    have e : (w.drewN k).heap = w.heap := by simp
    refine ⟨rfl, rfl, rfl, by simp [Go.Sort.grow], fun i hi => ?_⟩
    show ((w.drewN k).heap ++ os)[i]? = _
    rw [e, Array.getElem?_append_left hi]
  · cases h
end Go.Proofs.YtgohnfkidkomhaaDoor

noncomputable section
namespace Go.Proofs.YtgohnfkidkomhaaDoor
open Go.Proofs.YtgohnfkidkomhaaDoor.Ev Go.RowKit

/-! TokenBack: true, of any tokens. -/
/-! What is known of the package's variables. -/
def pow10L : List Int := [1, 10, 100, 1000, 10000, 100000, 1000000, 10000000, 100000000, 1000000000, 10000000000, 100000000000, 1000000000000, 10000000000000, 100000000000000, 1000000000000000, 10000000000000000, 100000000000000000, 1000000000000000000, 10000000000000000000]
theorem pow10L_eq : pow10L = Lib.pow10Tab := by decide +kernel
/-! A row that came in. -/
open Go.ChangeShapes Go.WideShapes Go.ChangeAt
theorem fieldI {P : Program} {H : Type} {enc : TypeId × Value → H} {w : World} {base : Nat} {sp : Nat → Bool} {held : Bool} {n : Nat} {t : TypeId} {k : IntKind} {cs : List Value} {xs : List (DataW H × List MemPlace)} {i : Nat}
    (ht : P.underlying t = some (.int k)) (hi : i < xs.length) (h : DataW.trod enc P w base sp held n t cs = xs[i]?) : ∃ m, cs = [.int k m] ∧ (Lit.int k m).wf = true := by
  rw [List.getElem?_eq_getElem hi] at h
  obtain ⟨m, h1, _, h2⟩ := DataW.trod_int ht h
  exact ⟨m, h1, h2⟩
end Go.Proofs.YtgohnfkidkomhaaDoor
