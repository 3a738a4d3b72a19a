/- strings.Split, strconv.Atoi and strconv.ParseUint as they are answered; trace.Read answers the event that a text is the line of: texts of at most 100000 bytes. An event is read as it was told. -/
import Derived.Test.YtgohnfkidkomhaaDoorT1
import Derived.Test.YtgohnfkidkomhaaDoorEv6
import Derived.Lib.SplitLaws
import Derived.Shelf.Strconv.ParseUint10b64
import Derived.Lib.ParseIntBMem
import Derived.Lib.ConvBytes
import Derived.Laws.Strings3
import Derived.Laws.Closers25
import Derived.Laws.Closers25b
import Derived.BigCall
import Derived.BigGuard
import Derived.Lib.IndexBytes
import Derived.Lib.SlicesS
import Derived.Test.YtgohnfkidkomhaaDoorM2
noncomputable section
noncomputable section
namespace Go.Proofs.YtgohnfkidkomhaaDoor
open Go.Proofs.YtgohnfkidkomhaaDoor.Ev Go.RowKit

/-! strings.Split. -/
def splB (s sep : ByteArray) : List ByteArray := Lib.splitB sep 0 (Lib.countB s sep) s
def sRow (ss : List ByteArray) : Option LObj := some (.row ⟨ss.map Value.string, 9, (0, 0), 0, false, false⟩)
def spOut (n : Nat) (ss : List ByteArray) : Out := (.normal, [.slice (some ⟨1000, 0, none⟩) n n], [sRow ss])
def spBig (n : Nat) (ss : List ByteArray) : Out := (.normal, [.slice (some ⟨1000, 0, none⟩) n n], [some (.row ⟨ss.map Value.string, 9, (0, 0), 1, false, false⟩)])
def spT (l : List ByteArray) : DT Out := .br (Nat.beq l.length 1) (.ret (spOut 1 [nthS l 0])) (.br (Nat.beq l.length 2) (.ret (spOut 2 [nthS l 0, nthS l 1])) (.br (Nat.beq l.length 3) (.ret (spOut 3 [nthS l 0, nthS l 1, nthS l 2])) (.ret (spBig l.length []))))
theorem spT_run {l : List ByteArray} {r : Out} (h0 : 1 ≤ l.length) (h : (spT l).run = some r) : r = spOut l.length l ∨ r = spBig l.length [] := by
  unfold spT at h
  rcases brC h with ⟨k1, k2⟩ | ⟨k1, k2⟩
  · cases k2
    have := Nat.eq_of_beq_eq_true k1
    match l, this with
    | [a], _ => exact .inl rfl
  · rcases brC k2 with ⟨k3, k4⟩ | ⟨k3, k4⟩
    · cases k4
      have := Nat.eq_of_beq_eq_true k3
      match l, this with
      | [a, b], _ => exact .inl rfl
    · rcases brC k4 with ⟨k5, k6⟩ | ⟨k5, k6⟩
      · cases k6
        have := Nat.eq_of_beq_eq_true k5
        match l, this with
        | [a, b, c], _ => exact .inl rfl
      · cases k6
        exact .inr rfl
def spHd : Hd := fun vs rows => match vs, rows with
  | [.string s, .string sep], [] => some (.br (cl (s.size < 4294967281 ∧ 1 ≤ sep.size)) (spT (splB s sep)) .fail)
  | _, _ => none
theorem spl_len (s sep : ByteArray) (h : 1 ≤ sep.size) : (splB s sep).length = Lib.countB s sep + 1 := Lib.splitB_all sep h 0 _ s rfl
theorem split_sub {gl : Gl} {m : Int} (hm : gl 1 0 = some (.int .i64 m)) : SubOK Tryd.prog gl 70 spHd := by
  intro vs rows t e v rows' h1 h2 φ w args' hr hl
  unfold spHd at h1
  split at h1
  case h_2 => cases h1
  rename_i s sep
  cases h1
  obtain ⟨hg, h3⟩ := brT h2
  obtain ⟨hs, hsep⟩ := of_cl hg
  have hlen := spl_len s sep hsep
  have h4 := spT_run (by omega) h3
  have ea : args' = #[.string s, .string sep] := by
    have : args'.toList = [.string s, .string sep] := LR.of_af hl rfl
    rw [← Array.toArray_toList (xs := args'), this]
  subst ea
  obtain ⟨b, g1, v', g2, g3⟩ := hr.glob 1 0 _ hm
  have g4 := hr.stat 1 (Nat.le_of_ble_eq_true (by kernel_rfl))
  rw [g4] at g1
  cases g1
  cases g3
  have hst : ∀ {l : List ByteArray} {k : Nat} {v : Value}, (l.map Value.string)[k]? = some v → af 8 v = true := fun hk => by
    obtain ⟨x, _, rfl⟩ := List.mem_map.1 (List.mem_of_getElem? hk)
    rfl
  have hB : Below w.heap.size w (w.alloc (.cells ((splB s sep).map Value.string).toArray 9)) := (Below.refl _ _).alloc (Nat.le_refl _) _
  rcases h4 with h4 | h4
  · unfold spOut at h4
    simp only [Prod.mk.injEq, List.cons.injEq, and_true] at h4
    obtain ⟨rfl, rfl, rfl⟩ := h4
    refine (Tryd.strings_Split s sep m w hs g2 hsep).mono ?_
    rintro e w' ⟨rfl, rfl⟩
    have t := Tr.adoptRow (rows := []) (show 1000 + 0 < most by decide) hr hB (R := w.heap.size) (Nat.le_refl _) (by simp) (b := .row ⟨(splB s sep).map Value.string, 9, (0, 0), 0, false, false⟩) (x := .cells ((splB s sep).map Value.string).toArray 9 (0, 0)) Array.getElem?_push_size none
      ⟨_, _, rfl, fun k v hk => ⟨v, by simpa using hk, VR.af_refl 8 (hst hk)⟩, by simp, rfl, rfl⟩
    refine ⟨_, _, rfl, t, ?_⟩
    rw [hlen]
    exact .slice _ _ _ _ _ ⟨rfl, rfl, ⟨w.heap.size, none⟩, by simp [Phi.set], rfl, fun _ => ⟨rfl, rfl⟩, fun S z h => by cases h⟩
  · unfold spBig at h4
    simp only [Prod.mk.injEq, List.cons.injEq, and_true] at h4
    obtain ⟨rfl, rfl, rfl⟩ := h4
    refine (Tryd.strings_Split s sep m w hs g2 hsep).mono ?_
    rintro e w' ⟨rfl, rfl⟩
    have t := Tr.adoptRow (rows := []) (show 1000 + 0 < most by decide) hr hB (R := w.heap.size) (Nat.le_refl _) (by simp) (b := .row ⟨([] : List ByteArray).map Value.string, 9, (0, 0), 1, false, false⟩) (x := .cells ((splB s sep).map Value.string).toArray 9 (0, 0)) Array.getElem?_push_size (some ((splB s sep).length, 1))
      ⟨_, _, rfl, fun k v hk => (by simp at hk), by simp, rfl, by decide, .inl rfl⟩
    refine ⟨_, _, rfl, t, ?_⟩
    rw [← hlen]
    refine .slice _ _ _ _ _ ⟨rfl, rfl, ⟨w.heap.size, some ((splB s sep).length, 1)⟩, by simp [Phi.set], rfl, fun h => (by cases h), fun S z h => ?_⟩
    simp only [Option.some.injEq, Prod.mk.injEq] at h
    obtain ⟨rfl, rfl⟩ := h
    exact ⟨Nat.le_refl _, fun _ => rfl, by simp⟩
end Go.Proofs.YtgohnfkidkomhaaDoor

namespace Go.Proofs.YtgohnfkidkomhaaDoor
open Go.ChangeShapes Go.WideShapes Go.ChangeAt Go.RowKit Go.Shelf

/-! strconv.ParseUint to the base 10 and 63 bits. -/
set_option maxHeartbeats 32000000 in
set_option maxRecDepth 100000 in
theorem parseU63 (t : ByteArray) (hne : t.size ≠ 0) (hmax : t.size ≤ 9223372036854775806) (w : World) :
    Calls Tryd.prog 106 #[.string t, .int .i64 10, .int .i64 63] w fun e w' => e = .returned (Lib.uintTupleM 162 9223372036854775807 (Lib.parseUintM 9223372036854775807 0 t.data.toList)) ∧ w' = Lib.bytesWorld w 5 t := by
  have hemp : t.toList.isEmpty = false := by
    rw [← decide_eq_emptyBytes]
    exact decide_eq_false (fun h => hne (by rw [h]; rfl))
  have hcv := Lib.run_convert_string_bytes (P := Tryd.prog) w 9 77 5 t (u := .string) Tryd.underlying9 Tryd.underlying77 Tryd.underlying5
  have hB : ∀ j, j < t.size → (Lib.bytesWorld w 5 t).cell? ⟨w.heap.size, j, none⟩ = some (.int .u8 (t.data.toList.getD j 0).toNat) := fun j hj => Lib.bytesWorld_cell w 5 t j hj
  obtain ⟨W1, hW1⟩ : ∃ W1, W1 = Lib.bytesWorld w 5 t := ⟨_, rfl⟩
  rw [← hW1] at hcv hB ⊢
  clear hW1
  obtain ⟨bs, hL⟩ : ∃ bs, bs = t.data.toList := ⟨_, rfl⟩
  have hLn : bs.length = t.size := by rw [hL, Lib.size_eq]
  rw [← hL] at hB ⊢
  clear hL
  -- 'maxVal := uint64(1)<<uint(bitSize) - 1': its value, for the walk to take
  have hmv : IntKind.u64.wrap (IntKind.u64.wrap 9223372036854775808 - 1) = 9223372036854775807 := by
    rw [IntKind.wrap_u64, IntKind.wrap_u64]
    decide
  go_enter Tryd.func106, Tryd.ntmps106
  go_wp2
  go_loop [12, 13, 101] (fun vu vn vi => ∃ (k acc : Nat) (a : Int), vu = .bool false ∧ vn = .int .u64 a ∧ vi = .int .i64 k ∧ k ≤ t.size ∧ Hid (a = (acc : Int) ∧ acc ≤ 9223372036854775807 ∧ Lib.parseUintM 9223372036854775807 0 bs = Lib.parseUintM 9223372036854775807 acc (bs.drop k)))
    (fun _ _ vi => t.size - (intOf vi).toNat)
  case atStart => exact ⟨0, 0, 0, rfl, rfl, rfl, by omega, rfl, by omega, rfl⟩
  case round =>
    obtain ⟨k, acc, a, rfl, rfl, rfl, hk, hh⟩ := hrel
    obtain ⟨ha, hacc, hdec⟩ := hh.out
    clear hh
    have a0 : 0 ≤ a := by omega
    have a1 : a ≤ 9223372036854775807 := by omega
    by_cases hkn : k < t.size
    · have hc := hB k hkn
      have hdrop : bs.drop k = bs[k]'(by omega) :: bs.drop (k + 1) := List.drop_eq_getElem_cons (by omega)
      have hget : bs.getD k 0 = bs[k]'(by omega) := by simp [List.getD, List.getElem?_eq_getElem (show k < bs.length by omega)]
      rw [hdrop] at hdec
      rw [hget] at hc
      generalize bs[k]'(by omega) = c at hc hdec
      have hc256 : c.toNat < 256 := c.toNat_lt
      clear hB hdrop hget
      by_cases hdig : 48 ≤ c.toNat ∧ c.toNat ≤ 57
      · obtain ⟨hd0, hd1⟩ := hdig
        by_cases hcut : 1844674407370955162 ≤ acc
        · have hF : Lib.parseUintM 9223372036854775807 acc (c :: bs.drop (k + 1)) = .range := by simp [Lib.parseUintM, hd0, hd1, hcut]
          rw [hF] at hdec
          have icut : 1844674407370955162 ≤ a := by omega
          clear hcut hacc hF ha
          go_wp2
          go_ret2
          exact ⟨rfl, rfl⟩
        by_cases hwrp : 18446744073709551616 ≤ acc * 10 + (c.toNat - 48)
        · have hov : 9223372036854775807 < acc * 10 + (c.toNat - 48) := by omega
          have hF : Lib.parseUintM 9223372036854775807 acc (c :: bs.drop (k + 1)) = .range := by simp [Lib.parseUintM, hd0, hd1, hcut, hov]
          rw [hF] at hdec
          have icut : a < 1844674407370955162 := by omega
          have iov : 18446744073709551616 ≤ a * 10 + ((c.toNat : Int) - 48) := by omega
          have hwr : IntKind.u64.wrap (a * 10 + ((c.toNat : Int) - 48)) = a * 10 + ((c.toNat : Int) - 48) - 18446744073709551616 := by
            rw [IntKind.wrap_u64]
            omega
          clear hcut hacc hF hov ha hwrp
          go_wp2
          go_ret2
          exact ⟨rfl, rfl⟩
        by_cases hov : 9223372036854775807 < acc * 10 + (c.toNat - 48)
        · -- OVER THE SIZE
          have hF : Lib.parseUintM 9223372036854775807 acc (c :: bs.drop (k + 1)) = .range := by simp [Lib.parseUintM, hd0, hd1, hcut, hov]
          rw [hF] at hdec
          have icut : a < 1844674407370955162 := by omega
          have iwr : a * 10 + ((c.toNat : Int) - 48) < 18446744073709551616 := by omega
          have iov : 9223372036854775807 < a * 10 + ((c.toNat : Int) - 48) := by omega
          clear hcut hacc hF hov ha hwrp
          go_wp2
          go_ret2
          exact ⟨rfl, rfl⟩
        · have hF : Lib.parseUintM 9223372036854775807 acc (c :: bs.drop (k + 1)) = Lib.parseUintM 9223372036854775807 (acc * 10 + (c.toNat - 48)) (bs.drop (k + 1)) := by simp [Lib.parseUintM, hd0, hd1, hcut, hov]
          have HN : Hid (a * 10 + ((c.toNat : Int) - 48) = ((acc * 10 + (c.toNat - 48) : Nat) : Int) ∧ acc * 10 + (c.toNat - 48) ≤ 9223372036854775807 ∧ Lib.parseUintM 9223372036854775807 0 bs = Lib.parseUintM 9223372036854775807 (acc * 10 + (c.toNat - 48)) (bs.drop (k + 1))) := Lib.hid ⟨by omega, by omega, hdec.trans hF⟩
          have icut : a < 1844674407370955162 := by omega
          have iov : a * 10 + ((c.toNat : Int) - 48) ≤ 9223372036854775807 := by omega
          clear hcut hacc hF hov hdec ha hwrp
          go_wp2
          refine ⟨⟨k + 1, acc * 10 + (c.toNat - 48), a * 10 + ((c.toNat : Int) - 48), rfl, (by first | rfl | (congr 1; omega)), (by first | rfl | (congr 1; omega)), by omega, HN⟩, by simp [intOf]; omega⟩
      · -- NO DIGIT: whatever way the text goes: (0, ErrSyntax)
        have hF : Lib.parseUintM 9223372036854775807 acc (c :: bs.drop (k + 1)) = .syntax := by simp [Lib.parseUintM, hdig]
        rw [hF] at hdec
        clear hacc hF ha
        have hv0 := bits_lo_u8 .or (c.toNat : Int) 32
        have hv1 := bits_hi_u8 .or (c.toNat : Int) 32
        have hu0 := bits_lo_u8 .or 95 32       -- at '_' the walk writes the byte out
        have hu1 := bits_hi_u8 .or 95 32
        go_wp2_with fail
        all_goals (try (refine (Tryd.internal_strconv_lower _ _).mono ?_; rintro e w' ⟨rfl, rfl⟩; go_wp2))
        all_goals go_ret2
        all_goals first | exact ⟨rfl, rfl⟩ | exact ⟨by rw [hdec]; rfl, rfl⟩
    · -- THE BYTES ARE AT AN END
      have hkk : k = t.size := by omega
      subst hkk
      have hF : Lib.parseUintM 9223372036854775807 acc (bs.drop t.size) = .ok acc := by rw [List.drop_eq_nil_of_le (by omega)]; rfl
      rw [hF] at hdec
      subst ha
      clear hacc hF a0 a1
      go_wp2
      go_ret2
      exact ⟨rfl, rfl⟩


end Go.Proofs.YtgohnfkidkomhaaDoor

namespace Go.Proofs.YtgohnfkidkomhaaDoor
open Go.ChangeShapes Go.WideShapes Go.ChangeAt Go.RowKit Go.Shelf

/-! strconv.ParseUint to 63 bits, with its errors. -/
theorem parseU63_at (s : ByteArray) (hmax : s.size ≤ 9223372036854775806) (w : World) :
    Calls Tryd.prog 106 #[.string s, .int .i64 10, .int .i64 63] w fun e w' => e = .returned (Lib.uintTupleM 162 9223372036854775807 (Lib.parseUintB 63 s.data.toList)) ∧ (w' = w ∨ w' = Lib.bytesWorld w 5 s) := by
  by_cases h0 : s.size = 0
  · have hl : s.data.toList = [] := List.length_eq_zero_iff.1 (by rw [← Lib.size_eq]; exact h0)
    have hs : s = ⟨#[]⟩ := by
      apply ByteArray.ext
      apply Array.ext'
      rw [hl]
    subst hs
    refine (Tryd.internal_strconv_ParseUint_empty 10 63 w).mono ?_
    rintro e w' ⟨rfl, rfl⟩
    exact ⟨rfl, .inl rfl⟩
  · refine (parseU63 s h0 hmax w).mono ?_
    rintro e w' ⟨rfl, rfl⟩
    have hl : s.data.toList ≠ [] := fun e => h0 (by rw [Lib.size_eq, e]; rfl)
    refine ⟨?_, .inr rfl⟩
    unfold Lib.parseUintB
    rw [if_neg hl]
set_option maxHeartbeats 4000000 in
set_option maxRecDepth 100000 in
theorem pu63_ok (s : ByteArray) (hmax : s.size ≤ 9223372036854775806) (u : Nat) (h : Lib.parseUintB 63 s.data.toList = .ok u) (w : World) :
    Calls Tryd.prog 73 #[.string s, .int .i64 10, .int .i64 63] w fun e w' => e = .returned (.tuple #[.int .u64 u, .nilIface]) ∧ (w' = w ∨ w' = Lib.bytesWorld w 5 s) := by
  have hI := parseU63_at s hmax w
  rw [h] at hI
  have hI : Calls Tryd.prog 106 #[.string s, .int .i64 10, .int .i64 63] w fun e w' => e = .returned (.tuple #[.int .u64 u, .nilIface]) ∧ (w' = w ∨ w' = Lib.bytesWorld w 5 s) := hI
  clear h
  go_enter Tryd.func73, Tryd.ntmps73
  go_wp2_with fail
  refine hI.mono ?_
  rintro e W1 ⟨rfl, hW⟩
  go_wp2
  go_ret2
  exact ⟨rfl, hW⟩
set_option maxHeartbeats 4000000 in
set_option maxRecDepth 100000 in
theorem pu63_syntax (s : ByteArray) (hlim : s.size ≤ 281474976710656) (h : Lib.parseUintB 63 s.data.toList = .«syntax») (ev : Value) (w : World) (hv : w.cell? ⟨3, 0, none⟩ = some ev) (hev : ev = .nilIface ∨ ∃ te pe, ev = .iface te pe) :
    Calls Tryd.prog 73 #[.string s, .int .i64 10, .int .i64 63] w fun e w' => ∃ N, e = .returned (.tuple #[.int .u64 0, .iface 165 (.pointer (some ⟨N, 0, none⟩))]) ∧ w.heap.size ≤ N ∧ w'.heap[N]? = some (.cells #[.string ⟨#[80, 97, 114, 115, 101, 85, 105, 110, 116]⟩, .string s, ev] 181 (0, 0)) ∧ Below w.heap.size w w' := by
  have hG : 3 < w.heap.size := Lib.lt_of_cell hv
  have hI := parseU63_at s (by omega) w
  rw [h] at hI
  have hI : Calls Tryd.prog 106 #[.string s, .int .i64 10, .int .i64 63] w fun e w' => e = .returned (.tuple #[.int .u64 0, .iface 162 (.int .i64 2)]) ∧ (w' = w ∨ w' = Lib.bytesWorld w 5 s) := hI
  clear h
  go_enter Tryd.func73, Tryd.ntmps73
  go_wp2_with fail
  refine hI.mono ?_
  rintro e W1 ⟨rfl, hW⟩
  have hb1 : Below w.heap.size w W1 := by
    rcases hW with rfl | rfl
    · exact Below.refl _ _
    · exact Lib.bytesWorld_below _ _ _
  have hv1 : W1.cell? ⟨3, 0, none⟩ = some ev := (hb1.cell (show (⟨3, 0, none⟩ : Addr).block < w.heap.size from hG)).trans hv
  clear hW
  go_wp2_with fail
  refine (Tryd.strconv_toError_syntax ⟨#[80, 97, 114, 115, 101, 85, 105, 110, 116]⟩ s 10 63 ev _ hlim hv1 hev).mono ?_
  rintro e W2 ⟨N, rfl, h1, h2, h3⟩
  go_wp2
  go_ret2
  exact ⟨N, rfl, Nat.le_trans hb1.size h1, h2, hb1.trans (h3.mono hb1.size)⟩
set_option maxHeartbeats 4000000 in
set_option maxRecDepth 100000 in
theorem pu63_range (s : ByteArray) (hlim : s.size ≤ 281474976710656) (h : Lib.parseUintB 63 s.data.toList = .range) (ev : Value) (w : World) (hv : w.cell? ⟨4, 0, none⟩ = some ev) (hev : ev = .nilIface ∨ ∃ te pe, ev = .iface te pe) :
    Calls Tryd.prog 73 #[.string s, .int .i64 10, .int .i64 63] w fun e w' => ∃ N, e = .returned (.tuple #[.int .u64 9223372036854775807, .iface 165 (.pointer (some ⟨N, 0, none⟩))]) ∧ w.heap.size ≤ N ∧ w'.heap[N]? = some (.cells #[.string ⟨#[80, 97, 114, 115, 101, 85, 105, 110, 116]⟩, .string s, ev] 181 (0, 0)) ∧ Below w.heap.size w w' := by
  have hG : 4 < w.heap.size := Lib.lt_of_cell hv
  have hI := parseU63_at s (by omega) w
  rw [h] at hI
  have hI : Calls Tryd.prog 106 #[.string s, .int .i64 10, .int .i64 63] w fun e w' => e = .returned (.tuple #[.int .u64 9223372036854775807, .iface 162 (.int .i64 1)]) ∧ (w' = w ∨ w' = Lib.bytesWorld w 5 s) := hI
  clear h
  go_enter Tryd.func73, Tryd.ntmps73
  go_wp2_with fail
  refine hI.mono ?_
  rintro e W1 ⟨rfl, hW⟩
  have hb1 : Below w.heap.size w W1 := by
    rcases hW with rfl | rfl
    · exact Below.refl _ _
    · exact Lib.bytesWorld_below _ _ _
  have hv1 : W1.cell? ⟨4, 0, none⟩ = some ev := (hb1.cell (show (⟨4, 0, none⟩ : Addr).block < w.heap.size from hG)).trans hv
  clear hW
  go_wp2_with fail
  refine (Tryd.strconv_toError_range ⟨#[80, 97, 114, 115, 101, 85, 105, 110, 116]⟩ s 10 63 ev _ hlim hv1 hev).mono ?_
  rintro e W2 ⟨N, rfl, h1, h2, h3⟩
  go_wp2
  go_ret2
  exact ⟨N, rfl, Nat.le_trans hb1.size h1, h2, hb1.trans (h3.mono hb1.size)⟩
end Go.Proofs.YtgohnfkidkomhaaDoor

noncomputable section
namespace Go.Proofs.YtgohnfkidkomhaaDoor
open Go.Proofs.YtgohnfkidkomhaaDoor.Ev Go.RowKit

/-! strconv.Atoi and strconv.ParseUint as they are answered: a number and an error, or none. -/
def errRow : Option LObj := some (.row ⟨[], 181, (0, 0), 1, false, false⟩)
def errV : Value := .iface 165 (.pointer (some ⟨1000, 0, none⟩))
def numOk {α : Type} : Lib.NumEnd α → Bool
  | .ok _ => true
  | _ => false
def atI (s : ByteArray) : Int := match Lib.atoiAll s.data.toList with
  | .ok v => v
  | .range => Lib.atoiSat s.data.toList
  | .syntax => 0
def puI (s : ByteArray) : Int := match Lib.parseUintB 63 s.data.toList with
  | .ok u => (u : Int)
  | .range => 9223372036854775807
  | .syntax => 0
def numDT (ok : Bool) (v : Value) : DT Out := .br ok (.ret (.normal, [.tuple #[v, .nilIface]], [])) (.ret (.normal, [.tuple #[v, errV]], [errRow]))
def at72Hd : Hd := fun vs rows => match vs, rows with
  | [.string s], [] => some (.br (cl (s.size ≤ 281474976710656)) (numDT (numOk (Lib.atoiAll s.data.toList)) (.int .i64 (atI s))) .fail)
  | _, _ => none
def pu63Hd : Hd := fun vs rows => match vs, rows with
  | [.string s, .int .i64 b, .int .i64 c], [] => some (.br (cl (s.size ≤ 281474976710656 ∧ b = 10 ∧ c = 63)) (numDT (numOk (Lib.parseUintB 63 s.data.toList)) (.int .u64 (puI s))) .fail)
  | _, _ => none
/-- The two error values' cells. -/
structure Errs (gl : Gl) : Prop where
  syn : ∃ u x, gl 3 0 = some (.iface u x)
  rng : ∃ u x, gl 4 0 = some (.iface u x)
theorem sent_cell {gl : Gl} {φ : Phi} {σ : LS} {w : World} (hr : Rel Tryd.prog gl φ σ w) {g : Nat} (hg : g < Tryd.prog.globals.size) (h : ∃ u x, gl g 0 = some (.iface u x)) : ∃ ev, w.cell? ⟨g, 0, none⟩ = some ev ∧ (ev = .nilIface ∨ ∃ te pe, ev = .iface te pe) := by
  obtain ⟨u, x, h⟩ := h
  obtain ⟨b, g1, v', g2, g3⟩ := hr.glob g 0 _ h
  rw [hr.stat g hg] at g1
  cases g1
  cases g3 with
  | iface _ _ x' hx => exact ⟨_, g2, .inr ⟨_, _, rfl⟩⟩
/-- A new error row, of which nothing more is known. -/
theorem err_adopt {gl : Gl} {φ : Phi} {w w' : World} (hr : Rel Tryd.prog gl φ (rowsOf []) w) (hB : Below w.heap.size w w') {N : Nat} (h1 : w.heap.size ≤ N) {cs : Array Value} (h2 : w'.heap[N]? = some (.cells cs 181 (0, 0))) :
    ∃ φ1, Tr Tryd.prog gl φ (rowsOf []) w φ1 (rowsOf [errRow]) w' ∧ VR φ1 errV (.iface 165 (.pointer (some ⟨N, 0, none⟩))) := by
  have hN : N < w'.heap.size := by
    rcases Nat.lt_or_ge N w'.heap.size with h | h
    · exact h
    · rw [Array.getElem?_eq_none h] at h2; cases h2
  have t := Tr.adoptRow (rows := []) (show 1000 + 0 < most by decide) hr hB (R := N) h1 hN (b := .row ⟨[], 181, (0, 0), 1, false, false⟩) h2 (some (cs.size, 1)) ⟨cs, (0, 0), rfl, fun k v hk => (by simp at hk), rfl, rfl, by decide, .inl rfl⟩
  exact ⟨_, t, .iface _ _ _ (.ptr _ _ ⟨rfl, rfl, rfl, ⟨N, some (cs.size, 1)⟩, by simp [Phi.set], rfl⟩)⟩
theorem tup2 {φ : Phi} {a b a' b' : Value} (h1 : VR φ a a') (h2 : VR φ b b') : VR φ (.tuple #[a, b]) (.tuple #[a', b']) := by
  refine .tuple _ _ rfl fun k v v' hk hk' => ?_
  match k with
  | 0 => simp at hk hk'; subst hk; subst hk'; exact h1
  | 1 => simp at hk hk'; subst hk; subst hk'; exact h2
  | k + 2 => simp at hk
theorem numDT_run {ok : Bool} {v : Value} {r : Out} (h : (numDT ok v).run = some r) : r = cond ok (.normal, [.tuple #[v, .nilIface]], []) (.normal, [.tuple #[v, errV]], [errRow]) := by
  unfold numDT at h
  rcases brC h with ⟨k1, k2⟩ | ⟨k1, k2⟩
  · rw [k1]; cases k2; rfl
  · rw [k1]; cases k2; rfl
theorem low3 : 3 < Tryd.prog.globals.size := Nat.le_of_ble_eq_true (by kernel_rfl)
theorem low4 : 4 < Tryd.prog.globals.size := Nat.le_of_ble_eq_true (by kernel_rfl)
theorem at72_sub {gl : Gl} (hE : Errs gl) : SubOK Tryd.prog gl 72 at72Hd := by
  intro vs rows t e v rows' h1 h2 φ w args' hr hl
  unfold at72Hd at h1
  split at h1
  case h_2 => cases h1
  rename_i s
  cases h1
  obtain ⟨hg, h3⟩ := brT h2
  have hs := of_cl hg
  have h4 := numDT_run h3
  have ea : args' = #[.string s] := by
    have : args'.toList = [.string s] := LR.of_af hl rfl
    rw [← Array.toArray_toList (xs := args'), this]
  subst ea
  cases hv : Lib.atoiAll s.data.toList with
  | ok x =>
    have e1 : numOk (Lib.atoiAll s.data.toList) = true := by rw [hv]; rfl
    have e2 : atI s = x := by unfold atI; rw [hv]
    rw [e1, e2] at h4
    cases h4
    refine (Tryd.strconv_Atoi_ok s (by omega) x hv w).mono ?_
    rintro e w' ⟨rfl, hw⟩
    have hB : Below w.heap.size w w' := by
      rcases hw with rfl | ⟨t, rfl⟩
      · exact Below.refl _ _
      · exact Lib.bytesWorld_below _ _ _
    exact ⟨_, φ, rfl, Tr.of_below hr hB, VR.af_refl 8 rfl⟩
  | «syntax» =>
    have e1 : numOk (Lib.atoiAll s.data.toList) = false := by rw [hv]; rfl
    have e2 : atI s = 0 := by unfold atI; rw [hv]
    rw [e1, e2] at h4
    cases h4
    obtain ⟨ev, c1, c2⟩ := sent_cell hr low3 hE.syn
    refine (Tryd.strconv_Atoi_syntax s hs hv ev w c1 c2).mono ?_
    rintro e w' ⟨N, rfl, n1, n2, n3⟩
    obtain ⟨φ1, t, hv1⟩ := err_adopt hr n3 n1 n2
    exact ⟨_, φ1, rfl, t, tup2 (.int _ _) hv1⟩
  | range =>
    have e1 : numOk (Lib.atoiAll s.data.toList) = false := by rw [hv]; rfl
    have e2 : atI s = Lib.atoiSat s.data.toList := by unfold atI; rw [hv]
    rw [e1, e2] at h4
    cases h4
    obtain ⟨ev, c1, c2⟩ := sent_cell hr low4 hE.rng
    refine (Tryd.strconv_Atoi_range s hs hv ev w c1 c2).mono ?_
    rintro e w' ⟨N, rfl, n1, n2, n3⟩
    obtain ⟨φ1, t, hv1⟩ := err_adopt hr n3 n1 n2
    exact ⟨_, φ1, rfl, t, tup2 (.int _ _) hv1⟩
theorem pu63_sub {gl : Gl} (hE : Errs gl) : SubOK Tryd.prog gl 73 pu63Hd := by
  intro vs rows t e v rows' h1 h2 φ w args' hr hl
  unfold pu63Hd at h1
  split at h1
  case h_2 => cases h1
  rename_i s b c
  cases h1
  obtain ⟨hg, h3⟩ := brT h2
  obtain ⟨hs, rfl, rfl⟩ := of_cl hg
  have h4 := numDT_run h3
  have ea : args' = #[.string s, .int .i64 10, .int .i64 63] := by
    have : args'.toList = [.string s, .int .i64 10, .int .i64 63] := LR.of_af hl rfl
    rw [← Array.toArray_toList (xs := args'), this]
  subst ea
  cases hv : Lib.parseUintB 63 s.data.toList with
  | ok x =>
    have e1 : numOk (Lib.parseUintB 63 s.data.toList) = true := by rw [hv]; rfl
    have e2 : puI s = (x : Int) := by unfold puI; rw [hv]
    rw [e1, e2] at h4
    cases h4
    refine (pu63_ok s (by omega) x hv w).mono ?_
    rintro e w' ⟨rfl, hw⟩
    have hB : Below w.heap.size w w' := by
      rcases hw with rfl | rfl
      · exact Below.refl _ _
      · exact Lib.bytesWorld_below _ _ _
    exact ⟨_, φ, rfl, Tr.of_below hr hB, VR.af_refl 8 rfl⟩
  | «syntax» =>
    have e1 : numOk (Lib.parseUintB 63 s.data.toList) = false := by rw [hv]; rfl
    have e2 : puI s = 0 := by unfold puI; rw [hv]
    rw [e1, e2] at h4
    cases h4
    obtain ⟨ev, c1, c2⟩ := sent_cell hr low3 hE.syn
    refine (pu63_syntax s hs hv ev w c1 c2).mono ?_
    rintro e w' ⟨N, rfl, n1, n2, n3⟩
    obtain ⟨φ1, t, hv1⟩ := err_adopt hr n3 n1 n2
    exact ⟨_, φ1, rfl, t, tup2 (.int _ _) hv1⟩
  | range =>
    have e1 : numOk (Lib.parseUintB 63 s.data.toList) = false := by rw [hv]; rfl
    have e2 : puI s = 9223372036854775807 := by unfold puI; rw [hv]
    rw [e1, e2] at h4
    cases h4
    obtain ⟨ev, c1, c2⟩ := sent_cell hr low4 hE.rng
    refine (pu63_range s hs hv ev w c1 c2).mono ?_
    rintro e w' ⟨N, rfl, n1, n2, n3⟩
    obtain ⟨φ1, t, hv1⟩ := err_adopt hr n3 n1 n2
    exact ⟨_, φ1, rfl, t, tup2 (.int _ _) hv1⟩
end Go.Proofs.YtgohnfkidkomhaaDoor

noncomputable section
namespace Go.Proofs.YtgohnfkidkomhaaDoor
open Go.Proofs.YtgohnfkidkomhaaDoor.Ev Go.RowKit

/-! A text, parted at a byte. -/
def cutL (c : UInt8) : List UInt8 → List (List UInt8)
  | [] => [[]]
  | b :: l => if b = c then [] :: cutL c l else match cutL c l with
    | [] => [[b]]
    | p :: ps => (b :: p) :: ps
theorem cutL_ne (c : UInt8) (l : List UInt8) : cutL c l ≠ [] := by
  cases l with
  | nil => exact fun h => by cases h
  | cons b l =>
    unfold cutL
    split
    · exact fun h => by cases h
    · split <;> exact fun h => by cases h
theorem cutL_one {c : UInt8} : ∀ {p : List UInt8}, c ∉ p → cutL c p = [p]
  | [], _ => rfl
  | b :: p, h => by
    have h1 : b ≠ c := fun e => h (by rw [e]; exact List.mem_cons_self ..)
    have h2 : c ∉ p := fun e => h (List.mem_cons_of_mem _ e)
    unfold cutL
    rw [if_neg h1, cutL_one h2]
theorem cutL_app {c : UInt8} (q : List UInt8) : ∀ {p : List UInt8}, c ∉ p → cutL c (p ++ c :: q) = p :: cutL c q
  | [], _ => by
    show cutL c (c :: q) = _
    unfold cutL
    rw [if_pos rfl]
    cases q <;> rfl
  | b :: p, h => by
    have h1 : b ≠ c := fun e => h (by rw [e]; exact List.mem_cons_self ..)
    have h2 : c ∉ p := fun e => h (List.mem_cons_of_mem _ e)
    show cutL c (b :: (p ++ c :: q)) = _
    rw [cutL, if_neg h1, cutL_app q h2]
def joinL (c : UInt8) : List (List UInt8) → List UInt8
  | [] => []
  | [p] => p
  | p :: q :: r => p ++ c :: joinL c (q :: r)
theorem joinL_cons (c : UInt8) (p : List UInt8) {l : List (List UInt8)} (h : l ≠ []) : joinL c (p :: l) = p ++ c :: joinL c l := by
  cases l with
  | nil => exact absurd rfl h
  | cons q r => rfl
theorem joinL_cut (c : UInt8) : ∀ l : List UInt8, joinL c (cutL c l) = l
  | [] => rfl
  | b :: l => by
    have ih := joinL_cut c l
    rw [cutL]
    split
    · rename_i hb
      rw [joinL_cons c [] (cutL_ne c l), ih, hb]
      rfl
    · split
      · rename_i hn
        exact absurd hn (cutL_ne c l)
      · rename_i p ps hp
        rw [hp] at ih
        cases ps with
        | nil =>
          rw [show joinL c [p] = p from rfl] at ih
          rw [show joinL c [b :: p] = b :: p from rfl, ih]
        | cons q r =>
          rw [joinL_cons c p (by simp)] at ih
          rw [joinL_cons c (b :: p) (by simp), List.cons_append, ih]
theorem splitK_cut (c : UInt8) : ∀ (n : Nat) (l : List UInt8), l.length ≤ n → Lib.splitK [c] 0 (Lib.count l [c]) l = cutL c l
  | 0, l, h => by
    have : l = [] := List.length_eq_zero_iff.1 (by omega)
    subst this
    rfl
  | n + 1, l, h => by
    by_cases hm : Lib.index l [c] = -1
    · rw [Lib.count_miss hm]
      rw [Lib.index_one] at hm
      refine (cutL_one fun e => ?_).symm
      obtain ⟨k, hk⟩ := List.getElem?_of_mem e
      exact Lib.indexByte_none hm k hk
    · have hge := Lib.index_ge l [c]
      obtain ⟨i, hi⟩ : ∃ i : Nat, Lib.index l [c] = i := ⟨(Lib.index l [c]).toNat, by omega⟩
      have h1 := Lib.indexByte_some (l := l) (c := c) (o := i) (by rw [← Lib.index_one]; exact hi)
      obtain ⟨hlt, hget⟩ := List.getElem?_eq_some_iff.1 h1.1
      have hl : l = l.take i ++ c :: l.drop (i + 1) := by
        conv => lhs; rw [← List.take_append_drop i l]
        rw [List.drop_eq_getElem_cons hlt, hget]
      have hno : c ∉ l.take i := fun e => by
        obtain ⟨k, hk⟩ := List.getElem?_of_mem e
        rw [List.getElem?_take] at hk
        split at hk
        · rename_i hlt2
          exact h1.2 k hlt2 hk
        · cases hk
      rw [Lib.count_hit (by simp) hi, Nat.add_comm 1]
      have hb : (Lib.index l [c] == -1) = false := by rw [hi, beq_eq_false_iff_ne]; omega
      have e1 : (Lib.index l [c]).toNat = i := by omega
      show (if Lib.index l [c] == -1 then [l] else _) = _
      rw [hb, e1]
      show l.take (i + 0) :: Lib.splitK [c] 0 (Lib.count (l.drop (i + 1)) [c]) (l.drop (i + 1)) = _
      rw [splitK_cut c n (l.drop (i + 1)) (by rw [List.length_drop]; omega), Nat.add_zero]
      conv => rhs; rw [hl]
      rw [cutL_app _ hno]
theorem ba_ext {a b : ByteArray} (h : a.data.toList = b.data.toList) : a = b := by
  obtain ⟨⟨la⟩⟩ := a
  obtain ⟨⟨lb⟩⟩ := b
  simp only at h
  rw [h]
theorem splB_cut (s : ByteArray) (c : UInt8) : splB s ⟨#[c]⟩ = (cutL c s.data.toList).map fun l => ⟨l.toArray⟩ := by
  have h := Lib.splitB_data ⟨#[c]⟩ 0 (Lib.countB s ⟨#[c]⟩) s
  have h2 : (splB s ⟨#[c]⟩).map (·.data.toList) = cutL c s.data.toList := h.trans (splitK_cut c _ _ (Nat.le_refl _))
  rw [← h2, List.map_map]
  conv => lhs; rw [← List.map_id (splB s ⟨#[c]⟩)]
  refine List.map_congr_left fun x _ => ?_
  exact ba_ext (by simp)
/-- A text without a byte. -/
def NoB (c : UInt8) (s : ByteArray) : Prop := c ∉ s.data.toList
theorem app_data (a b : ByteArray) : (a ++ b).data.toList = a.data.toList ++ b.data.toList := by
  rw [ByteArray.data_append, Array.toList_append]
theorem one_data (c : UInt8) : (⟨#[c]⟩ : ByteArray).data.toList = [c] := rfl
theorem ba_eta (a : ByteArray) : (⟨a.data.toList.toArray⟩ : ByteArray) = a := ba_ext (by simp)
theorem splB_one {c : UInt8} {a : ByteArray} (h : NoB c a) : splB a ⟨#[c]⟩ = [a] := by
  rw [splB_cut, cutL_one h, List.map_singleton, ba_eta]
theorem splB_app {c : UInt8} {a : ByteArray} (b : ByteArray) (h : NoB c a) : splB (a ++ ((⟨#[c]⟩ : ByteArray) ++ b)) ⟨#[c]⟩ = a :: splB b ⟨#[c]⟩ := by
  rw [splB_cut, app_data, app_data, one_data, List.singleton_append, cutL_app _ h, List.map_cons, ba_eta, ← splB_cut]
/-- Texts with a byte between two. -/
def joinC (c : UInt8) : List ByteArray → ByteArray
  | [] => ⟨#[]⟩
  | [p] => p
  | p :: q :: r => p ++ ((⟨#[c]⟩ : ByteArray) ++ joinC c (q :: r))
theorem joinC_data (c : UInt8) : ∀ ps : List ByteArray, (joinC c ps).data.toList = joinL c (ps.map (·.data.toList))
  | [] => rfl
  | [p] => rfl
  | p :: q :: r => by
    rw [joinC, app_data, app_data, one_data, List.singleton_append, joinC_data c (q :: r)]
    rfl
theorem splB_join (s : ByteArray) (c : UInt8) : joinC c (splB s ⟨#[c]⟩) = s := by
  apply ba_ext
  rw [joinC_data, splB_cut, List.map_map]
  have : (cutL c s.data.toList).map ((fun x : ByteArray => x.data.toList) ∘ fun l => (⟨l.toArray⟩ : ByteArray)) = cutL c s.data.toList := by
    conv => rhs; rw [← List.map_id (cutL c s.data.toList)]
    refine List.map_congr_left fun x _ => ?_
    simp
  rw [this, joinL_cut]
theorem splB_ne (s : ByteArray) (c : UInt8) : splB s ⟨#[c]⟩ ≠ [] := by
  rw [splB_cut]
  intro h
  exact cutL_ne c _ (List.map_eq_nil_iff.1 h)
end Go.Proofs.YtgohnfkidkomhaaDoor

noncomputable section
namespace Go.Proofs.YtgohnfkidkomhaaDoor
open Go.Proofs.YtgohnfkidkomhaaDoor.Ev Go.RowKit

/-! Decimal numbers that are read as they were told. -/
theorem dig_ind {P : Nat → Prop} (h1 : ∀ n, n < 10 → P n) (h2 : ∀ n, ¬ n < 10 → P (n / 10) → P n) : ∀ n, P n := fun n => by
  induction n using Nat.strongRecOn with
  | ind n ih =>
    by_cases h : n < 10
    · exact h1 n h
    · exact h2 n h (ih (n / 10) (by omega))
theorem decDigits_big {n : Nat} (h : ¬ n < 10) : Lib.decDigits n = Lib.decDigits (n / 10) ++ [UInt8.ofNat (48 + n % 10)] := by
  conv => lhs; rw [Lib.decDigits, dif_neg h]
theorem dig_nat8 {d : Nat} (h : d < 10) : (UInt8.ofNat (48 + d)).toNat = 48 + d := by
  simp only [UInt8.toNat_ofNat']
  omega
theorem dec_ne (n : Nat) : Lib.decDigits n ≠ [] := by
  by_cases h : n < 10
  · rw [Lib.decDigits_one h]; simp
  · rw [decDigits_big h]; simp
theorem pum_snoc (M : Nat) : ∀ (l : List UInt8) (acc m : Nat) (b : UInt8), Lib.parseUintM M acc l = .ok m → 48 ≤ b.toNat → b.toNat ≤ 57 → m < 1844674407370955162 → m * 10 + (b.toNat - 48) ≤ M → Lib.parseUintM M acc (l ++ [b]) = .ok (m * 10 + (b.toNat - 48))
  | [], acc, m, b, h, h1, h2, h3, h4 => by
    cases h
    show Lib.parseUintM M acc [b] = _
    rw [Lib.parseUintM, if_pos ⟨h1, h2⟩, if_neg (by omega), if_neg (by omega)]
    rfl
  | c :: l, acc, m, b, h, h1, h2, h3, h4 => by
    rw [Lib.parseUintM] at h
    show Lib.parseUintM M acc (c :: (l ++ [b])) = _
    rw [Lib.parseUintM]
    split at h
    · rename_i hc
      rw [if_pos hc]
      split at h
      · cases h
      · rename_i h5
        rw [if_neg h5]
        split at h
        · cases h
        · rename_i h6
          rw [if_neg h6]
          exact pum_snoc M l _ m b h h1 h2 h3 h4
    · cases h
theorem pum_dec {M : Nat} (hM : M ≤ 18446744073709551615) (n : Nat) : n ≤ M → Lib.parseUintM M 0 (Lib.decDigits n) = .ok n := by
  refine dig_ind (P := fun n => n ≤ M → Lib.parseUintM M 0 (Lib.decDigits n) = .ok n) (fun n h hn => ?_) (fun n h ih hn => ?_) n
  · have e := dig_nat8 h
    rw [Lib.decDigits_one h]
    show Lib.parseUintM M 0 [UInt8.ofNat (48 + n)] = _
    rw [Lib.parseUintM, if_pos (by omega), if_neg (by omega), if_neg (by omega)]
    show Lib.NumEnd.ok _ = _
    rw [e]
    congr 1
    omega
  · have e := dig_nat8 (d := n % 10) (by omega)
    rw [decDigits_big h, pum_snoc M _ 0 (n / 10) _ (ih (by omega)) (by omega) (by omega) (by omega) (by omega)]
    congr 1
    omega
theorem pu10_M : ∀ (l : List UInt8) (acc : Nat), Lib.parseUint10 acc l = Lib.parseUintM 18446744073709551615 acc l
  | [], acc => rfl
  | c :: l, acc => by
    rw [Lib.parseUint10, Lib.parseUintM]
    split
    · split
      · rfl
      · by_cases h : 18446744073709551616 ≤ acc * 10 + (c.toNat - 48)
        · rw [if_pos h, if_pos (by omega)]
        · rw [if_neg h, if_neg (by omega)]
          exact pu10_M l _
    · rfl
theorem itoa_data {n : Int} (h : 0 ≤ n) : (itoaB n).data.toList = Lib.decDigits n.toNat := by
  rw [itoaB_pos h]
  unfold decB
  rfl
theorem atoi_itoa {n : Int} (h0 : 0 ≤ n) (h1 : n ≤ 9223372036854775807) : Lib.atoiAll (itoaB n).data.toList = .ok n := by
  rw [itoa_data h0]
  have hp := pum_dec (M := 18446744073709551615) (Nat.le_refl _) n.toNat (by omega)
  have hd := dec_digit n.toNat
  have hne := dec_ne n.toNat
  generalize Lib.decDigits n.toNat = l at hp hd hne
  cases l with
  | nil => exact absurd rfl hne
  | cons c r =>
    have hc := hd c (List.mem_cons_self ..)
    have e1 : Lib.parseMag (c :: r) = .ok n.toNat := by
      unfold Lib.parseMag
      rw [if_neg (by simp), pu10_M, hp]
    simp only [Lib.atoiAll]
    rw [if_neg (show ¬ (c.toNat = 43 ∨ c.toNat = 45) by omega), e1]
    simp only
    rw [if_neg (by omega), if_neg (by omega), if_neg (by omega)]
    congr 1
    omega
theorem pu63_itoa {n : Int} (h0 : 0 ≤ n) (h1 : n ≤ 9223372036854775807) : Lib.parseUintB 63 (itoaB n).data.toList = .ok n.toNat := by
  rw [itoa_data h0]
  unfold Lib.parseUintB
  rw [if_neg (dec_ne _)]
  exact pum_dec (M := 2 ^ 63 - 1) (by decide) n.toNat (by omega)
theorem itoa_no {n : Int} (h0 : 0 ≤ n) {c : UInt8} (hc : c.toNat < 48) : NoB c (itoaB n) := fun e => by
  rw [itoa_data h0] at e
  have := dec_digit _ c e
  omega
end Go.Proofs.YtgohnfkidkomhaaDoor

noncomputable section
namespace Go.Proofs.YtgohnfkidkomhaaDoor
open Go.Proofs.YtgohnfkidkomhaaDoor.Ev Go.RowKit

/-! slices.Index of strings; trace.Read. -/
def afIdx (ix : ByteArray → Int) : AF := fun args σ => match args with
  | [.slice (some a) n c, .string x] => (match σ.heap.get a.block with
    | some (.row b) => (strsOf ((b.cells.drop a.off).take n)).bind fun xs => some (cl (xs = wordsL ∧ n = 13 ∧ n ≤ c), .int .i64 (ix x))
    | _ => none)
  | _ => none
/-- Split of a text, by how many pieces it has. -/
def spH2 (g : ByteArray → ByteArray → Bool) (a b : ByteArray → ByteArray → ByteArray) : Hd := fun vs rows => match vs, rows with
  | [.string s, .string sep], [] => some (.br (g s sep) (.ret (spOut 2 [a s sep, b s sep])) .fail)
  | _, _ => none
def spH3 (g : ByteArray → ByteArray → Bool) (a b c : ByteArray → ByteArray → ByteArray) : Hd := fun vs rows => match vs, rows with
  | [.string s, .string sep], [] => some (.br (g s sep) (.ret (spOut 3 [a s sep, b s sep, c s sep])) .fail)
  | _, _ => none
def spH1 (g : ByteArray → ByteArray → Bool) (a : ByteArray → ByteArray → ByteArray) : Hd := fun vs rows => match vs, rows with
  | [.string s, .string sep], [] => some (.br (g s sep) (.ret (spOut 1 [a s sep])) .fail)
  | _, _ => none
def spHB (g : ByteArray → ByteArray → Bool) (n : ByteArray → ByteArray → Nat) : Hd := fun vs rows => match vs, rows with
  | [.string s, .string sep], [] => some (.br (g s sep) (.ret (spBig (n s sep) [])) .fail)
  | _, _ => none
def atHdF (ok : ByteArray → Bool) (v : ByteArray → Int) : Hd := fun vs rows => match vs, rows with
  | [.string s], [] => some (.br (cl (s.size ≤ 281474976710656)) (numDT (ok s) (.int .i64 (v s))) .fail)
  | _, _ => none
def puHdF (ok : ByteArray → Bool) (v : ByteArray → Int) : Hd := fun vs rows => match vs, rows with
  | [.string s, .int .i64 b, .int .i64 c], [] => some (.br (decide (b = 10) && decide (c = 63)) (.br (cl (s.size ≤ 281474976710656)) (numDT (ok s) (.int .u64 (v s))) .fail) .fail)
  | _, _ => none
structure RdF where
  g : ByteArray → ByteArray → Bool
  ix : ByteArray → Int
  a : ByteArray → ByteArray → ByteArray
  b : ByteArray → ByteArray → ByteArray
  c : ByteArray → ByteArray → ByteArray
  ao : ByteArray → Bool
  av : ByteArray → Int
  po : ByteArray → Bool
  pv : ByteArray → Int
def HTd (sp : Hd) (F : RdF) (gg : C4 Bool) (ls : C4 ByteArray) (le : C4 Int) : Hs := hsOf [(71, afIdx F.ix), (30, afEv gg fun k c n u => .tuple #[.string (ls k c n u), .int .i64 (le k c n u)])] [(70, sp), (72, atHdF F.ao F.av), (73, puHdF F.po F.pv)] []
set_option maxRecDepth 100000 in
theorem r_read1 (gl : Gl) (F : RdF) (gg : C4 Bool) (ls : C4 ByteArray) (le : C4 Int) (s : ByteArray) : evT gl (HTd (spH1 F.g F.a) F gg ls le) 34 [.string s] =
 cond (F.g s (⟨#[32]⟩ : ByteArray)) (
  some (.tuple #[(.agg #[(.int IntKind.u8 0), (.int IntKind.i64 0), (.int IntKind.i64 0), (.int IntKind.u32 0)]), (.int IntKind.i64 6)])) (
  none) := by kernel_rfl
set_option maxRecDepth 100000 in
theorem r_readB (gl : Gl) (F : RdF) (gg : C4 Bool) (ls : C4 ByteArray) (le : C4 Int) (n : ByteArray → ByteArray → Nat) (s : ByteArray) : evT gl (HTd (spHB F.g n) F gg ls le) 34 [.string s] =
 cond (F.g s (⟨#[32]⟩ : ByteArray)) (
  cond (decide ((↑(n s (⟨#[32]⟩ : ByteArray)) : Int) < 2)) (
   some (.tuple #[(.agg #[(.int IntKind.u8 0), (.int IntKind.i64 0), (.int IntKind.i64 0), (.int IntKind.u32 0)]), (.int IntKind.i64 6)])) (
   cond (decide ((↑(n s (⟨#[32]⟩ : ByteArray)) : Int) > 3)) (
    some (.tuple #[(.agg #[(.int IntKind.u8 0), (.int IntKind.i64 0), (.int IntKind.i64 0), (.int IntKind.u32 0)]), (.int IntKind.i64 6)])) (
    cond (decide (1 < (↑(n s (⟨#[32]⟩ : ByteArray)) : Int)) && ((n s (⟨#[32]⟩ : ByteArray)).ble (n s (⟨#[32]⟩ : ByteArray)))) (
     none) (
     none)))) (
  none) := by kernel_rfl
set_option maxRecDepth 100000 in
theorem r_read2 (gl : Gl) (F : RdF) (gg : C4 Bool) (ls : C4 ByteArray) (le : C4 Int) (s : ByteArray) : evT gl (HTd (spH2 F.g F.a F.b) F gg ls le) 34 [.string s] =
 cond (F.g s (⟨#[32]⟩ : ByteArray)) (
  cond (cl   ([(⟨#[]⟩ : ByteArray), (⟨#[114, 101, 116, 105, 114, 101]⟩ : ByteArray), (⟨#[98, 101, 103, 105, 110]⟩ : ByteArray),         (⟨#[105, 110, 115, 105, 100, 101]⟩ : ByteArray), (⟨#[99, 111, 109, 109, 105, 116]⟩ : ByteArray),         (⟨#[102, 97, 105, 108]⟩ : ByteArray), (⟨#[117, 110, 100, 111]⟩ : ByteArray), (⟨#[97, 98, 111, 114, 116]⟩ : ByteArray),         (⟨#[97, 115, 107]⟩ : ByteArray), (⟨#[110, 97, 99, 107]⟩ : ByteArray), (⟨#[104, 97, 108, 116]⟩ : ByteArray),         (⟨#[102, 97, 117, 108, 116]⟩ : ByteArray), (⟨#[110, 111, 116, 101]⟩ : ByteArray)] =       wordsL ∧     13 = 13 ∧ 13 ≤ 13)) (
   qs [IntKind.u8.wrap (if 0 > F.ix (F.b s (⟨#[32]⟩ : ByteArray)) then 0 else F.ix (F.b s (⟨#[32]⟩ : ByteArray))), if 0 > F.ix (F.b s (⟨#[32]⟩ : ByteArray)) then 0 else F.ix (F.b s (⟨#[32]⟩ : ByteArray))] (
    cond (veq 8 (Value.string (F.b s (⟨#[32]⟩ : ByteArray))) (Value.string (F.b s (⟨#[32]⟩ : ByteArray)))) (
     cond (cl ((F.a s (⟨#[32]⟩ : ByteArray)).size ≤ 281474976710656)) (
      cond (F.ao (F.a s (⟨#[32]⟩ : ByteArray))) (
       cond (gg (IntKind.u8.wrap (if 0 > F.ix (F.b s (⟨#[32]⟩ : ByteArray)) then 0 else F.ix (F.b s (⟨#[32]⟩ : ByteArray))))   (F.av (F.a s (⟨#[32]⟩ : ByteArray))) 0 0) (
        cond (le (IntKind.u8.wrap (if 0 > F.ix (F.b s (⟨#[32]⟩ : ByteArray)) then 0 else F.ix (F.b s (⟨#[32]⟩ : ByteArray))))     (F.av (F.a s (⟨#[32]⟩ : ByteArray))) 0 0 !=   0) (
         some (.tuple #[(.agg #[(.int IntKind.u8 0), (.int IntKind.i64 0), (.int IntKind.i64 0), (.int IntKind.u32 0)]), (.int IntKind.i64 6)])) (
         cond ((ls (IntKind.u8.wrap (if 0 > F.ix (F.b s (⟨#[32]⟩ : ByteArray)) then 0 else F.ix (F.b s (⟨#[32]⟩ : ByteArray))))       (F.av (F.a s (⟨#[32]⟩ : ByteArray))) 0 0).toList ==   s.toList) (
          some (.tuple #[(.agg #[(.int IntKind.u8 (IntKind.u8.wrap (if 0 > F.ix (F.b s (⟨#[32]⟩ : ByteArray)) then 0 else F.ix (F.b s (⟨#[32]⟩ : ByteArray))))), (.int IntKind.i64 (F.av (F.a s (⟨#[32]⟩ : ByteArray)))), (.int IntKind.i64 0), (.int IntKind.u32 0)]), (.int IntKind.i64 0)])) (
          some (.tuple #[(.agg #[(.int IntKind.u8 0), (.int IntKind.i64 0), (.int IntKind.i64 0), (.int IntKind.u32 0)]), (.int IntKind.i64 6)])))) (
        none)) (
       cond (gg (IntKind.u8.wrap (if 0 > F.ix (F.b s (⟨#[32]⟩ : ByteArray)) then 0 else F.ix (F.b s (⟨#[32]⟩ : ByteArray)))) (-1) 0 0) (
        cond (le (IntKind.u8.wrap (if 0 > F.ix (F.b s (⟨#[32]⟩ : ByteArray)) then 0 else F.ix (F.b s (⟨#[32]⟩ : ByteArray)))) (-1) 0 0 != 0) (
         some (.tuple #[(.agg #[(.int IntKind.u8 0), (.int IntKind.i64 0), (.int IntKind.i64 0), (.int IntKind.u32 0)]), (.int IntKind.i64 6)])) (
         cond ((ls (IntKind.u8.wrap (if 0 > F.ix (F.b s (⟨#[32]⟩ : ByteArray)) then 0 else F.ix (F.b s (⟨#[32]⟩ : ByteArray)))) (-1) 0       0).toList ==   s.toList) (
          some (.tuple #[(.agg #[(.int IntKind.u8 (IntKind.u8.wrap (if 0 > F.ix (F.b s (⟨#[32]⟩ : ByteArray)) then 0 else F.ix (F.b s (⟨#[32]⟩ : ByteArray))))), (.int IntKind.i64 (-1)), (.int IntKind.i64 0), (.int IntKind.u32 0)]), (.int IntKind.i64 0)])) (
          some (.tuple #[(.agg #[(.int IntKind.u8 0), (.int IntKind.i64 0), (.int IntKind.i64 0), (.int IntKind.u32 0)]), (.int IntKind.i64 6)])))) (
        none))) (
      none)) (
     none))) (
   none)) (
  none) := by kernel_rfl
set_option maxRecDepth 100000 in
theorem r_read3 (gl : Gl) (F : RdF) (gg : C4 Bool) (ls : C4 ByteArray) (le : C4 Int) (s : ByteArray) : evT gl (HTd (spH3 F.g F.a F.b F.c) F gg ls le) 34 [.string s] =
 cond (F.g s (⟨#[32]⟩ : ByteArray)) (
  cond (cl   ([(⟨#[]⟩ : ByteArray), (⟨#[114, 101, 116, 105, 114, 101]⟩ : ByteArray), (⟨#[98, 101, 103, 105, 110]⟩ : ByteArray),         (⟨#[105, 110, 115, 105, 100, 101]⟩ : ByteArray), (⟨#[99, 111, 109, 109, 105, 116]⟩ : ByteArray),         (⟨#[102, 97, 105, 108]⟩ : ByteArray), (⟨#[117, 110, 100, 111]⟩ : ByteArray), (⟨#[97, 98, 111, 114, 116]⟩ : ByteArray),         (⟨#[97, 115, 107]⟩ : ByteArray), (⟨#[110, 97, 99, 107]⟩ : ByteArray), (⟨#[104, 97, 108, 116]⟩ : ByteArray),         (⟨#[102, 97, 117, 108, 116]⟩ : ByteArray), (⟨#[110, 111, 116, 101]⟩ : ByteArray)] =       wordsL ∧     13 = 13 ∧ 13 ≤ 13)) (
   qs [IntKind.u8.wrap (if 0 > F.ix (F.b s (⟨#[32]⟩ : ByteArray)) then 0 else F.ix (F.b s (⟨#[32]⟩ : ByteArray))), if 0 > F.ix (F.b s (⟨#[32]⟩ : ByteArray)) then 0 else F.ix (F.b s (⟨#[32]⟩ : ByteArray))] (
    cond (veq 8 (Value.string (F.b s (⟨#[32]⟩ : ByteArray))) (Value.string (F.b s (⟨#[32]⟩ : ByteArray)))) (
     cond (cl ((F.a s (⟨#[32]⟩ : ByteArray)).size ≤ 281474976710656)) (
      cond (F.ao (F.a s (⟨#[32]⟩ : ByteArray))) (
       cond (cl ((F.c s (⟨#[32]⟩ : ByteArray)).size ≤ 281474976710656)) (
        cond (F.po (F.c s (⟨#[32]⟩ : ByteArray))) (
         cond (IntKind.u8.wrap (if 0 > F.ix (F.b s (⟨#[32]⟩ : ByteArray)) then 0 else F.ix (F.b s (⟨#[32]⟩ : ByteArray))) == 4) (
          cond (gg (IntKind.u8.wrap (if 0 > F.ix (F.b s (⟨#[32]⟩ : ByteArray)) then 0 else F.ix (F.b s (⟨#[32]⟩ : ByteArray))))   (F.av (F.a s (⟨#[32]⟩ : ByteArray))) (IntKind.i64.wrap (F.pv (F.c s (⟨#[32]⟩ : ByteArray)))) 0) (
           cond (le (IntKind.u8.wrap (if 0 > F.ix (F.b s (⟨#[32]⟩ : ByteArray)) then 0 else F.ix (F.b s (⟨#[32]⟩ : ByteArray))))     (F.av (F.a s (⟨#[32]⟩ : ByteArray))) (IntKind.i64.wrap (F.pv (F.c s (⟨#[32]⟩ : ByteArray)))) 0 !=   0) (
            some (.tuple #[(.agg #[(.int IntKind.u8 0), (.int IntKind.i64 0), (.int IntKind.i64 0), (.int IntKind.u32 0)]), (.int IntKind.i64 6)])) (
            cond ((ls (IntKind.u8.wrap (if 0 > F.ix (F.b s (⟨#[32]⟩ : ByteArray)) then 0 else F.ix (F.b s (⟨#[32]⟩ : ByteArray))))       (F.av (F.a s (⟨#[32]⟩ : ByteArray))) (IntKind.i64.wrap (F.pv (F.c s (⟨#[32]⟩ : ByteArray)))) 0).toList ==   s.toList) (
             some (.tuple #[(.agg #[(.int IntKind.u8 (IntKind.u8.wrap (if 0 > F.ix (F.b s (⟨#[32]⟩ : ByteArray)) then 0 else F.ix (F.b s (⟨#[32]⟩ : ByteArray))))), (.int IntKind.i64 (F.av (F.a s (⟨#[32]⟩ : ByteArray)))), (.int IntKind.i64 (IntKind.i64.wrap (F.pv (F.c s (⟨#[32]⟩ : ByteArray))))), (.int IntKind.u32 0)]), (.int IntKind.i64 0)])) (
             some (.tuple #[(.agg #[(.int IntKind.u8 0), (.int IntKind.i64 0), (.int IntKind.i64 0), (.int IntKind.u32 0)]), (.int IntKind.i64 6)])))) (
           none)) (
          cond (decide (F.pv (F.c s (⟨#[32]⟩ : ByteArray)) < 4294967296)) (
           cond (gg (IntKind.u8.wrap (if 0 > F.ix (F.b s (⟨#[32]⟩ : ByteArray)) then 0 else F.ix (F.b s (⟨#[32]⟩ : ByteArray))))   (F.av (F.a s (⟨#[32]⟩ : ByteArray))) 0 (IntKind.u32.wrap (F.pv (F.c s (⟨#[32]⟩ : ByteArray))))) (
            cond (le (IntKind.u8.wrap (if 0 > F.ix (F.b s (⟨#[32]⟩ : ByteArray)) then 0 else F.ix (F.b s (⟨#[32]⟩ : ByteArray))))     (F.av (F.a s (⟨#[32]⟩ : ByteArray))) 0 (IntKind.u32.wrap (F.pv (F.c s (⟨#[32]⟩ : ByteArray)))) !=   0) (
             some (.tuple #[(.agg #[(.int IntKind.u8 0), (.int IntKind.i64 0), (.int IntKind.i64 0), (.int IntKind.u32 0)]), (.int IntKind.i64 6)])) (
             cond ((ls (IntKind.u8.wrap (if 0 > F.ix (F.b s (⟨#[32]⟩ : ByteArray)) then 0 else F.ix (F.b s (⟨#[32]⟩ : ByteArray))))       (F.av (F.a s (⟨#[32]⟩ : ByteArray))) 0 (IntKind.u32.wrap (F.pv (F.c s (⟨#[32]⟩ : ByteArray))))).toList ==   s.toList) (
              some (.tuple #[(.agg #[(.int IntKind.u8 (IntKind.u8.wrap (if 0 > F.ix (F.b s (⟨#[32]⟩ : ByteArray)) then 0 else F.ix (F.b s (⟨#[32]⟩ : ByteArray))))), (.int IntKind.i64 (F.av (F.a s (⟨#[32]⟩ : ByteArray)))), (.int IntKind.i64 0), (.int IntKind.u32 (IntKind.u32.wrap (F.pv (F.c s (⟨#[32]⟩ : ByteArray)))))]), (.int IntKind.i64 0)])) (
              some (.tuple #[(.agg #[(.int IntKind.u8 0), (.int IntKind.i64 0), (.int IntKind.i64 0), (.int IntKind.u32 0)]), (.int IntKind.i64 6)])))) (
            none)) (
           cond (gg (IntKind.u8.wrap (if 0 > F.ix (F.b s (⟨#[32]⟩ : ByteArray)) then 0 else F.ix (F.b s (⟨#[32]⟩ : ByteArray))))   (F.av (F.a s (⟨#[32]⟩ : ByteArray))) 0 0) (
            cond (le (IntKind.u8.wrap (if 0 > F.ix (F.b s (⟨#[32]⟩ : ByteArray)) then 0 else F.ix (F.b s (⟨#[32]⟩ : ByteArray))))     (F.av (F.a s (⟨#[32]⟩ : ByteArray))) 0 0 !=   0) (
             some (.tuple #[(.agg #[(.int IntKind.u8 0), (.int IntKind.i64 0), (.int IntKind.i64 0), (.int IntKind.u32 0)]), (.int IntKind.i64 6)])) (
             cond ((ls (IntKind.u8.wrap (if 0 > F.ix (F.b s (⟨#[32]⟩ : ByteArray)) then 0 else F.ix (F.b s (⟨#[32]⟩ : ByteArray))))       (F.av (F.a s (⟨#[32]⟩ : ByteArray))) 0 0).toList ==   s.toList) (
              some (.tuple #[(.agg #[(.int IntKind.u8 (IntKind.u8.wrap (if 0 > F.ix (F.b s (⟨#[32]⟩ : ByteArray)) then 0 else F.ix (F.b s (⟨#[32]⟩ : ByteArray))))), (.int IntKind.i64 (F.av (F.a s (⟨#[32]⟩ : ByteArray)))), (.int IntKind.i64 0), (.int IntKind.u32 0)]), (.int IntKind.i64 0)])) (
              some (.tuple #[(.agg #[(.int IntKind.u8 0), (.int IntKind.i64 0), (.int IntKind.i64 0), (.int IntKind.u32 0)]), (.int IntKind.i64 6)])))) (
            none)))) (
         cond (IntKind.u8.wrap (if 0 > F.ix (F.b s (⟨#[32]⟩ : ByteArray)) then 0 else F.ix (F.b s (⟨#[32]⟩ : ByteArray))) == 4) (
          cond (gg (IntKind.u8.wrap (if 0 > F.ix (F.b s (⟨#[32]⟩ : ByteArray)) then 0 else F.ix (F.b s (⟨#[32]⟩ : ByteArray))))   (F.av (F.a s (⟨#[32]⟩ : ByteArray))) (IntKind.i64.wrap (F.pv (F.c s (⟨#[32]⟩ : ByteArray)))) 0) (
           cond (le (IntKind.u8.wrap (if 0 > F.ix (F.b s (⟨#[32]⟩ : ByteArray)) then 0 else F.ix (F.b s (⟨#[32]⟩ : ByteArray))))     (F.av (F.a s (⟨#[32]⟩ : ByteArray))) (IntKind.i64.wrap (F.pv (F.c s (⟨#[32]⟩ : ByteArray)))) 0 !=   0) (
            some (.tuple #[(.agg #[(.int IntKind.u8 0), (.int IntKind.i64 0), (.int IntKind.i64 0), (.int IntKind.u32 0)]), (.int IntKind.i64 6)])) (
            cond ((ls (IntKind.u8.wrap (if 0 > F.ix (F.b s (⟨#[32]⟩ : ByteArray)) then 0 else F.ix (F.b s (⟨#[32]⟩ : ByteArray))))       (F.av (F.a s (⟨#[32]⟩ : ByteArray))) (IntKind.i64.wrap (F.pv (F.c s (⟨#[32]⟩ : ByteArray)))) 0).toList ==   s.toList) (
             some (.tuple #[(.agg #[(.int IntKind.u8 (IntKind.u8.wrap (if 0 > F.ix (F.b s (⟨#[32]⟩ : ByteArray)) then 0 else F.ix (F.b s (⟨#[32]⟩ : ByteArray))))), (.int IntKind.i64 (F.av (F.a s (⟨#[32]⟩ : ByteArray)))), (.int IntKind.i64 (IntKind.i64.wrap (F.pv (F.c s (⟨#[32]⟩ : ByteArray))))), (.int IntKind.u32 0)]), (.int IntKind.i64 0)])) (
             some (.tuple #[(.agg #[(.int IntKind.u8 0), (.int IntKind.i64 0), (.int IntKind.i64 0), (.int IntKind.u32 0)]), (.int IntKind.i64 6)])))) (
           none)) (
          cond (decide (F.pv (F.c s (⟨#[32]⟩ : ByteArray)) < 4294967296)) (
           cond (gg (IntKind.u8.wrap (if 0 > F.ix (F.b s (⟨#[32]⟩ : ByteArray)) then 0 else F.ix (F.b s (⟨#[32]⟩ : ByteArray))))   (F.av (F.a s (⟨#[32]⟩ : ByteArray))) 0 (IntKind.u32.wrap (F.pv (F.c s (⟨#[32]⟩ : ByteArray))))) (
            cond (le (IntKind.u8.wrap (if 0 > F.ix (F.b s (⟨#[32]⟩ : ByteArray)) then 0 else F.ix (F.b s (⟨#[32]⟩ : ByteArray))))     (F.av (F.a s (⟨#[32]⟩ : ByteArray))) 0 (IntKind.u32.wrap (F.pv (F.c s (⟨#[32]⟩ : ByteArray)))) !=   0) (
             some (.tuple #[(.agg #[(.int IntKind.u8 0), (.int IntKind.i64 0), (.int IntKind.i64 0), (.int IntKind.u32 0)]), (.int IntKind.i64 6)])) (
             cond ((ls (IntKind.u8.wrap (if 0 > F.ix (F.b s (⟨#[32]⟩ : ByteArray)) then 0 else F.ix (F.b s (⟨#[32]⟩ : ByteArray))))       (F.av (F.a s (⟨#[32]⟩ : ByteArray))) 0 (IntKind.u32.wrap (F.pv (F.c s (⟨#[32]⟩ : ByteArray))))).toList ==   s.toList) (
              some (.tuple #[(.agg #[(.int IntKind.u8 (IntKind.u8.wrap (if 0 > F.ix (F.b s (⟨#[32]⟩ : ByteArray)) then 0 else F.ix (F.b s (⟨#[32]⟩ : ByteArray))))), (.int IntKind.i64 (F.av (F.a s (⟨#[32]⟩ : ByteArray)))), (.int IntKind.i64 0), (.int IntKind.u32 (IntKind.u32.wrap (F.pv (F.c s (⟨#[32]⟩ : ByteArray)))))]), (.int IntKind.i64 0)])) (
              some (.tuple #[(.agg #[(.int IntKind.u8 0), (.int IntKind.i64 0), (.int IntKind.i64 0), (.int IntKind.u32 0)]), (.int IntKind.i64 6)])))) (
            none)) (
           cond (gg (IntKind.u8.wrap (if 0 > F.ix (F.b s (⟨#[32]⟩ : ByteArray)) then 0 else F.ix (F.b s (⟨#[32]⟩ : ByteArray))))   (F.av (F.a s (⟨#[32]⟩ : ByteArray))) 0 0) (
            cond (le (IntKind.u8.wrap (if 0 > F.ix (F.b s (⟨#[32]⟩ : ByteArray)) then 0 else F.ix (F.b s (⟨#[32]⟩ : ByteArray))))     (F.av (F.a s (⟨#[32]⟩ : ByteArray))) 0 0 !=   0) (
             some (.tuple #[(.agg #[(.int IntKind.u8 0), (.int IntKind.i64 0), (.int IntKind.i64 0), (.int IntKind.u32 0)]), (.int IntKind.i64 6)])) (
             cond ((ls (IntKind.u8.wrap (if 0 > F.ix (F.b s (⟨#[32]⟩ : ByteArray)) then 0 else F.ix (F.b s (⟨#[32]⟩ : ByteArray))))       (F.av (F.a s (⟨#[32]⟩ : ByteArray))) 0 0).toList ==   s.toList) (
              some (.tuple #[(.agg #[(.int IntKind.u8 (IntKind.u8.wrap (if 0 > F.ix (F.b s (⟨#[32]⟩ : ByteArray)) then 0 else F.ix (F.b s (⟨#[32]⟩ : ByteArray))))), (.int IntKind.i64 (F.av (F.a s (⟨#[32]⟩ : ByteArray)))), (.int IntKind.i64 0), (.int IntKind.u32 0)]), (.int IntKind.i64 0)])) (
              some (.tuple #[(.agg #[(.int IntKind.u8 0), (.int IntKind.i64 0), (.int IntKind.i64 0), (.int IntKind.u32 0)]), (.int IntKind.i64 6)])))) (
            none))))) (
        none)) (
       cond (cl ((F.c s (⟨#[32]⟩ : ByteArray)).size ≤ 281474976710656)) (
        cond (F.po (F.c s (⟨#[32]⟩ : ByteArray))) (
         cond (IntKind.u8.wrap (if 0 > F.ix (F.b s (⟨#[32]⟩ : ByteArray)) then 0 else F.ix (F.b s (⟨#[32]⟩ : ByteArray))) == 4) (
          cond (gg (IntKind.u8.wrap (if 0 > F.ix (F.b s (⟨#[32]⟩ : ByteArray)) then 0 else F.ix (F.b s (⟨#[32]⟩ : ByteArray)))) (-1)   (IntKind.i64.wrap (F.pv (F.c s (⟨#[32]⟩ : ByteArray)))) 0) (
           cond (le (IntKind.u8.wrap (if 0 > F.ix (F.b s (⟨#[32]⟩ : ByteArray)) then 0 else F.ix (F.b s (⟨#[32]⟩ : ByteArray)))) (-1)     (IntKind.i64.wrap (F.pv (F.c s (⟨#[32]⟩ : ByteArray)))) 0 !=   0) (
            some (.tuple #[(.agg #[(.int IntKind.u8 0), (.int IntKind.i64 0), (.int IntKind.i64 0), (.int IntKind.u32 0)]), (.int IntKind.i64 6)])) (
            cond ((ls (IntKind.u8.wrap (if 0 > F.ix (F.b s (⟨#[32]⟩ : ByteArray)) then 0 else F.ix (F.b s (⟨#[32]⟩ : ByteArray)))) (-1)       (IntKind.i64.wrap (F.pv (F.c s (⟨#[32]⟩ : ByteArray)))) 0).toList ==   s.toList) (
             some (.tuple #[(.agg #[(.int IntKind.u8 (IntKind.u8.wrap (if 0 > F.ix (F.b s (⟨#[32]⟩ : ByteArray)) then 0 else F.ix (F.b s (⟨#[32]⟩ : ByteArray))))), (.int IntKind.i64 (-1)), (.int IntKind.i64 (IntKind.i64.wrap (F.pv (F.c s (⟨#[32]⟩ : ByteArray))))), (.int IntKind.u32 0)]), (.int IntKind.i64 0)])) (
             some (.tuple #[(.agg #[(.int IntKind.u8 0), (.int IntKind.i64 0), (.int IntKind.i64 0), (.int IntKind.u32 0)]), (.int IntKind.i64 6)])))) (
           none)) (
          cond (decide (F.pv (F.c s (⟨#[32]⟩ : ByteArray)) < 4294967296)) (
           cond (gg (IntKind.u8.wrap (if 0 > F.ix (F.b s (⟨#[32]⟩ : ByteArray)) then 0 else F.ix (F.b s (⟨#[32]⟩ : ByteArray)))) (-1) 0   (IntKind.u32.wrap (F.pv (F.c s (⟨#[32]⟩ : ByteArray))))) (
            cond (le (IntKind.u8.wrap (if 0 > F.ix (F.b s (⟨#[32]⟩ : ByteArray)) then 0 else F.ix (F.b s (⟨#[32]⟩ : ByteArray)))) (-1) 0     (IntKind.u32.wrap (F.pv (F.c s (⟨#[32]⟩ : ByteArray)))) !=   0) (
             some (.tuple #[(.agg #[(.int IntKind.u8 0), (.int IntKind.i64 0), (.int IntKind.i64 0), (.int IntKind.u32 0)]), (.int IntKind.i64 6)])) (
             cond ((ls (IntKind.u8.wrap (if 0 > F.ix (F.b s (⟨#[32]⟩ : ByteArray)) then 0 else F.ix (F.b s (⟨#[32]⟩ : ByteArray)))) (-1) 0       (IntKind.u32.wrap (F.pv (F.c s (⟨#[32]⟩ : ByteArray))))).toList ==   s.toList) (
              some (.tuple #[(.agg #[(.int IntKind.u8 (IntKind.u8.wrap (if 0 > F.ix (F.b s (⟨#[32]⟩ : ByteArray)) then 0 else F.ix (F.b s (⟨#[32]⟩ : ByteArray))))), (.int IntKind.i64 (-1)), (.int IntKind.i64 0), (.int IntKind.u32 (IntKind.u32.wrap (F.pv (F.c s (⟨#[32]⟩ : ByteArray)))))]), (.int IntKind.i64 0)])) (
              some (.tuple #[(.agg #[(.int IntKind.u8 0), (.int IntKind.i64 0), (.int IntKind.i64 0), (.int IntKind.u32 0)]), (.int IntKind.i64 6)])))) (
            none)) (
           cond (gg (IntKind.u8.wrap (if 0 > F.ix (F.b s (⟨#[32]⟩ : ByteArray)) then 0 else F.ix (F.b s (⟨#[32]⟩ : ByteArray)))) (-1) 0 0) (
            cond (le (IntKind.u8.wrap (if 0 > F.ix (F.b s (⟨#[32]⟩ : ByteArray)) then 0 else F.ix (F.b s (⟨#[32]⟩ : ByteArray)))) (-1) 0 0 != 0) (
             some (.tuple #[(.agg #[(.int IntKind.u8 0), (.int IntKind.i64 0), (.int IntKind.i64 0), (.int IntKind.u32 0)]), (.int IntKind.i64 6)])) (
             cond ((ls (IntKind.u8.wrap (if 0 > F.ix (F.b s (⟨#[32]⟩ : ByteArray)) then 0 else F.ix (F.b s (⟨#[32]⟩ : ByteArray)))) (-1) 0       0).toList ==   s.toList) (
              some (.tuple #[(.agg #[(.int IntKind.u8 (IntKind.u8.wrap (if 0 > F.ix (F.b s (⟨#[32]⟩ : ByteArray)) then 0 else F.ix (F.b s (⟨#[32]⟩ : ByteArray))))), (.int IntKind.i64 (-1)), (.int IntKind.i64 0), (.int IntKind.u32 0)]), (.int IntKind.i64 0)])) (
              some (.tuple #[(.agg #[(.int IntKind.u8 0), (.int IntKind.i64 0), (.int IntKind.i64 0), (.int IntKind.u32 0)]), (.int IntKind.i64 6)])))) (
            none)))) (
         cond (IntKind.u8.wrap (if 0 > F.ix (F.b s (⟨#[32]⟩ : ByteArray)) then 0 else F.ix (F.b s (⟨#[32]⟩ : ByteArray))) == 4) (
          cond (gg (IntKind.u8.wrap (if 0 > F.ix (F.b s (⟨#[32]⟩ : ByteArray)) then 0 else F.ix (F.b s (⟨#[32]⟩ : ByteArray)))) (-1)   (IntKind.i64.wrap (F.pv (F.c s (⟨#[32]⟩ : ByteArray)))) 0) (
           cond (le (IntKind.u8.wrap (if 0 > F.ix (F.b s (⟨#[32]⟩ : ByteArray)) then 0 else F.ix (F.b s (⟨#[32]⟩ : ByteArray)))) (-1)     (IntKind.i64.wrap (F.pv (F.c s (⟨#[32]⟩ : ByteArray)))) 0 !=   0) (
            some (.tuple #[(.agg #[(.int IntKind.u8 0), (.int IntKind.i64 0), (.int IntKind.i64 0), (.int IntKind.u32 0)]), (.int IntKind.i64 6)])) (
            cond ((ls (IntKind.u8.wrap (if 0 > F.ix (F.b s (⟨#[32]⟩ : ByteArray)) then 0 else F.ix (F.b s (⟨#[32]⟩ : ByteArray)))) (-1)       (IntKind.i64.wrap (F.pv (F.c s (⟨#[32]⟩ : ByteArray)))) 0).toList ==   s.toList) (
             some (.tuple #[(.agg #[(.int IntKind.u8 (IntKind.u8.wrap (if 0 > F.ix (F.b s (⟨#[32]⟩ : ByteArray)) then 0 else F.ix (F.b s (⟨#[32]⟩ : ByteArray))))), (.int IntKind.i64 (-1)), (.int IntKind.i64 (IntKind.i64.wrap (F.pv (F.c s (⟨#[32]⟩ : ByteArray))))), (.int IntKind.u32 0)]), (.int IntKind.i64 0)])) (
             some (.tuple #[(.agg #[(.int IntKind.u8 0), (.int IntKind.i64 0), (.int IntKind.i64 0), (.int IntKind.u32 0)]), (.int IntKind.i64 6)])))) (
           none)) (
          cond (decide (F.pv (F.c s (⟨#[32]⟩ : ByteArray)) < 4294967296)) (
           cond (gg (IntKind.u8.wrap (if 0 > F.ix (F.b s (⟨#[32]⟩ : ByteArray)) then 0 else F.ix (F.b s (⟨#[32]⟩ : ByteArray)))) (-1) 0   (IntKind.u32.wrap (F.pv (F.c s (⟨#[32]⟩ : ByteArray))))) (
            cond (le (IntKind.u8.wrap (if 0 > F.ix (F.b s (⟨#[32]⟩ : ByteArray)) then 0 else F.ix (F.b s (⟨#[32]⟩ : ByteArray)))) (-1) 0     (IntKind.u32.wrap (F.pv (F.c s (⟨#[32]⟩ : ByteArray)))) !=   0) (
             some (.tuple #[(.agg #[(.int IntKind.u8 0), (.int IntKind.i64 0), (.int IntKind.i64 0), (.int IntKind.u32 0)]), (.int IntKind.i64 6)])) (
             cond ((ls (IntKind.u8.wrap (if 0 > F.ix (F.b s (⟨#[32]⟩ : ByteArray)) then 0 else F.ix (F.b s (⟨#[32]⟩ : ByteArray)))) (-1) 0       (IntKind.u32.wrap (F.pv (F.c s (⟨#[32]⟩ : ByteArray))))).toList ==   s.toList) (
              some (.tuple #[(.agg #[(.int IntKind.u8 (IntKind.u8.wrap (if 0 > F.ix (F.b s (⟨#[32]⟩ : ByteArray)) then 0 else F.ix (F.b s (⟨#[32]⟩ : ByteArray))))), (.int IntKind.i64 (-1)), (.int IntKind.i64 0), (.int IntKind.u32 (IntKind.u32.wrap (F.pv (F.c s (⟨#[32]⟩ : ByteArray)))))]), (.int IntKind.i64 0)])) (
              some (.tuple #[(.agg #[(.int IntKind.u8 0), (.int IntKind.i64 0), (.int IntKind.i64 0), (.int IntKind.u32 0)]), (.int IntKind.i64 6)])))) (
            none)) (
           cond (gg (IntKind.u8.wrap (if 0 > F.ix (F.b s (⟨#[32]⟩ : ByteArray)) then 0 else F.ix (F.b s (⟨#[32]⟩ : ByteArray)))) (-1) 0 0) (
            cond (le (IntKind.u8.wrap (if 0 > F.ix (F.b s (⟨#[32]⟩ : ByteArray)) then 0 else F.ix (F.b s (⟨#[32]⟩ : ByteArray)))) (-1) 0 0 != 0) (
             some (.tuple #[(.agg #[(.int IntKind.u8 0), (.int IntKind.i64 0), (.int IntKind.i64 0), (.int IntKind.u32 0)]), (.int IntKind.i64 6)])) (
             cond ((ls (IntKind.u8.wrap (if 0 > F.ix (F.b s (⟨#[32]⟩ : ByteArray)) then 0 else F.ix (F.b s (⟨#[32]⟩ : ByteArray)))) (-1) 0       0).toList ==   s.toList) (
              some (.tuple #[(.agg #[(.int IntKind.u8 (IntKind.u8.wrap (if 0 > F.ix (F.b s (⟨#[32]⟩ : ByteArray)) then 0 else F.ix (F.b s (⟨#[32]⟩ : ByteArray))))), (.int IntKind.i64 (-1)), (.int IntKind.i64 0), (.int IntKind.u32 0)]), (.int IntKind.i64 0)])) (
              some (.tuple #[(.agg #[(.int IntKind.u8 0), (.int IntKind.i64 0), (.int IntKind.i64 0), (.int IntKind.u32 0)]), (.int IntKind.i64 6)])))) (
            none))))) (
        none))) (
      none)) (
     none))) (
   none)) (
  none) := by kernel_rfl
end Go.Proofs.YtgohnfkidkomhaaDoor

noncomputable section
namespace Go.Proofs.YtgohnfkidkomhaaDoor
open Go.Proofs.YtgohnfkidkomhaaDoor.Ev Go.RowKit

/-! trace.Read: what it answers. -/
theorem fn_idx {gl : Gl} : FnOK Tryd.prog gl 71 (afIdx (Lib.idxOfS wordsL)) := by
  intro args σ c v hk hc φ w args' hr hl
  subst hc
  unfold afIdx at hk
  split at hk
  · rename_i a n cc x
    split at hk
    · rename_i b hb
      obtain ⟨xs, h1, h2⟩ := Option.bind_eq_some_iff.1 hk
      simp only [Option.some.injEq, Prod.mk.injEq] at h2
      obtain ⟨g1, rfl⟩ := h2
      obtain ⟨rfl, rfl, g3⟩ := of_cl g1
      have hcells := strsOf_spec h1
      obtain ⟨hlen, hl⟩ := hl
      obtain ⟨x0, x1, e⟩ : ∃ x0 x1, args'.toList = [x0, x1] := by
        match hq : args'.toList, hlen with
        | [x0, x1], _ => exact ⟨x0, x1, rfl⟩
      have v0 := hl 0 _ x0 rfl (by rw [e]; rfl)
      have v1 := hl 1 _ x1 rfl (by rw [e]; rfl)
      cases v1
      cases v0 with
      | slice _ a' _ _ c' hs =>
        obtain ⟨s1, s2, r, s3, s4, s5, s6⟩ := hs
        obtain ⟨r', y, hr1, hr2, hr3⟩ := hr.live a.block _ hb
        rw [s3] at hr1; cases hr1
        obtain ⟨cl, fz', rfl, hcl, hcap⟩ := hr3
        have hoff : a'.off = a.off ∧ cc ≤ c' := by
          cases hrc : r.cap with
          | none => obtain ⟨h, h'⟩ := s5 hrc; exact ⟨h, by omega⟩
          | some q =>
            obtain ⟨S, z⟩ := q
            obtain ⟨h, h', _⟩ := s6 S z hrc
            exact ⟨h' (by omega), h⟩
        obtain ⟨blk, off, spot⟩ := a'
        simp only at s2 s4 hoff
        obtain ⟨rfl, hcc⟩ := hoff
        subst s2
        subst s4
        have e : args' = #[.slice (some ⟨r.blk, a.off, none⟩) 13 c', .string x] := by rw [← Array.toArray_toList (xs := args'), e]
        subst e
        refine Calls.mono (Tryd.slices_Index_string r.blk a.off 13 c' wordsL x w (by decide) (by decide) ?_) ?_
        · intro j hj
          have hj : j < 13 := hj
          have h3 : ((b.cells.drop a.off).take 13)[j]? = some (.string (wordsL.getD j ByteArray.empty)) := by
            rw [hcells, List.getElem?_map, List.getElem?_eq_getElem (show j < wordsL.length from hj), List.getD_eq_getElem?_getD, List.getElem?_eq_getElem (show j < wordsL.length from hj)]
            rfl
          rw [List.getElem?_take_of_lt hj, List.getElem?_drop] at h3
          obtain ⟨v', h4, h5⟩ := hcl _ _ h3
          cases h5
          unfold World.cell?
          simp only [hr2]
          simpa using h4
        · rintro e w1 ⟨rfl, rfl⟩
          refine ⟨_, rfl, ?_, Below.refl _ _⟩
          rw [show wordsL.take 13 = wordsL from rfl]
          exact .int _ _
    · cases hk
  · cases hk
theorem idxS_bd (x : ByteArray) : ∀ (zs : List ByteArray) (i : Nat), Lib.idxFromS zs x i = -1 ∨ ((i : Int) ≤ Lib.idxFromS zs x i ∧ Lib.idxFromS zs x i < i + zs.length)
  | [], i => .inl rfl
  | z :: zs, i => by
    unfold Lib.idxFromS
    split
    · right
      rw [List.length_cons]
      omega
    · have := idxS_bd x zs (i + 1)
      rw [List.length_cons]
      omega
def kdW (x : ByteArray) : Int := IntKind.u8.wrap (if 0 > Lib.idxOfS wordsL x then 0 else Lib.idxOfS wordsL x)
def kdI (x : ByteArray) : Int := if 0 > Lib.idxOfS wordsL x then 0 else Lib.idxOfS wordsL x
theorem kdW_eq (x : ByteArray) : kdW x = kdI x ∧ 0 ≤ kdI x ∧ kdI x ≤ 12 := by
  have h := idxS_bd x wordsL 0
  have h2 : wordsL.length = 13 := rfl
  rw [h2] at h
  have h : Lib.idxOfS wordsL x = -1 ∨ ((0 : Int) ≤ Lib.idxOfS wordsL x ∧ Lib.idxOfS wordsL x < 13) := by
    unfold Lib.idxOfS; omega
  unfold kdW kdI
  generalize Lib.idxOfS wordsL x = i at h
  have e : 0 ≤ (if 0 > i then 0 else i) ∧ (if 0 > i then 0 else i) ≤ 12 := by split <;> omega
  generalize (if 0 > i then 0 else i) = j at e
  refine ⟨wrap_u8 e.1 (by omega), e.1, e.2⟩
def evS : C4 ByteArray := fun k c n u => cond (emay k c n u) (tlB k c n u) ⟨#[]⟩
def evE : C4 Int := fun k c n u => cond (emay k c n u) 0 2
theorem evLV_eq : evLV = fun k c n u => .tuple #[.string (evS k c n u), .int .i64 (evE k c n u)] := by
  funext k c n u
  unfold evLV evS evE
  cases emay k c n u <;> rfl
def zeroEv : Value := .tuple #[evV 0 0 0 0, .int .i64 6]
def rdR (k c n u : Int) (s : ByteArray) : Value := cond (emay k c n u && decide (tlB k c n u = s)) (.tuple #[evV k c n u, .int .i64 0]) zeroEv
theorem rd_fin {k c n u : Int} (s : ByteArray) (hg : GT k c n u = true) : cond (GT k c n u) (cond (evE k c n u != 0) (some zeroEv) (cond ((evS k c n u).toList == s.toList) (some (.tuple #[evV k c n u, .int .i64 0])) (some zeroEv))) none = some (rdR k c n u s) := by
  rw [hg, cond_true]
  unfold evE evS rdR
  rw [beqS]
  cases he : emay k c n u with
  | false => rfl
  | true =>
    rw [show ((cond true (0 : Int) 2) != 0) = false from rfl, cond_false, Bool.true_and, cond_true]
    cases decide (tlB k c n u = s) <;> rfl
def puOk (s : ByteArray) : Bool := numOk (Lib.parseUintB 63 s.data.toList)
def atOk2 (s : ByteArray) : Bool := numOk (Lib.atoiAll s.data.toList)
theorem puI_bd (s : ByteArray) : 0 ≤ puI s ∧ puI s ≤ 9223372036854775807 := by
  unfold puI
  split
  · rename_i u h
    have := Lib.parseUintB_le h
    have e : (2 : Nat) ^ 63 - 1 = 9223372036854775807 := by decide
    rw [e] at this
    omega
  · omega
  · omega
def coreI (a : ByteArray) : Int := cond (atOk2 a) (atI a) (-1)
def rd3 (k co : Int) (c s : ByteArray) : Value := cond (k == 4) (rdR k co (puI c) 0 s) (cond (decide (puI c < 4294967296)) (rdR k co 0 (puI c) s) (rdR k co 0 0 s))
def spB : ByteArray := ⟨#[32]⟩
def rdL (s : ByteArray) : List ByteArray → Value
  | [a, b] => rdR (kdI b) (coreI a) 0 0 s
  | [a, b, c] => rd3 (kdI b) (coreI a) c s
  | _ => zeroEv
def rdV (s : ByteArray) : Value := rdL s (splB s spB)
/-! The callees, by how many pieces there are. -/
def gSp (n : Nat) (s sep : ByteArray) : Bool := cl (s.size < 4294967281 ∧ 1 ≤ sep.size ∧ (splB s sep).length = n)
def gSpB (s sep : ByteArray) : Bool := cl (s.size < 4294967281 ∧ 1 ≤ sep.size ∧ 4 ≤ (splB s sep).length)
theorem sp_len {s sep : ByteArray} (h : 1 ≤ sep.size) : 1 ≤ (splB s sep).length := by rw [spl_len s sep h]; omega
theorem spT_n {l : List ByteArray} {n : Nat} (h : l.length = n) (h1 : 1 ≤ n) (h3 : n ≤ 3) : (spT l).run = some (spOut n ((List.range n).map (nthS l))) := by
  unfold spT
  simp only [DT.run, h]
  rcases (show n = 1 ∨ n = 2 ∨ n = 3 by omega) with rfl | rfl | rfl <;> rfl
theorem spT_b {l : List ByteArray} (h : 4 ≤ l.length) : (spT l).run = some (spBig l.length []) := by
  unfold spT
  simp only [DT.run]
  rw [nbeq_f (by omega), nbeq_f (by omega), nbeq_f (by omega)]
  rfl
theorem sp_hd {s sep : ByteArray} {r : Out} (h1 : s.size < 4294967281) (h2 : 1 ≤ sep.size) (h : (spT (splB s sep)).run = some r) : ∃ t, spHd [.string s, .string sep] [] = some t ∧ t.run = some r := by
  refine ⟨_, rfl, ?_⟩
  show cond (cl _) _ _ = _
  rw [cl_t ⟨h1, h2⟩]
  exact h
theorem sp1_sub {gl : Gl} {m : Int} (hm : gl 1 0 = some (.int .i64 m)) : SubOK Tryd.prog gl 70 (spH1 (gSp 1) (fun s p => nthS (splB s p) 0)) := by
  intro vs rows t e v rows' h1 h2
  unfold spH1 at h1
  split at h1
  case h_2 => cases h1
  cases h1
  obtain ⟨hg, h3⟩ := brT h2
  obtain ⟨g1, g2, g3⟩ := of_cl hg
  obtain ⟨t, k1, k2⟩ := sp_hd g1 g2 (spT_n g3 (by decide) (by decide))
  exact split_sub hm _ _ t e v rows' k1 (k2.trans h3)
theorem sp2_sub {gl : Gl} {m : Int} (hm : gl 1 0 = some (.int .i64 m)) : SubOK Tryd.prog gl 70 (spH2 (gSp 2) (fun s p => nthS (splB s p) 0) (fun s p => nthS (splB s p) 1)) := by
  intro vs rows t e v rows' h1 h2
  unfold spH2 at h1
  split at h1
  case h_2 => cases h1
  cases h1
  obtain ⟨hg, h3⟩ := brT h2
  obtain ⟨g1, g2, g3⟩ := of_cl hg
  obtain ⟨t, k1, k2⟩ := sp_hd g1 g2 (spT_n g3 (by decide) (by decide))
  exact split_sub hm _ _ t e v rows' k1 (k2.trans h3)
theorem sp3_sub {gl : Gl} {m : Int} (hm : gl 1 0 = some (.int .i64 m)) : SubOK Tryd.prog gl 70 (spH3 (gSp 3) (fun s p => nthS (splB s p) 0) (fun s p => nthS (splB s p) 1) (fun s p => nthS (splB s p) 2)) := by
  intro vs rows t e v rows' h1 h2
  unfold spH3 at h1
  split at h1
  case h_2 => cases h1
  cases h1
  obtain ⟨hg, h3⟩ := brT h2
  obtain ⟨g1, g2, g3⟩ := of_cl hg
  obtain ⟨t, k1, k2⟩ := sp_hd g1 g2 (spT_n g3 (by decide) (by decide))
  exact split_sub hm _ _ t e v rows' k1 (k2.trans h3)
theorem spb_sub {gl : Gl} {m : Int} (hm : gl 1 0 = some (.int .i64 m)) : SubOK Tryd.prog gl 70 (spHB gSpB (fun s p => (splB s p).length)) := by
  intro vs rows t e v rows' h1 h2
  unfold spHB at h1
  split at h1
  case h_2 => cases h1
  cases h1
  obtain ⟨hg, h3⟩ := brT h2
  obtain ⟨g1, g2, g3⟩ := of_cl hg
  obtain ⟨t, k1, k2⟩ := sp_hd g1 g2 (spT_b g3)
  exact split_sub hm _ _ t e v rows' k1 (k2.trans h3)
theorem puF_sub {gl : Gl} (hE : Errs gl) : SubOK Tryd.prog gl 73 (puHdF puOk puI) := by
  intro vs rows t e v rows' h1 h2
  unfold puHdF at h1
  split at h1
  case h_2 => cases h1
  rename_i s b c
  cases h1
  obtain ⟨hb, h3⟩ := brT h2
  obtain ⟨hs, h4⟩ := brT h3
  simp only [Bool.and_eq_true, decide_eq_true_eq] at hb
  obtain ⟨rfl, rfl⟩ := hb
  refine pu63_sub hE _ _ _ e v rows' rfl ?_
  show cond (cl _) _ _ = _
  rw [cl_t ⟨of_cl hs, rfl, rfl⟩]
  exact h4
def RF (g : ByteArray → ByteArray → Bool) : RdF := ⟨g, Lib.idxOfS wordsL, fun s p => nthS (splB s p) 0, fun s p => nthS (splB s p) 1, fun s p => nthS (splB s p) 2, atOk2, atI, puOk, puI⟩
theorem HTd_ok {gl : Gl} (hgl : Low gl) (hp : GlP gl) (hE : Errs gl) {sp : Hd} (hs : SubOK Tryd.prog gl 70 sp) (g : ByteArray → ByteArray → Bool) : (HTd sp (RF g) GT evS evE).OK Tryd.prog gl := hsOf_ok (fun p h => by
    simp only [List.mem_cons, List.not_mem_nil, or_false] at h
    rcases h with rfl | rfl
    · exact fn_idx
    · rw [← evLV_eq]; exact fn_tline hgl hp) (fun p h => by
    simp only [List.mem_cons, List.not_mem_nil, or_false] at h
    rcases h with rfl | rfl | rfl
    · exact hs
    · exact at72_sub hE
    · exact puF_sub hE) (fun _ h => by cases h)
theorem GT_i {k c n u : Int} (h1 : n ≤ 9223372036854775807) (h2 : 0 ≤ u) (h3 : u < 4294967296) : GT k c n u = true := by
  unfold GT
  rw [decide_eq_true h1, decide_eq_true h2, decide_eq_true h3]; rfl
theorem read3_eq (gl : Gl) {s : ByteArray} (hs : s.size ≤ 100000) (hl : (splB s spB).length = 3) (hz : ∀ p ∈ splB s spB, p.size ≤ 100000) : evT gl (HTd (spH3 (gSp 3) (fun s p => nthS (splB s p) 0) (fun s p => nthS (splB s p) 1) (fun s p => nthS (splB s p) 2)) (RF (gSp 3)) GT evS evE) 34 [.string s] = some (rdV s) := by
  obtain ⟨a, b, c, hq⟩ : ∃ a b c, splB s spB = [a, b, c] := by
    match hq : splB s spB, hl with
    | [a, b, c], _ => exact ⟨a, b, c, rfl⟩
  have hR : rdV s = rd3 (kdI b) (coreI a) c s := by unfold rdV; rw [hq]; rfl
  rw [hR]
  have za : a.size ≤ 100000 := hz a (by rw [hq]; simp)
  have zc : c.size ≤ 100000 := hz c (by rw [hq]; simp)
  obtain ⟨kw, k0, k1⟩ := kdW_eq b
  obtain ⟨p0, p1⟩ := puI_bd c
  have w1 : IntKind.i64.wrap ((RF (gSp 3)).pv c) = puI c := wrap_id (puI c) (by omega)
  have ea : (RF (gSp 3)).a s (⟨#[32]⟩ : ByteArray) = a := by show nthS (splB s spB) 0 = a; rw [hq]; rfl
  have eb : (RF (gSp 3)).b s (⟨#[32]⟩ : ByteArray) = b := by show nthS (splB s spB) 1 = b; rw [hq]; rfl
  have ec : (RF (gSp 3)).c s (⟨#[32]⟩ : ByteArray) = c := by show nthS (splB s spB) 2 = c; rw [hq]; rfl
  have ek : IntKind.u8.wrap (if 0 > (RF (gSp 3)).ix b then 0 else (RF (gSp 3)).ix b) = kdI b := kw
  have hk : ∀ co : Int, (cond (kdI b == 4) (cond (GT (kdI b) co (puI c) 0) (cond (evE (kdI b) co (puI c) 0 != 0) (some zeroEv) (cond ((evS (kdI b) co (puI c) 0).toList == s.toList) (some (.tuple #[evV (kdI b) co (puI c) 0, .int .i64 0])) (some zeroEv))) none)
      (cond (decide (puI c < 4294967296)) (cond (GT (kdI b) co 0 (IntKind.u32.wrap (puI c))) (cond (evE (kdI b) co 0 (IntKind.u32.wrap (puI c)) != 0) (some zeroEv) (cond ((evS (kdI b) co 0 (IntKind.u32.wrap (puI c))).toList == s.toList) (some (.tuple #[evV (kdI b) co 0 (IntKind.u32.wrap (puI c)), .int .i64 0])) (some zeroEv))) none)
        (cond (GT (kdI b) co 0 0) (cond (evE (kdI b) co 0 0 != 0) (some zeroEv) (cond ((evS (kdI b) co 0 0).toList == s.toList) (some (.tuple #[evV (kdI b) co 0 0, .int .i64 0])) (some zeroEv))) none)) : Option Value) = some (rd3 (kdI b) co c s) := fun co => by
    unfold rd3
    cases kdI b == 4 with
    | true => exact rd_fin s (GT_i p1 (by decide) (by decide))
    | false =>
      rw [cond_false, cond_false]
      by_cases hu : puI c < 4294967296
      · rw [decide_eq_true hu, cond_true, cond_true, wrap_u32 p0 hu]
        exact rd_fin s (GT_i (by decide) p0 hu)
      · rw [decide_eq_false hu, cond_false, cond_false]
        exact rd_fin s (GT_i (by decide) (by decide) (by decide))
  refine (r_read3 gl (RF (gSp 3)) GT evS evE s).trans ?_
  rw [ea, eb, ec, ek]
  refine condI (cl_t ⟨by omega, by decide, hl⟩) (condI (cl_t ⟨rfl, rfl, by decide⟩) ((qs_eq _ _).trans (condI (veq_str b) (condI (cl_t (by omega)) ?_))))
  have key : ∀ co : Int, coreI a = co → (cond (cl (c.size ≤ 281474976710656)) (cond (puOk c) (some (rd3 (kdI b) co c s)) (some (rd3 (kdI b) co c s))) none : Option Value) = some (rd3 (kdI b) (coreI a) c s) := fun co h => by
    rw [h, cl_t (by omega), cond_true]
    cases puOk c <;> rfl
  refine condC (fun h => ?_) (fun h => ?_)
  · have e : coreI a = atI a := by unfold coreI; rw [show atOk2 a = true from h]; rfl
    rw [← key _ e, ← hk (atI a)]
    rw [w1]
    rfl
  · have e : coreI a = -1 := by unfold coreI; rw [show atOk2 a = false from h]; rfl
    rw [← key _ e, ← hk (-1)]
    rw [w1]
    rfl
theorem read2_eq (gl : Gl) {s : ByteArray} (hs : s.size ≤ 100000) (hl : (splB s spB).length = 2) (hz : ∀ p ∈ splB s spB, p.size ≤ 100000) : evT gl (HTd (spH2 (gSp 2) (fun s p => nthS (splB s p) 0) (fun s p => nthS (splB s p) 1)) (RF (gSp 2)) GT evS evE) 34 [.string s] = some (rdV s) := by
  obtain ⟨a, b, hq⟩ : ∃ a b, splB s spB = [a, b] := by
    match hq : splB s spB, hl with
    | [a, b], _ => exact ⟨a, b, rfl⟩
  have hR : rdV s = rdR (kdI b) (coreI a) 0 0 s := by unfold rdV; rw [hq]; rfl
  rw [hR]
  have za : a.size ≤ 100000 := hz a (by rw [hq]; simp)
  obtain ⟨kw, k0, k1⟩ := kdW_eq b
  have ea : (RF (gSp 2)).a s (⟨#[32]⟩ : ByteArray) = a := by show nthS (splB s spB) 0 = a; rw [hq]; rfl
  have eb : (RF (gSp 2)).b s (⟨#[32]⟩ : ByteArray) = b := by show nthS (splB s spB) 1 = b; rw [hq]; rfl
  have ek : IntKind.u8.wrap (if 0 > (RF (gSp 2)).ix b then 0 else (RF (gSp 2)).ix b) = kdI b := kw
  have hk : ∀ co : Int, coreI a = co → (cond (GT (kdI b) co 0 0) (cond (evE (kdI b) co 0 0 != 0) (some zeroEv) (cond ((evS (kdI b) co 0 0).toList == s.toList) (some (.tuple #[evV (kdI b) co 0 0, .int .i64 0])) (some zeroEv))) none : Option Value) = some (rdR (kdI b) (coreI a) 0 0 s) := fun co h => by
    rw [h]
    exact rd_fin s (GT_i (by decide) (by decide) (by decide))
  refine (r_read2 gl (RF (gSp 2)) GT evS evE s).trans ?_
  rw [ea, eb, ek]
  refine condI (cl_t ⟨by omega, by decide, hl⟩) (condI (cl_t ⟨rfl, rfl, by decide⟩) ((qs_eq _ _).trans (condI (veq_str b) (condI (cl_t (by omega)) ?_))))
  refine condC (fun h => ?_) (fun h => ?_)
  · have e : coreI a = atI a := by unfold coreI; rw [show atOk2 a = true from h]; rfl
    exact hk _ e
  · have e : coreI a = -1 := by unfold coreI; rw [show atOk2 a = false from h]; rfl
    exact hk _ e
theorem read1_eq (gl : Gl) {s : ByteArray} (hs : s.size ≤ 100000) (hl : (splB s spB).length = 1) : evT gl (HTd (spH1 (gSp 1) (fun s p => nthS (splB s p) 0)) (RF (gSp 1)) GT evS evE) 34 [.string s] = some (rdV s) := by
  obtain ⟨a, hq⟩ : ∃ a, splB s spB = [a] := by
    match hq : splB s spB, hl with
    | [a], _ => exact ⟨a, rfl⟩
  have hR : rdV s = zeroEv := by unfold rdV; rw [hq]; rfl
  rw [hR]
  exact (r_read1 gl (RF (gSp 1)) GT evS evE s).trans (condI (cl_t ⟨by omega, by decide, hl⟩) rfl)
theorem readB_eq (gl : Gl) {s : ByteArray} (hs : s.size ≤ 100000) (hl : 4 ≤ (splB s spB).length) : evT gl (HTd (spHB gSpB (fun s p => (splB s p).length)) (RF gSpB) GT evS evE) 34 [.string s] = some (rdV s) := by
  have hR : rdV s = zeroEv := by
    unfold rdV rdL
    split
    · rename_i h; rw [h] at hl; simp at hl
    · rename_i h; rw [h] at hl; simp at hl
    · rfl
  rw [hR]
  have hl2 : 4 ≤ (splB s ⟨#[32]⟩).length := hl
  refine (r_readB gl (RF gSpB) GT evS evE (fun s p => (splB s p).length) s).trans (condI (cl_t ⟨by omega, by decide, hl⟩) ?_)
  refine condC (fun h => rfl) (fun h => condI (decide_eq_true ?_) rfl)
  show (((splB s ⟨#[32]⟩).length : Nat) : Int) > 3
  omega
/-! The pieces are no longer than the text. -/
theorem joinC_ge (c : UInt8) : ∀ {ps : List ByteArray} {p : ByteArray}, p ∈ ps → p.size ≤ (joinC c ps).size
  | [], p, h => by cases h
  | [q], p, h => by
    rw [List.mem_singleton] at h
    subst h
    exact Nat.le_refl _
  | q :: r :: l, p, h => by
    rw [joinC, ByteArray.size_append, ByteArray.size_append]
    rcases List.mem_cons.1 h with rfl | h
    · omega
    · have := joinC_ge c h
      omega
theorem splB_le {s p : ByteArray} {c : UInt8} (h : p ∈ splB s ⟨#[c]⟩) : p.size ≤ s.size := by
  have := joinC_ge c h
  rwa [splB_join] at this
def afRd : AF := fun args _ => match args with
  | [.string s] => some (decide (s.size ≤ 100000), rdV s)
  | _ => none
theorem rdR_af (k c n u : Int) (s : ByteArray) : af 8 (rdR k c n u s) = true := by
  unfold rdR
  cases emay k c n u && decide (tlB k c n u = s) <;> rfl
theorem rdV_af (s : ByteArray) : af 8 (rdV s) = true := by
  unfold rdV rdL
  split
  · exact rdR_af ..
  · unfold rd3
    rename_i a b c _
    cases kdI b == 4
    · rw [cond_false]
      cases decide (puI c < 4294967296)
      · exact rdR_af ..
      · exact rdR_af ..
    · exact rdR_af ..
  · rfl
theorem fn_tread {gl : Gl} {m : Int} (hgl : Low gl) (hp : GlP gl) (hE : Errs gl) (hm : gl 1 0 = some (.int .i64 m)) : FnOK Tryd.prog gl 34 afRd :=
  FnOK.flat hgl tglob fun args σ v e => by
    unfold afRd at e
    split at e
    · rename_i s
      simp only [Option.some.injEq, Prod.mk.injEq, decide_eq_true_eq] at e
      obtain ⟨hs, rfl⟩ := e
      refine ⟨rfl, rdV_af s, fun w hw => ?_⟩
      have hz : ∀ p ∈ splB s spB, p.size ≤ 100000 := fun p hp => by
        have := splB_le hp
        omega
      have h1 := sp_len (s := s) (sep := spB) (by decide)
      rcases (show (splB s spB).length = 1 ∨ (splB s spB).length = 2 ∨ (splB s spB).length = 3 ∨ 4 ≤ (splB s spB).length by omega) with h | h | h | h
      · exact flatS noSy_ok goodB hgl tglob (HTd_ok hgl hp hE (sp1_sub hm) _) rfl (read1_eq gl hs h) hw
      · exact flatS noSy_ok goodB hgl tglob (HTd_ok hgl hp hE (sp2_sub hm) _) rfl (read2_eq gl hs h hz) hw
      · exact flatS noSy_ok goodB hgl tglob (HTd_ok hgl hp hE (sp3_sub hm) _) rfl (read3_eq gl hs h hz) hw
      · exact flatS noSy_ok goodB hgl tglob (HTd_ok hgl hp hE (spb_sub hm) _) rfl (readB_eq gl hs h) hw
    · cases e
end Go.Proofs.YtgohnfkidkomhaaDoor

noncomputable section
namespace Go.Proofs.YtgohnfkidkomhaaDoor
open Go.Proofs.YtgohnfkidkomhaaDoor.Ev Go.RowKit

/-! Events are read as they were told. -/
theorem kd_word {k : Int} (h0 : 1 ≤ k) (h1 : k ≤ 12) : kdI (kindB k) = k ∧ NoB 32 (kindB k) := by
  rcases (show k = 1 ∨ k = 2 ∨ k = 3 ∨ k = 4 ∨ k = 5 ∨ k = 6 ∨ k = 7 ∨ k = 8 ∨ k = 9 ∨ k = 10 ∨ k = 11 ∨ k = 12 by omega) with rfl | rfl | rfl | rfl | rfl | rfl | rfl | rfl | rfl | rfl | rfl | rfl
  all_goals
    refine ⟨?_, by unfold NoB; decide⟩
    unfold kdI Lib.idxOfS
    decide
theorem who_core {c : Int} (h0 : -1 ≤ c) (h1 : c ≤ 15) : coreI (whoB c) = c ∧ NoB 32 (whoB c) := by
  by_cases h : c = -1
  · subst h
    have e : whoB (-1) = homeB := rfl
    rw [e]
    refine ⟨?_, by unfold NoB homeB; decide⟩
    have e2 : atOk2 homeB = false := by decide
    unfold coreI
    rw [e2]
    rfl
  · have e : whoB c = itoaB c := by unfold whoB; rw [decide_eq_false h]; rfl
    rw [e]
    have ha := atoi_itoa (n := c) (by omega) (by omega)
    refine ⟨?_, itoa_no (by omega) (by decide)⟩
    unfold coreI atOk2 atI
    rw [ha]
    rfl
theorem pu_itoa {n : Int} (h0 : 0 ≤ n) (h1 : n ≤ 9223372036854775807) : puI (itoaB n) = n := by
  unfold puI
  rw [pu63_itoa h0 h1]
  show ((n.toNat : Nat) : Int) = n
  omega
theorem app_empty (a : ByteArray) : a ++ (⟨#[]⟩ : ByteArray) = a := by
  apply ba_ext
  rw [app_data]
  exact List.append_nil _
theorem rd_self {k c n u : Int} (h : EMay k c n u) : rdR k c n u (tlB k c n u) = .tuple #[evV k c n u, .int .i64 0] := by
  unfold rdR emay
  rw [decide_eq_true h, decide_eq_true rfl]
  rfl
theorem rd_told {k c n u : Int} (h : EMay k c n u) (hn : n ≤ 9223372036854775807) (hu : 0 ≤ u) (hu2 : u < 4294967296) : rdV (tlB k c n u) = .tuple #[evV k c n u, .int .i64 0] := by
  have hE := h
  unfold EMay at h
  obtain ⟨k0, k1, c0, c1, _, h4, h5, h6⟩ := h
  obtain ⟨w1, w2⟩ := who_core c0 c1
  obtain ⟨d1, d2⟩ := kd_word k0 k1
  rw [← rd_self hE]
  generalize hs : tlB k c n u = s
  have hs2 := hs
  unfold tlB restB at hs
  unfold rdV
  by_cases e4 : k = 4
  · subst e4
    have hu0 : u = 0 := by omega
    subst hu0
    have hsp : splB s spB = [whoB c, kindB 4, itoaB n] := by
      rw [← hs]
      have e : splB (itoaB n) spB = [itoaB n] := splB_one (itoa_no (by omega) (by decide))
      show splB (whoB c ++ ((⟨#[32]⟩ : ByteArray) ++ (kindB 4 ++ ((⟨#[32]⟩ : ByteArray) ++ itoaB n)))) ⟨#[32]⟩ = _
      rw [splB_app _ w2, splB_app _ d2]
      exact congrArg (fun l => whoB c :: kindB 4 :: l) e
    rw [hsp]
    show rd3 (kdI (kindB 4)) (coreI (whoB c)) (itoaB n) s = _
    rw [d1, w1]
    unfold rd3
    rw [pu_itoa (by omega) hn]
    rfl
  · have e4f : decide (k = 4) = false := decide_eq_false e4
    rw [e4f, cond_false] at hs
    have hn0 : n = 0 := h5 e4
    subst hn0
    have e4b : (k == 4) = false := by rw [beq_eq_false_iff_ne]; exact e4
    by_cases eu : k = 5 ∨ k = 7 ∨ k = 11
    · have e5 : (decide (k = 5) || decide (k = 7) || decide (k = 11)) = true := by
        simp only [Bool.or_eq_true, decide_eq_true_eq]; omega
      rw [e5, cond_true] at hs
      have hsp : splB s spB = [whoB c, kindB k, itoaB u] := by
        rw [← hs]
        have e : splB (itoaB u) spB = [itoaB u] := splB_one (itoa_no (by omega) (by decide))
        show splB (whoB c ++ ((⟨#[32]⟩ : ByteArray) ++ (kindB k ++ ((⟨#[32]⟩ : ByteArray) ++ itoaB u)))) ⟨#[32]⟩ = _
        rw [splB_app _ w2, splB_app _ d2]
        exact congrArg (fun l => whoB c :: kindB k :: l) e
      rw [hsp]
      show rd3 (kdI (kindB k)) (coreI (whoB c)) (itoaB u) s = _
      rw [d1, w1]
      unfold rd3
      rw [pu_itoa hu (by omega), e4b, decide_eq_true hu2]
      rfl
    · have e5 : (decide (k = 5) || decide (k = 7) || decide (k = 11)) = false := by
        rw [Bool.eq_false_iff]
        simp only [ne_eq, Bool.or_eq_true, decide_eq_true_eq]; omega
      rw [e5, cond_false] at hs
      have hu0 : u = 0 := by omega
      subst hu0
      have hsp : splB s spB = [whoB c, kindB k] := by
        rw [← hs, app_empty]
        show splB (whoB c ++ ((⟨#[32]⟩ : ByteArray) ++ kindB k)) ⟨#[32]⟩ = _
        rw [splB_app _ w2, splB_one d2]
      rw [hsp]
      show rdR (kdI (kindB k)) (coreI (whoB c)) 0 0 s = _
      rw [d1, w1]
/-- What is read: an event that may be, of which the text is the line; or none. -/
theorem rd_cases (s : ByteArray) : (∃ k c n u, EMay k c n u ∧ n ≤ 9223372036854775807 ∧ 0 ≤ u ∧ u < 4294967296 ∧ tlB k c n u = s ∧ rdV s = .tuple #[evV k c n u, .int .i64 0]) ∨ rdV s = zeroEv := by
  have key : ∀ k c n u : Int, n ≤ 9223372036854775807 → 0 ≤ u → u < 4294967296 → (∃ k c n u, EMay k c n u ∧ n ≤ 9223372036854775807 ∧ 0 ≤ u ∧ u < 4294967296 ∧ tlB k c n u = s ∧ rdR k c n u s = .tuple #[evV k c n u, .int .i64 0]) ∨ rdR k c n u s = zeroEv := fun k c n u h1 h2 h3 => by
    cases hc : emay k c n u && decide (tlB k c n u = s) with
    | false => right; unfold rdR; rw [hc]; rfl
    | true =>
      left
      simp only [Bool.and_eq_true, decide_eq_true_eq] at hc
      exact ⟨k, c, n, u, of_decide_eq_true hc.1, h1, h2, h3, hc.2, by unfold rdR; rw [hc.1, decide_eq_true hc.2]; rfl⟩
  have fin : ∀ k c n u : Int, rdV s = rdR k c n u s → n ≤ 9223372036854775807 → 0 ≤ u → u < 4294967296 → (∃ k c n u, EMay k c n u ∧ n ≤ 9223372036854775807 ∧ 0 ≤ u ∧ u < 4294967296 ∧ tlB k c n u = s ∧ rdV s = .tuple #[evV k c n u, .int .i64 0]) ∨ rdV s = zeroEv := fun k c n u e h1 h2 h3 => by
    rcases key k c n u h1 h2 h3 with ⟨k', c', n', u', g1, g2, g3, g4, g5, g6⟩ | g
    · left
      refine ⟨k', c', n', u', g1, g2, g3, g4, g5, ?_⟩
      rw [← g5]
      exact rd_told g1 g2 g3 g4
    · right; rw [e]; exact g
  match hq : splB s spB with
  | [a, b] => exact fin (kdI b) (coreI a) 0 0 (by unfold rdV; rw [hq]; rfl) (by decide) (by decide) (by decide)
  | [a, b, c] =>
    have hR : rdV s = rd3 (kdI b) (coreI a) c s := by unfold rdV; rw [hq]; rfl
    obtain ⟨p0, p1⟩ := puI_bd c
    unfold rd3 at hR
    cases h4 : kdI b == 4 with
    | true => rw [h4] at hR; exact fin _ _ _ _ hR p1 (by decide) (by decide)
    | false =>
      rw [h4, cond_false] at hR
      by_cases hu : puI c < 4294967296
      · rw [decide_eq_true hu] at hR
        exact fin _ _ _ _ hR (by decide) p0 hu
      · rw [decide_eq_false hu] at hR
        exact fin _ _ _ _ hR (by decide) (by decide) (by decide)
  | [] => right; unfold rdV; rw [hq]; rfl
  | [_] => right; unfold rdV; rw [hq]; rfl
  | _ :: _ :: _ :: _ :: _ => right; unfold rdV; rw [hq]; rfl
end Go.Proofs.YtgohnfkidkomhaaDoor

noncomputable section
namespace Go.Proofs.YtgohnfkidkomhaaDoor
open Go.Proofs.YtgohnfkidkomhaaDoor.Ev Go.RowKit

/-! TraceBack: its residual; works. -/
structure RdG where
  g : ByteArray → Bool
  k : ByteArray → Int
  c : ByteArray → Int
  n : ByteArray → Int
  u : ByteArray → Int
  e : ByteArray → Int
def RdG.v (R : RdG) (s : ByteArray) : Value := .tuple #[evV (R.k s) (R.c s) (R.n s) (R.u s), .int .i64 (R.e s)]
def afRdG (R : RdG) : AF := fun args _ => match args with
  | [.string s] => some (R.g s, R.v s)
  | _ => none
def afEvF (gg : C4 Bool) (ls : C4 ByteArray) (le : C4 Int) : AF := afEv gg fun k c n u => .tuple #[.string (ls k c n u), .int .i64 (le k c n u)]
def HW26 (gg : C4 Bool) (ls : C4 ByteArray) (le : C4 Int) : Hs := hsOf [(30, afEvF gg ls le)] [] []
set_option maxRecDepth 100000 in
theorem r_w26 (gl : Gl) (gg : C4 Bool) (ls : C4 ByteArray) (le : C4 Int) : evT gl (HW26 gg ls le) 16 [] =
 cond (gg 4 3 7 0) (
  cond ((ls 4 3 7 0).toList == (⟨#[51, 32, 99, 111, 109, 109, 105, 116, 32, 55]⟩ : ByteArray).toList) (
   cond (le 4 3 7 0 == 0) (
    some (.bool true)) (
    some (.bool false))) (
   some (.bool false))) (
  none) := by kernel_rfl
end Go.Proofs.YtgohnfkidkomhaaDoor

noncomputable section
namespace Go.Proofs.YtgohnfkidkomhaaDoor
open Go.Proofs.YtgohnfkidkomhaaDoor.Ev Go.RowKit
open Go.ChangeShapes Go.WideShapes Go.ChangeAt

/-! TraceBack: true, of any event and any text. -/
def evNum (j : Nat) : Value → Int
  | .tuple ⟨[.agg ⟨[.int _ k, .int _ c, .int _ n, .int _ u]⟩, .int _ e]⟩ => nthI [k, c, n, u, e] j
  | _ => 0
def RD : RdG := ⟨fun s => decide (s.size ≤ 100000), fun s => evNum 0 (rdV s), fun s => evNum 1 (rdV s), fun s => evNum 2 (rdV s), fun s => evNum 3 (rdV s), fun s => evNum 4 (rdV s)⟩
theorem RD_v (s : ByteArray) : rdV s = RD.v s := by
  unfold RdG.v RD
  rcases rd_cases s with ⟨k, c, n, u, _, _, _, _, _, h⟩ | h <;> simp only [h] <;> rfl
theorem afRd_eq : afRd = afRdG RD := by
  funext args σ
  unfold afRd afRdG
  split
  · rename_i s
    rw [RD_v]; rfl
  · rename_i h
    first
    | rfl
    | (split
       · rename_i s; exact (h s rfl).elim
       · rfl)
theorem afEv_eq : afEv GT evLV = afEvF GT evS evE := by rw [evLV_eq]; rfl
theorem eqI0 (a : Int) : (a == a) = true := beq_self_eq_true _
def glE (m : Int) (u0 o0 u1 o1 : Nat) : Gl := glOf [(4, [.iface u0 (.pointer (some ⟨900, o0, none⟩))]), (3, [.iface u1 (.pointer (some ⟨901, o1, none⟩))]), (2, pow10L.map (.int .u64)), (1, [.int .i64 m])]
theorem glE_low (m : Int) (u0 o0 u1 o1 : Nat) : Low (glE m u0 o0 u1 o1) := lowTabs (by rfl)
theorem glE_P (m : Int) (u0 o0 u1 o1 : Nat) : GlP (glE m u0 o0 u1 o1) := fun i z h => by
  show (pow10L.map (Value.int .u64))[i]? = _
  rw [pow10L_eq, List.getElem?_map, h]
  rfl
theorem glE_E (m : Int) (u0 o0 u1 o1 : Nat) : Errs (glE m u0 o0 u1 o1) := ⟨⟨u1, _, rfl⟩, ⟨u0, _, rfl⟩⟩
theorem glE_m (m : Int) (u0 o0 u1 o1 : Nat) : glE m u0 o0 u1 o1 1 0 = some (.int .i64 m) := rfl
theorem ev_works : evS 4 3 7 0 = (⟨#[51, 32, 99, 111, 109, 109, 105, 116, 32, 55]⟩ : ByteArray) := by
  unfold evS
  rw [show emay 4 3 7 0 = true from by decide, cond_true]
  unfold tlB whoB restB
  rw [itoa_small (n := 3) (by omega) (by omega), itoa_small (n := 7) (by omega) (by omega)]
  rfl
theorem fn_works26 {gl : Gl} (hgl : Low gl) (hp : GlP gl) : FnOK Tryd.prog gl 16 afW :=
  fn_of noSy_ok goodB hgl tglob (H := HW26 GT evS evE) (one_ok fun p h => by
    simp only [List.mem_cons, List.not_mem_nil, or_false] at h
    subst h
    rw [← afEv_eq]; exact fn_tline hgl hp) (L := 100) (G := 40) (d := 40) fun args σ v e => by
    unfold afW at e
    split at e
    · simp only [Option.some.injEq, Prod.mk.injEq] at e
      obtain ⟨_, rfl⟩ := e
      refine ⟨rfl, (r_w26 gl GT evS evE).trans ?_⟩
      rw [ev_works, show evE 4 3 7 0 = 0 from by decide]
      exact condI (by decide) (condI (beq_self_eq_true _) (condI rfl rfl))
    · cases e
/-- An event that came in. -/
def OpenEv (v : Value) : Prop := ∃ k c n u : Int, v = evV k c n u ∧ n ≤ 9223372036854775807 ∧ 0 ≤ u ∧ u < 4294967296
set_option maxRecDepth 100000 in
theorem open_ev {H : Type} {enc : TypeId × Value → H} {w : World} {sp : Nat → Bool} {held : Bool} {rc : Reach} {base : Nat} {v : Value} {d : DataW H} {p : List MemPlace}
    (hv : Value.okWide Tryd.prog w rc base 31 v) (h : DataW.Trod enc Tryd.prog w 0 sp held 31 v d p) : OpenEv v := by
  obtain ⟨cs, rfl, hcs⟩ := okWide_struct Tryd.underlying31 hv
  obtain ⟨fuel, h1⟩ := h
  obtain ⟨xs, n, _, _, hl, hlen, hf⟩ := DataW.trod_struct Tryd.underlying31 h1
  have h4 : Tryd.prog.cellsOf 31 = 4 := by kernel_rfl
  have e5 : Tryd.prog.cellsOf 5 = 1 := by kernel_rfl
  have e3 : Tryd.prog.cellsOf 3 = 1 := by kernel_rfl
  have e29 : Tryd.prog.cellsOf 29 = 1 := by kernel_rfl
  have hlen : xs.length = 4 := hlen
  rw [h4] at hcs
  obtain ⟨l⟩ := cs
  obtain ⟨v0, v1, v2, v3, rfl⟩ : ∃ v0 v1 v2 v3, l = [v0, v1, v2, v3] := by
    match l, hcs with
    | [v0, v1, v2, v3], _ => exact ⟨v0, v1, v2, v3, rfl⟩
  have f0 : DataW.trod enc Tryd.prog w 0 sp held n 5 (([v0, v1, v2, v3].drop 0).take (Tryd.prog.cellsOf 5)) = xs[0]? := hf 0 _ rfl
  have f1 : DataW.trod enc Tryd.prog w 0 sp held n 3 (([v0, v1, v2, v3].drop 1).take (Tryd.prog.cellsOf 3)) = xs[1]? := hf 1 _ rfl
  have f2 : DataW.trod enc Tryd.prog w 0 sp held n 3 (([v0, v1, v2, v3].drop 2).take (Tryd.prog.cellsOf 3)) = xs[2]? := hf 2 _ rfl
  have f3 : DataW.trod enc Tryd.prog w 0 sp held n 29 (([v0, v1, v2, v3].drop 3).take (Tryd.prog.cellsOf 29)) = xs[3]? := hf 3 _ rfl
  rw [e5] at f0
  rw [e3] at f1 f2
  rw [e29] at f3
  obtain ⟨k, g0, w0⟩ := fieldI Tryd.underlying5 (by omega) f0
  obtain ⟨c, g1, w1⟩ := fieldI Tryd.underlying3 (by omega) f1
  obtain ⟨x, g2, w2⟩ := fieldI Tryd.underlying3 (by omega) f2
  obtain ⟨u, g3, w3⟩ := fieldI Tryd.underlying29 (by omega) f3
  cases g0; cases g1; cases g2; cases g3
  have hu := u32_bounds w3
  have hn : x ≤ 9223372036854775807 := by
    simp only [Lit.wf, Bool.and_eq_true, decide_eq_true_eq] at w2
    have e2 : IntKind.max .i64 = 9223372036854775807 := by decide +kernel
    rw [e2] at w2
    exact w2.2
  exact ⟨k, c, x, u, rfl, hn, hu.1, hu.2⟩
end Go.Proofs.YtgohnfkidkomhaaDoor
