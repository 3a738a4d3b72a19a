/- strings.Split answers the parts of a text, of at most four thousand million bytes; parts of a text at a byte. -/
import Derived.Test.YtgohbcbdgakjeaaGreatDoorT1
import Derived.Test.YtgohbcbdgakjeaaGreatDoorEv6
import Derived.Lib.SplitLaws
import Derived.Lib.IndexBytes
noncomputable section
noncomputable section
namespace Go.Proofs.YtgohbcbdgakjeaaGreatDoor
open Go.Proofs.YtgohbcbdgakjeaaGreatDoor.Ev Go.RowKit
def splB (s sep : ByteArray) : List ByteArray := Lib.splitB sep 0 (Lib.countB s sep) s
theorem spl_len (s sep : ByteArray) (h : 1 ≤ sep.size) : (splB s sep).length = Lib.countB s sep + 1 := Lib.splitB_all sep h 0 _ s rfl
end Go.Proofs.YtgohbcbdgakjeaaGreatDoor
noncomputable section
namespace Go.Proofs.YtgohbcbdgakjeaaGreatDoor
open Go.Proofs.YtgohbcbdgakjeaaGreatDoor.Ev Go.RowKit
def cutL (c : UInt8) : List UInt8 → List (List UInt8)
 | [] => [[]]
 | b :: l => if b = c then [] :: cutL c l else match cutL c l with
  | [] => [[b]]
  | p :: ps => (b :: p) :: ps
theorem cutL_ne (c : UInt8) (l : List UInt8) : cutL c l ≠ [] := by
 cases l with
 | nil => exact fun h => by cases h
 | cons b l =>
  unfold cutL
  split
  ·exact fun h => by cases h
  ·split <;> exact fun h => by cases h
theorem cutL_one {c : UInt8} : ∀ {p : List UInt8}, c ∉ p → cutL c p = [p]
 | [], _ => rfl
 | b :: p, h => by
  have h1 : b ≠ c := fun e => h (by rw [e]; exact List.mem_cons_self ..)
  have h2 : c ∉ p := fun e => h (List.mem_cons_of_mem _ e)
  unfold cutL
  rw [if_neg h1, cutL_one h2]
theorem cutL_app {c : UInt8} (q : List UInt8) : ∀ {p : List UInt8}, c ∉ p → cutL c (p ++ c :: q) = p :: cutL c q
 | [], _ => by
  show cutL c (c :: q) = _
  unfold cutL
  rw [if_pos rfl]
  cases q <;> rfl
 | b :: p, h => by
  have h1 : b ≠ c := fun e => h (by rw [e]; exact List.mem_cons_self ..)
  have h2 : c ∉ p := fun e => h (List.mem_cons_of_mem _ e)
  show cutL c (b :: (p ++ c :: q)) = _
  rw [cutL, if_neg h1, cutL_app q h2]
theorem cutL_len (c : UInt8) : ∀ l : List UInt8, (cutL c l).length = l.count c + 1
 | [] => rfl
 | b :: l => by
  have ih := cutL_len c l
  rw [cutL]
  split
  ·rename_i hb
   rw [List.length_cons, ih, hb, List.count_cons_self]
  ·rename_i hb
   rw [List.count_cons_of_ne (by simpa using hb), ← ih]
   split
   ·rename_i hn
    exact absurd hn (cutL_ne c l)
   ·rename_i p ps hp
    rw [hp]; rfl
theorem splitK_cut (c : UInt8) : ∀ (n : Nat) (l : List UInt8), l.length ≤ n → Lib.splitK [c] 0 (Lib.count l [c]) l = cutL c l
 | 0, l, h => by
  have : l = [] := List.length_eq_zero_iff.1 (by omega)
  subst this
  rfl
 | n + 1, l, h => by
  by_cases hm : Lib.index l [c] = -1
  ·rw [Lib.count_miss hm]
   rw [Lib.index_one] at hm
   refine (cutL_one fun e => ?_).symm
   obtain ⟨k, hk⟩ := List.getElem?_of_mem e
   exact Lib.indexByte_none hm k hk
  ·have hge := Lib.index_ge l [c]
   obtain ⟨i, hi⟩ : ∃ i : Nat, Lib.index l [c] = i := ⟨(Lib.index l [c]).toNat, by omega⟩
   have h1 := Lib.indexByte_some (l := l) (c := c) (o := i) (by rw [← Lib.index_one]; exact hi)
   obtain ⟨hlt, hget⟩ := List.getElem?_eq_some_iff.1 h1.1
   have hl : l = l.take i ++ c :: l.drop (i + 1) := by
    conv => lhs; rw [← List.take_append_drop i l]
    rw [List.drop_eq_getElem_cons hlt, hget]
   have hno : c ∉ l.take i := fun e => by
    obtain ⟨k, hk⟩ := List.getElem?_of_mem e
    rw [List.getElem?_take] at hk
    split at hk
    ·rename_i hlt2
     exact h1.2 k hlt2 hk
    ·cases hk
   rw [Lib.count_hit (by simp) hi, Nat.add_comm 1]
   have hb : (Lib.index l [c] == -1) = false := by rw [hi, beq_eq_false_iff_ne]; omega
   have e1 : (Lib.index l [c]).toNat = i := by omega
   show (if Lib.index l [c] == -1 then [l] else _) = _
   rw [hb, e1]
   show l.take (i + 0) :: Lib.splitK [c] 0 (Lib.count (l.drop (i + 1)) [c]) (l.drop (i + 1)) = _
   rw [splitK_cut c n (l.drop (i + 1)) (by rw [List.length_drop]; omega), Nat.add_zero]
   conv => rhs; rw [hl]
   rw [cutL_app _ hno]
theorem ba_ext {a b : ByteArray} (h : a.data.toList = b.data.toList) : a = b := by
 obtain ⟨⟨la⟩⟩ := a
 obtain ⟨⟨lb⟩⟩ := b
 simp only at h
 rw [h]
theorem splB_cut (s : ByteArray) (c : UInt8) : splB s ⟨#[c]⟩ = (cutL c s.data.toList).map fun l => ⟨l.toArray⟩ := by
 have h := Lib.splitB_data ⟨#[c]⟩ 0 (Lib.countB s ⟨#[c]⟩) s
 have h2 : (splB s ⟨#[c]⟩).map (·.data.toList) = cutL c s.data.toList := h.trans (splitK_cut c _ _ (Nat.le_refl _))
 rw [← h2, List.map_map]
 conv => lhs; rw [← List.map_id (splB s ⟨#[c]⟩)]
 refine List.map_congr_left fun x _ => ?_
 exact ba_ext (by simp)
def NoB (c : UInt8) (s : ByteArray) : Prop := c ∉ s.data.toList
theorem app_data (a b : ByteArray) : (a ++ b).data.toList = a.data.toList ++ b.data.toList := by
 rw [ByteArray.data_append, Array.toList_append]
theorem one_data (c : UInt8) : (⟨#[c]⟩ : ByteArray).data.toList = [c] := rfl
theorem ba_eta (a : ByteArray) : (⟨a.data.toList.toArray⟩ : ByteArray) = a := ba_ext (by simp)
theorem splB_one {c : UInt8} {a : ByteArray} (h : NoB c a) : splB a ⟨#[c]⟩ = [a] := by
 rw [splB_cut, cutL_one h, List.map_singleton, ba_eta]
theorem splB_app {c : UInt8} {a : ByteArray} (b : ByteArray) (h : NoB c a) : splB (a ++ ((⟨#[c]⟩ : ByteArray) ++ b)) ⟨#[c]⟩ = a :: splB b ⟨#[c]⟩ := by
 rw [splB_cut, app_data, app_data, one_data, List.singleton_append, cutL_app _ h, List.map_cons, ba_eta, ← splB_cut]
theorem splB_count (s : ByteArray) (c : UInt8) : (splB s ⟨#[c]⟩).length = s.data.toList.count c + 1 := by
 rw [splB_cut, List.length_map, cutL_len]
end Go.Proofs.YtgohbcbdgakjeaaGreatDoor
