/- token.number and token.reg answer the number and the register that a text begins with or is. Texts of at most a million bytes. -/
import Derived.Test.YtgohnfkidkomhaaDoorK2
import Derived.Test.YtgohnfkidkomhaaDoorK1
import Derived.Lib.AtoiErrMem
noncomputable section
noncomputable section
namespace Go.Proofs.YtgohnfkidkomhaaDoor
open Go.Proofs.YtgohnfkidkomhaaDoor.Ev Go.RowKit

/-- What token.number answers: the number, how many bytes, the error. -/
def numV (s : ByteArray) (a : Int) (b n2 : Int) : Int × Int × Int :=
  if runE (predB b) s n2 = n2 then (0, 0, 200) else
    if (puAll b (cutOf b) (subS s n2 (runE (predB b) s n2))).1 = true ∧ (puAll b (cutOf b) (subS s n2 (runE (predB b) s n2))).2 ≤ 4294967296 then
      ((if byteAt s a = 45 then - (puAll b (cutOf b) (subS s n2 (runE (predB b) s n2))).2 else (puAll b (cutOf b) (subS s n2 (runE (predB b) s n2))).2), runE (predB b) s n2 - a, 0) else (0, 0, 201)
def sgn (s : ByteArray) (a : Int) : Int := if byteAt s a = 45 then a + 1 else a
def isHex (s : ByteArray) (n : Int) : Prop := n + 1 < (s.size : Int) ∧ byteAt s n = 48 ∧ byteAt s (n + 1) = 120
open Classical in
def numC (s : ByteArray) (a : Int) : Int × Int × Int := if isHex s (sgn s a) then numV s a 16 (sgn s a + 2) else numV s a 10 (sgn s a)
def num3 (x : Int × Int × Int) : Value := .tuple #[.int .i64 x.1, .int .i64 x.2.1, .int .i64 x.2.2]

theorem prefix_eq {s : ByteArray} {l : Int} (h0 : 0 ≤ l) (h1 : l + 1 < (s.size : Int)) : ((subS (subS s l (s.size : Int)) 0 2).toList == (⟨#[48, 120]⟩ : ByteArray).toList) = (decide (byteAt s l = 48) && decide (byteAt s (l + 1) = 120)) := by
  rw [beqS]
  have z1 := subS_size (s := s) h0 (show l ≤ (s.size : Int) by omega) (Int.le_refl _)
  have z2 := subS_size (s := subS s l (s.size : Int)) (l := 0) (h := 2) (by decide) (by decide) (by omega)
  have b0 : byteAt (subS (subS s l (s.size : Int)) 0 2) 0 = byteAt s l := by
    rw [byteAt_subS (by decide) (by decide) (by omega) (by decide) (by decide), byteAt_subS h0 (by omega) (Int.le_refl _) (by decide) (by omega)]
    congr 1; omega
  have b1 : byteAt (subS (subS s l (s.size : Int)) 0 2) 1 = byteAt s (l + 1) := by
    rw [byteAt_subS (by decide) (by decide) (by omega) (by decide) (by decide), byteAt_subS h0 (by omega) (Int.le_refl _) (by decide) (by omega)]
    congr 1
  have c0 : byteAt (⟨#[48, 120]⟩ : ByteArray) 0 = 48 := rfl
  have c1 : byteAt (⟨#[48, 120]⟩ : ByteArray) 1 = 120 := rfl
  have cs : (⟨#[48, 120]⟩ : ByteArray).size = 2 := rfl
  by_cases h : byteAt s l = 48 ∧ byteAt s (l + 1) = 120
  · rw [h.1, h.2]
    have : subS (subS s l (s.size : Int)) 0 2 = (⟨#[48, 120]⟩ : ByteArray) := ext_bytes (by omega) fun i i0 i1 => by
      have : i = 0 ∨ i = 1 := by omega
      rcases this with rfl | rfl
      · rw [b0, c0, h.1]
      · rw [b1, c1, h.2]
    rw [this]
    simp
  · have hne : subS (subS s l (s.size : Int)) 0 2 ≠ (⟨#[48, 120]⟩ : ByteArray) := fun e => h (by
      rw [e] at b0 b1
      exact ⟨by rw [← b0]; rfl, by rw [← b1]; rfl⟩)
    rw [decide_eq_false hne]
    by_cases g : byteAt s l = 48
    · have : ¬ byteAt s (l + 1) = 120 := fun e => h ⟨g, e⟩
      simp [this]
    · simp [g]

theorem puGo_nn {b cut : Int} (hb : b = 10 ∨ b = 16) {t : ByteArray} (hd : ∀ i, 0 ≤ i → i < (t.size : Int) → predB b (byteAt t i) = true) : ∀ (f : Nat) (i n : Int), 0 ≤ i → 0 ≤ n → 0 ≤ (puGo b cut t f i n).2
  | 0, i, n, h0, h1 => h1
  | f + 1, i, n, h0, h1 => by
    have hnb : 0 ≤ n * b := by rcases hb with rfl | rfl <;> omega
    unfold puGo
    split
    · rename_i hi
      have := dg_range hb (hd i h0 hi)
      split
      · exact h1
      · split
        · exact hnb
        · exact puGo_nn hb hd f (i + 1) _ (by omega) (by omega)
    · exact h1
def numT (s : ByteArray) (a : Int) (p : Int → Bool) (b cut n2 : Int) : Option Value :=
  cond (decide (0 ≤ n2) && decide (s.size ≤ 1000000)) (
   cond (IntKind.i64.wrap (runE p s n2 - n2) == 0) (
    some (.tuple #[(.int IntKind.i64 0), (.int IntKind.i64 0), (.int IntKind.i64 200)])) (
    cond (decide (0 ≤ n2) && decide (n2 ≤ IntKind.i64.wrap (n2 + IntKind.i64.wrap (runE p s n2 - n2))) && decide (IntKind.i64.wrap (n2 + IntKind.i64.wrap (runE p s n2 - n2)) ≤ (↑s.size : Int))) (
     cond (decide ((subS s n2 (IntKind.i64.wrap (n2 + IntKind.i64.wrap (runE p s n2 - n2)))).size ≤ 1000000) && decide (1 ≤ (subS s n2 (IntKind.i64.wrap (n2 + IntKind.i64.wrap (runE p s n2 - n2)))).size) && allB (predB b) (subS s n2 (IntKind.i64.wrap (n2 + IntKind.i64.wrap (runE p s n2 - n2))))) (
      cond ((puAll b cut (subS s n2 (IntKind.i64.wrap (n2 + IntKind.i64.wrap (runE p s n2 - n2))))).fst) (
       cond (decide ((puAll b cut (subS s n2 (IntKind.i64.wrap (n2 + IntKind.i64.wrap (runE p s n2 - n2))))).snd > 4294967296)) (
        some (.tuple #[(.int IntKind.i64 0), (.int IntKind.i64 0), (.int IntKind.i64 201)])) (
        cond (decide (0 ≤ a) && decide (a < (↑s.size : Int))) (
         cond (byteAt s a == 45) (
          some (.tuple #[(.int IntKind.i64 (IntKind.i64.wrap (0 - IntKind.i64.wrap (puAll b cut (subS s n2 (IntKind.i64.wrap (n2 + IntKind.i64.wrap (runE p s n2 - n2))))).snd))), (.int IntKind.i64 (IntKind.i64.wrap (IntKind.i64.wrap (n2 + IntKind.i64.wrap (runE p s n2 - n2)) - a))), (.int IntKind.i64 0)])) (
          some (.tuple #[(.int IntKind.i64 (IntKind.i64.wrap (puAll b cut (subS s n2 (IntKind.i64.wrap (n2 + IntKind.i64.wrap (runE p s n2 - n2))))).snd)), (.int IntKind.i64 (IntKind.i64.wrap (IntKind.i64.wrap (n2 + IntKind.i64.wrap (runE p s n2 - n2)) - a))), (.int IntKind.i64 0)]))) (
         none))) (
       some (.tuple #[(.int IntKind.i64 0), (.int IntKind.i64 0), (.int IntKind.i64 201)]))) (
      none)) (
     none))) (
   none)
theorem numT_eq {s : ByteArray} {a b n2 : Int} (hb : b = 10 ∨ b = 16) (h0 : 0 ≤ a) (h1 : a < (s.size : Int)) (hs : s.size ≤ 1000000) (h2 : a ≤ n2) (h3 : n2 ≤ (s.size : Int)) : numT s a (predB b) b (cutOf b) n2 = some (num3 (numV s a b n2)) := by
  obtain ⟨r1, r2⟩ := runE_le (p := predB b) h3
  have w1 : IntKind.i64.wrap (runE (predB b) s n2 - n2) = runE (predB b) s n2 - n2 := wrap_id _ (by omega)
  have e2 : n2 + (runE (predB b) s n2 - n2) = runE (predB b) s n2 := by omega
  have w2 : IntKind.i64.wrap (runE (predB b) s n2) = runE (predB b) s n2 := wrap_id _ (by omega)
  have w3 : IntKind.i64.wrap (runE (predB b) s n2 - a) = runE (predB b) s n2 - a := wrap_id _ (by omega)
  have c0 : 0 ≤ n2 := by omega
  unfold numT numV
  by_cases hz : runE (predB b) s n2 = n2
  · have hzz : (IntKind.i64.wrap (runE (predB b) s n2 - n2) == 0) = true := by rw [w1, hz]; simp
    rw [hzz, if_pos hz]
    simp only [c0, hs, decide_true, Bool.and_self, cond_true]
    rfl
  · have hzz : (IntKind.i64.wrap (runE (predB b) s n2 - n2) == 0) = false := by rw [w1]; simp; omega
    rw [hzz, if_neg hz]
    simp only [w1, e2, w2, w3]
    have zs := subS_size (s := s) c0 r1 r2
    have hall : allB (predB b) (subS s n2 (runE (predB b) s n2)) = true := by
      unfold allB
      rw [decide_eq_true_eq]
      refine runE_top _ 0 rfl (by omega) fun i i0 i1 => ?_
      rw [byteAt_subS c0 r1 r2 i0 (by omega)]
      exact runE_in _ n2 rfl h3 _ (by omega) (by omega)
    have z1 : (subS s n2 (runE (predB b) s n2)).size ≤ 1000000 := by omega
    have z2 : 1 ≤ (subS s n2 (runE (predB b) s n2)).size := by omega
    have hnn : 0 ≤ (puAll b (cutOf b) (subS s n2 (runE (predB b) s n2))).2 := puGo_nn hb (fun i i0 i1 => allB_spec hall i0 i1) _ _ _ (by omega) (by omega)
    simp only [c0, hs, r1, r2, z1, z2, hall, decide_true, Bool.and_self, cond_true, cond_false, h0, h1]
    generalize puAll b (cutOf b) (subS s n2 (runE (predB b) s n2)) = r at hnn
    obtain ⟨ok, v⟩ := r
    cases ok with
    | false => simp only [cond_false, Bool.false_eq_true, false_and, if_false]; rfl
    | true =>
      simp only [cond_true, true_and]
      by_cases hv : v > 4294967296
      · rw [decide_eq_true hv, cond_true, if_neg (by omega)]
        rfl
      · rw [decide_eq_false hv, cond_false, if_pos (by omega)]
        simp only at hnn
        have w4 : IntKind.i64.wrap v = v := wrap_id _ (by omega)
        have w5 : IntKind.i64.wrap (0 - v) = - v := by rw [wrap_id _ (by omega)]; omega
        rw [w4, w5]
        by_cases h45 : byteAt s a = 45
        · rw [show (byteAt s a == 45) = true by rw [h45]; rfl, cond_true, if_pos h45]
          rfl
        · rw [show (byteAt s a == 45) = false by simpa using h45, cond_false, if_neg h45]
          rfl
def numW (s : ByteArray) (a n1 : Int) : Option Value :=
  cond (decide (0 ≤ n1) && decide (n1 ≤ (s.size : Int)) && decide ((s.size : Int) ≤ (s.size : Int))) (cond (decide (((subS s n1 (s.size : Int)).size : Int) ≥ 2)) (cond (decide ((0 : Int) ≤ 0) && decide ((0 : Int) ≤ 2) && decide (2 ≤ ((subS s n1 (s.size : Int)).size : Int)))
        (cond ((subS (subS s n1 (s.size : Int)) 0 2).toList == (⟨#[48, 120]⟩ : ByteArray).toList) (numT s a hexB 16 1152921504606846976 (IntKind.i64.wrap (n1 + 2))) (numT s a digitB 10 1844674407370955162 n1)) none) (numT s a digitB 10 1844674407370955162 n1)) none
set_option maxRecDepth 100000 in
theorem r_num2 (gl : Gl) (u0 o0 : Nat) (s : ByteArray) (a : Int) : ev gl (H5 u0 o0) 56 [.string s, .int .i64 a] =
    cond (decide (0 ≤ a) && decide (a < (s.size : Int))) (cond (byteAt s a == 45) (numW s a (IntKind.i64.wrap (a + 1))) (numW s a a)) none := by kernel_rfl
theorem num_eq (gl : Gl) (u0 o0 : Nat) {s : ByteArray} {a : Int} (h0 : 0 ≤ a) (h1 : a < (s.size : Int)) (hs : s.size ≤ 1000000) : ev gl (H5 u0 o0) 56 [.string s, .int .i64 a] = some (num3 (numC s a)) := by
  rw [r_num2]
  have key : ∀ n1 : Int, 0 ≤ n1 → n1 ≤ (s.size : Int) → a ≤ n1 → sgn s a = n1 → numW s a n1 = some (num3 (numC s a)) := by
    intro n1 k0 k1 k2 hsg
    have zs := subS_size (s := s) k0 k1 (Int.le_refl _)
    have hdec : numT s a digitB 10 1844674407370955162 n1 = some (num3 (numV s a 10 n1)) := numT_eq (b := 10) (.inl rfl) h0 h1 hs k2 k1
    unfold numW numC
    simp only [k0, k1, Int.le_refl, decide_true, Bool.and_self, cond_true]
    rw [hsg]
    by_cases g : n1 + 1 < (s.size : Int)
    · have g1 : ((subS s n1 (s.size : Int)).size : Int) ≥ 2 := by omega
      have g2 : (2 : Int) ≤ ((subS s n1 (s.size : Int)).size : Int) := g1
      have g3 : (0 : Int) ≤ 2 := by decide
      have w : IntKind.i64.wrap (n1 + 2) = n1 + 2 := wrap_id _ (by omega)
      have hhex : numT s a hexB 16 1152921504606846976 (n1 + 2) = some (num3 (numV s a 16 (n1 + 2))) := numT_eq (b := 16) (.inr rfl) h0 h1 hs (by omega) (by omega)
      simp only [g1, g2, g3, decide_true, Bool.and_self, cond_true, prefix_eq k0 g, w, hdec, hhex]
      by_cases hx : byteAt s n1 = 48 ∧ byteAt s (n1 + 1) = 120
      · rw [if_pos ⟨g, hx.1, hx.2⟩]
        simp only [hx.1, hx.2, decide_true, Bool.and_self, cond_true]
      · rw [if_neg fun q => hx ⟨q.2.1, q.2.2⟩]
        by_cases q : byteAt s n1 = 48
        · have q2 : ¬ byteAt s (n1 + 1) = 120 := fun e => hx ⟨q, e⟩
          simp only [q, q2, decide_true, decide_false, Bool.and_false, cond_false]
        · simp only [q, decide_false, Bool.false_and, cond_false]
    · have g1 : ¬ ((subS s n1 (s.size : Int)).size : Int) ≥ 2 := by omega
      rw [if_neg fun q => g q.1]
      simp only [g1, decide_false, cond_false, hdec]
  rw [decide_eq_true h0, decide_eq_true h1, Bool.and_self, cond_true]
  by_cases h45 : byteAt s a = 45
  · rw [show (byteAt s a == 45) = true by rw [h45]; rfl, cond_true]
    have w : IntKind.i64.wrap (a + 1) = a + 1 := wrap_id _ (by omega)
    rw [w]
    exact key (a + 1) (by omega) (by omega) (by omega) (if_pos h45)
  · rw [show (byteAt s a == 45) = false by simpa using h45, cond_false]
    exact key a h0 (by omega) (by omega) (if_neg h45)
end Go.Proofs.YtgohnfkidkomhaaDoor

noncomputable section
namespace Go.Proofs.YtgohnfkidkomhaaDoor
open Go.Proofs.YtgohnfkidkomhaaDoor.Ev Go.RowKit

/-! Registers. -/
def afAt (ok : ByteArray → Bool) (v : ByteArray → Int) : AF := fun args _ => match args with
  | [.string s] => some (ok s, .tuple #[.int .i64 (v s), .nilIface])
  | _ => none
def atOk (s : ByteArray) : Bool := decide (s.size ≤ 18) && (Lib.atoi s.data.toList).isSome
def atV (s : ByteArray) : Int := (Lib.atoi s.data.toList).getD 0
theorem fnAtoi {gl : Gl} (hgl : ∀ g k v, gl g k = some v → g < 1000 ∧ lowV 8 v = true) : FnOK Tryd.prog gl 72 (afAt atOk atV) := FnOK.flat hgl tglob fun args σ v h => by
  unfold afAt at h
  split at h
  · rename_i s
    simp only [Option.some.injEq, Prod.mk.injEq] at h
    obtain ⟨h1, rfl⟩ := h
    simp only [atOk, Bool.and_eq_true, decide_eq_true_eq] at h1
    obtain ⟨n, hn⟩ := Option.isSome_iff_exists.1 h1.2
    refine ⟨rfl, rfl, fun w _ => Calls.mono (Tryd.strconv_Atoi s n h1.1 hn w) ?_⟩
    rintro e w' ⟨rfl, t, rfl⟩
    refine ⟨?_, Lib.bytesWorld_below w _ t⟩
    unfold atV
    rw [hn]
    rfl
  · cases h
def H6 (ok : ByteArray → Bool) (v : ByteArray → Int) : Hs := hsOf ((72, afAt ok v) :: afs1) [] [(51, [(0, ⟨runLive, runOut, runH⟩)])]
set_option maxRecDepth 100000 in
theorem r_reg (gl : Gl) (ok : ByteArray → Bool) (v : ByteArray → Int) (s : ByteArray) : ev gl (H6 ok v) 54 [.string s] =
 cond (decide ((↑s.size : Int) < 2)) (
  some (.int IntKind.i64 (-1))) (
  cond (decide ((↑s.size : Int) > 3)) (
   some (.int IntKind.i64 (-1))) (
   cond (decide (0 < (↑s.size : Int))) (
    cond (byteAt s 0 != 114) (
     some (.int IntKind.i64 (-1))) (
     cond (decide (s.size ≤ 1000000)) (
      cond (IntKind.i64.wrap (runE digitB s 1 - 1) != IntKind.i64.wrap ((↑s.size : Int) - 1)) (
       some (.int IntKind.i64 (-1))) (
       cond ((↑s.size : Int) == 3) (
        cond (decide (1 < (↑s.size : Int))) (
         cond (byteAt s 1 == 48) (
          some (.int IntKind.i64 (-1))) (
          cond (decide (1 ≤ (↑s.size : Int)) && (decide ((↑s.size : Int) ≤ (↑s.size : Int)))) (
           cond (ok (subS s 1 (↑s.size : Int))) (
            cond (decide (v (subS s 1 (↑s.size : Int)) ≥ 16)) (
             some (.int IntKind.i64 (-1))) (
             some (.int IntKind.i64 (v (subS s 1 (↑s.size : Int)))))) (
            none)) (
           none))) (
         none)) (
        cond (decide (1 ≤ (↑s.size : Int)) && (decide ((↑s.size : Int) ≤ (↑s.size : Int)))) (
         cond (ok (subS s 1 (↑s.size : Int))) (
          cond (decide (v (subS s 1 (↑s.size : Int)) ≥ 16)) (
           some (.int IntKind.i64 (-1))) (
           some (.int IntKind.i64 (v (subS s 1 (↑s.size : Int)))))) (
          none)) (
         none)))) (
      none))) (
    none))) := by kernel_rfl
set_option maxRecDepth 100000 in
theorem r_Reg (gl : Gl) (s : ByteArray) : ev gl H0 59 [.string s] =
 cond (s.toList == ((⟨#[114]⟩ : ByteArray) ++ { data := #[UInt8.ofNat 48] }).toList) (
  some (.int IntKind.i64 0)) (
  cond (s.toList == ((⟨#[114]⟩ : ByteArray) ++ { data := #[UInt8.ofNat 49] }).toList) (
   some (.int IntKind.i64 1)) (
   cond (s.toList == ((⟨#[114]⟩ : ByteArray) ++ { data := #[UInt8.ofNat 50] }).toList) (
    some (.int IntKind.i64 2)) (
    cond (s.toList == ((⟨#[114]⟩ : ByteArray) ++ { data := #[UInt8.ofNat 51] }).toList) (
     some (.int IntKind.i64 3)) (
     cond (s.toList == ((⟨#[114]⟩ : ByteArray) ++ { data := #[UInt8.ofNat 52] }).toList) (
      some (.int IntKind.i64 4)) (
      cond (s.toList == ((⟨#[114]⟩ : ByteArray) ++ { data := #[UInt8.ofNat 53] }).toList) (
       some (.int IntKind.i64 5)) (
       cond (s.toList == ((⟨#[114]⟩ : ByteArray) ++ { data := #[UInt8.ofNat 54] }).toList) (
        some (.int IntKind.i64 6)) (
        cond (s.toList == ((⟨#[114]⟩ : ByteArray) ++ { data := #[UInt8.ofNat 55] }).toList) (
         some (.int IntKind.i64 7)) (
         cond (s.toList == ((⟨#[114]⟩ : ByteArray) ++ { data := #[UInt8.ofNat 56] }).toList) (
          some (.int IntKind.i64 8)) (
          cond (s.toList == ((⟨#[114]⟩ : ByteArray) ++ { data := #[UInt8.ofNat 57] }).toList) (
           some (.int IntKind.i64 9)) (
           cond (s.toList == ((⟨#[114]⟩ : ByteArray) ++ ({ data := #[UInt8.ofNat 49] } ++ { data := #[UInt8.ofNat 48] })).toList) (
            some (.int IntKind.i64 10)) (
            cond (s.toList == ((⟨#[114]⟩ : ByteArray) ++ ({ data := #[UInt8.ofNat 49] } ++ { data := #[UInt8.ofNat 49] })).toList) (
             some (.int IntKind.i64 11)) (
             cond (s.toList == ((⟨#[114]⟩ : ByteArray) ++ ({ data := #[UInt8.ofNat 49] } ++ { data := #[UInt8.ofNat 50] })).toList) (
              some (.int IntKind.i64 12)) (
              cond (s.toList == ((⟨#[114]⟩ : ByteArray) ++ ({ data := #[UInt8.ofNat 49] } ++ { data := #[UInt8.ofNat 51] })).toList) (
               some (.int IntKind.i64 13)) (
               cond (s.toList == ((⟨#[114]⟩ : ByteArray) ++ ({ data := #[UInt8.ofNat 49] } ++ { data := #[UInt8.ofNat 52] })).toList) (
                some (.int IntKind.i64 14)) (
                cond (s.toList == ((⟨#[114]⟩ : ByteArray) ++ ({ data := #[UInt8.ofNat 49] } ++ { data := #[UInt8.ofNat 53] })).toList) (
                 some (.int IntKind.i64 15)) (
                 some (.int IntKind.i64 (-1)))))))))))))))))) := by kernel_rfl
/-- The register that a text is; -1: none. -/
def regC (s : ByteArray) : Int :=
  if s.size = 2 ∧ byteAt s 0 = 114 ∧ 48 ≤ byteAt s 1 ∧ byteAt s 1 ≤ 57 then byteAt s 1 - 48 else
    if s.size = 3 ∧ byteAt s 0 = 114 ∧ byteAt s 1 = 49 ∧ 48 ≤ byteAt s 2 ∧ byteAt s 2 ≤ 53 then byteAt s 2 - 38 else -1
theorem eq2 (s : ByteArray) (x : UInt8) : (s.toList == ((⟨#[114]⟩ : ByteArray) ++ (⟨#[x]⟩ : ByteArray)).toList) = decide (s.size = 2 ∧ byteAt s 0 = 114 ∧ byteAt s 1 = x.toNat) := by
  rw [beqS]
  have e : ((⟨#[114]⟩ : ByteArray) ++ (⟨#[x]⟩ : ByteArray)) = (⟨#[114, x]⟩ : ByteArray) := rfl
  rw [e]
  congr 1
  refine propext ⟨fun h => ?_, fun h => ?_⟩
  · subst h; exact ⟨rfl, rfl, rfl⟩
  · refine ext_bytes h.1 fun i i0 i1 => ?_
    have : i = 0 ∨ i = 1 := by omega
    rcases this with rfl | rfl
    · exact h.2.1
    · exact h.2.2
theorem eq3 (s : ByteArray) (x y : UInt8) : (s.toList == ((⟨#[114]⟩ : ByteArray) ++ ((⟨#[x]⟩ : ByteArray) ++ (⟨#[y]⟩ : ByteArray))).toList) = decide (s.size = 3 ∧ byteAt s 0 = 114 ∧ byteAt s 1 = x.toNat ∧ byteAt s 2 = y.toNat) := by
  rw [beqS]
  have e : ((⟨#[114]⟩ : ByteArray) ++ ((⟨#[x]⟩ : ByteArray) ++ (⟨#[y]⟩ : ByteArray))) = (⟨#[114, x, y]⟩ : ByteArray) := rfl
  rw [e]
  congr 1
  refine propext ⟨fun h => ?_, fun h => ?_⟩
  · subst h; exact ⟨rfl, rfl, rfl, rfl⟩
  · refine ext_bytes h.1 fun i i0 i1 => ?_
    have : i = 0 ∨ i = 1 ∨ i = 2 := by omega
    rcases this with rfl | rfl | rfl
    · exact h.2.1
    · exact h.2.2.1
    · exact h.2.2.2
theorem Reg_eq (gl : Gl) (s : ByteArray) : ev gl H0 59 [.string s] = some (.int .i64 (regC s)) := by
  rw [r_Reg]
  simp only [eq2, eq3, Bool.cond_decide]
  unfold regC
  generalize byteAt s 0 = b0
  generalize byteAt s 1 = b1
  generalize byteAt s 2 = b2
  generalize s.size = n
  have c : ∀ k : Nat, k < 58 → (UInt8.ofNat k).toNat = k := fun k hk => by
    simp only [UInt8.toNat_ofNat']
    omega
  simp only [c 48 (by decide), c 49 (by decide), c 50 (by decide), c 51 (by decide), c 52 (by decide), c 53 (by decide), c 54 (by decide), c 55 (by decide), c 56 (by decide), c 57 (by decide)]
  by_cases A : n = 2 ∧ b0 = 114 ∧ 48 ≤ b1 ∧ b1 ≤ 57
  · rw [if_pos A]
    obtain ⟨rfl, rfl, h1, h2⟩ := A
    have : b1 = 48 ∨ b1 = 49 ∨ b1 = 50 ∨ b1 = 51 ∨ b1 = 52 ∨ b1 = 53 ∨ b1 = 54 ∨ b1 = 55 ∨ b1 = 56 ∨ b1 = 57 := by omega
    rcases this with rfl | rfl | rfl | rfl | rfl | rfl | rfl | rfl | rfl | rfl <;> simp
  · rw [if_neg A]
    by_cases B : n = 3 ∧ b0 = 114 ∧ b1 = 49 ∧ 48 ≤ b2 ∧ b2 ≤ 53
    · rw [if_pos B]
      obtain ⟨rfl, rfl, rfl, h1, h2⟩ := B
      have : b2 = 48 ∨ b2 = 49 ∨ b2 = 50 ∨ b2 = 51 ∨ b2 = 52 ∨ b2 = 53 := by omega
      rcases this with rfl | rfl | rfl | rfl | rfl | rfl <;> simp
    · rw [if_neg B]
      iterate 16 rw [if_neg (by omega)]
theorem atoi_one {t : ByteArray} (h : t.size = 1) (hd : digitB (byteAt t 0) = true) : atOk t = true ∧ atV t = byteAt t 0 - 48 := by
  have hl : t.data.toList.length = 1 := by rw [data_len, h]
  obtain ⟨x, hx⟩ : ∃ x, t.data.toList = [x] := List.length_eq_one_iff.1 hl
  have hb : byteAt t 0 = x.toNat := by
    unfold byteAt
    rw [hx]
    rfl
  have hd := digitB_iff.1 hd
  rw [hb] at hd
  have h45 : (x == 45) = false := by
    rw [beq_eq_false_iff_ne]
    rintro rfl
    exact absurd hd.1 (by decide)
  have h43 : (x == 43) = false := by
    rw [beq_eq_false_iff_ne]
    rintro rfl
    exact absurd hd.1 (by decide)
  have hv : Lib.digitVal x = some (x.toNat - 48) := if_pos ⟨by omega, by omega⟩
  have e : Lib.atoi t.data.toList = some (((x.toNat - 48 : Nat) : Int)) := by
    rw [hx]
    simp [Lib.atoi, h45, h43, Lib.decNat, Lib.decFrom, hv]
  unfold atOk atV
  rw [e, hb, h]
  exact ⟨rfl, by simp only [Option.getD_some]; omega⟩
theorem atoi_two {t : ByteArray} (h : t.size = 2) (hd : digitB (byteAt t 0) = true) (hd' : digitB (byteAt t 1) = true) : atOk t = true ∧ atV t = (byteAt t 0 - 48) * 10 + (byteAt t 1 - 48) := by
  have hl : t.data.toList.length = 2 := by rw [data_len, h]
  obtain ⟨x, y, hx⟩ : ∃ x y, t.data.toList = [x, y] := by
    match hq : t.data.toList, hl with
    | [x, y], _ => exact ⟨x, y, rfl⟩
  have hb : byteAt t 0 = x.toNat := by
    unfold byteAt
    rw [hx]
    rfl
  have hc : byteAt t 1 = y.toNat := by
    unfold byteAt
    rw [hx]
    rfl
  have hd := digitB_iff.1 hd
  have hd' := digitB_iff.1 hd'
  rw [hb] at hd
  rw [hc] at hd'
  have h45 : (x == 45) = false := by
    rw [beq_eq_false_iff_ne]
    rintro rfl
    exact absurd hd.1 (by decide)
  have h43 : (x == 43) = false := by
    rw [beq_eq_false_iff_ne]
    rintro rfl
    exact absurd hd.1 (by decide)
  have hv : Lib.digitVal x = some (x.toNat - 48) := if_pos ⟨by omega, by omega⟩
  have hw : Lib.digitVal y = some (y.toNat - 48) := if_pos ⟨by omega, by omega⟩
  have e : Lib.atoi t.data.toList = some ((((x.toNat - 48) * 10 + (y.toNat - 48) : Nat) : Int)) := by
    rw [hx]
    simp [Lib.atoi, h45, h43, Lib.decNat, Lib.decFrom, hv, hw]
  unfold atOk atV
  rw [e, hb, hc, h]
  exact ⟨rfl, by simp only [Option.getD_some]; omega⟩
theorem reg_eq (gl : Gl) (s : ByteArray) (hs : s.size ≤ 1000000) : ev gl (H6 atOk atV) 54 [.string s] = some (.int .i64 (regC s)) := by
  rw [r_reg]
  unfold regC
  by_cases h2 : (s.size : Int) < 2
  · rw [decide_eq_true h2, cond_true, if_neg (by omega), if_neg (by omega)]
  by_cases h3 : (s.size : Int) > 3
  · rw [decide_eq_false h2, decide_eq_true h3, cond_false, cond_true, if_neg (by omega), if_neg (by omega)]
  have z : (0 : Int) < (s.size : Int) := by omega
  have z1 : (1 : Int) < (s.size : Int) := by omega
  have z2 : (1 : Int) ≤ (s.size : Int) := by omega
  have zz : (0 : Int) ≤ 1 := by decide
  have n0 : decide ((0 : Nat) ≤ 0) = true := rfl
  have n1 : decide ((0 : Nat) ≤ 1) = true := rfl
  simp only [h2, h3, z, z1, z2, n0, n1, hs, Int.le_refl, decide_true, decide_false, cond_true, cond_false, Bool.and_self]
  by_cases h0 : byteAt s 0 = 114
  case neg =>
    rw [show (byteAt s 0 != 114) = true by simpa using h0, cond_true, if_neg (by simp [h0]), if_neg (by simp [h0])]
  rw [show (byteAt s 0 != 114) = false by simp [h0], cond_false]
  obtain ⟨r1, r2⟩ := runE_le (p := digitB) (s := s) z2
  have w1 : IntKind.i64.wrap (runE digitB s 1 - 1) = runE digitB s 1 - 1 := wrap_id _ (by omega)
  have w2 : IntKind.i64.wrap ((s.size : Int) - 1) = (s.size : Int) - 1 := wrap_id _ (by omega)
  rw [w1, w2]
  by_cases hr : runE digitB s 1 = (s.size : Int)
  case neg =>
    rw [show (runE digitB s 1 - 1 != (s.size : Int) - 1) = true by simp; omega, cond_true]
    have hst := runE_stop (p := digitB) (s := s) _ 1 rfl z2 (by omega)
    have hd : ¬ ((∀ i : Int, 1 ≤ i → i < (s.size : Int) → digitB (byteAt s i) = true)) := fun hall => by
      rw [hall _ r1 (by omega)] at hst
      cases hst
    rw [if_neg, if_neg]
    · intro q
      refine hd fun i i1 i2 => ?_
      have : i = 1 ∨ i = 2 := by omega
      rcases this with rfl | rfl
      · rw [q.2.2.1]; rfl
      · exact digitB_iff.2 ⟨q.2.2.2.1, by omega⟩
    · intro q
      refine hd fun i i1 i2 => ?_
      have : i = 1 := by omega
      subst this
      exact digitB_iff.2 q.2.2
  rw [show (runE digitB s 1 - 1 != (s.size : Int) - 1) = false by simp; omega, cond_false]
  have hall := runE_all (p := digitB) (s := s) _ 1 rfl z2 hr
  have zs := subS_size (s := s) zz z2 (Int.le_refl _)
  have b0 : byteAt (subS s 1 (s.size : Int)) 0 = byteAt s 1 := by rw [byteAt_subS zz z2 (Int.le_refl _) (by decide) (by omega)]; rfl
  have d1 := digitB_iff.1 (hall 1 (by omega) z1)
  rcases (by omega : s.size = 2 ∨ s.size = 3) with h | h
  · obtain ⟨a1, a2⟩ := atoi_one (t := subS s 1 (s.size : Int)) (by omega) (by rw [b0]; exact hall 1 (by omega) z1)
    rw [show ((s.size : Int) == 3) = false by simp; omega, cond_false, a1, cond_true, a2, b0, decide_eq_false (show ¬ (byteAt s 1 - 48 ≥ 16) by omega), cond_false, if_pos ⟨h, h0, d1.1, d1.2⟩]
  · have b1 : byteAt (subS s 1 (s.size : Int)) 1 = byteAt s 2 := by rw [byteAt_subS zz z2 (Int.le_refl _) (by decide) (by omega)]; rfl
    have d2 := digitB_iff.1 (hall 2 (by omega) (by omega))
    obtain ⟨a1, a2⟩ := atoi_two (t := subS s 1 (s.size : Int)) (by omega) (by rw [b0]; exact hall 1 (by omega) z1) (by rw [b1]; exact hall 2 (by omega) (by omega))
    rw [show ((s.size : Int) == 3) = true by simp; omega, cond_true, a1, a2, b0, b1]
    rw [if_neg (by omega)]
    by_cases h48 : byteAt s 1 = 48
    · rw [show (byteAt s 1 == 48) = true by rw [h48]; rfl, cond_true, if_neg (by omega)]
    · rw [show (byteAt s 1 == 48) = false by simpa using h48, cond_false, cond_true]
      by_cases hv : (byteAt s 1 - 48) * 10 + (byteAt s 2 - 48) ≥ 16
      · rw [decide_eq_true hv, cond_true, if_neg (by omega)]
      · rw [decide_eq_false hv, cond_false, if_pos ⟨h, h0, by omega, by omega, by omega⟩]
        refine congrArg some (congrArg (Value.int .i64) ?_)
        omega
end Go.Proofs.YtgohnfkidkomhaaDoor
