/- The document's assembler of one line comes to what asm.Make comes to; the document's bodies, names and sections. -/
import Derived.Test.YtgohbcbdgakjeaaGreatDoorR2
import Derived.Test.YtgohbcbdgakjeaaGreatDoorB1
noncomputable section
noncomputable section
namespace Go.Proofs.YtgohbcbdgakjeaaGreatDoor
open Go.Proofs.YtgohbcbdgakjeaaGreatDoor.Ev Go.RowKit
structure OneS where
 n : Int
 ln : Int
 x : Int
 lb : ByteArray
def oneNil : OneS := ⟨0, 0, 0, ⟨#[]⟩⟩
theorem rgC_all (l : List Int) : (rgC l).all (af 8) = true := by
 unfold rgC
 rw [List.all_eq_true]
 intro v hv
 obtain ⟨w, _, rfl⟩ := List.mem_map.1 hv
 rfl
theorem rgC_len (l : List Int) : (rgC l).length = l.length := by unfold rgC; rw [List.length_map]
theorem rgC_snoc (l : List Int) (x : Int) : rgC l ++ [.int .i64 x] = rgC (l ++ [x]) := by unfold rgC; rw [List.map_append]; rfl
def rwB (lb : Lb) : Nat := match lb with
 | [] => 1003
 | _ :: _ => 1004
def rwSl (lb : Lb) (rg : List Int) : Value := match rg with
 | [] => slN
 | _ :: _ => slK0 (rwB lb) rg.length
def rwRows (l : List Tok) (lb : Lb) (op : Int) (rg : List Int) (o : OneS) : List (Option LObj) := (match lb with
 | [] => rwR0 (toksC l) op o.n o.ln o.x o.lb
 | _ :: _ => rwR1 (toksC l) op o.n o.ln o.x o.lb (lbC lb) lb.length) ++ (match rg with
 | [] => []
 | _ :: _ => [rgRow (rgC rg)])
def rwSt (f : ByteArray) (num : Int) (l : List Tok) (lb : Lb) (op : Int) (k i : Nat) (rg : List Int) (o : OneS) : LSt := (rwV (k : Int) f num (i : Int) l.length (rwSl lb rg), rwRows l lb op rg o)
def rwRet (l : List Tok) (lb : Lb) (op : Int) (i r : Nat) (rg : List Int) (o : OneS) : Out := rwO .ret (i : Int) l.length (rwSl lb rg) (r : Int) 210 (rwRows l lb op rg o)
def rwEx (l : List Tok) (lb : Lb) (op : Int) (i : Nat) (rg : List Int) (o : OneS) : Out := rwO (.exit 2) (i : Int) l.length (rwSl lb rg) 0 0 (rwRows l lb op rg o)
def rwAt (f : ByteArray) (num : Int) (l : List Tok) (lb : Lb) (op : Int) (k : Nat) (rg : List Int) (o : OneS) (j : Nat) : LSt ⊕ Out :=
 cond (decide (l.length ≤ j)) (.inr (rwRet l lb op j (j - 1) rg o)) (cond (ftB (byteAt f k) (tk l j).kind)
  (cond (decide (byteAt f k = 114)) (.inl (rwSt f num l lb op (k + 1) j (rg ++ [(tk l j).n]) o)) (.inl (rwSt f num l lb op (k + 1) j rg ⟨(tk l j).n, num, (tk l j).at_, (tk l j).text⟩)))
  (.inr (rwRet l lb op j j rg o)))
def rwRes (f : ByteArray) (num : Int) (l : List Tok) (lb : Lb) (op : Int) (k i : Nat) (rg : List Int) (o : OneS) : LSt ⊕ Out :=
 cond (decide (k < f.size)) (cond (decide (0 < k)) (cond (decide (l.length ≤ i + 1)) (.inr (rwRet l lb op (i + 1) i rg o)) (cond (decide ((tk l (i + 1)).kind = 4)) (rwAt f num l lb op k rg o (i + 2)) (.inr (rwRet l lb op (i + 1) (i + 1) rg o))))
  (rwAt f num l lb op k rg o (i + 1))) (.inr (rwEx l lb op i rg o))
theorem w1N {i : Nat} (h : i ≤ 1000) : w1 (i : Int) = ((i + 1 : Nat) : Int) := wrapS (by omega)
theorem w2N {i : Nat} (h : i ≤ 1000) : w2 (i : Int) = ((i + 2 : Nat) : Int) := by unfold w2; rw [w1N h, wrapS (by omega)]
theorem bKN (j k : Nat) : bK (j : Int) k = !decide (k ≤ j) := by
 unfold bK
 rw [d0N, dltN, nble (Nat.le_refl k), Bool.true_and, Bool.and_true]
theorem tGN (l : List Tok) (j : Nat) : tG (toksC l) (j : Int) = !decide (l.length ≤ j) := by
 unfold tG
 rw [Int.toNat_natCast, Nat.add_zero, tk_kOk, tk_tOk, tk_nOk, tk_aOk]
 cases decide (l.length ≤ j) <;> rfl
theorem tQN (l : List Tok) (j : Nat) : tQ (toksC l) (j : Int) = (tk l j).kind := by
 unfold tQ
 rw [Int.toNat_natCast, Nat.add_zero, tk_k]
theorem tPN (l : List Tok) (j : Nat) : tP (toksC l) (j : Int) = (tk l j).kind := by
 unfold tP
 rw [Int.toNat_natCast, tk_k]
theorem tNN (l : List Tok) (j : Nat) : tN (toksC l) (j : Int) = (tk l j).n := by
 unfold tN
 rw [Int.toNat_natCast, tk_n]
theorem tAN (l : List Tok) (j : Nat) : tA (toksC l) (j : Int) = (tk l j).at_ := by
 unfold tA
 rw [Int.toNat_natCast, tk_a]
theorem tSN (l : List Tok) (j : Nat) : tS (toksC l) (j : Int) = (tk l j).text := by
 unfold tS
 rw [Int.toNat_natCast, tk_t]
theorem b114 (x : Int) : (x == 114) = decide (x = 114) := rfl
theorem gtN (k : Nat) : decide ((k : Int) > 0) = decide (0 < k) := decide_eq_decide.2 (by omega)
theorem rw_round (gl : Gl) {f : ByteArray} {num : Int} {l : List Tok} {lb : Lb} {op : Int} {k i : Nat} {rg : List Int} {o : OneS} (hi : i < l.length) (hl : l.length ≤ 1000) (hk : k ≤ f.size) (hf : f.size ≤ 3) (hrg : rg.length ≤ 3) :
  roundK (syL 1000 (toksC l)) Tryz.prog gl exB (HFt ftB) 100 40 40 34 1 rwLive (rwSt f num l lb op k i rg o) (rndK Tryz.prog (rwB lb) rwLive rwOut) = some (rwRes f num l lb op k i rg o) := by
 have aw1 := w1N (i := i) (by omega)
 have aw2 := w2N (i := i) (by omega)
 have wk : IntKind.i64.wrap ((k : Int) + 1) = ((k + 1 : Nat) : Int) := wrapS (by omega)
 have wp1 : IntKind.i64.wrap (((i + 1 : Nat) : Int) - 1) = (i : Int) := by rw [wrapP (by omega) (by omega)]; congr 1
 have wp2 : IntKind.i64.wrap (((i + 2 : Nat) : Int) - 1) = ((i + 1 : Nat) : Int) := by rw [wrapP (by omega) (by omega)]; congr 1
 have aC := toksC_all l
 have aL := lbC_all lb
 have aR := rgC_all rg
 have aS := fun x => rgC_all (rg ++ [x])
 have lR : (rg.length * 1).beq (rgC rg).length = true := by rw [rgC_len, Nat.mul_one]; exact Nat.beq_refl _
 have b1 := nble (Nat.le_refl rg.length)
 have b2 : ((rg.length + 1) * 8).ble 140737488355328 = true := nble (by omega)
 have b3 : (rg.length + 1).ble 1099511627776 = true := nble (by omega)
 unfold rwRes rwAt
 cases lb with
 | nil =>
  cases rg with
  | nil =>
   refine (r_rw00 gl (k : Int) f num (i : Int) l.length (toksC l) op o.n o.ln o.x o.lb ftB).trans ?_
   by_cases h0 : k < f.size
   case neg => rw [dltN, decide_eq_true (show f.size ≤ k by omega), decide_eq_false h0, Bool.not_true, cond_false, cond_false]; exact condI (andI aC rfl) rfl
   have hkk : (decide (0 ≤ (k : Int)) && decide ((k : Int) < (f.size : Int))) = true := by rw [d0N, decide_eq_true (show (k : Int) < (f.size : Int) by omega)]; rfl
   have hk1 : decide ((k : Int) < (f.size : Int)) = true := decide_eq_true (by omega)
   simp only [aw1, aw2, wk, hkk, hk1, gtN, beqN, bneD, b114, d0N, bKN, tGN, tQN, tPN, tNN, tAN, tSN, sameL_self, Int.toNat_natCast, tk_kOk, tk_nOk, tk_aOk, tk_tOk, qs_eq, veqS7, aC, Bool.and_true, Bool.true_and, cond_true, wp1, wp2, decide_eq_true h0]
   by_cases c1 : 0 < k
   ·simp only [decide_eq_true c1, cond_true]
    by_cases c2 : l.length ≤ i + 1
    ·simp only [decide_eq_true c2, decide_eq_true (show i + 1 = l.length by omega), cond_true]; rfl
    ·simp only [decide_eq_false c2, decide_eq_false (show ¬ i + 1 = l.length by omega), cond_false, cond_true, Bool.not_false]
     by_cases c3 : (tk l (i + 1)).kind = 4
     ·simp only [decide_eq_true c3, Bool.not_true, cond_true, cond_false]
      by_cases c4 : l.length ≤ i + 2
      ·simp only [decide_eq_true c4, decide_eq_true (show i + 2 = l.length by omega), cond_true]; rfl
      ·simp only [decide_eq_false c4, decide_eq_false (show ¬ i + 2 = l.length by omega), cond_false, cond_true, Bool.not_false]
       cases ftB (byteAt f k) (tk l (i + 2)).kind <;> cases decide (byteAt f k = 114) <;> rfl
     ·simp only [decide_eq_false c3, Bool.not_false, cond_true, cond_false]; rfl
   ·simp only [decide_eq_false c1, cond_false]
    by_cases c4 : l.length ≤ i + 1
    ·simp only [decide_eq_true c4, decide_eq_true (show i + 1 = l.length by omega), cond_true]; rfl
    ·simp only [decide_eq_false c4, decide_eq_false (show ¬ i + 1 = l.length by omega), cond_false, cond_true, Bool.not_false]
     cases ftB (byteAt f k) (tk l (i + 1)).kind <;> cases decide (byteAt f k = 114) <;> rfl
  | cons r0 rg =>
   generalize hR : r0 :: rg = R at *
   have hsl : rwSl [] R = slK0 1003 R.length := by rw [← hR]; rfl
   have hrw : ∀ o, rwRows l [] op R o = rwR0 (toksC l) op o.n o.ln o.x o.lb ++ [rgRow (rgC R)] := fun o => by rw [← hR]; rfl
   have hsl2 : ∀ x, rwSl [] (R ++ [x]) = slK0 1003 (R.length + 1) := fun x => by rw [← hR]; show slK0 1003 ((r0 :: rg) ++ [x]).length = _; rw [List.length_append]; rfl
   have hrw2 : ∀ x o, rwRows l [] op (R ++ [x]) o = rwR0 (toksC l) op o.n o.ln o.x o.lb ++ [rgRow (rgC (R ++ [x]))] := fun x o => by rw [← hR]; rfl
   unfold rwSt rwRet rwEx
   simp only [hsl, hrw, hsl2, hrw2]
   refine (r_rw01 gl (k : Int) f num (i : Int) l.length (toksC l) op o.n o.ln o.x o.lb ftB (rgC R) R.length).trans ?_
   by_cases h0 : k < f.size
   case neg => rw [dltN, decide_eq_true (show f.size ≤ k by omega), decide_eq_false h0, Bool.not_true, cond_false, cond_false]; exact condI (andI aC (andI aR rfl)) rfl
   have hkk : (decide (0 ≤ (k : Int)) && decide ((k : Int) < (f.size : Int))) = true := by rw [d0N, decide_eq_true (show (k : Int) < (f.size : Int) by omega)]; rfl
   have hk1 : decide ((k : Int) < (f.size : Int)) = true := decide_eq_true (by omega)
   simp only [aw1, aw2, wk, hkk, hk1, gtN, beqN, bneD, b114, d0N, bKN, tGN, tQN, tPN, tNN, tAN, tSN, sameL_self, Int.toNat_natCast, tk_kOk, tk_nOk, tk_aOk, tk_tOk, qs_eq, veqS7, aC, aR, aS, rgC_snoc, lR, b1, b2, b3, Bool.and_true, Bool.true_and, cond_true, wp1, wp2, decide_eq_true h0]
   by_cases c1 : 0 < k
   ·simp only [decide_eq_true c1, cond_true]
    by_cases c2 : l.length ≤ i + 1
    ·simp only [decide_eq_true c2, decide_eq_true (show i + 1 = l.length by omega), cond_true]; rfl
    ·simp only [decide_eq_false c2, decide_eq_false (show ¬ i + 1 = l.length by omega), cond_false, cond_true, Bool.not_false]
     by_cases c3 : (tk l (i + 1)).kind = 4
     ·simp only [decide_eq_true c3, Bool.not_true, cond_true, cond_false]
      by_cases c4 : l.length ≤ i + 2
      ·simp only [decide_eq_true c4, decide_eq_true (show i + 2 = l.length by omega), cond_true]; rfl
      ·simp only [decide_eq_false c4, decide_eq_false (show ¬ i + 2 = l.length by omega), cond_false, cond_true, Bool.not_false]
       cases ftB (byteAt f k) (tk l (i + 2)).kind <;> cases decide (byteAt f k = 114) <;> rfl
     ·simp only [decide_eq_false c3, Bool.not_false, cond_true, cond_false]; rfl
   ·simp only [decide_eq_false c1, cond_false]
    by_cases c4 : l.length ≤ i + 1
    ·simp only [decide_eq_true c4, decide_eq_true (show i + 1 = l.length by omega), cond_true]; rfl
    ·simp only [decide_eq_false c4, decide_eq_false (show ¬ i + 1 = l.length by omega), cond_false, cond_true, Bool.not_false]
     cases ftB (byteAt f k) (tk l (i + 1)).kind <;> cases decide (byteAt f k = 114) <;> rfl
 | cons p0 lb0 =>
  generalize hB : p0 :: lb0 = B at *
  have hb : rwB B = 1004 := by rw [← hB]; rfl
  cases rg with
  | nil =>
   have hsl : rwSl B [] = slN := rfl
   have hrw : ∀ o, rwRows l B op [] o = rwR1 (toksC l) op o.n o.ln o.x o.lb (lbC B) B.length := fun o => by rw [← hB]; exact List.append_nil _
   have hsl2 : ∀ x, rwSl B ([] ++ [x]) = slK0 1004 1 := fun x => by rw [← hB]; rfl
   have hrw2 : ∀ x o, rwRows l B op ([] ++ [x]) o = rwR1 (toksC l) op o.n o.ln o.x o.lb (lbC B) B.length ++ [rgRow [.int .i64 x]] := fun x o => by rw [← hB]; rfl
   unfold rwSt rwRet rwEx
   simp only [hb, hsl, hrw, hsl2, hrw2]
   refine (r_rw10 gl (k : Int) f num (i : Int) l.length (toksC l) op o.n o.ln o.x o.lb ftB (lbC B) B.length).trans ?_
   by_cases h0 : k < f.size
   case neg => rw [dltN, decide_eq_true (show f.size ≤ k by omega), decide_eq_false h0, Bool.not_true, cond_false, cond_false]; exact condI (andI aC (andI aL rfl)) rfl
   have hkk : (decide (0 ≤ (k : Int)) && decide ((k : Int) < (f.size : Int))) = true := by rw [d0N, decide_eq_true (show (k : Int) < (f.size : Int) by omega)]; rfl
   have hk1 : decide ((k : Int) < (f.size : Int)) = true := decide_eq_true (by omega)
   simp only [aw1, aw2, wk, hkk, hk1, gtN, beqN, bneD, b114, d0N, bKN, tGN, tQN, tPN, tNN, tAN, tSN, sameL_self, Int.toNat_natCast, tk_kOk, tk_nOk, tk_aOk, tk_tOk, qs_eq, veqS7, aC, aL, Bool.and_true, Bool.true_and, cond_true, wp1, wp2, decide_eq_true h0]
   by_cases c1 : 0 < k
   ·simp only [decide_eq_true c1, cond_true]
    by_cases c2 : l.length ≤ i + 1
    ·simp only [decide_eq_true c2, decide_eq_true (show i + 1 = l.length by omega), cond_true]; rfl
    ·simp only [decide_eq_false c2, decide_eq_false (show ¬ i + 1 = l.length by omega), cond_false, cond_true, Bool.not_false]
     by_cases c3 : (tk l (i + 1)).kind = 4
     ·simp only [decide_eq_true c3, Bool.not_true, cond_true, cond_false]
      by_cases c4 : l.length ≤ i + 2
      ·simp only [decide_eq_true c4, decide_eq_true (show i + 2 = l.length by omega), cond_true]; rfl
      ·simp only [decide_eq_false c4, decide_eq_false (show ¬ i + 2 = l.length by omega), cond_false, cond_true, Bool.not_false]
       cases ftB (byteAt f k) (tk l (i + 2)).kind <;> cases decide (byteAt f k = 114) <;> rfl
     ·simp only [decide_eq_false c3, Bool.not_false, cond_true, cond_false]; rfl
   ·simp only [decide_eq_false c1, cond_false]
    by_cases c4 : l.length ≤ i + 1
    ·simp only [decide_eq_true c4, decide_eq_true (show i + 1 = l.length by omega), cond_true]; rfl
    ·simp only [decide_eq_false c4, decide_eq_false (show ¬ i + 1 = l.length by omega), cond_false, cond_true, Bool.not_false]
     cases ftB (byteAt f k) (tk l (i + 1)).kind <;> cases decide (byteAt f k = 114) <;> rfl
  | cons r0 rg =>
   generalize hR : r0 :: rg = R at *
   have hsl : rwSl B R = slK0 1004 R.length := by rw [← hR, ← hB]; rfl
   have hrw : ∀ o, rwRows l B op R o = rwR1 (toksC l) op o.n o.ln o.x o.lb (lbC B) B.length ++ [rgRow (rgC R)] := fun o => by rw [← hR, ← hB]; rfl
   have hsl2 : ∀ x, rwSl B (R ++ [x]) = slK0 1004 (R.length + 1) := fun x => by rw [← hR, ← hB]; show slK0 1004 ((r0 :: rg) ++ [x]).length = _; rw [List.length_append]; rfl
   have hrw2 : ∀ x o, rwRows l B op (R ++ [x]) o = rwR1 (toksC l) op o.n o.ln o.x o.lb (lbC B) B.length ++ [rgRow (rgC (R ++ [x]))] := fun x o => by rw [← hR, ← hB]; rfl
   unfold rwSt rwRet rwEx
   simp only [hb, hsl, hrw, hsl2, hrw2]
   refine (r_rw11 gl (k : Int) f num (i : Int) l.length (toksC l) op o.n o.ln o.x o.lb ftB (lbC B) B.length (rgC R) R.length).trans ?_
   by_cases h0 : k < f.size
   case neg => rw [dltN, decide_eq_true (show f.size ≤ k by omega), decide_eq_false h0, Bool.not_true, cond_false, cond_false]; exact condI (andI aC (andI aL (andI aR rfl))) rfl
   have hkk : (decide (0 ≤ (k : Int)) && decide ((k : Int) < (f.size : Int))) = true := by rw [d0N, decide_eq_true (show (k : Int) < (f.size : Int) by omega)]; rfl
   have hk1 : decide ((k : Int) < (f.size : Int)) = true := decide_eq_true (by omega)
   simp only [aw1, aw2, wk, hkk, hk1, gtN, beqN, bneD, b114, d0N, bKN, tGN, tQN, tPN, tNN, tAN, tSN, sameL_self, Int.toNat_natCast, tk_kOk, tk_nOk, tk_aOk, tk_tOk, qs_eq, veqS7, aC, aL, aR, aS, rgC_snoc, lR, b1, b2, b3, Bool.and_true, Bool.true_and, cond_true, wp1, wp2, decide_eq_true h0]
   by_cases c1 : 0 < k
   ·simp only [decide_eq_true c1, cond_true]
    by_cases c2 : l.length ≤ i + 1
    ·simp only [decide_eq_true c2, decide_eq_true (show i + 1 = l.length by omega), cond_true]; rfl
    ·simp only [decide_eq_false c2, decide_eq_false (show ¬ i + 1 = l.length by omega), cond_false, cond_true, Bool.not_false]
     by_cases c3 : (tk l (i + 1)).kind = 4
     ·simp only [decide_eq_true c3, Bool.not_true, cond_true, cond_false]
      by_cases c4 : l.length ≤ i + 2
      ·simp only [decide_eq_true c4, decide_eq_true (show i + 2 = l.length by omega), cond_true]; rfl
      ·simp only [decide_eq_false c4, decide_eq_false (show ¬ i + 2 = l.length by omega), cond_false, cond_true, Bool.not_false]
       cases ftB (byteAt f k) (tk l (i + 2)).kind <;> cases decide (byteAt f k = 114) <;> rfl
     ·simp only [decide_eq_false c3, Bool.not_false, cond_true, cond_false]; rfl
   ·simp only [decide_eq_false c1, cond_false]
    by_cases c4 : l.length ≤ i + 1
    ·simp only [decide_eq_true c4, decide_eq_true (show i + 1 = l.length by omega), cond_true]; rfl
    ·simp only [decide_eq_false c4, decide_eq_false (show ¬ i + 1 = l.length by omega), cond_false, cond_true, Bool.not_false]
     cases ftB (byteAt f k) (tk l (i + 1)).kind <;> cases decide (byteAt f k = 114) <;> rfl
end Go.Proofs.YtgohbcbdgakjeaaGreatDoor
noncomputable section
namespace Go.Proofs.YtgohbcbdgakjeaaGreatDoor
open Go.Proofs.YtgohbcbdgakjeaaGreatDoor.Ev Go.RowKit
abbrev RwR := (Nat × Nat × List Int × OneS) ⊕ (Nat × List Int × OneS)
def wI (w : Int) : Int := ((wB w).toNat : Int)
def wtsB (ws : List Int) : ByteArray := ⟨(ws.map wB).toArray⟩
theorem wts_size (ws : List Int) : (wtsB ws).size = ws.length := by
 show (ws.map wB).toArray.size = _
 simp
theorem wts_at (pre ws : List Int) (w : Int) : byteAt (wtsB (pre ++ w :: ws)) (pre.length : Int) = wI w := by
 show byteI (nthB ((pre ++ w :: ws).map wB).toArray.toList _) = _
 rw [nthB_eq, Int.toNat_natCast]
 simp
 rfl
theorem fm_wts {op : Int} (h : op < 22) : fmB op = wtsB (wantsOf op) := if_pos h
def rwOne (l : List Tok) (num w : Int) (j : Nat) (rg : List Int) (o : OneS) (k : List Int → OneS → RwR) : RwR :=
 cond (decide (l.length ≤ j)) (.inl (j, j - 1, rg, o)) (cond (ftB (wI w) (tk l j).kind) (cond (decide (wI w = 114)) (k (rg ++ [(tk l j).n]) o) (k rg ⟨(tk l j).n, num, (tk l j).at_, (tk l j).text⟩)) (.inl (j, j, rg, o)))
def rwGo (l : List Tok) (num : Int) : List Int → Bool → Nat → List Int → OneS → RwR
 | [], _, i, rg, o => .inr (i, rg, o)
 | w :: ws, true, i, rg, o => rwOne l num w (i + 1) rg o fun rg o => rwGo l num ws false (i + 1) rg o
 | w :: ws, false, i, rg, o => cond (decide (l.length ≤ i + 1)) (.inl (i + 1, i, rg, o)) (cond (decide ((tk l (i + 1)).kind = 4)) (rwOne l num w (i + 2) rg o fun rg o => rwGo l num ws false (i + 2) rg o) (.inl (i + 1, i + 1, rg, o)))
def rwFin (l : List Tok) (lb : Lb) (op : Int) : RwR → Out
 | .inl r => rwRet l lb op r.1 r.2.1 r.2.2.1 r.2.2.2
 | .inr r => rwEx l lb op r.1 r.2.1 r.2.2
theorem rwAt_step {f : ByteArray} {num : Int} {l : List Tok} {lb : Lb} {op w : Int} {k j : Nat} {rg : List Int} {o : OneS} (hf : byteAt f k = wI w) (K : List Int → OneS → RwR) :
  (∃ rg' o', rwAt f num l lb op k rg o j = .inl (rwSt f num l lb op (k + 1) j rg' o') ∧ rwOne l num w j rg o K = K rg' o' ∧ rg'.length ≤ rg.length + 1 ∧ j < l.length) ∨
  (∃ i r, rwAt f num l lb op k rg o j = .inr (rwRet l lb op i r rg o) ∧ rwOne l num w j rg o K = .inl (i, r, rg, o)) := by
 unfold rwAt rwOne
 rw [hf]
 by_cases h : l.length ≤ j
 ·rw [decide_eq_true h]
  exact .inr ⟨_, _, rfl, rfl⟩
 ·rw [decide_eq_false h, cond_false, cond_false]
  cases ftB (wI w) (tk l j).kind with
  | false => exact .inr ⟨_, _, rfl, rfl⟩
  | true =>
   cases decide (wI w = 114) with
   | true => exact .inl ⟨_, _, rfl, rfl, by rw [List.length_append]; exact Nat.le_refl _, by omega⟩
   | false => exact .inl ⟨_, _, rfl, rfl, by omega, by omega⟩
theorem HFt_ok {gl : Gl} (hgl : Low gl) : (HFt ftB).OK Tryz.prog gl := one_ok fun p hp => by
 simp only [List.mem_cons, List.not_mem_nil, or_false] at hp
 subst hp
 exact fn_ft hgl
theorem rwRows_len (l : List Tok) (lb : Lb) (op : Int) (o : OneS) : 1000 + (rwRows l lb op [] o).length = rwB lb := by cases lb <;> rfl
theorem rw_loop {gl : Gl} (hgl : Low gl) {ws0 : List Int} {num : Int} {l : List Tok} {lb : Lb} {op : Int} {i0 : Nat} (hi0 : i0 < l.length) (hl : l.length ≤ 1000) (hw : ws0.length ≤ 3) :
  LpOK Tryz.prog gl 34 1 ⟨rwLive, rwOut, gH (atS (rwSt (wtsB ws0) num l lb op 0 i0 [] oneNil).1 (rwSt (wtsB ws0) num l lb op 0 i0 [] oneNil).2) (rwFin l lb op (rwGo l num ws0 true i0 [] oneNil))⟩ :=
 loop_here goodB hgl tglob (st0 := rwSt (wtsB ws0) num l lb op 0 i0 [] oneNil) (by
  show 1000 + (rwRows l lb op [] oneNil).length ≤ most
  rw [rwRows_len]
  cases lb with
  | nil => show 1003 ≤ most; decide
  | cons _ _ => show 1004 ≤ most; decide) ⟨{p : List Int × List Int × Nat × List Int × OneS // p.1 ++ p.2.1 = ws0 ∧ p.2.2.1 < l.length ∧ p.2.2.2.1.length ≤ p.1.length}, fun p => rwSt (wtsB ws0) num l lb op p.1.1.length p.1.2.2.1 p.1.2.2.2.1 p.1.2.2.2.2,
   fun p => some (rwFin l lb op (rwGo l num p.1.2.1 (decide (p.1.1.length = 0)) p.1.2.2.1 p.1.2.2.2.1 p.1.2.2.2.2)), fun p => p.1.2.1.length, ⟨([], ws0, i0, [], oneNil), rfl, hi0, Nat.le_refl _⟩, rfl, rfl, by
  rintro ⟨⟨pre, ws, i, rg, o⟩, hp, hi, hrg⟩ out ho
  simp only at hp hi hrg ho
  cases ho
  have hlen : pre.length + ws.length = ws0.length := by rw [← hp, List.length_append]
  have hr := rw_round gl (f := wtsB ws0) (num := num) (lb := lb) (op := op) (k := pre.length) (o := o) hi hl (by rw [wts_size]; omega) (by rw [wts_size]; exact hw) (show rg.length ≤ 3 by omega)
  refine ⟨syL 1000 (toksC l), HFt ftB, 100, 40, 40, _, syL_ok (by decide) _, HFt_ok hgl, (by
   show roundK _ _ _ _ _ _ _ _ _ _ _ _ (rndK Tryz.prog (1000 + (rwRows l lb op [] oneNil).length) _ _) = _
   rw [rwRows_len]; exact hr), ?_⟩
  unfold rwRes
  cases ws with
  | nil =>
   have hk : ¬ pre.length < (wtsB ws0).size := by rw [wts_size]; simp only [List.length_nil] at hlen; omega
   rw [decide_eq_false hk, cond_false]
   show rwEx l lb op i rg o = rwFin l lb op (.inr (i, rg, o))
   rfl
  | cons w ws =>
   have hk : pre.length < (wtsB ws0).size := by rw [wts_size]; simp only [List.length_cons] at hlen; omega
   have hb : byteAt (wtsB ws0) (pre.length : Int) = wI w := by rw [← hp]; exact wts_at pre ws w
   rw [decide_eq_true hk, cond_true]
   by_cases h0 : pre.length = 0
   ·rw [decide_eq_false (show ¬ 0 < pre.length by omega), cond_false, decide_eq_true h0]
    show match rwAt (wtsB ws0) num l lb op pre.length rg o (i + 1) with | .inl s' => _ | .inr o' => o' = rwFin l lb op (rwOne l num w (i + 1) rg o fun rg o => rwGo l num ws false (i + 1) rg o)
    rcases rwAt_step (l := l) (num := num) (lb := lb) (op := op) (j := i + 1) (rg := rg) (o := o) hb (fun rg o => rwGo l num ws false (i + 1) rg o) with ⟨rg', o', e1, e2, e3, e4⟩ | ⟨a, r, e1, e2⟩
    ·rw [e1]
     refine ⟨⟨(pre ++ [w], ws, i + 1, rg', o'), by simp only; rw [List.append_assoc]; exact hp, e4, by simp only [List.length_append, List.length_singleton]; omega⟩, by simp only [List.length_append, List.length_singleton], by show ws.length < ws.length + 1; omega, ?_⟩
     simp only [List.length_append, List.length_singleton]
     rw [decide_eq_false (show ¬ pre.length + 1 = 0 by omega), ← e2]
     rfl
    ·rw [e1, e2]
     rfl
   ·rw [decide_eq_true (show 0 < pre.length by omega), cond_true, decide_eq_false h0]
    show match cond (decide (l.length ≤ i + 1)) (.inr (rwRet l lb op (i + 1) i rg o)) (cond (decide ((tk l (i + 1)).kind = 4)) (rwAt (wtsB ws0) num l lb op pre.length rg o (i + 2)) (.inr (rwRet l lb op (i + 1) (i + 1) rg o))) with
     | .inl s' => _
     | .inr o' => o' = rwFin l lb op (cond (decide (l.length ≤ i + 1)) (.inl (i + 1, i, rg, o)) (cond (decide ((tk l (i + 1)).kind = 4)) (rwOne l num w (i + 2) rg o fun rg o => rwGo l num ws false (i + 2) rg o) (.inl (i + 1, i + 1, rg, o))))
    cases h1 : decide (l.length ≤ i + 1) with
    | true => rfl
    | false =>
     rw [cond_false, cond_false]
     cases h2 : decide ((tk l (i + 1)).kind = 4) with
     | false => rfl
     | true =>
      rw [cond_true, cond_true]
      rcases rwAt_step (l := l) (num := num) (lb := lb) (op := op) (j := i + 2) (rg := rg) (o := o) hb (fun rg o => rwGo l num ws false (i + 2) rg o) with ⟨rg', o', e1, e2, e3, e4⟩ | ⟨a, r, e1, e2⟩
      ·rw [e1]
       refine ⟨⟨(pre ++ [w], ws, i + 2, rg', o'), by simp only; rw [List.append_assoc]; exact hp, e4, by simp only [List.length_append, List.length_singleton]; omega⟩, by simp only [List.length_append, List.length_singleton], by show ws.length < ws.length + 1; omega, ?_⟩
       simp only [List.length_append, List.length_singleton]
       rw [decide_eq_false (show ¬ pre.length + 1 = 0 by omega), ← e2, rwGo, h1, h2]
       rfl
      ·rw [e1, e2]
       rfl⟩
def rlE0 (i j num : Int) (k : Nat) (cs rs : List Value) (a0 n ln x a e : Int) (lb : ByteArray) (m : Nat) (g0 g1 : GS) (op : ByteArray → Int) (ff : Int → ByteArray) : Hs := HRl g0 g1 (rlO (.exit 0) i num k 0 0 (rlR0 cs)) (rwO .ret j k (slK0 1003 m) a e (rwR0 cs a0 n ln x lb ++ [rgRow rs])) op ff
def rlE1 (i j num : Int) (k : Nat) (cs rs ls : List Value) (mm : Nat) (a0 n ln x a e : Int) (lb : ByteArray) (m : Nat) (g0 g1 : GS) (op : ByteArray → Int) (ff : Int → ByteArray) : Hs := HRl g0 g1 (rlO (.exit 0) i num k 0 0 (rlR1 cs ls mm)) (rwO .ret j k (slK0 1004 m) a e (rwR1 cs a0 n ln x lb ls mm ++ [rgRow rs])) op ff
set_option maxRecDepth 100000 in
theorem r_rl0R (gl : Gl) (g0 g1 : GS) (op : ByteArray → Int) (ff : Int → ByteArray) (i num : Int) (k : Nat) (cs rs : List Value) (m : Nat) (a0 n ln x : Int) (lb : ByteArray) (j a e : Int) : rlCall gl cs (rlE0 i j num k cs rs a0 n ln x a e lb m g0 g1 op ff) num k =
 let z0 := List.all cs (af 8) && true
 cond z0 (
 cond (g0 (rlV 0 num k) (rlR0 cs)) (
 cond z0 (
 cond (i == (↑k : Int)) (
 cond z0 (
 rlN 0 0 (rlR0 cs)) (
 none)) (
 cond (bK (i) k) (
 cond (sameL cs cs) (
 cond ((symOf cs).okS (0 + i.toNat * 4 + 1)) (
 cond (bK (i) k) (
 cond (sameL cs cs) (
 cond ((symOf cs).okI .u8 (0 + i.toNat * 4)) (
 cond ((symOf cs).int .u8 (0 + i.toNat * 4) != 1) (
 cond z0 (
 rlN (i) 210 (rlR0 cs)) (
 none)) (
 cond (op (tT cs i) == 22) (
 cond z0 (
 rlN (i) 210 (rlR0 cs)) (
 none)) (
 cond (decide (0 ≤ op (tT cs i))) (
 cond z0 (
 cond (g1 (rwV 0 (ff (op (tT cs i))) num i k slN) (rwR0 cs (op (tT cs i)) 0 0 0 ⟨#[]⟩)) (
 cond (List.all cs (af 8) && (List.all rs (af 8) && true)) (
 cond z0 (
 rlN (a) (e) (rlR0 cs)) (
 none)) (
 none)) (
 none)) (
 none)) (
 none)))) (
 none)) (
 none)) (
 none)) (
 none)) (
 none)) (
 none))) (
 none)) (
 none)) (
 none) := by kernel_rfl
set_option maxRecDepth 100000 in
theorem r_rl1R (gl : Gl) (g0 g1 : GS) (op : ByteArray → Int) (ff : Int → ByteArray) (i num : Int) (k : Nat) (cs rs ls : List Value) (mm m : Nat) (a0 n ln x : Int) (lb : ByteArray) (j a e : Int) : rlCall gl cs (rlE1 i j num k cs rs ls mm a0 n ln x a e lb m g0 g1 op ff) num k =
 let z0 := List.all cs (af 8) && (List.all ls (af 8) && true)
 let z1 : Option Out := cond z0 (
 rlN (i) 210 (rlR1 cs ls mm)) (
 none)
 cond (List.all cs (af 8) && true) (
 cond (g0 (rlV 0 num k) (rlR0 cs)) (
 cond z0 (
 cond (i == (↑k : Int)) (
 cond z0 (
 rlN 0 0 (rlR1 cs ls mm)) (
 none)) (
 cond (bK (i) k) (
 cond (sameL cs cs) (
 cond ((symOf cs).okS (0 + i.toNat * 4 + 1)) (
 cond (bK (i) k) (
 cond (sameL cs cs) (
 cond ((symOf cs).okI .u8 (0 + i.toNat * 4)) (
 cond ((symOf cs).int .u8 (0 + i.toNat * 4) != 1) z1 (
 cond (op (tT cs i) == 22) z1 (
 cond (decide (0 ≤ op (tT cs i))) (
 cond z0 (
 cond (g1 (rwV 0 (ff (op (tT cs i))) num i k slN) (rwR1 cs (op (tT cs i)) 0 0 0 ⟨#[]⟩ ls mm)) (
 cond (List.all cs (af 8) && (List.all ls (af 8) && (List.all rs (af 8) && true))) (
 cond z0 (
 rlN (a) (e) (rlR1 cs ls mm)) (
 none)) (
 none)) (
 none)) (
 none)) (
 none)))) (
 none)) (
 none)) (
 none)) (
 none)) (
 none)) (
 none))) (
 none)) (
 none)) (
 none) := by kernel_rfl
end Go.Proofs.YtgohbcbdgakjeaaGreatDoor
noncomputable section
namespace Go.Proofs.YtgohbcbdgakjeaaGreatDoor
open Go.Proofs.YtgohbcbdgakjeaaGreatDoor.Ev Go.RowKit
structure RlS where
 pos : Int
 er : Int
 lb : Lb
 on : Option (Int × List Int × OneS)
def rlEndS (l : List Tok) (num : Int) (r : Nat × Lb × Bool) : RlS :=
 cond r.2.2 ⟨(r.1 : Int), 211, r.2.1, none⟩ (cond (decide (r.1 = l.length)) ⟨0, 0, r.2.1, none⟩ (cond (!decide ((tk l r.1).kind = 1)) ⟨(r.1 : Int), 210, r.2.1, none⟩ (cond (decide (opR (tk l r.1).text = 22)) ⟨(r.1 : Int), 210, r.2.1, none⟩
  (match rwGo l num (wantsOf (opR (tk l r.1).text)) true r.1 [] oneNil with
  | .inl q => ⟨(q.2.1 : Int), 210, r.2.1, none⟩
  | .inr q => cond (decide (q.1 + 1 < l.length)) ⟨((q.1 + 1 : Nat) : Int), 210, r.2.1, none⟩ ⟨0, 0, r.2.1, some (opR (tk l r.1).text, q.2.1, q.2.2)⟩))))
def rgN (rg : List Int) (k : Nat) : Int := (rg[k]?).getD 0
def tRows (l : List Tok) (lb : Lb) (oc : List Value) : List (Option LObj) := match lb with
 | [] => tL0 (toksC l) oc
 | _ :: _ => tL (toksC l) (lbC lb) lb.length oc
def oneC (q : Int × List Int × OneS) : List Value := onC q.1 (rgN q.2.1 0) (rgN q.2.1 1) (rgN q.2.1 2) q.2.2.n q.2.2.ln q.2.2.x q.2.2.lb
def rlOutS (l : List Tok) (s : RlS) : Out := (.normal, [.tuple #[.int .i64 s.pos, .int .i64 s.er]], match s.on with
 | none => rlRows l s.lb
 | some q => tRows l s.lb (oneC q))
theorem tTN (l : List Tok) (j : Nat) : tT (toksC l) (j : Int) = (tk l j).text := by
 unfold tT
 rw [Int.toNat_natCast, tk_t]
theorem b22 (x : Int) : (x == 22) = decide (x = 22) := rfl
theorem opR_bd (s : ByteArray) : 0 ≤ opR s ∧ opR s ≤ 22 := by
 unfold opR
 obtain ⟨h0, h1⟩ := ops_has s
 cases mapHas opsE s with
 | true => exact ⟨h0, by rw [cond_true]; omega⟩
 | false => exact ⟨show (0 : Int) ≤ 22 by decide, Int.le_refl _⟩
theorem lbGo_twne {l : List Tok} {n : Int} : ∀ (f i : Nat) (lb : Lb), (lbGo l n f i lb).2.2 = true → (lbGo l n f i lb).2.1 ≠ []
 | 0, i, lb, h2 => by cases h2
 | f + 1, i, lb, h2 => by
  rw [lbGo] at h2 ⊢
  cases h1 : lbIs l i with
  | false => rw [h1] at h2; cases h2
  | true =>
   rw [h1, cond_true] at h2
   rw [cond_true]
   cases h4 : lbHas lb (tk l i).text with
   | true =>
    rw [cond_true]
    rintro rfl
    cases h4
   | false => rw [h4, cond_false] at h2; rw [cond_false]; exact lbGo_twne f (i + 2) _ h2
theorem LpOK.no {gl : Gl} {f : FuncId} {n : Nat} {lv ot : List Nat} {o : Out} : LpOK Tryz.prog gl f n ⟨lv, ot, gH (fun _ _ => false) o⟩ := by
 intro fn body x _ _ _ vs rows t e vs' rows' h1 h2
 cases h1
 cases h2
theorem HRl_ok {gl : Gl} (hgl : Low gl) {g0 g1 : GS} {o0 o1 : Out} (h0 : LpOK Tryz.prog gl 34 0 ⟨rlLive, rlOut, gH g0 o0⟩) (h1 : LpOK Tryz.prog gl 34 1 ⟨rwLive, rwOut, gH g1 o1⟩) : (HRl g0 g1 o0 o1 opR fmB).OK Tryz.prog gl :=
 hsOf_ok (fun p hp => by
  simp only [List.mem_cons, List.not_mem_nil, or_false] at hp
  rcases hp with rfl | rfl
  ·exact fn_rop hgl
  ·exact fn_rfm hgl) (fun _ h => by cases h) (fun p hp q hq => by
  simp only [List.mem_cons, List.not_mem_nil, or_false] at hp
  subst hp
  simp only [List.mem_cons, List.not_mem_nil, or_false] at hq
  rcases hq with rfl | rfl
  ·exact h0
  ·exact h1)
theorem rwGo_len {l : List Tok} {num : Int} : ∀ (ws : List Int) (b : Bool) (i : Nat) (rg : List Int) (o : OneS) (q : Nat × List Int × OneS), rwGo l num ws b i rg o = .inr q → q.2.1.length ≤ rg.length + ws.length ∧ (i < l.length → q.1 < l.length)
 | [], b, i, rg, o, q, h => by
  cases h
  exact ⟨Nat.le_refl _, id⟩
 | w :: ws, b, i, rg, o, q, h => by
  have one : ∀ j, rwOne l num w j rg o (fun rg o => rwGo l num ws false j rg o) = .inr q → q.2.1.length ≤ rg.length + (w :: ws).length ∧ (i < l.length → q.1 < l.length) := fun j h => by
   unfold rwOne at h
   by_cases hj : l.length ≤ j
   ·rw [decide_eq_true hj] at h; cases h
   rw [decide_eq_false hj, cond_false] at h
   cases h1 : ftB (wI w) (tk l j).kind with
   | false => rw [h1] at h; cases h
   | true =>
    rw [h1, cond_true] at h
    cases h2 : decide (wI w = 114) with
    | true =>
     rw [h2, cond_true] at h
     obtain ⟨a, b⟩ := rwGo_len ws false j _ o q h
     rw [List.length_append, List.length_singleton] at a
     exact ⟨by rw [List.length_cons]; omega, fun _ => b (by omega)⟩
    | false =>
     rw [h2, cond_false] at h
     obtain ⟨a, b⟩ := rwGo_len ws false j _ _ q h
     exact ⟨by rw [List.length_cons]; omega, fun _ => b (by omega)⟩
  cases b with
  | true => exact one (i + 1) h
  | false =>
   rw [rwGo] at h
   cases h1 : decide (l.length ≤ i + 1) with
   | true => rw [h1] at h; cases h
   | false =>
    rw [h1, cond_false] at h
    cases h2 : decide ((tk l (i + 1)).kind = 4) with
    | false => rw [h2] at h; cases h
    | true => rw [h2, cond_true] at h; exact one (i + 2) h
theorem rwants_len {op : Int} (h0 : 0 ≤ op) (h1 : op < 22) : (wantsOf op).length ≤ 3 := by
 rcases wants_cases h0 h1 with h | h | h | h | h | h | h | h <;> rw [h] <;> decide
theorem rline_at {gl : Gl} (hgl : Low gl) {num : Int} {l : List Tok} (hl : l.length ≤ 1000) : SubOK Tryz.prog gl 34 (gH (atS [pK 1000, slK0 1001 l.length, .int .i64 num] (rlR0 (toksC l))) (rlOutS l (rlEndS l num (lbGo l 0 (l.length + 1) 0 [])))) := by
 refine sub_at goodB hgl tglob (by show 1002 ≤ most; decide) ?_
 have hle := lbGo_le (l := l) (n := 0) (l.length + 1) 0 [] (Nat.zero_le _)
 have htw := lbGo_twne (l := l) (n := 0) (l.length + 1) 0 []
 have hlp := rl_loop hgl (num := num) hl
 generalize lbGo l 0 (l.length + 1) 0 [] = r at hle htw hlp
 obtain ⟨i, lb, tw⟩ := r
 simp only at hle htw
 have aC := toksC_all l
 have aL := lbC_all lb
 have hg0 : atS (rlV 0 num l.length) (rlR0 (toksC l)) (rlV 0 num l.length) (rlR0 (toksC l)) = true := atS_self _ _
 cases tw with
 | true =>
  cases lb with
  | nil => exact absurd rfl (htw rfl)
  | cons p lb =>
   refine ⟨syL 1001 (toksC l), _, 100, 40, 40, syL_ok (by decide) _, HRl_ok hgl hlp LpOK.no, (r_rlT gl _ _ opR fmB (i : Int) num l.length (toksC l) (lbC (p :: lb)) (p :: lb).length (i : Int) 211).trans ?_⟩
   exact condI (andI aC rfl) (condI hg0 (condI (andI aC (andI aL rfl)) (condI (andI aC (andI aL rfl)) rfl)))
 | false =>
 have hs : rlEndS l num (i, lb, false) = cond (decide (i = l.length)) ⟨0, 0, lb, none⟩ (cond (!decide ((tk l i).kind = 1)) ⟨(i : Int), 210, lb, none⟩ (cond (decide (opR (tk l i).text = 22)) ⟨(i : Int), 210, lb, none⟩
  (match rwGo l num (wantsOf (opR (tk l i).text)) true i [] oneNil with
  | .inl q => ⟨(q.2.1 : Int), 210, lb, none⟩
  | .inr q => cond (decide (q.1 + 1 < l.length)) ⟨((q.1 + 1 : Nat) : Int), 210, lb, none⟩ ⟨0, 0, lb, some (opR (tk l i).text, q.2.1, q.2.2)⟩))) := rfl
 rw [hs]
 clear hs htw
 obtain ⟨o0, o1⟩ := opR_bd (tk l i).text
 have d0 : decide (0 ≤ opR (tk l i).text) = true := decide_eq_true o0
 cases lb with
 | nil =>
  by_cases c1 : i = l.length
  ·refine ⟨syL 1001 (toksC l), _, 100, 40, 40, syL_ok (by decide) _, HRl_ok hgl hlp (LpOK.no (o := rwO .ret 0 l.length slN 0 0 (rwR0 (toksC l) 0 0 0 0 ⟨#[]⟩))), (r_rl0E gl _ _ opR fmB (i : Int) num l.length (toksC l) 0 0 0 0 ⟨#[]⟩ 0 0 0).trans ?_⟩
   simp only [hg0, beqN, bneD, b22, bKN, tTN, sameL_self, Int.toNat_natCast, tk_kOk, tk_tOk, tk_k, aC, Bool.and_true, Bool.true_and, Bool.and_self, cond_true, qs_eq, veqS7, decide_eq_true c1]
   rfl
  have c1L : ¬ l.length ≤ i := by omega
  rw [decide_eq_false c1, cond_false]
  by_cases c2 : (tk l i).kind = 1
  case neg =>
   refine ⟨syL 1001 (toksC l), _, 100, 40, 40, syL_ok (by decide) _, HRl_ok hgl hlp (LpOK.no (o := rwO .ret 0 l.length slN 0 0 (rwR0 (toksC l) 0 0 0 0 ⟨#[]⟩))), (r_rl0E gl _ _ opR fmB (i : Int) num l.length (toksC l) 0 0 0 0 ⟨#[]⟩ 0 0 0).trans ?_⟩
   simp only [hg0, beqN, bneD, b22, bKN, tTN, sameL_self, Int.toNat_natCast, tk_kOk, tk_tOk, tk_k, aC, Bool.and_true, Bool.true_and, Bool.and_self, cond_true, qs_eq, veqS7, decide_eq_false c1, decide_eq_false c1L, decide_eq_false c2, Bool.not_false, cond_false]
   rfl
  rw [decide_eq_true c2, Bool.not_true, cond_false]
  by_cases c3 : opR (tk l i).text = 22
  ·refine ⟨syL 1001 (toksC l), _, 100, 40, 40, syL_ok (by decide) _, HRl_ok hgl hlp (LpOK.no (o := rwO .ret 0 l.length slN 0 0 (rwR0 (toksC l) 0 0 0 0 ⟨#[]⟩))), (r_rl0E gl _ _ opR fmB (i : Int) num l.length (toksC l) 0 0 0 0 ⟨#[]⟩ 0 0 0).trans ?_⟩
   simp only [hg0, beqN, bneD, b22, bKN, tTN, sameL_self, Int.toNat_natCast, tk_kOk, tk_tOk, tk_k, aC, Bool.and_true, Bool.true_and, Bool.and_self, cond_true, qs_eq, veqS7, decide_eq_false c1, decide_eq_false c1L, decide_eq_true c2, decide_eq_true c3, Bool.not_false, Bool.not_true, cond_false]
   rfl
  rw [decide_eq_false c3, cond_false]
  have hop : opR (tk l i).text < 22 := by omega
  have hrw := rw_loop hgl (ws0 := wantsOf (opR (tk l i).text)) (num := num) (lb := []) (op := opR (tk l i).text) (i0 := i) (by omega) hl (rwants_len o0 hop)
  rw [← fm_wts hop] at hrw
  have hgo := rwGo_len (l := l) (num := num) (wantsOf (opR (tk l i).text)) true i [] oneNil
  have hwl := rwants_len o0 hop
  have hg1 : atS (rwSt (fmB (opR (tk l i).text)) num l [] (opR (tk l i).text) 0 i [] oneNil).1 (rwSt (fmB (opR (tk l i).text)) num l [] (opR (tk l i).text) 0 i [] oneNil).2 (rwV 0 (fmB (opR (tk l i).text)) num (i : Int) l.length slN) (rwR0 (toksC l) (opR (tk l i).text) 0 0 0 ⟨#[]⟩) = true := atS_self _ _
  generalize atS (rwSt (fmB (opR (tk l i).text)) num l [] (opR (tk l i).text) 0 i [] oneNil).1 (rwSt (fmB (opR (tk l i).text)) num l [] (opR (tk l i).text) 0 i [] oneNil).2 = g1 at hrw hg1
  generalize rwGo l num (wantsOf (opR (tk l i).text)) true i [] oneNil = R at hrw hgo
  rcases R with ⟨j, r, rg, o⟩ | ⟨j, rg, o⟩
  ·cases rg with
   | nil =>
    refine ⟨syL 1001 (toksC l), _, 100, 40, 40, syL_ok (by decide) _, HRl_ok hgl hlp hrw, (r_rl0E gl _ _ opR fmB (i : Int) num l.length (toksC l) (opR (tk l i).text) o.n o.ln o.x o.lb (j : Int) (r : Int) 210).trans ?_⟩
    simp only [hg0, beqN, bneD, b22, bKN, tTN, sameL_self, Int.toNat_natCast, tk_kOk, tk_tOk, tk_k, aC, Bool.and_true, Bool.true_and, Bool.and_self, cond_true, qs_eq, veqS7, hg1, d0, decide_eq_false c1, decide_eq_false c1L, decide_eq_true c2, decide_eq_false c3, Bool.not_false, Bool.not_true, cond_false]
    rfl
   | cons q rg =>
    have aR := rgC_all (q :: rg)
    refine ⟨syL 1001 (toksC l), _, 100, 40, 40, syL_ok (by decide) _, HRl_ok hgl hlp hrw, (r_rl0R gl _ _ opR fmB (i : Int) num l.length (toksC l) (rgC (q :: rg)) (q :: rg).length (opR (tk l i).text) o.n o.ln o.x o.lb (j : Int) (r : Int) 210).trans ?_⟩
    simp only [hg0, beqN, bneD, b22, bKN, tTN, sameL_self, Int.toNat_natCast, tk_kOk, tk_tOk, tk_k, aC, Bool.and_true, Bool.true_and, Bool.and_self, cond_true, qs_eq, veqS7, hg1, d0, decide_eq_false c1, decide_eq_false c1L, decide_eq_true c2, decide_eq_false c3, Bool.not_false, Bool.not_true, cond_false, aR]
    rfl
  ·obtain ⟨g3, g4⟩ := hgo _ rfl
   have g4 := g4 (by omega)
   simp only [List.length_nil, Nat.zero_add] at g3 g4
   have wj : IntKind.i64.wrap ((j : Int) + 1) = ((j + 1 : Nat) : Int) := wrapS (by omega)
   have dj : decide (((j + 1 : Nat) : Int) < (l.length : Int)) = decide (j + 1 < l.length) := decide_eq_decide.2 (by omega)
   rcases rg with _ | ⟨q0, _ | ⟨q1, _ | ⟨q2, _ | ⟨q3, rg⟩⟩⟩⟩
   ·refine ⟨syL 1001 (toksC l), _, 100, 40, 40, syL_ok (by decide) _, HRl_ok hgl hlp hrw, (r_rl00 gl _ _ opR fmB (i : Int) num l.length (toksC l) (opR (tk l i).text) o.n o.ln o.x o.lb (j : Int)).trans ?_⟩
    simp only [hg0, beqN, bneD, b22, bKN, tTN, sameL_self, Int.toNat_natCast, tk_kOk, tk_tOk, tk_k, aC, Bool.and_true, Bool.true_and, Bool.and_self, cond_true, qs_eq, veqS7, hg1, d0, decide_eq_false c1, decide_eq_false c1L, decide_eq_true c2, decide_eq_false c3, Bool.not_false, Bool.not_true, cond_false, wj, dj]
    cases decide (j + 1 < l.length) <;> rfl
   ·refine ⟨syL 1001 (toksC l), _, 100, 40, 40, syL_ok (by decide) _, HRl_ok hgl hlp hrw, (r_rl01 gl _ _ opR fmB (i : Int) num l.length (toksC l) (opR (tk l i).text) o.n o.ln o.x o.lb (j : Int) q0).trans ?_⟩
    simp only [hg0, beqN, bneD, b22, bKN, tTN, sameL_self, Int.toNat_natCast, tk_kOk, tk_tOk, tk_k, aC, Bool.and_true, Bool.true_and, Bool.and_self, cond_true, qs_eq, veqS7, hg1, d0, decide_eq_false c1, decide_eq_false c1L, decide_eq_true c2, decide_eq_false c3, Bool.not_false, Bool.not_true, cond_false, wj, dj]
    cases decide (j + 1 < l.length) <;> rfl
   ·refine ⟨syL 1001 (toksC l), _, 100, 40, 40, syL_ok (by decide) _, HRl_ok hgl hlp hrw, (r_rl02 gl _ _ opR fmB (i : Int) num l.length (toksC l) (opR (tk l i).text) o.n o.ln o.x o.lb (j : Int) q0 q1).trans ?_⟩
    simp only [hg0, beqN, bneD, b22, bKN, tTN, sameL_self, Int.toNat_natCast, tk_kOk, tk_tOk, tk_k, aC, Bool.and_true, Bool.true_and, Bool.and_self, cond_true, qs_eq, veqS7, hg1, d0, decide_eq_false c1, decide_eq_false c1L, decide_eq_true c2, decide_eq_false c3, Bool.not_false, Bool.not_true, cond_false, wj, dj]
    cases decide (j + 1 < l.length) <;> rfl
   ·refine ⟨syL 1001 (toksC l), _, 100, 40, 40, syL_ok (by decide) _, HRl_ok hgl hlp hrw, (r_rl03 gl _ _ opR fmB (i : Int) num l.length (toksC l) (opR (tk l i).text) o.n o.ln o.x o.lb (j : Int) q0 q1 q2).trans ?_⟩
    simp only [hg0, beqN, bneD, b22, bKN, tTN, sameL_self, Int.toNat_natCast, tk_kOk, tk_tOk, tk_k, aC, Bool.and_true, Bool.true_and, Bool.and_self, cond_true, qs_eq, veqS7, hg1, d0, decide_eq_false c1, decide_eq_false c1L, decide_eq_true c2, decide_eq_false c3, Bool.not_false, Bool.not_true, cond_false, wj, dj]
    cases decide (j + 1 < l.length) <;> rfl
   ·simp only [List.length_cons] at g3
    omega
 | cons p lb =>
  by_cases c1 : i = l.length
  ·refine ⟨syL 1001 (toksC l), _, 100, 40, 40, syL_ok (by decide) _, HRl_ok hgl hlp (LpOK.no (o := rwO .ret 0 l.length slN 0 0 (rwR1 (toksC l) 0 0 0 0 ⟨#[]⟩ (lbC (p :: lb)) (p :: lb).length))), (r_rl1E gl _ _ opR fmB (i : Int) num l.length (toksC l) (lbC (p :: lb)) (p :: lb).length 0 0 0 0 ⟨#[]⟩ 0 0 0).trans ?_⟩
   simp only [hg0, beqN, bneD, b22, bKN, tTN, sameL_self, Int.toNat_natCast, tk_kOk, tk_tOk, tk_k, aC, aL, Bool.and_true, Bool.true_and, Bool.and_self, cond_true, qs_eq, veqS7, decide_eq_true c1]
   rfl
  have c1L : ¬ l.length ≤ i := by omega
  rw [decide_eq_false c1, cond_false]
  by_cases c2 : (tk l i).kind = 1
  case neg =>
   refine ⟨syL 1001 (toksC l), _, 100, 40, 40, syL_ok (by decide) _, HRl_ok hgl hlp (LpOK.no (o := rwO .ret 0 l.length slN 0 0 (rwR1 (toksC l) 0 0 0 0 ⟨#[]⟩ (lbC (p :: lb)) (p :: lb).length))), (r_rl1E gl _ _ opR fmB (i : Int) num l.length (toksC l) (lbC (p :: lb)) (p :: lb).length 0 0 0 0 ⟨#[]⟩ 0 0 0).trans ?_⟩
   simp only [hg0, beqN, bneD, b22, bKN, tTN, sameL_self, Int.toNat_natCast, tk_kOk, tk_tOk, tk_k, aC, aL, Bool.and_true, Bool.true_and, Bool.and_self, cond_true, qs_eq, veqS7, decide_eq_false c1, decide_eq_false c1L, decide_eq_false c2, Bool.not_false, cond_false]
   rfl
  rw [decide_eq_true c2, Bool.not_true, cond_false]
  by_cases c3 : opR (tk l i).text = 22
  ·refine ⟨syL 1001 (toksC l), _, 100, 40, 40, syL_ok (by decide) _, HRl_ok hgl hlp (LpOK.no (o := rwO .ret 0 l.length slN 0 0 (rwR1 (toksC l) 0 0 0 0 ⟨#[]⟩ (lbC (p :: lb)) (p :: lb).length))), (r_rl1E gl _ _ opR fmB (i : Int) num l.length (toksC l) (lbC (p :: lb)) (p :: lb).length 0 0 0 0 ⟨#[]⟩ 0 0 0).trans ?_⟩
   simp only [hg0, beqN, bneD, b22, bKN, tTN, sameL_self, Int.toNat_natCast, tk_kOk, tk_tOk, tk_k, aC, aL, Bool.and_true, Bool.true_and, Bool.and_self, cond_true, qs_eq, veqS7, decide_eq_false c1, decide_eq_false c1L, decide_eq_true c2, decide_eq_true c3, Bool.not_false, Bool.not_true, cond_false]
   rfl
  rw [decide_eq_false c3, cond_false]
  have hop : opR (tk l i).text < 22 := by omega
  have hrw := rw_loop hgl (ws0 := wantsOf (opR (tk l i).text)) (num := num) (lb := (p :: lb)) (op := opR (tk l i).text) (i0 := i) (by omega) hl (rwants_len o0 hop)
  rw [← fm_wts hop] at hrw
  have hgo := rwGo_len (l := l) (num := num) (wantsOf (opR (tk l i).text)) true i [] oneNil
  have hwl := rwants_len o0 hop
  have hg1 : atS (rwSt (fmB (opR (tk l i).text)) num l (p :: lb) (opR (tk l i).text) 0 i [] oneNil).1 (rwSt (fmB (opR (tk l i).text)) num l (p :: lb) (opR (tk l i).text) 0 i [] oneNil).2 (rwV 0 (fmB (opR (tk l i).text)) num (i : Int) l.length slN) (rwR1 (toksC l) (opR (tk l i).text) 0 0 0 ⟨#[]⟩ (lbC (p :: lb)) (p :: lb).length) = true := atS_self _ _
  generalize atS (rwSt (fmB (opR (tk l i).text)) num l (p :: lb) (opR (tk l i).text) 0 i [] oneNil).1 (rwSt (fmB (opR (tk l i).text)) num l (p :: lb) (opR (tk l i).text) 0 i [] oneNil).2 = g1 at hrw hg1
  generalize rwGo l num (wantsOf (opR (tk l i).text)) true i [] oneNil = R at hrw hgo
  rcases R with ⟨j, r, rg, o⟩ | ⟨j, rg, o⟩
  ·cases rg with
   | nil =>
    refine ⟨syL 1001 (toksC l), _, 100, 40, 40, syL_ok (by decide) _, HRl_ok hgl hlp hrw, (r_rl1E gl _ _ opR fmB (i : Int) num l.length (toksC l) (lbC (p :: lb)) (p :: lb).length (opR (tk l i).text) o.n o.ln o.x o.lb (j : Int) (r : Int) 210).trans ?_⟩
    simp only [hg0, beqN, bneD, b22, bKN, tTN, sameL_self, Int.toNat_natCast, tk_kOk, tk_tOk, tk_k, aC, aL, Bool.and_true, Bool.true_and, Bool.and_self, cond_true, qs_eq, veqS7, hg1, d0, decide_eq_false c1, decide_eq_false c1L, decide_eq_true c2, decide_eq_false c3, Bool.not_false, Bool.not_true, cond_false]
    rfl
   | cons q rg =>
    have aR := rgC_all (q :: rg)
    refine ⟨syL 1001 (toksC l), _, 100, 40, 40, syL_ok (by decide) _, HRl_ok hgl hlp hrw, (r_rl1R gl _ _ opR fmB (i : Int) num l.length (toksC l) (rgC (q :: rg)) (lbC (p :: lb)) (p :: lb).length (q :: rg).length (opR (tk l i).text) o.n o.ln o.x o.lb (j : Int) (r : Int) 210).trans ?_⟩
    simp only [hg0, beqN, bneD, b22, bKN, tTN, sameL_self, Int.toNat_natCast, tk_kOk, tk_tOk, tk_k, aC, aL, Bool.and_true, Bool.true_and, Bool.and_self, cond_true, qs_eq, veqS7, hg1, d0, decide_eq_false c1, decide_eq_false c1L, decide_eq_true c2, decide_eq_false c3, Bool.not_false, Bool.not_true, cond_false, aR]
    rfl
  ·obtain ⟨g3, g4⟩ := hgo _ rfl
   have g4 := g4 (by omega)
   simp only [List.length_nil, Nat.zero_add] at g3 g4
   have wj : IntKind.i64.wrap ((j : Int) + 1) = ((j + 1 : Nat) : Int) := wrapS (by omega)
   have dj : decide (((j + 1 : Nat) : Int) < (l.length : Int)) = decide (j + 1 < l.length) := decide_eq_decide.2 (by omega)
   rcases rg with _ | ⟨q0, _ | ⟨q1, _ | ⟨q2, _ | ⟨q3, rg⟩⟩⟩⟩
   ·refine ⟨syL 1001 (toksC l), _, 100, 40, 40, syL_ok (by decide) _, HRl_ok hgl hlp hrw, (r_rl10 gl _ _ opR fmB (i : Int) num l.length (toksC l) (lbC (p :: lb)) (p :: lb).length (opR (tk l i).text) o.n o.ln o.x o.lb (j : Int)).trans ?_⟩
    simp only [hg0, beqN, bneD, b22, bKN, tTN, sameL_self, Int.toNat_natCast, tk_kOk, tk_tOk, tk_k, aC, aL, Bool.and_true, Bool.true_and, Bool.and_self, cond_true, qs_eq, veqS7, hg1, d0, decide_eq_false c1, decide_eq_false c1L, decide_eq_true c2, decide_eq_false c3, Bool.not_false, Bool.not_true, cond_false, wj, dj]
    cases decide (j + 1 < l.length) <;> rfl
   ·refine ⟨syL 1001 (toksC l), _, 100, 40, 40, syL_ok (by decide) _, HRl_ok hgl hlp hrw, (r_rl11 gl _ _ opR fmB (i : Int) num l.length (toksC l) (lbC (p :: lb)) (p :: lb).length (opR (tk l i).text) o.n o.ln o.x o.lb (j : Int) q0).trans ?_⟩
    simp only [hg0, beqN, bneD, b22, bKN, tTN, sameL_self, Int.toNat_natCast, tk_kOk, tk_tOk, tk_k, aC, aL, Bool.and_true, Bool.true_and, Bool.and_self, cond_true, qs_eq, veqS7, hg1, d0, decide_eq_false c1, decide_eq_false c1L, decide_eq_true c2, decide_eq_false c3, Bool.not_false, Bool.not_true, cond_false, wj, dj]
    cases decide (j + 1 < l.length) <;> rfl
   ·refine ⟨syL 1001 (toksC l), _, 100, 40, 40, syL_ok (by decide) _, HRl_ok hgl hlp hrw, (r_rl12 gl _ _ opR fmB (i : Int) num l.length (toksC l) (lbC (p :: lb)) (p :: lb).length (opR (tk l i).text) o.n o.ln o.x o.lb (j : Int) q0 q1).trans ?_⟩
    simp only [hg0, beqN, bneD, b22, bKN, tTN, sameL_self, Int.toNat_natCast, tk_kOk, tk_tOk, tk_k, aC, aL, Bool.and_true, Bool.true_and, Bool.and_self, cond_true, qs_eq, veqS7, hg1, d0, decide_eq_false c1, decide_eq_false c1L, decide_eq_true c2, decide_eq_false c3, Bool.not_false, Bool.not_true, cond_false, wj, dj]
    cases decide (j + 1 < l.length) <;> rfl
   ·refine ⟨syL 1001 (toksC l), _, 100, 40, 40, syL_ok (by decide) _, HRl_ok hgl hlp hrw, (r_rl13 gl _ _ opR fmB (i : Int) num l.length (toksC l) (lbC (p :: lb)) (p :: lb).length (opR (tk l i).text) o.n o.ln o.x o.lb (j : Int) q0 q1 q2).trans ?_⟩
    simp only [hg0, beqN, bneD, b22, bKN, tTN, sameL_self, Int.toNat_natCast, tk_kOk, tk_tOk, tk_k, aC, aL, Bool.and_true, Bool.true_and, Bool.and_self, cond_true, qs_eq, veqS7, hg1, d0, decide_eq_false c1, decide_eq_false c1L, decide_eq_true c2, decide_eq_false c3, Bool.not_false, Bool.not_true, cond_false, wj, dj]
    cases decide (j + 1 < l.length) <;> rfl
   ·simp only [List.length_cons] at g3
    omega
end Go.Proofs.YtgohbcbdgakjeaaGreatDoor
noncomputable section
namespace Go.Proofs.YtgohbcbdgakjeaaGreatDoor
open Go.Proofs.YtgohbcbdgakjeaaGreatDoor.Ev Go.RowKit
theorem tokNR_at {gl : Gl} (hgl : Low gl) (s : ByteArray) (h : (lnTok s).2.2 ≠ 0 ∨ (lnTok s).1 = []) : SubOK Tryz.prog gl 33 (tlN (atS [.string s] []) (cond (decide ((lnTok s).2.2 = 0)) 0 (lnTok s).2.1) (lnTok s).2.2) := by
 refine sub_at_of (lineR_sub hgl) (t := lnT 3 s) rfl ?_
 unfold lnT lnTok at *
 by_cases hs : (s.size : Int) > 200
 ·rw [decide_eq_true hs] at h ⊢
  rfl
 rw [decide_eq_false hs] at h ⊢
 simp only [cond_false] at h ⊢
 show cond _ (cond _ _ _) (cond _ _ _) = _
 by_cases he : (lineC s).2.2 = 0
 ·have hn : (lineC s).1 = [] := by
   rcases h with h | h
   ·exact absurd he h
   ·exact h
  rw [hn, decide_eq_true he, he]
  rfl
 ·rw [decide_eq_false he]
  cases (lineC s).1.isEmpty <;> rfl
theorem tokKR_at {gl : Gl} (hgl : Low gl) (s : ByteArray) (h : (lnTok s).2.2 = 0) (h2 : (lnTok s).1 ≠ []) : SubOK Tryz.prog gl 33 (tlK (atS [.string s] []) (toksC (lnTok s).1) (lnTok s).1.length) := by
 refine sub_at_of (lineR_sub hgl) (t := lnT 3 s) rfl ?_
 unfold lnT lnTok at *
 by_cases hs : (s.size : Int) > 200
 ·rw [decide_eq_true hs] at h
  cases h
 rw [decide_eq_false hs] at h h2 ⊢
 simp only [cond_false] at h h2 ⊢
 show cond _ (cond _ _ _) (cond _ _ _) = _
 have hn : (lineC s).1.isEmpty = false := by
  cases hq : (lineC s).1 with
  | nil => exact absurd hq h2
  | cons t l => rfl
 rw [hn, decide_eq_true h]
 rfl
theorem subS_al (s : ByteArray) : subS s 0 (s.size : Int) = s := by
 unfold subS
 rw [Int.toNat_natCast]
 exact ByteArray.extract_zero_size
theorem byte_no {s : ByteArray} (h : NoB 10 s) {i : Nat} (hi : i < s.size) : byteAt s (i : Int) ≠ 10 := by
 intro e
 unfold byteAt at e
 rw [nthB_eq, Int.toNat_natCast] at e
 have hl : i < s.data.toList.length := by
  have : s.data.toList.length = s.size := by simp
  omega
 rw [List.getElem?_eq_getElem hl] at e
 have e2 : ((s.data.toList[i]).toNat : Int) = 10 := e
 have e3 : (s.data.toList[i]).toNat = (10 : UInt8).toNat := by show _ = 10; omega
 have e4 := UInt8.toNat_inj.1 e3
 exact h (by rw [← e4]; exact List.getElem_mem hl)
theorem rwGo_ret {l : List Tok} {num : Int} : ∀ (ws : List Int) (b : Bool) (i : Nat) (rg : List Int) (o : OneS) (q : Nat × Nat × List Int × OneS), i < l.length → rwGo l num ws b i rg o = .inl q → q.2.1 < l.length
 | [], b, i, rg, o, q, hi, h => by cases h
 | w :: ws, b, i, rg, o, q, hi, h => by
  have one : ∀ j, j ≤ l.length → 1 ≤ j → rwOne l num w j rg o (fun rg o => rwGo l num ws false j rg o) = .inl q → q.2.1 < l.length := fun j hj0 hj1 h => by
   unfold rwOne at h
   by_cases hj : l.length ≤ j
   ·rw [decide_eq_true hj] at h; cases h; simp only; omega
   rw [decide_eq_false hj, cond_false] at h
   cases h1 : ftB (wI w) (tk l j).kind with
   | false => rw [h1] at h; cases h; simp only; omega
   | true =>
    rw [h1, cond_true] at h
    cases h2 : decide (wI w = 114) with
    | true => rw [h2, cond_true] at h; exact rwGo_ret ws false j _ o q (by omega) h
    | false => rw [h2, cond_false] at h; exact rwGo_ret ws false j _ _ q (by omega) h
  cases b with
  | true => exact one (i + 1) (by omega) (by omega) h
  | false =>
   rw [rwGo] at h
   by_cases h1 : l.length ≤ i + 1
   ·rw [decide_eq_true h1] at h; cases h; exact hi
   ·rw [decide_eq_false h1, cond_false] at h
    cases h2 : decide ((tk l (i + 1)).kind = 4) with
    | false => rw [h2] at h; cases h; simp only; omega
    | true => rw [h2, cond_true] at h; exact one (i + 2) (by omega) (by omega) h
theorem rlEndS_bd {l : List Tok} {num : Int} {r : Nat × Lb × Bool} (hr : r.1 ≤ l.length) (hr2 : r.2.2 = true → r.1 < l.length) : (rlEndS l num r).er = 0 ∨ ((rlEndS l num r).on = none ∧ 0 ≤ (rlEndS l num r).pos ∧ (rlEndS l num r).pos < (l.length : Int)) := by
 unfold rlEndS
 cases h1 : r.2.2 with
 | true => have := hr2 h1; exact .inr ⟨rfl, by show (0 : Int) ≤ (r.1 : Int); omega, by show (r.1 : Int) < _; omega⟩
 | false =>
  rw [cond_false]
  by_cases h2 : r.1 = l.length
  ·rw [decide_eq_true h2]; exact .inl rfl
  rw [decide_eq_false h2, cond_false]
  cases !decide ((tk l r.1).kind = 1) with
  | true => exact .inr ⟨rfl, by show (0 : Int) ≤ (r.1 : Int); omega, by show (r.1 : Int) < _; omega⟩
  | false =>
   rw [cond_false]
   cases decide (opR (tk l r.1).text = 22) with
   | true => exact .inr ⟨rfl, by show (0 : Int) ≤ (r.1 : Int); omega, by show (r.1 : Int) < _; omega⟩
   | false =>
    rw [cond_false]
    cases hq : rwGo l num (wantsOf (opR (tk l r.1).text)) true r.1 [] oneNil with
    | inl q =>
     have := rwGo_ret _ _ _ _ _ q (by omega) hq
     exact .inr ⟨rfl, by show (0 : Int) ≤ (q.2.1 : Int); omega, by show (q.2.1 : Int) < _; omega⟩
    | inr q =>
     by_cases h5 : q.1 + 1 < l.length
     ·simp only [decide_eq_true h5, cond_true]
      exact .inr ⟨trivial, by omega, by omega⟩
     ·simp only [decide_eq_false h5, cond_false]
      exact .inl trivial
def mrTt (lb : Lb) (on : Option (Int × List Int × OneS)) : List (Option LObj) := match lb, on with
 | [], none => mrT 0 [] 0 [] 1002
 | p :: lb, none => mrT 1 (lbC (p :: lb)) (p :: lb).length [] 1002
 | [], some q => mrT 2 [] 0 (oneC q) 1002
 | p :: lb, some q => mrT 3 (lbC (p :: lb)) (p :: lb).length (oneC q) 1002
structure MrS where
 at_ : Int
 er : Int
 lb : Lb
 on : Option (Int × List Int × OneS)
def rlnS (s : ByteArray) : RlS := rlEndS (lnTok s).1 1 (lbGo (lnTok s).1 0 ((lnTok s).1.length + 1) 0 [])
def mrS (s : ByteArray) : MrS := if (lnTok s).2.2 ≠ 0 then ⟨(lnTok s).2.1, (lnTok s).2.2, [], none⟩ else if (lnTok s).1 = [] then ⟨0, 0, [], none⟩ else
 if (rlnS s).er ≠ 0 then ⟨(tk (lnTok s).1 (rlnS s).pos.toNat).at_, (rlnS s).er, (rlnS s).lb, none⟩ else ⟨0, 0, (rlnS s).lb, (rlnS s).on⟩
def mrFin (S : MrS) : Out := if S.er ≠ 0 then mrO .ret S.er (spotRow 1 S.at_ :: mrTt S.lb S.on) else mrO (.exit 0) 0 (spotRow 0 0 :: mrTt S.lb S.on)
def mrA (s : ByteArray) (i : Nat) : LSt := (mrV (i : Int) 1 0 s, spotRow 0 0 :: mrT 0 [] 0 [] 1002)
def mrB (s : ByteArray) (lb : Lb) (on : Option (Int × List Int × OneS)) : LSt := (mrV ((s.size + 1 : Nat) : Int) 2 ((s.size + 1 : Nat) : Int) s, spotRow 0 0 :: mrTt lb on)
theorem mr_step {gl : Gl} (hgl : Low gl) {s : ByteArray} (hs : NoB 10 s) (hz : s.size ≤ 900000) {i : Nat} (hi : i < s.size) : ∃ H : Hs, H.OK Tryz.prog gl ∧
  roundK noSy Tryz.prog gl exB H 100 40 40 16 0 mrLive (mrA s i) (rndK Tryz.prog 1002 mrLive mrOut) = some (.inl (mrA s (i + 1))) := by
 refine ⟨hsOf [] [(33, tlN (fun _ _ => false) 0 0)] [], hsOf_ok (fun _ h => by cases h) (fun p hp => ?_) (fun p hp => by cases hp), (r_mrN gl _ 0 0 (i : Int) s).trans ?_⟩
 ·simp only [List.mem_cons, List.not_mem_nil, or_false] at hp
  subst hp
  intro vs rows t e v rows' h1 h2
  cases h1
  cases h2
 ·have w : IntKind.i64.wrap ((i : Int) + 1) = ((i + 1 : Nat) : Int) := wrapS (by omega)
  rw [w]
  exact condI (decide_eq_true (by omega)) (condI (decide_eq_true (by omega)) (condI (by rw [d0N, decide_eq_true (show (i : Int) < (s.size : Int) by omega)]; rfl) (condI (by rw [bneD, decide_eq_false (byte_no hs hi)]; rfl) rfl)))
theorem mr_end {gl : Gl} (hgl : Low gl) {s : ByteArray} (hz : s.size ≤ 900000) {lb : Lb} {on : Option (Int × List Int × OneS)} :
  roundK noSy Tryz.prog gl exB (HM0 flH flH) 100 40 40 16 0 mrLive (mrB s lb on) (rndK Tryz.prog 1002 mrLive mrOut) = some (.inr (mrO (.exit 0) 0 (spotRow 0 0 :: mrTt lb on))) := by
 have d : decide (((s.size + 1 : Nat) : Int) ≤ (s.size : Int)) = false := decide_eq_false (by omega)
 have aL := lbC_all lb
 cases lb with
 | nil =>
  cases on with
  | none => exact (r_mx0 gl _ _ s).trans (condE d rfl)
  | some q => exact (r_mx2 gl _ _ s _ _ _ _ _ _ _ _).trans (condE d rfl)
 | cons p lb =>
  cases on with
  | none => exact (r_mx1 gl _ _ s _ _).trans (condE d (condI (andI aL rfl) rfl))
  | some q => exact (r_mx3 gl _ _ s _ _ _ _ _ _ _ _ _ _).trans (condE d (condI (andI aL rfl) rfl))
theorem flH_ok {gl : Gl} {f : FuncId} : SubOK Tryz.prog gl f flH := by
 intro vs rows t e v rows' h1 h2
 cases h1
 cases h2
theorem HM0_ok {gl : Gl} {t l : Hd} (ht : SubOK Tryz.prog gl 33 t) (hl : SubOK Tryz.prog gl 34 l) : (HM0 t l).OK Tryz.prog gl := hsOf_ok (fun _ h => by cases h) (fun p hp => by
 simp only [List.mem_cons, List.not_mem_nil, or_false] at hp
 rcases hp with rfl | rfl
 ·exact ht
 ·exact hl) (fun _ h => by cases h)
theorem mr_line {gl : Gl} (hgl : Low gl) {s : ByteArray} (hz : s.size ≤ 900000) : ∃ (sy : Sy) (H : Hs), SyOK gl sy ∧ H.OK Tryz.prog gl ∧
  roundK sy Tryz.prog gl exB H 100 40 40 16 0 mrLive (mrA s s.size) (rndK Tryz.prog 1002 mrLive mrOut) = some (if (mrS s).er ≠ 0 then .inr (mrFin (mrS s)) else .inl (mrB s (mrS s).lb (mrS s).on)) := by
 have w : IntKind.i64.wrap ((s.size : Int) + 1) = ((s.size + 1 : Nat) : Int) := wrapS (by omega)
 have d1 : decide ((s.size : Int) ≤ (s.size : Int)) = true := decide_eq_true (by omega)
 have d2 : decide ((s.size : Int) < (s.size : Int)) = false := decide_eq_false (by omega)
 have d3 : (decide (0 ≤ (s.size : Int)) && decide ((s.size : Int) ≤ (s.size : Int))) = true := by rw [d0N, d1]; rfl
 have sa := subS_al s
 unfold mrFin mrS
 by_cases c1 : (lnTok s).2.2 = 0
 case neg =>
  refine ⟨noSy, _, noSy_ok, hsOf_ok (fun _ h => by cases h) (fun p hp => by
   simp only [List.mem_cons, List.not_mem_nil, or_false] at hp
   subst hp
   exact tokNR_at hgl s (.inl c1)) (fun _ h => by cases h), (r_mrN gl _ _ _ (s.size : Int) s).trans ?_⟩
  simp only [sa, d1, d2, d3, d0N, cond_true, cond_false, bneD, decide_eq_false c1, Bool.not_false, if_pos c1, atS_self]
  rfl
 simp only [ne_eq, c1, not_true_eq_false, if_false]
 by_cases c2 : (lnTok s).1 = []
 ·refine ⟨noSy, _, noSy_ok, hsOf_ok (fun _ h => by cases h) (fun p hp => by
   simp only [List.mem_cons, List.not_mem_nil, or_false] at hp
   subst hp
   exact tokNR_at hgl s (.inr c2)) (fun _ h => by cases h), (r_mrN gl _ _ _ (s.size : Int) s).trans ?_⟩
  simp only [sa, d1, d2, d3, d0N, cond_true, cond_false, bneD, c1, decide_true, Bool.not_true, if_pos c2, atS_self, w, not_true_eq_false, if_false]
  rfl
 simp only [if_neg c2]
 have ht := tokKR_at hgl s c1 c2
 have hlen := lnTok_len s
 have hl := rline_at hgl (num := 1) (l := (lnTok s).1) (by omega)
 have hbd := rlEndS_bd (l := (lnTok s).1) (num := 1) (r := lbGo (lnTok s).1 0 ((lnTok s).1.length + 1) 0 []) (lbGo_le _ _ _ (Nat.zero_le _)) (lbGo_tw _ _ _ (Nat.zero_le _))
 have hS : rlnS s = rlEndS (lnTok s).1 1 (lbGo (lnTok s).1 0 ((lnTok s).1.length + 1) 0 []) := rfl
 rw [← hS] at hl hbd
 generalize rlnS s = S at hl hbd
 generalize (lnTok s).1 = l at *
 have aC := toksC_all l
 obtain ⟨pos, er, lb, on⟩ := S
 simp only at hbd ⊢
 have aL := lbC_all lb
 have hgt : atS [.string s] [] [.string s] [] = true := atS_self _ _
 have hgl2 : atS [pK 1000, slK0 1001 l.length, .int .i64 1] (rlR0 (toksC l)) [pK 1000, slK0 1001 l.length, .int .i64 1] (rlR0 (toksC l)) = true := atS_self _ _
 have bl := nble (Nat.le_refl l.length)
 by_cases c3 : er = 0
 ·subst c3
  simp only [not_true_eq_false, if_false]
  cases lb with
  | nil =>
   cases on with
   | none =>
    refine ⟨syL 1002 (toksC l), _, syL_ok (by decide) _, HM0_ok ht hl, (r_mr0 gl _ _ (toksC l) l.length pos 0 (s.size : Int) s).trans ?_⟩
    simp only [sa, d1, d2, d3, d0N, cond_true, cond_false, aC, Bool.and_true, hgt, w]
    exact condI hgl2 rfl
   | some q =>
    refine ⟨syL 1002 (toksC l), _, syL_ok (by decide) _, HM0_ok ht hl, (r_mr2 gl _ _ (toksC l) l.length pos 0 (s.size : Int) s q.1 (rgN q.2.1 0) (rgN q.2.1 1) (rgN q.2.1 2) q.2.2.n q.2.2.ln q.2.2.x q.2.2.lb).trans ?_⟩
    simp only [sa, d1, d2, d3, d0N, cond_true, cond_false, aC, Bool.and_true, hgt, w]
    exact condI hgl2 rfl
  | cons p lb =>
   cases on with
   | none =>
    refine ⟨syL 1002 (toksC l), _, syL_ok (by decide) _, HM0_ok ht hl, (r_mr1 gl _ _ (toksC l) l.length pos 0 (s.size : Int) s (lbC (p :: lb)) (p :: lb).length).trans ?_⟩
    simp only [sa, d1, d2, d3, d0N, cond_true, cond_false, aC, aL, Bool.and_true, hgt, w]
    exact condI hgl2 rfl
   | some q =>
    refine ⟨syL 1002 (toksC l), _, syL_ok (by decide) _, HM0_ok ht hl, (r_mr3 gl _ _ (toksC l) l.length pos 0 (s.size : Int) s (lbC (p :: lb)) (p :: lb).length q.1 (rgN q.2.1 0) (rgN q.2.1 1) (rgN q.2.1 2) q.2.2.n q.2.2.ln q.2.2.x q.2.2.lb).trans ?_⟩
    simp only [sa, d1, d2, d3, d0N, cond_true, cond_false, aC, aL, Bool.and_true, hgt, w]
    exact condI hgl2 rfl
 ·simp only [c3, not_false_eq_true, if_true]
  rcases hbd with hbd | ⟨rfl, p0, p1⟩
  ·exact absurd hbd c3
  obtain ⟨n, rfl⟩ : ∃ n : Nat, pos = (n : Int) := ⟨pos.toNat, by omega⟩
  have hn : n < l.length := by omega
  have dn : (decide (0 ≤ (n : Int)) && decide ((n : Int) < (l.length : Int)) && l.length.ble l.length) = true := by rw [d0N, decide_eq_true p1, bl]; rfl
  have ok : (symOf (toksC l)).okI .i64 (0 + n * 4 + 3) = true := by rw [tk_aOk, decide_eq_false (by omega)]; rfl
  have v : (symOf (toksC l)).int .i64 (0 + n * 4 + 3) = (tk l n).at_ := tk_a l n
  have e0 : (er != 0) = true := by rw [bneD, decide_eq_false c3]; rfl
  cases lb with
  | nil =>
   refine ⟨syL 1002 (toksC l), _, syL_ok (by decide) _, HM0_ok ht hl, (r_mr0 gl _ _ (toksC l) l.length (n : Int) er (s.size : Int) s).trans ?_⟩
   simp only [sa, d1, d2, d3, d0N, cond_true, cond_false, aC, Bool.and_true, hgt, w, decide_eq_true p1, bl, Bool.and_self, ok, v, e0, Int.toNat_natCast, sameL_self, qs_eq]
   exact condI hgl2 rfl
  | cons p lb =>
   refine ⟨syL 1002 (toksC l), _, syL_ok (by decide) _, HM0_ok ht hl, (r_mr1 gl _ _ (toksC l) l.length (n : Int) er (s.size : Int) s (lbC (p :: lb)) (p :: lb).length).trans ?_⟩
   simp only [sa, d1, d2, d3, d0N, cond_true, cond_false, aC, aL, Bool.and_true, hgt, w, decide_eq_true p1, bl, Bool.and_self, ok, v, e0, Int.toNat_natCast, sameL_self, qs_eq]
   exact condI hgl2 rfl
end Go.Proofs.YtgohbcbdgakjeaaGreatDoor
noncomputable section
namespace Go.Proofs.YtgohbcbdgakjeaaGreatDoor
open Go.Proofs.YtgohbcbdgakjeaaGreatDoor.Ev Go.RowKit
theorem lbGo_lb {l : List Tok} {n : Int} : ∀ (f i : Nat) (lb : Lb), (∀ p ∈ lb, p.2 = n) → (lbGo l n f i lb).2.1.length ≤ lb.length + f ∧ ∀ p ∈ (lbGo l n f i lb).2.1, p.2 = n
 | 0, i, lb, h => ⟨Nat.le_refl _, h⟩
 | f + 1, i, lb, h => by
  rw [lbGo]
  cases h1 : lbIs l i with
  | false => exact ⟨by show lb.length ≤ _; omega, h⟩
  | true =>
   rw [cond_true]
   cases h4 : lbHas lb (tk l i).text with
   | true => exact ⟨by show lb.length ≤ _; omega, h⟩
   | false =>
    rw [cond_false]
    obtain ⟨a, b⟩ := lbGo_lb f (i + 2) (lb ++ [((tk l i).text, n)]) fun p hp => by
     rcases List.mem_append.1 hp with hp | hp
     ·exact h p hp
     ·rw [List.mem_singleton] at hp; subst hp; rfl
    rw [List.length_append, List.length_singleton] at a
    exact ⟨by omega, b⟩
theorem lbAt_0 {s : ByteArray} : ∀ (lb : Lb), (∀ p ∈ lb, p.2 = 0) → lbAt lb s = 0
 | [], _ => rfl
 | p :: lb, h => by
  rw [lbAt, lbAt_0 lb fun q hq => h q (List.mem_cons_of_mem _ hq), h p (List.mem_cons_self ..)]
  cases s == p.1 <;> rfl
theorem rlEndS_ok (l : List Tok) (num : Int) (r : Nat × Lb × Bool) : (rlEndS l num r).lb = r.2.1 ∧ ∀ q, (rlEndS l num r).on = some q → 0 ≤ q.1 ∧ q.1 < 22 := by
 unfold rlEndS
 cases r.2.2 with
 | true => exact ⟨rfl, fun q h => by cases h⟩
 | false =>
  rw [cond_false]
  cases decide (r.1 = l.length) with
  | true => exact ⟨rfl, fun q h => by cases h⟩
  | false =>
   rw [cond_false]
   cases !decide ((tk l r.1).kind = 1) with
   | true => exact ⟨rfl, fun q h => by cases h⟩
   | false =>
    rw [cond_false]
    cases h : decide (opR (tk l r.1).text = 22) with
    | true => exact ⟨rfl, fun q h => by cases h⟩
    | false =>
     rw [cond_false]
     obtain ⟨o0, o1⟩ := opR_bd (tk l r.1).text
     have hne := of_decide_eq_false h
     cases rwGo l num (wantsOf (opR (tk l r.1).text)) true r.1 [] oneNil with
     | inl q => exact ⟨rfl, fun q h => by cases h⟩
     | inr q =>
      simp only
      cases decide (q.1 + 1 < l.length) with
      | true => exact ⟨rfl, fun q h => by cases h⟩
      | false => exact ⟨rfl, fun q h => by cases h; exact ⟨o0, by simp only; omega⟩⟩
theorem mrS_ok (s : ByteArray) : (mrS s).lb.length ≤ 300 ∧ (∀ p ∈ (mrS s).lb, p.2 = 0) ∧ (∀ q, (mrS s).on = some q → 0 ≤ q.1 ∧ q.1 < 22) ∧ ((mrS s).er ≠ 0 → (mrS s).on = none) := by
 unfold mrS
 split
 ·exact ⟨Nat.zero_le _, (fun p hp => by cases hp), (fun q h => by cases h), fun _ => rfl⟩
 split
 ·exact ⟨Nat.zero_le _, (fun p hp => by cases hp), (fun q h => by cases h), fun _ => rfl⟩
 have hlen := lnTok_len s
 obtain ⟨a, b⟩ := lbGo_lb (l := (lnTok s).1) (n := 0) ((lnTok s).1.length + 1) 0 [] fun p hp => by cases hp
 obtain ⟨c, d⟩ := rlEndS_ok (lnTok s).1 1 (lbGo (lnTok s).1 0 ((lnTok s).1.length + 1) 0 [])
 have e : (rlnS s).lb = (lbGo (lnTok s).1 0 ((lnTok s).1.length + 1) 0 []).2.1 := c
 rw [← e] at a b
 simp only [List.length_nil] at a
 split
 ·exact ⟨by simp only; omega, b, (fun q h => by cases h), fun _ => rfl⟩
 ·exact ⟨by simp only; omega, b, d, fun h => absurd rfl h⟩
theorem mr_loop {gl : Gl} (hgl : Low gl) {s : ByteArray} (hs : NoB 10 s) (hz : s.size ≤ 900000) : LpOK Tryz.prog gl 16 0 ⟨mrLive, mrOut, gH (atS (mrA s 0).1 (mrA s 0).2) (mrFin (mrS s))⟩ :=
 loop_here goodB hgl tglob (st0 := mrA s 0) (by show 1002 ≤ most; decide) ⟨Option {i : Nat // i ≤ s.size}, fun i => match i with
  | some i => mrA s i.1
  | none => mrB s (mrS s).lb (mrS s).on, fun i => match i with
  | some _ => some (mrFin (mrS s))
  | none => some (mrO (.exit 0) 0 (spotRow 0 0 :: mrTt (mrS s).lb (mrS s).on)), fun i => match i with
  | some i => s.size + 1 - i.1
  | none => 0, some ⟨0, Nat.zero_le _⟩, rfl, rfl, by
  intro i o ho
  cases i with
  | none =>
   cases ho
   exact ⟨noSy, HM0 flH flH, 100, 40, 40, _, noSy_ok, HM0_ok flH_ok flH_ok, mr_end hgl hz, rfl⟩
  | some i =>
   obtain ⟨i, hi⟩ := i
   cases ho
   by_cases h : i = s.size
   ·subst h
    obtain ⟨sy, H, h1, h2, h3⟩ := mr_line hgl hz
    refine ⟨sy, H, 100, 40, 40, _, h1, h2, h3, ?_⟩
    by_cases he : (mrS s).er = 0
    ·rw [if_neg (fun h => h he)]
     refine ⟨none, rfl, by show 0 < s.size + 1 - s.size; omega, ?_⟩
     unfold mrFin
     rw [if_neg (fun h => h he)]
    ·rw [if_pos he]
   ·obtain ⟨H, h1, h2⟩ := mr_step hgl hs hz (show i < s.size by omega)
    exact ⟨noSy, H, 100, 40, 40, _, noSy_ok, h1, h2, some ⟨i + 1, by omega⟩, rfl, by show s.size + 1 - (i + 1) < s.size + 1 - i; omega, rfl⟩⟩
def toldOf (q : Int × List Int × OneS) : Told := ⟨q.1, rgN q.2.1 0, rgN q.2.1 1, rgN q.2.1 2, q.2.2.n, q.2.2.ln, q.2.2.x, q.2.2.lb⟩
def mk1 (s : ByteArray) : MkA := if (mrS s).er ≠ 0 then ⟨[], 1, (mrS s).at_, (mrS s).er⟩ else match (mrS s).on with
 | none => ⟨[], 0, 0, 0⟩
 | some q => match tdW (mrS s).lb 0 (toldOf q) with
  | .inl w => ⟨[w], 0, 0, 0⟩
  | .inr e => ⟨[], q.2.2.ln, q.2.2.x, e⟩
theorem HMe_ok {gl : Gl} (hF : GlF gl) (hgl : Low gl) {g : GS} {o : Out} {fd : Hd} (hl : LpOK Tryz.prog gl 16 0 ⟨mrLive, mrOut, gH g o⟩) (hfd : SubOK Tryz.prog gl 35 fd) : (HMe g o fd putN cmayI).OK Tryz.prog gl :=
 hsOf_ok (fun p hp => by
  simp only [List.mem_cons, List.not_mem_nil, or_false] at hp
  subst hp
  exact fn_rput hF hgl) (fun p hp => by
  simp only [List.mem_cons, List.not_mem_nil, or_false] at hp
  subst hp
  exact hfd) (fun p hp q hq => by
  simp only [List.mem_cons, List.not_mem_nil, or_false] at hp
  subst hp
  simp only [List.mem_cons, List.not_mem_nil, or_false] at hq
  subst hq
  exact hl)
theorem noHd_ok {gl : Gl} {f : FuncId} : SubOK Tryz.prog gl f (fun _ _ => none) := fun _ _ _ _ _ _ h1 => by cases h1
theorem tl_eq (a : ByteArray) : (a.toList == (⟨#[]⟩ : ByteArray).toList) = decide (a = ⟨#[]⟩) := by
 rw [tlQ]
 by_cases h : a = ⟨#[]⟩
 ·rw [decide_eq_true h, h]; exact baq.2 rfl
 ·rw [decide_eq_false h]
  cases hb : (⟨#[]⟩ : ByteArray) == a with
  | false => rfl
  | true => exact absurd (baq.1 hb).symm h
theorem makeR_at {gl : Gl} (hF : GlF gl) (hgl : Low gl) {s : ByteArray} (hs : NoB 10 s) (hz : s.size ≤ 900000) : SubOK Tryz.prog gl 16 (gH (atS [.string s] []) (mkAns (mk1 s))) := by
 refine sub_at goodB hgl tglob (by show 1000 ≤ most; decide) ?_
 have hlp := mr_loop hgl hs hz
 obtain ⟨a0, a1, a2, a3⟩ := mrS_ok s
 have hg : atS (mrA s 0).1 (mrA s 0).2 (mrA s 0).1 (mrA s 0).2 = true := atS_self _ _
 generalize hgq : atS (mrA s 0).1 (mrA s 0).2 = g at hlp hg
 clear hgq
 unfold mk1
 unfold mrFin at hlp
 generalize mrS s = S at *
 obtain ⟨at_, er, lb, on⟩ := S
 simp only at a0 a1 a2 a3 hlp ⊢
 have aL := lbC_all lb
 by_cases he : er = 0
 case neg =>
  obtain rfl := a3 he
  simp only [ne_eq, he, not_false_eq_true, if_true] at hlp ⊢
  cases lb with
  | nil => exact ⟨noSy, _, 100, 40, 40, noSy_ok, HMe_ok hF hgl hlp flH_ok, (r_meT0 gl g putN cmayI s 1 at_ er).trans (condI hg rfl)⟩
  | cons p lb => exact ⟨noSy, _, 100, 40, 40, noSy_ok, HMe_ok hF hgl hlp flH_ok, (r_meT1 gl g putN cmayI s (lbC (p :: lb)) (p :: lb).length 1 at_ er).trans (condI hg (condI (andI aL rfl) rfl))⟩
 subst he
 simp only [ne_eq, not_true_eq_false, if_false] at hlp ⊢
 cases on with
 | none =>
  cases lb with
  | nil => exact ⟨noSy, _, 100, 40, 40, noSy_ok, HMe_ok hF hgl hlp flH_ok, (r_me0 gl g putN cmayI s).trans (condI hg rfl)⟩
  | cons p lb => exact ⟨noSy, _, 100, 40, 40, noSy_ok, HMe_ok hF hgl hlp flH_ok, (r_me1 gl g putN cmayI s (lbC (p :: lb)) (p :: lb).length).trans (condI hg (condI (andI aL rfl) rfl))⟩
 | some q =>
  obtain ⟨q0, q1⟩ := a2 q rfl
  have dq : (decide (0 ≤ q.1) && true) = true := by rw [decide_eq_true q0]; rfl
  have pe : ∀ n, (cmayI q.1 (rgN q.2.1 0) (rgN q.2.1 1) (rgN q.2.1 2) n != 0) = !cmay q.1 (rgN q.2.1 0) (rgN q.2.1 1) (rgN q.2.1 2) n := fun n => by
   unfold cmayI
   cases cmay q.1 (rgN q.2.1 0) (rgN q.2.1 1) (rgN q.2.1 2) n <;> rfl
  have z0 := lbAt_0 (s := q.2.2.lb) lb a1
  have zw : IntKind.i64.wrap (0 - 1) = IntKind.i64.wrap (IntKind.i64.wrap (0 - ((0 : Nat) : Int)) - 1) := by decide
  have tN : tdN lb 0 (toldOf q) = cond (decide (q.2.2.lb = ⟨#[]⟩)) q.2.2.n (IntKind.i64.wrap (0 - 1)) := by
   show cond (decide (q.2.2.lb = ⟨#[]⟩)) q.2.2.n (IntKind.i64.wrap (IntKind.i64.wrap (lbAt lb q.2.2.lb - ((0 : Nat) : Int)) - 1)) = _
   rw [z0, zw]
  have tW : tdW lb 0 (toldOf q) = cond (decide (q.2.2.lb = ⟨#[]⟩) || lbHas lb q.2.2.lb) (cond (cmay q.1 (rgN q.2.1 0) (rgN q.2.1 1) (rgN q.2.1 2) (tdN lb 0 (toldOf q))) (.inl (putN q.1 (rgN q.2.1 0) (rgN q.2.1 1) (rgN q.2.1 2) (tdN lb 0 (toldOf q)))) (.inr 5)) (.inr 212) := rfl
  simp only
  rw [tW, tN]
  clear tW tN
  cases lb with
  | nil =>
   refine ⟨noSy, _, 100, 40, 40, noSy_ok, HMe_ok hF hgl hlp noHd_ok, (r_me2 gl g putN cmayI s q.1 (rgN q.2.1 0) (rgN q.2.1 1) (rgN q.2.1 2) q.2.2.n q.2.2.ln q.2.2.x q.2.2.lb).trans (condI hg ?_)⟩
   rw [tl_eq]
   simp only [qs_eq, dq, pe, cond_true]
   by_cases hlb : q.2.2.lb = ⟨#[]⟩
   ·simp only [decide_eq_true hlb, cond_true, Bool.true_or]
    cases cmay q.1 (rgN q.2.1 0) (rgN q.2.1 1) (rgN q.2.1 2) q.2.2.n <;> rfl
   ·simp only [decide_eq_false hlb, cond_false, Bool.false_or]
    rfl
  | cons p lb =>
   have hfd := find_at1 hgl (s := q.2.2.lb) (lb := p :: lb) (ts := oneC q) rfl (by omega)
   refine ⟨noSy, _, 100, 40, 40, noSy_ok, HMe_ok hF hgl hlp hfd, (r_me3 gl g putN cmayI s (lbC (p :: lb)) (p :: lb).length q.1 (rgN q.2.1 0) (rgN q.2.1 1) (rgN q.2.1 2) q.2.2.n q.2.2.ln q.2.2.x q.2.2.lb _ (lbAt (p :: lb) q.2.2.lb) (lbHas (p :: lb) q.2.2.lb)).trans (condI hg ?_)⟩
   rw [tl_eq, z0]
   simp only [qs_eq, dq, pe, cond_true, aL, Bool.and_true]
   by_cases hlb : q.2.2.lb = ⟨#[]⟩
   ·simp only [decide_eq_true hlb, cond_true, Bool.true_or]
    cases cmay q.1 (rgN q.2.1 0) (rgN q.2.1 1) (rgN q.2.1 2) q.2.2.n <;> rfl
   ·simp only [decide_eq_false hlb, cond_false, Bool.false_or]
    refine condI (atS_self _ _) ?_
    cases lbHas (p :: lb) q.2.2.lb with
    | false => rfl
    | true =>
     simp only [cond_true]
     cases cmay q.1 (rgN q.2.1 0) (rgN q.2.1 1) (rgN q.2.1 2) (IntKind.i64.wrap (0 - 1)) <;> rfl
end Go.Proofs.YtgohbcbdgakjeaaGreatDoor
noncomputable section
namespace Go.Proofs.YtgohbcbdgakjeaaGreatDoor
open Go.Proofs.YtgohbcbdgakjeaaGreatDoor.Ev Go.RowKit
def TkG (t : Tok) : Prop := (t.kind = 3 → t.text = ⟨#[]⟩) ∧ (t.kind = 1 → t.n = 0)
theorem tokS_G {s : ByteArray} {a : Int} {t : Tok} {k : Int} (h : tokS s a = .tok t k) : TkG t := by
 unfold tokS at h
 split at h
 case isFalse => cases h
 split at h
 ·cases h
 split at h
 ·cases h
 split at h
 ·cases h; exact ⟨fun _ => rfl, fun _ => rfl⟩
 split at h
 ·cases h; exact ⟨fun _ => rfl, fun _ => rfl⟩
 split at h
 ·split at h
  ·cases h; exact ⟨fun _ => rfl, fun h => by cases h⟩
  ·cases h; exact ⟨(fun h => by cases h), fun _ => rfl⟩
 split at h
 ·split at h
  ·cases h; exact ⟨fun _ => rfl, fun h => by cases h⟩
  ·cases h
 ·cases h
theorem tokGo_G {s : ByteArray} : ∀ (f : Nat) (a : Int) (l : List Tok), (∀ t ∈ l, TkG t) → ∀ t ∈ (tokGo s f a l).1, TkG t
 | 0, a, l, hl => hl
 | f + 1, a, l, hl => by
  unfold tokGo
  cases hq : tokS s a with
  | stop => exact hl
  | err e => exact hl
  | skip => exact tokGo_G f (a + 1) l hl
  | tok t k =>
   refine tokGo_G f (a + k) (l ++ [t]) fun x hx => ?_
   rcases List.mem_append.1 hx with hx | hx
   ·exact hl x hx
   ·rw [List.mem_singleton] at hx
    subst hx
    exact tokS_G hq
theorem lnTok_G (s : ByteArray) (j : Nat) : TkG (tk (lnTok s).1 j) := by
 have h : ∀ t ∈ (lnTok s).1, TkG t := by
  unfold lnTok
  cases decide ((s.size : Int) > 200) with
  | true => exact fun t h => by cases h
  | false => exact tokGo_G _ _ _ fun t h => by cases h
 unfold tk
 cases hj : (lnTok s).1[j]? with
 | none => exact ⟨fun _ => rfl, fun _ => rfl⟩
 | some t => exact h t (List.mem_of_getElem? hj)
def wGd : List Int → Bool
 | [] => true
 | [_] => true
 | w :: ws => decide (w = 0) && wGd ws
theorem wGd_cons {w : Int} {ws : List Int} (h : wGd (w :: ws) = true) : wGd ws = true ∧ (w ≠ 0 → ws = []) := by
 cases ws with
 | nil => exact ⟨rfl, fun _ => rfl⟩
 | cons x ws =>
  have h : (decide (w = 0) && wGd (x :: ws)) = true := h
  simp only [Bool.and_eq_true, decide_eq_true_eq] at h
  exact ⟨h.2, fun hw => absurd h.1 hw⟩
theorem put_told (op x : Int) (rg : List Int) (h : rg.length ≤ 2) : (toldOf (op, rg, oneNil)).put rg.length x = toldOf (op, rg ++ [x], oneNil) := by
 rcases rg with _ | ⟨q0, _ | ⟨q1, _ | ⟨q2, rg⟩⟩⟩
 ·rfl
 ·rfl
 ·rfl
 ·simp only [List.length_cons] at h; omega
def GoRel (l : List Tok) (op : Int) (a : RwR) (b : LiR) : Prop := match a with
 | .inl _ => ∃ e, b = .inl e
 | .inr q => b = cond (decide (l.length ≤ q.1 + 1)) (.inr (toldOf (op, q.2.1, q.2.2))) (.inl (((q.1 + 1 : Nat) : Int), 210))
theorem ftR (k : Int) : ftB 114 k = decide (k = 2) := by
 unfold ftB
 cases decide (k = 2) <;> rfl
theorem ftN (k : Int) : ftB 110 k = decide (k = 3) := by
 unfold ftB
 cases decide (k = 3) <;> rfl
theorem ftP (k : Int) : ftB 112 k = (decide (k = 3) || decide (k = 1)) := by
 unfold ftB
 cases decide (k = 3) <;> cases decide (k = 1) <;> rfl
theorem one_rel {l : List Tok} {num op : Int} {w : Int} {ws : List Int} {j : Nat} {rg : List Int} (hT : ∀ j, TkG (tk l j)) (hw : w = 0 ∨ w = 1 ∨ w = 2) (hg : w ≠ 0 → ws = []) (hr : rg.length ≤ 2)
  (ih : ∀ rg', rg'.length = rg.length + 1 → GoRel l op (rwGo l num ws false j rg' oneNil) (wantGo l num ws false j rg'.length (toldOf (op, rg', oneNil)))) :
  GoRel l op (rwOne l num w j rg oneNil fun rg o => rwGo l num ws false j rg o) (wantOne l num w j rg.length (toldOf (op, rg, oneNil)) fun r t => wantGo l num ws false j r t) := by
 unfold rwOne wantOne
 cases decide (l.length ≤ j) with
 | true => exact ⟨_, rfl⟩
 | false =>
  rw [cond_false, cond_false]
  obtain ⟨t3, t1⟩ := hT j
  rcases hw with rfl | rfl | rfl
  ·rw [show wI 0 = 114 from rfl, ftR]
   cases decide ((tk l j).kind = 2) with
   | false => exact ⟨_, rfl⟩
   | true =>
    show GoRel l op (rwGo l num ws false j (rg ++ [(tk l j).n]) oneNil) (wantGo l num ws false j (rg.length + 1) ((toldOf (op, rg, oneNil)).put rg.length (tk l j).n))
    rw [put_told op _ rg hr]
    have := ih (rg ++ [(tk l j).n]) (by rw [List.length_append]; rfl)
    rw [List.length_append] at this
    exact this
  ·obtain rfl := hg (by decide)
   rw [show wI 1 = 110 from rfl, ftN]
   by_cases h3 : (tk l j).kind = 3
   ·rw [decide_eq_true h3]
    show GoRel l op (.inr (j, rg, ⟨(tk l j).n, num, (tk l j).at_, (tk l j).text⟩)) (cond (decide (l.length ≤ j + 1)) (.inr _) _)
    rw [t3 h3]
    rfl
   ·rw [decide_eq_false h3]
    exact ⟨_, rfl⟩
  ·obtain rfl := hg (by decide)
   rw [show wI 2 = 112 from rfl, ftP]
   by_cases h3 : (tk l j).kind = 3
   ·rw [decide_eq_true h3]
    show GoRel l op (.inr (j, rg, ⟨(tk l j).n, num, (tk l j).at_, (tk l j).text⟩)) (cond (decide (l.length ≤ j + 1)) (.inr _) _)
    rw [t3 h3]
    rfl
   ·rw [decide_eq_false h3]
    by_cases h1 : (tk l j).kind = 1
    ·rw [decide_eq_true h1]
     show GoRel l op (.inr (j, rg, ⟨(tk l j).n, num, (tk l j).at_, (tk l j).text⟩)) (cond (decide (l.length ≤ j + 1)) (.inr _) _)
     rw [t1 h1]
     rfl
    ·rw [decide_eq_false h1]
     exact ⟨_, rfl⟩
theorem go_rel {l : List Tok} {num op : Int} (hT : ∀ j, TkG (tk l j)) : ∀ (ws : List Int) (b : Bool) (i : Nat) (rg : List Int), wGd ws = true → (∀ w ∈ ws, w = 0 ∨ w = 1 ∨ w = 2) → rg.length + ws.length ≤ 3 →
  GoRel l op (rwGo l num ws b i rg oneNil) (wantGo l num ws b i rg.length (toldOf (op, rg, oneNil)))
 | [], b, i, rg, _, _, _ => by cases b <;> rfl
 | w :: ws, b, i, rg, h1, h2, h3 => by
  obtain ⟨g1, g2⟩ := wGd_cons h1
  simp only [List.length_cons] at h3
  have one := fun j => one_rel (l := l) (num := num) (op := op) (w := w) (ws := ws) (j := j) (rg := rg) hT (h2 w (List.mem_cons_self ..)) g2 (by omega) fun rg' hr => go_rel hT ws false j rg' g1 (fun x hx => h2 x (List.mem_cons_of_mem _ hx)) (by omega)
  cases b with
  | true => exact one (i + 1)
  | false =>
   rw [rwGo, wantGo]
   cases decide (l.length ≤ i + 1) with
   | true => exact ⟨_, rfl⟩
   | false =>
    rw [cond_false, cond_false]
    cases decide ((tk l (i + 1)).kind = 4) with
    | false => exact ⟨_, rfl⟩
    | true => exact one (i + 2)
theorem wants_gd {op : Int} (h0 : 0 ≤ op) (h1 : op < 22) : wGd (wantsOf op) = true ∧ ∀ w ∈ wantsOf op, w = 0 ∨ w = 1 ∨ w = 2 := by
 rcases wants_cases h0 h1 with h | h | h | h | h | h | h | h <;> rw [h] <;> exact ⟨by decide, by decide⟩
theorem end_rel {l : List Tok} {num : Int} (hT : ∀ j, TkG (tk l j)) (r : Nat × Lb × Bool) : match liEnd l num [] r with
  | .inr _ => (rlEndS l num r).er = 0 ∧ (rlEndS l num r).on = none
  | .inl (.inl _) => (rlEndS l num r).er ≠ 0
  | .inl (.inr t) => (rlEndS l num r).er = 0 ∧ ∃ q, (rlEndS l num r).on = some q ∧ toldOf q = t := by
 unfold liEnd rlEndS
 cases r.2.2 with
 | true => exact show (211 : Int) ≠ 0 by decide
 | false =>
  rw [cond_false, cond_false]
  cases decide (r.1 = l.length) with
  | true => exact ⟨rfl, rfl⟩
  | false =>
   rw [cond_false, cond_false]
   unfold liRes opR
   obtain ⟨o0, o1⟩ := ops_has (tk l r.1).text
   cases hm : mapHas opsE (tk l r.1).text with
   | false =>
    rw [cond_false, cond_false]
    cases decide ((tk l r.1).kind = 1) <;> exact show (210 : Int) ≠ 0 by decide
   | true =>
    rw [cond_true, cond_true]
    cases decide ((tk l r.1).kind = 1) with
    | false => exact show (210 : Int) ≠ 0 by decide
    | true =>
     rw [cond_true, Bool.not_true, cond_false, decide_eq_false (show ¬ mapI opsE (tk l r.1).text = 22 by omega), cond_false, decide_eq_false (show ¬ ([] : List Told).length = 1024 by decide), cond_false]
     obtain ⟨g1, g2⟩ := wants_gd o0 o1
     have h := go_rel (l := l) (num := num) (op := mapI opsE (tk l r.1).text) hT (wantsOf (mapI opsE (tk l r.1).text)) true r.1 [] g1 g2 (by have := rwants_len o0 o1; simp only [List.length_nil]; omega)
     have h : GoRel l (mapI opsE (tk l r.1).text) (rwGo l num (wantsOf (mapI opsE (tk l r.1).text)) true r.1 [] oneNil) (wantGo l num (wantsOf (mapI opsE (tk l r.1).text)) true r.1 0 (toldNil (mapI opsE (tk l r.1).text))) := h
     cases hq : rwGo l num (wantsOf (mapI opsE (tk l r.1).text)) true r.1 [] oneNil with
     | inl q =>
      rw [hq] at h
      obtain ⟨e, h⟩ := h
      rw [h]
      exact show (210 : Int) ≠ 0 by decide
     | inr q =>
      rw [hq] at h
      have h : wantGo l num (wantsOf (mapI opsE (tk l r.1).text)) true r.1 0 (toldNil (mapI opsE (tk l r.1).text)) = (cond (decide (l.length ≤ q.1 + 1)) (.inr (toldOf (mapI opsE (tk l r.1).text, q.2.1, q.2.2))) (.inl (((q.1 + 1 : Nat) : Int), 210)) : LiR) := h
      rw [h]
      by_cases h5 : l.length ≤ q.1 + 1
      ·simp only [decide_eq_true h5, decide_eq_false (show ¬ q.1 + 1 < l.length by omega), cond_true, cond_false]
       exact ⟨trivial, _, rfl, rfl⟩
      ·simp only [decide_eq_false h5, decide_eq_true (show q.1 + 1 < l.length by omega), cond_true, cond_false]
       decide
theorem mk1_mkA {s : ByteArray} (hs : NoB 10 s) : ((mk1 s).er = 0 ↔ (mkA s).er = 0) ∧ (mk1 s).ws = (mkA s).ws := by
 have e1 : splB s nlB = [s] := splB_one hs
 have hlen := lnTok_len s
 have hE := end_rel (l := (lnTok s).1) (num := 1) (lnTok_G s) (lbGo (lnTok s).1 0 ((lnTok s).1.length + 1) 0 [])
 have hbd := fun hl => fun x hx => liEnd_bd (l := (lnTok s).1) (num := 1) (td := []) (r := lbGo (lnTok s).1 0 ((lnTok s).1.length + 1) 0 []) hl (lbGo_le _ _ _ (Nat.zero_le _)) (lbGo_tw _ _ _ (Nat.zero_le _)) (x := x) hx
 have hlb := (rlEndS_ok (lnTok s).1 1 (lbGo (lnTok s).1 0 ((lnTok s).1.length + 1) 0 [])).1
 have eA : mkA s = match lnStep s 1 [] [] with
   | ⟨_, _, some x⟩ => ⟨[], 1, x.1, x.2⟩
   | ⟨lb, td, none⟩ => mkW lb td := by
  unfold mkA
  rw [e1, mkGo]
  show (match (match lnStep s 1 [] [] with
   | ⟨lb', td', some x⟩ => (lb', td', some (((0 + 1 : Nat) : Int), x))
   | ⟨lb', td', none⟩ => mkGo [] (0 + 1) lb' td') with
   | (_, _, some x) => (⟨[], x.1, x.2.1, x.2.2⟩ : MkA)
   | (lb, td, none) => mkW lb td) = _
  rcases lnStep s 1 [] [] with ⟨lb, td, _ | x⟩ <;> rfl
 rw [eA]
 unfold mk1 mrS lnStep
 by_cases c1 : (lnTok s).2.2 = 0
 case neg =>
  simp only [ne_eq, c1, not_false_eq_true, if_true]
  first | exact ⟨Iff.rfl, rfl⟩ | exact ⟨trivial, rfl⟩ | exact ⟨trivial, trivial⟩ | exact ⟨⟨fun _ => rfl, fun _ => trivial⟩, rfl⟩
 simp only [ne_eq, c1, not_true_eq_false, if_false]
 by_cases c2 : (lnTok s).1 = []
 ·simp only [if_pos c2, not_true_eq_false, if_false]
  first | exact ⟨Iff.rfl, rfl⟩ | exact ⟨trivial, rfl⟩ | exact ⟨trivial, trivial⟩ | exact ⟨⟨fun _ => rfl, fun _ => trivial⟩, rfl⟩
 simp only [if_neg c2]
 have hS : rlnS s = rlEndS (lnTok s).1 1 (lbGo (lnTok s).1 0 ((lnTok s).1.length + 1) 0 []) := rfl
 rw [← hS] at hE hlb
 have hl1 : 1 ≤ (lnTok s).1.length := by
  cases h : (lnTok s).1 with
  | nil => exact absurd h c2
  | cons a l => rw [List.length_cons]; omega
 have hbd := hbd hl1
 show ((if ¬ (if ¬ (rlnS s).er = 0 then _ else _ : MrS).er = 0 then _ else _ : MkA).er = 0 ↔ (match (match liEnd (lnTok s).1 1 [] (lbGo (lnTok s).1 0 ((lnTok s).1.length + 1) 0 []) with
   | .inr _ => _
   | .inl (.inl x) => _
   | .inl (.inr t) => _ : MkS) with
   | ⟨_, _, some x⟩ => _
   | ⟨lb, td, none⟩ => _ : MkA).er = 0) ∧ _
 cases hq : liEnd (lnTok s).1 1 [] (lbGo (lnTok s).1 0 ((lnTok s).1.length + 1) 0 []) with
 | inr u =>
  rw [hq] at hE
  obtain ⟨h1, h2⟩ := hE
  simp only [h1, h2, not_true_eq_false, if_false]
  first | exact ⟨Iff.rfl, rfl⟩ | exact ⟨trivial, rfl⟩ | exact ⟨trivial, trivial⟩ | exact ⟨⟨fun _ => rfl, fun _ => trivial⟩, rfl⟩
 | inl x =>
  rcases x with x | t
  ·rw [hq] at hE
   have hx := (hbd x hq).2.2
   have hE : ¬ (rlnS s).er = 0 := hE
   simp only [hE, not_false_eq_true, if_true]
   refine ⟨⟨fun h => absurd h ?_, fun h => absurd h ?_⟩, ?_⟩
   ·first | exact hE | exact fun h => h
   ·first | exact hx | exact fun h => h
   ·first | rfl | trivial
  ·rw [hq] at hE
   obtain ⟨h1, q, h2, rfl⟩ := hE
   simp only [h1, h2, not_true_eq_false, if_false, List.nil_append]
   unfold mkW
   rw [wdGoM, hlb]
   cases tdW (lbGo (lnTok s).1 0 ((lnTok s).1.length + 1) 0 []).2.1 0 (toldOf q) with
   | inl w => first | exact ⟨Iff.rfl, rfl⟩ | exact ⟨trivial, rfl⟩ | exact ⟨trivial, trivial⟩ | exact ⟨⟨fun _ => rfl, fun _ => trivial⟩, rfl⟩
   | inr e => first | exact ⟨Iff.rfl, rfl⟩ | exact ⟨trivial, rfl⟩ | exact ⟨trivial, trivial⟩ | exact ⟨⟨fun _ => rfl, fun _ => trivial⟩, rfl⟩
end Go.Proofs.YtgohbcbdgakjeaaGreatDoor
noncomputable section
namespace Go.Proofs.YtgohbcbdgakjeaaGreatDoor
open Go.Proofs.YtgohbcbdgakjeaaGreatDoor.Ev Go.RowKit
def HRpl (T : TkF) : Hs := hsOf [(37, afTake T.v)] [] []
set_option maxRecDepth 100000 in
theorem r_rpl (gl : Gl) (T : TkF) (x : Int) : callSK noSy Tryz.prog gl exB (HRpl T) 100 40 40 (.fn 17) [.int .u32 x] LS.start flatR =
 cond (decide (0 ≤ x) && (decide (x < 4294967296))) (
 cond (T.o x == 0) (
 some (.bool false)) (
 cond (decide (T.o x ≥ 13)) (
 cond (decide (T.o x ≤ 19)) (
 some (.bool false)) (
 cond (decide (T.a x < 10)) (
 some (.bool true)) (
 some (.bool false)))) (
 cond (decide (T.a x < 10)) (
 some (.bool true)) (
 some (.bool false))))) (
 none) := by kernel_rfl
def HRmay (g0 g1 : ByteArray → Bool) (x y e : ByteArray → Int) (ws : ByteArray → List Value) (n : ByteArray → Nat) (p : Int → Bool) : Hs := hsOf [(17, afPl p)] [(16, mkFB g0 g1 x y e ws n)] []
set_option maxRecDepth 100000 in
theorem r_rmy25 (gl : Gl) (g0 g1 : ByteArray → Bool) (x y e : ByteArray → Int) (ws : ByteArray → List Value) (n : ByteArray → Nat) (p : Int → Bool) (a b : Int) (body : ByteArray) : roundK (syL 1000 (ws (subS body b a))) Tryz.prog gl exB (HRmay g0 g1 x y e ws n p) 100 40 40 7 0 [4, 3, 0, 2] ([.int .i64 a, .int .i64 b, .string body, .bool false], []) (rndK Tryz.prog 1000 [4, 3, 0, 2] [2]) =
 let z2 := subS body b a
 let z3 : Option (LSt ⊕ Out) := some (.inr (.ret, ([(.bool false)], [])))
 let z4 := (↑body.size : Int)
 let z5 := IntKind.i64.wrap (a + 1)
 let z1 : Option (LSt ⊕ Out) := some (.inl ([(.int .i64 z5), (.int .i64 z5), (.string (body)), (.bool false)], []))
 let z6 := symOf (ws z2)
 let z0 : Option (LSt ⊕ Out) := cond (decide (0 ≤ b) && (decide (b ≤ a)) && (decide (a ≤ z4))) (
 cond (g0 z2) (
 cond (e z2 != 0) z3 z1) (
 cond (g1 z2) (
 cond (List.all (ws z2) (af 8) && true) (
 cond (decide ((↑(n z2) : Int) > 1)) z3 (
 cond ((↑(n z2) : Int) == 1) (
 cond (decide (0 < (↑(n z2) : Int)) && ((n z2).ble (n z2))) (
 cond (sameL (ws z2) (ws z2)) (
 cond (z6.okI .u32 0) (
 cond (decide (0 ≤ z6.int .u32 0) && (decide (z6.int .u32 0 < 4294967296))) (
 cond (p (z6.int .u32 0)) z1 z3) (
 none)) (
 none)) (
 none)) (
 none)) z1)) (
 none)) (
 none))) (
 none)
 cond (decide (a ≤ z4)) (
 cond (decide (a < z4)) (
 cond (decide (0 ≤ a) && (decide (a < z4))) (
 cond (byteAt body a != 10) (
 some (.inl ([(.int .i64 z5), (.int .i64 (b)), (.string (body)), (.bool false)], []))) z0) (
 none)) z0) (
 some (.inr (.exit 0, ([(.bool false)], [])))) := by kernel_rfl
set_option maxRecDepth 100000 in
theorem r_rnm (gl : Gl) (a : Int) (s : ByteArray) : roundK noSy Tryz.prog gl exB HB0 100 40 40 21 0 [3, 0, 2] ([.int .i64 a, .string s, .bool false], []) (rndK Tryz.prog 1000 [3, 0, 2] [0, 2]) =
 let z0 := decide (a < (↑s.size : Int))
 let z1 : Option (LSt ⊕ Out) := some (.inr (.ret, ([(.string (s)), (.bool false)], [])))
 cond z0 (
 cond (decide (0 ≤ a) && z0) (
 cond (decide (byteAt s a < 97)) z1 (
 cond (decide (0 ≤ a) && z0) (
 cond (decide (byteAt s a > 122)) z1 (
 some (.inl ([(.int .i64 (IntKind.i64.wrap (a + 1))), (.string (s)), (.bool false)], [])))) (
 none))) (
 none)) (
 some (.inr (.exit 0, ([(.string (s)), (.bool false)], [])))) := by kernel_rfl
def HRmc (g : GS) (o : Out) : Hs := hsOf [] [] [(7, [(0, ⟨[4, 3, 0, 2], [2], gH g o⟩)])]
def HRnc (g : GS) (o : Out) : Hs := hsOf [] [] [(21, [(0, ⟨[3, 0, 2], [0, 2], gH g o⟩)])]
set_option maxRecDepth 100000 in
theorem r_rmc0 (gl : Gl) (g : GS) (body : ByteArray) : callSK noSy Tryz.prog gl exB (HRmc g (.exit 0, [.bool false], [])) 100 40 40 (.fn 7) [.string body] LS.start flatR =
 cond (g [.int .i64 0, .int .i64 0, .string body, .bool false] []) (
 some (.bool true)) (
 none) := by kernel_rfl
set_option maxRecDepth 100000 in
theorem r_rmc1 (gl : Gl) (g : GS) (body : ByteArray) : callSK noSy Tryz.prog gl exB (HRmc g (.ret, [.bool false], [])) 100 40 40 (.fn 7) [.string body] LS.start flatR =
 cond (g [.int .i64 0, .int .i64 0, .string body, .bool false] []) (
 some (.bool false)) (
 none) := by kernel_rfl
set_option maxRecDepth 100000 in
theorem r_rnc0 (gl : Gl) (g : GS) (s : ByteArray) : callSK noSy Tryz.prog gl exB (HRnc g (.exit 0, [.string s, .bool false], [])) 100 40 40 (.fn 21) [.string s] LS.start flatR =
 cond (g [.int .i64 0, .string s, .bool false] []) (
 cond (decide ((↑s.size : Int) ≥ 1)) (
 cond (decide ((↑s.size : Int) ≤ 8)) (
 some (.bool true)) (
 some (.bool false))) (
 some (.bool false))) (
 none) := by kernel_rfl
set_option maxRecDepth 100000 in
theorem r_rnc1 (gl : Gl) (g : GS) (s : ByteArray) : callSK noSy Tryz.prog gl exB (HRnc g (.ret, [.string s, .bool false], [])) 100 40 40 (.fn 21) [.string s] LS.start flatR =
 cond (g [.int .i64 0, .string s, .bool false] []) (
 some (.bool false)) (
 none) := by kernel_rfl
def HRsec (nm my : ByteArray → Bool) (p : Int → Bool) (it : Int → ByteArray) : Hs := hsOf [(22, afDig p it), (21, afBl nm), (7, afBm my)] [] []
def apK {R : Type} : List ByteArray → ByteArray → (ByteArray → Option R) → Option R
 | [], a, k => k a
 | p :: ps, a, k => cond ((a.size + p.size).ble 9223372036854775807) (apK ps (a ++ p) k) none
def secF : ByteArray := (⟨#[115, 101, 116, 32, 114, 49, 48, 44, 32]⟩ : ByteArray)
def secL (lk tr n body : ByteArray) : List ByteArray := [tr, (⟨#[10]⟩ : ByteArray), n, (⟨#[46, 116, 114, 121, 58, 32, 98, 101, 113, 32, 114, 49, 48, 44, 32, 114, 48, 44, 32]⟩ : ByteArray), n, (⟨#[46, 114, 101, 97, 108, 10, 98, 101, 103, 105, 110, 32]⟩ : ByteArray), n, (⟨#[46, 102, 97, 105, 108, 10, 115, 101, 116, 32, 114, 49, 49, 44, 32]⟩ : ByteArray), lk, (⟨#[10]⟩ : ByteArray), (⟨#[108, 111, 97, 100, 32, 114, 49, 50, 44, 32, 114, 49, 49, 44, 32, 48, 10, 108, 111, 97, 100, 32, 114, 49, 51, 44, 32, 114, 49, 49, 44, 32, 52, 10, 98, 110, 101, 32, 114, 49, 50, 44, 32, 114, 49, 51, 44, 32]⟩ : ByteArray), n, (⟨#[46, 98, 117, 115, 121, 10]⟩ : ByteArray), body, (⟨#[10, 101, 110, 100, 10, 106, 117, 109, 112, 32]⟩ : ByteArray), n, (⟨#[46, 111, 117, 116, 10]⟩ : ByteArray), n, (⟨#[46, 98, 117, 115, 121, 58, 32, 97, 98, 111, 114, 116, 32, 49, 10]⟩ : ByteArray), n, (⟨#[46, 102, 97, 105, 108, 58, 32, 97, 100, 100, 105, 32, 114, 49, 48, 44, 32, 114, 49, 48, 44, 32, 45, 49, 10, 106, 117, 109, 112, 32]⟩ : ByteArray), n, (⟨#[46, 116, 114, 121, 10]⟩ : ByteArray), n, (⟨#[46, 114, 101, 97, 108, 58, 32, 115, 101, 116, 32, 114, 49, 49, 44, 32]⟩ : ByteArray), lk, (⟨#[10]⟩ : ByteArray), n, (⟨#[46, 116, 97, 107, 101, 58, 32, 108, 111, 97, 100, 32, 114, 49, 50, 44, 32, 114, 49, 49, 44, 32, 48, 10, 97, 100, 100, 105, 32, 114, 49, 51, 44, 32, 114, 49, 50, 44, 32, 49, 10, 97, 100, 100, 32, 114, 49, 52, 44, 32, 114, 49, 50, 44, 32, 114, 48, 10, 115, 119, 97, 112, 32, 114, 49, 52, 44, 32, 114, 49, 49, 44, 32, 114, 49, 51, 10, 98, 110, 101, 32, 114, 49, 52, 44, 32, 114, 49, 50, 44, 32]⟩ : ByteArray), n, (⟨#[46, 116, 97, 107, 101, 10]⟩ : ByteArray), n, (⟨#[46, 119, 97, 105, 116, 58, 32, 108, 111, 97, 100, 32, 114, 49, 51, 44, 32, 114, 49, 49, 44, 32, 52, 10, 98, 110, 101, 32, 114, 49, 51, 44, 32, 114, 49, 50, 44, 32]⟩ : ByteArray), n, (⟨#[46, 119, 97, 105, 116, 10]⟩ : ByteArray), body, (⟨#[10]⟩ : ByteArray), (⟨#[108, 111, 97, 100, 32, 114, 49, 51, 44, 32, 114, 49, 49, 44, 32, 52, 10, 97, 100, 100, 105, 32, 114, 49, 51, 44, 32, 114, 49, 51, 44, 32, 49, 10, 115, 116, 111, 114, 101, 32, 114, 49, 51, 44, 32, 114, 49, 49, 44, 32, 52, 10]⟩ : ByteArray), n, (⟨#[46, 111, 117, 116, 58, 32, 102, 101, 110, 99, 101, 10]⟩ : ByteArray)]
set_option maxRecDepth 100000 in
theorem r_rsec (gl : Gl) (nm my : ByteArray → Bool) (p : Int → Bool) (it : Int → ByteArray) (lk tr : Int) (n body : ByteArray) : callSK noSy Tryz.prog gl exB (HRsec nm my p it) 100 40 40 (.fn 9) [.int .u32 lk, .int .i64 tr, .string n, .string body] LS.start flatR =
 let z0 : Option Value := some (.tuple #[.string ⟨#[]⟩, .int .i64 5])
 cond (lk.tmod 4 != 0) z0 (cond (lk.tmod 64 == 60) z0 (cond (decide (lk > 2097151)) z0 (cond (decide (tr < 0)) z0 (cond (decide (tr > 8)) z0
 (cond (decide (n.size ≤ 140737488355328)) (cond (nm n) (cond (decide (body.size ≤ 900000)) (cond (my body) (cond (p (IntKind.i64.wrap lk)) (cond (p tr)
 (apK (secL (it (IntKind.i64.wrap lk)) (it tr) n body) secF fun s => some (.tuple #[.string s, .int .i64 0])) none) none)
 (some (.tuple #[.string ⟨#[]⟩, .int .i64 2]))) none) (some (.tuple #[.string ⟨#[]⟩, .int .i64 2]))) none))))) := by kernel_rfl
end Go.Proofs.YtgohbcbdgakjeaaGreatDoor
noncomputable section
namespace Go.Proofs.YtgohbcbdgakjeaaGreatDoor
open Go.Proofs.YtgohbcbdgakjeaaGreatDoor.Ev Go.RowKit
theorem fn_rpl {gl : Gl} (hF : GlF gl) (hgl : Low gl) : FnOK Tryz.prog gl 17 (afPl plB) := fn_ofT hgl fun args σ v h => by
 unfold afPl at h
 split at h
 ·rename_i x
  simp only [Option.some.injEq, Prod.mk.injEq] at h
  obtain ⟨h1, rfl⟩ := h
  refine ⟨rfl, noSy, HRpl TW, 100, 40, 40, noSy_ok, one_ok (fun p hp => by
   simp only [List.mem_cons, List.not_mem_nil, or_false] at hp
   subst hp
   show FnOK _ _ _ (afTake TW.v); rw [TW_af]; exact fn_rtake hF hgl), (r_rpl gl TW x).trans (condI h1 ?_)⟩
  rw [show TW.o x = cond (okW x) (oN x) 0 from rfl, show TW.a x = cond (okW x) (fA x) 0 from rfl]
  unfold plB opBad
  cases okW x with
  | false => rfl
  | true =>
   rw [cond_true, cond_true, Bool.true_and]
   generalize oN x = o
   generalize fA x = a
   rw [show (o == 0) = decide (o = 0) from rfl, show decide (o ≥ 13) = decide (13 ≤ o) from rfl]
   cases decide (o = 0) <;> cases decide (13 ≤ o) <;> cases decide (o ≤ 19) <;> cases decide (a < 10) <;> rfl
 ·cases h
theorem mkAns_nil {A : MkA} (h : A.ws = []) : mkAns A = (.normal, [mkT A slN], []) := by unfold mkAns; rw [h]
theorem mkAns_ne {A : MkA} (h : A.ws ≠ []) : mkAns A = (.normal, [mkT A (slK0 1000 A.ws.length)], [wdRow (wC A.ws)]) := by
 unfold mkAns
 split
 ·rename_i e; exact absurd e h
 ·rename_i e; rw [e]
theorem mk1_z {s : ByteArray} (h : (mk1 s).ws ≠ []) : (mk1 s).line = 0 ∧ (mk1 s).at_ = 0 ∧ (mk1 s).er = 0 := by
 unfold mk1 at h ⊢
 split
 ·rename_i e; rw [if_pos e] at h; exact absurd rfl h
 ·rename_i e
  rw [if_neg e] at h
  cases ho : (mrS s).on with
  | none => exact ⟨rfl, rfl, rfl⟩
  | some q =>
   rw [ho] at h
   simp only at h ⊢
   cases ht : tdW (mrS s).lb 0 (toldOf q) with
   | inl w => exact ⟨rfl, rfl, rfl⟩
   | inr e => rw [ht] at h; exact absurd rfl h
def rkG (s : ByteArray) : Bool := decide (s.size ≤ 900000) && cl (NoB 10 s)
def rkG0 (s : ByteArray) : Bool := rkG s && cl ((mk1 s).ws = [])
def rkG1 (s : ByteArray) : Bool := rkG s && cl ((mk1 s).ws ≠ [])
def rkX (s : ByteArray) : Int := (mk1 s).line
def rkY (s : ByteArray) : Int := (mk1 s).at_
def rkE (s : ByteArray) : Int := (mk1 s).er
def rkV (s : ByteArray) : List Value := wC (mk1 s).ws
def rkN (s : ByteArray) : Nat := (mk1 s).ws.length
theorem mkRB_ok {gl : Gl} (hF : GlF gl) (hgl : Low gl) : SubOK Tryz.prog gl 16 (mkFB rkG0 rkG1 rkX rkY rkE rkV rkN) := by
 intro vs rows t e v rows' h1 h2
 unfold mkFB at h1
 split at h1
 ·rename_i s
  cases h1
  cases hg : rkG0 s with
  | true =>
   have c := hg
   unfold rkG0 rkG at c
   simp only [Bool.and_eq_true, decide_eq_true_eq] at c
   have h3 : cond (rkG0 s) (DT.run _) (DT.run _) = some _ := h2
   rw [hg] at h3
   have hm := makeR_at hF hgl (of_cl c.1.2) c.1.1
   rw [mkAns_nil (of_cl c.2)] at hm
   exact hm _ _ _ e v rows' rfl (show cond (atS [.string s] [] [.string s] []) _ _ = _ by rw [atS_self, cond_true]; exact h3)
  | false =>
   have h3 : cond (rkG0 s) (DT.run _) (DT.run _) = some _ := h2
   rw [hg] at h3
   obtain ⟨c, h3⟩ := brT h3
   unfold rkG1 rkG at c
   simp only [Bool.and_eq_true, decide_eq_true_eq] at c
   have hn := of_cl c.2
   obtain ⟨z1, z2, z3⟩ := mk1_z hn
   have hm := makeR_at hF hgl (of_cl c.1.2) c.1.1
   rw [mkAns_ne hn] at hm
   unfold mkT at hm
   rw [z1, z2, z3] at hm
   exact hm _ _ _ e v rows' rfl (show cond (atS [.string s] [] [.string s] []) _ _ = _ by rw [atS_self, cond_true]; exact h3)
 ·cases h1
theorem line_chain {R : Type} {t : ByteArray} (ht : NoB 10 t) (hz : t.size ≤ 900000) (X Y : Option R) :
  cond (rkG0 t) (cond (rkE t != 0) X Y) (cond (rkG1 t) (cond (List.all (rkV t) (af 8) && true) (cond (decide (((rkN t : Nat) : Int) > 1)) X (cond (((rkN t : Nat) : Int) == 1)
   (cond (decide (0 < ((rkN t : Nat) : Int)) && ((rkN t).ble (rkN t))) (cond (sameL (rkV t) (rkV t)) (cond ((symOf (rkV t)).okI .u32 0) (cond (decide (0 ≤ (symOf (rkV t)).int .u32 0) && decide ((symOf (rkV t)).int .u32 0 < 4294967296))
    (cond (plB ((symOf (rkV t)).int .u32 0)) Y X) none) none) none) none) Y)) none) none) = cond (pcOK t) Y X := by
 obtain ⟨m1, m2⟩ := mk1_mkA ht
 have hg : rkG t = true := by unfold rkG; rw [decide_eq_true hz, cl_t ht]; rfl
 unfold pcOK
 rw [← m2]
 by_cases hn : (mk1 t).ws = []
 ·refine condI (by unfold rkG0; rw [hg, cl_t hn]; rfl) ?_
  rw [hn, bneI]
  show cond (!decide ((mk1 t).er = 0)) X Y = cond (decide ((mkA t).er = 0) && true) Y X
  rw [Bool.and_true, show decide ((mkA t).er = 0) = decide ((mk1 t).er = 0) from decide_eq_decide.2 m1.symm]
  cases decide ((mk1 t).er = 0) <;> rfl
 ·obtain ⟨_, _, e0⟩ := mk1_z hn
  have e1 := m1.1 e0
  have hk : ∀ w ∈ (mk1 t).ws, okW w = true ∧ 0 ≤ w ∧ w < 4294967296 := by
   rw [m2]
   rcases mkA_cases t with ⟨e, _⟩ | h
   ·rw [← m2] at e; exact absurd e hn
   ·exact h.2.2.2.2
  refine condE (by unfold rkG0; rw [show cl ((mk1 t).ws = []) = false from @decide_eq_false _ (Classical.propDecidable _) hn, Bool.and_false]) (condI (by unfold rkG1; rw [hg, cl_t hn]; rfl) (condI (andI (wC_all _) rfl) ?_))
  rw [decide_eq_true e1, Bool.true_and]
  unfold rkV rkN
  cases hw : (mk1 t).ws with
  | nil => exact absurd hw hn
  | cons w l =>
   cases l with
   | nil =>
    obtain ⟨_, w0, w1⟩ := hk w (by rw [hw]; exact List.mem_cons_self ..)
    refine condE rfl (condI rfl (condI rfl (condI (sameL_self _) (condI rfl ?_))))
    show cond (decide (0 ≤ w) && decide (w < 4294967296)) (cond (plB w) Y X) none = cond (plB w) Y X
    rw [decide_eq_true w0, decide_eq_true w1]
    rfl
   | cons w2 l =>
    refine condI (decide_eq_true ?_) rfl
    simp only [List.length_cons]
    omega
theorem noB_of2 {c : UInt8} {s : ByteArray} (h : ∀ i : Int, 0 ≤ i → i < (s.size : Int) → byteAt s i ≠ c.toNat) : NoB c s := fun e => by
 obtain ⟨k, hk⟩ := List.getElem?_of_mem e
 obtain ⟨hlt, hget⟩ := List.getElem?_eq_some_iff.1 hk
 rw [data_len] at hlt
 refine h (k : Int) (by omega) (by omega) ?_
 rw [byteAt_lt (by omega) (by omega)]
 simp only [Int.toNat_natCast, hget]
theorem sub_cut2 {s : ByteArray} {a i : Int} {c : UInt8} (h0 : 0 ≤ a) (h1 : a ≤ i) (h2 : i < (s.size : Int)) (hb : byteAt s i = c.toNat) : subS s a (s.size : Int) = subS s a i ++ ((⟨#[c]⟩ : ByteArray) ++ subS s (i + 1) (s.size : Int)) := by
 have z := subS_size (s := s) (l := a) (h := (s.size : Int)) h0 (by omega) (by omega)
 have z1 := subS_size (s := s) (l := a) (h := i) h0 h1 (by omega)
 have z2 := subS_size (s := s) (l := i + 1) (h := (s.size : Int)) (by omega) (by omega) (by omega)
 have zc : (⟨#[c]⟩ : ByteArray).size = 1 := rfl
 have ez := app_size (subS s a i) ((⟨#[c]⟩ : ByteArray) ++ subS s (i + 1) (s.size : Int))
 have ez2 := app_size (⟨#[c]⟩ : ByteArray) (subS s (i + 1) (s.size : Int))
 refine ext_bytes (by omega) fun j j0 j1 => ?_
 rw [byteAt_subS h0 (by omega) (by omega) j0 (by omega)]
 by_cases g1 : j < i - a
 ·rw [byteAt_l j0 (by omega), byteAt_subS h0 h1 (by omega) j0 g1]
 ·rw [byteAt_r (by omega) (by omega)]
  by_cases g2 : j = i - a
  ·rw [byteAt_l (by omega) (by omega), show j - ((subS s a i).size : Int) = 0 by omega, show a + j = i by omega, hb]
   rfl
  ·rw [byteAt_r (by omega) (by omega), byteAt_subS (by omega) (by omega) (by omega) (by omega) (by omega)]
   congr 1
   omega
theorem noB_sub2 {s : ByteArray} {a i : Int} {c : UInt8} (h0 : 0 ≤ a) (h1 : a ≤ i) (h2 : i ≤ (s.size : Int)) (hn : ∀ j, a ≤ j → j < i → byteAt s j ≠ c.toNat) : NoB c (subS s a i) := noB_of2 fun j j0 j1 => by
 have z1 := subS_size (s := s) h0 h1 h2
 rw [byteAt_subS h0 h1 h2 j0 (by omega)]
 exact hn _ (by omega) (by omega)
def m25St (body : ByteArray) (a b : Nat) : LSt := ([.int .i64 (a : Int), .int .i64 (b : Int), .string body, .bool false], [])
def m25O (ok : Bool) : Out := cond ok (.exit 0, [.bool false], []) (.ret, [.bool false], [])
theorem may_round {gl : Gl} {body : ByteArray} (hz : body.size ≤ 900000) {a b : Nat} (hb : b ≤ a) (ha : a ≤ body.size) (hn : ∀ j : Int, (b : Int) ≤ j → j < (a : Int) → byteAt body j ≠ 10) :
  roundK (syL 1000 (rkV (subS body (b : Int) (a : Int)))) Tryz.prog gl exB (HRmay rkG0 rkG1 rkX rkY rkE rkV rkN plB) 100 40 40 7 0 [4, 3, 0, 2] (m25St body a b) (rndK Tryz.prog 1000 [4, 3, 0, 2] [2]) =
   some (cond (decide (a < body.size) && !decide (byteAt body a = 10)) (.inl (m25St body (a + 1) b)) (cond (pcOK (subS body (b : Int) (a : Int))) (.inl (m25St body (a + 1) (a + 1))) (.inr (m25O false)))) := by
 have w : IntKind.i64.wrap ((a : Int) + 1) = ((a + 1 : Nat) : Int) := wrapS (by omega)
 have z1 := subS_size (s := body) (l := (b : Int)) (h := (a : Int)) (by omega) (by omega) (by omega)
 have ht : NoB 10 (subS body (b : Int) (a : Int)) := noB_sub2 (by omega) (by omega) (by omega) fun j j0 j1 => hn j j0 j1
 have hc := fun {R : Type} (X Y : Option R) => line_chain ht (show (subS body (b : Int) (a : Int)).size ≤ 900000 by omega) X Y
 have d3 : (decide (0 ≤ (b : Int)) && decide ((b : Int) ≤ (a : Int)) && decide ((a : Int) ≤ (body.size : Int))) = true := by
  rw [d0N, decide_eq_true (show (b : Int) ≤ (a : Int) by omega), decide_eq_true (show (a : Int) ≤ (body.size : Int) by omega)]; rfl
 refine (r_rmy25 gl rkG0 rkG1 rkX rkY rkE rkV rkN plB (a : Int) (b : Int) body).trans (condI (decide_eq_true (by omega)) ?_)
 by_cases h : a < body.size
 ·refine condI (decide_eq_true (by omega)) (condI (by rw [d0N, decide_eq_true (show (a : Int) < (body.size : Int) by omega)]; rfl) ?_)
  rw [decide_eq_true h, Bool.true_and, bneD, w]
  cases decide (byteAt body a = 10) with
  | false => rfl
  | true =>
   refine condE rfl (condI d3 ((hc _ _).trans ?_))
   cases pcOK (subS body (b : Int) (a : Int)) <;> rfl
 ·rw [decide_eq_false h, Bool.false_and, w]
  refine condE (decide_eq_false (by omega)) (condI d3 ((hc _ _).trans ?_))
  cases pcOK (subS body (b : Int) (a : Int)) <;> rfl
theorem may_loop {gl : Gl} (hF : GlF gl) (hgl : Low gl) {body : ByteArray} (hz : body.size ≤ 900000) : LpOK Tryz.prog gl 7 0 ⟨[4, 3, 0, 2], [2], gH (atS (m25St body 0 0).1 (m25St body 0 0).2) (m25O (mayB body))⟩ :=
 have hH : (HRmay rkG0 rkG1 rkX rkY rkE rkV rkN plB).OK Tryz.prog gl := hsOf_ok (fun p hp => by
  simp only [List.mem_cons, List.not_mem_nil, or_false] at hp
  subst hp
  exact fn_rpl hF hgl) (fun p hp => by
  simp only [List.mem_cons, List.not_mem_nil, or_false] at hp
  subst hp
  exact mkRB_ok hF hgl) (fun p hp => by cases hp)
 loop_here goodB hgl tglob (st0 := m25St body 0 0) (by show 1000 ≤ most; decide) ⟨Option {p : Nat × Nat // p.2 ≤ p.1 ∧ p.1 ≤ body.size ∧ ∀ j : Int, (p.2 : Int) ≤ j → j < (p.1 : Int) → byteAt body j ≠ 10}, fun i => match i with
  | some p => m25St body p.1.1 p.1.2
  | none => m25St body (body.size + 1) (body.size + 1), fun i => match i with
  | some p => some (m25O ((splB (subS body (p.1.2 : Int) (body.size : Int)) nlB).all pcOK))
  | none => some (m25O true), fun i => match i with
  | some p => body.size + 1 - p.1.1
  | none => 0, some ⟨(0, 0), Nat.le_refl _, Nat.zero_le _, fun j h1 h2 => by simp only at h1 h2; omega⟩, rfl, by
   show some (m25O ((splB (subS body ((0 : Nat) : Int) (body.size : Int)) nlB).all pcOK)) = _
   rw [show ((0 : Nat) : Int) = 0 from rfl, subS_al]
   rfl, by
  intro i o ho
  cases i with
  | none =>
   cases ho
   refine ⟨syL 1000 (rkV (subS body ((body.size + 1 : Nat) : Int) ((body.size + 1 : Nat) : Int))), _, 100, 40, 40, .inr (m25O true), syL_ok (by decide) _, hH, (r_rmy25 gl rkG0 rkG1 rkX rkY rkE rkV rkN plB ((body.size + 1 : Nat) : Int) ((body.size + 1 : Nat) : Int) body).trans (condE (decide_eq_false (by omega)) rfl), rfl⟩
  | some p =>
   obtain ⟨⟨a, b⟩, hb, ha, hn⟩ := p
   simp only at hb ha hn
   have ho2 : o = m25O ((splB (subS body (b : Int) (body.size : Int)) nlB).all pcOK) := (Option.some.inj ho).symm
   clear ho
   refine ⟨_, _, 100, 40, 40, _, syL_ok (by decide) _, hH, may_round hz hb ha hn, ?_⟩
   have ht : NoB 10 (subS body (b : Int) (a : Int)) := noB_sub2 (by omega) (by omega) (by omega) fun j j0 j1 => hn j j0 j1
   have ec : ((a + 1 : Nat) : Int) = (a : Int) + 1 := by omega
   by_cases h : a < body.size
   ·by_cases h10 : byteAt body a = 10
    ·have e := sub_cut2 (s := body) (a := (b : Int)) (i := (a : Int)) (c := 10) (by omega) (by omega) (by omega) h10
     have e2 : splB (subS body (b : Int) (body.size : Int)) nlB = subS body (b : Int) (a : Int) :: splB (subS body ((a : Int) + 1) (body.size : Int)) nlB := by rw [e]; exact splB_app _ ht
     rw [e2, List.all_cons] at ho2
     simp only [decide_eq_true h, decide_eq_true h10, Bool.not_true, Bool.and_false, cond_false]
     cases hp : pcOK (subS body (b : Int) (a : Int)) with
     | false =>
      rw [hp] at ho2
      exact ho2.symm
     | true =>
      rw [hp, Bool.true_and] at ho2
      refine ⟨some ⟨(a + 1, a + 1), Nat.le_refl _, h, fun j h1 h2 => by simp only at h1 h2; omega⟩, rfl, by show body.size + 1 - (a + 1) < body.size + 1 - a; omega, ?_⟩
      show some (m25O ((splB (subS body ((a + 1 : Nat) : Int) (body.size : Int)) nlB).all pcOK)) = some o
      rw [ho2, ec]
    ·simp only [decide_eq_true h, decide_eq_false h10, Bool.not_false, Bool.and_self, cond_true]
     refine ⟨some ⟨(a + 1, b), by simp only; omega, h, fun j h1 h2 => ?_⟩, rfl, by show body.size + 1 - (a + 1) < body.size + 1 - a; omega, by rw [ho2]⟩
     simp only at h1 h2
     by_cases hj : j = (a : Int)
     ·rw [hj]; exact h10
     ·exact hn j h1 (by omega)
   ·have hea : a = body.size := by omega
    have e2 : splB (subS body (b : Int) (body.size : Int)) nlB = [subS body (b : Int) (a : Int)] := by rw [← hea]; exact splB_one ht
    rw [e2, List.all_cons, List.all_nil, Bool.and_true] at ho2
    simp only [decide_eq_false h, Bool.false_and, cond_false]
    cases hp : pcOK (subS body (b : Int) (a : Int)) with
    | false =>
     rw [hp] at ho2
     exact ho2.symm
    | true =>
     rw [hp] at ho2
     refine ⟨none, by rw [hea], by show 0 < body.size + 1 - a; omega, ?_⟩
     show some (m25O true) = some o
     rw [ho2]⟩
theorem HRmc_ok {gl : Gl} {g : GS} {o : Out} (h : LpOK Tryz.prog gl 7 0 ⟨[4, 3, 0, 2], [2], gH g o⟩) : (HRmc g o).OK Tryz.prog gl := hsOf_ok (fun _ h => by cases h) (fun _ h => by cases h) (fun p hp q hq => by
 simp only [List.mem_cons, List.not_mem_nil, or_false] at hp
 subst hp
 simp only [List.mem_cons, List.not_mem_nil, or_false] at hq
 subst hq
 exact h)
theorem fn_rmay25 {gl : Gl} (hF : GlF gl) (hgl : Low gl) : FnOK Tryz.prog gl 7 (afBm mayB) := fn_ofT hgl fun args σ v h => by
 unfold afBm at h
 split at h
 ·rename_i s
  simp only [Option.some.injEq, Prod.mk.injEq, decide_eq_true_eq] at h
  obtain ⟨h1, rfl⟩ := h
  have hl := may_loop hF hgl h1
  refine ⟨rfl, noSy, ?_⟩
  cases hm : mayB s with
  | true =>
   rw [hm] at hl
   exact ⟨_, 100, 40, 40, noSy_ok, HRmc_ok hl, (r_rmc0 gl _ s).trans (condI (atS_self _ _) rfl)⟩
  | false =>
   rw [hm] at hl
   exact ⟨_, 100, 40, 40, noSy_ok, HRmc_ok hl, (r_rmc1 gl _ s).trans (condI (atS_self _ _) rfl)⟩
 ·cases h
end Go.Proofs.YtgohbcbdgakjeaaGreatDoor
noncomputable section
namespace Go.Proofs.YtgohbcbdgakjeaaGreatDoor
open Go.Proofs.YtgohbcbdgakjeaaGreatDoor.Ev Go.RowKit
def lowU (b : UInt8) : Bool := !decide ((b.toNat : Int) < 97) && !decide ((b.toNat : Int) > 122)
def nmR (s : ByteArray) : Bool := s.data.toList.all lowU && (decide ((s.size : Int) ≥ 1) && decide ((s.size : Int) ≤ 8))
theorem az_iff (x : UInt8) : (azB.data.toList.contains x) = lowU x := by
 have e : azB.data.toList = [97, 98, 99, 100, 101, 102, 103, 104, 105, 106, 107, 108, 109, 110, 111, 112, 113, 114, 115, 116, 117, 118, 119, 120, 121, 122] := rfl
 rw [e]
 cases h : lowU x with
 | true =>
  unfold lowU at h
  simp only [Bool.and_eq_true, Bool.not_eq_true', decide_eq_false_iff_not] at h
  rcases (show x.toNat = 97 ∨ x.toNat = 98 ∨ x.toNat = 99 ∨ x.toNat = 100 ∨ x.toNat = 101 ∨ x.toNat = 102 ∨ x.toNat = 103 ∨ x.toNat = 104 ∨ x.toNat = 105 ∨ x.toNat = 106 ∨ x.toNat = 107 ∨ x.toNat = 108 ∨ x.toNat = 109 ∨ x.toNat = 110 ∨ x.toNat = 111 ∨ x.toNat = 112 ∨ x.toNat = 113 ∨ x.toNat = 114 ∨ x.toNat = 115 ∨ x.toNat = 116 ∨ x.toNat = 117 ∨ x.toNat = 118 ∨ x.toNat = 119 ∨ x.toNat = 120 ∨ x.toNat = 121 ∨ x.toNat = 122 by omega) with g | g | g | g | g | g | g | g | g | g | g | g | g | g | g | g | g | g | g | g | g | g | g | g | g | g
  ·rw [UInt8.toNat_inj.1 (show x.toNat = (97 : UInt8).toNat from g)]; decide
  ·rw [UInt8.toNat_inj.1 (show x.toNat = (98 : UInt8).toNat from g)]; decide
  ·rw [UInt8.toNat_inj.1 (show x.toNat = (99 : UInt8).toNat from g)]; decide
  ·rw [UInt8.toNat_inj.1 (show x.toNat = (100 : UInt8).toNat from g)]; decide
  ·rw [UInt8.toNat_inj.1 (show x.toNat = (101 : UInt8).toNat from g)]; decide
  ·rw [UInt8.toNat_inj.1 (show x.toNat = (102 : UInt8).toNat from g)]; decide
  ·rw [UInt8.toNat_inj.1 (show x.toNat = (103 : UInt8).toNat from g)]; decide
  ·rw [UInt8.toNat_inj.1 (show x.toNat = (104 : UInt8).toNat from g)]; decide
  ·rw [UInt8.toNat_inj.1 (show x.toNat = (105 : UInt8).toNat from g)]; decide
  ·rw [UInt8.toNat_inj.1 (show x.toNat = (106 : UInt8).toNat from g)]; decide
  ·rw [UInt8.toNat_inj.1 (show x.toNat = (107 : UInt8).toNat from g)]; decide
  ·rw [UInt8.toNat_inj.1 (show x.toNat = (108 : UInt8).toNat from g)]; decide
  ·rw [UInt8.toNat_inj.1 (show x.toNat = (109 : UInt8).toNat from g)]; decide
  ·rw [UInt8.toNat_inj.1 (show x.toNat = (110 : UInt8).toNat from g)]; decide
  ·rw [UInt8.toNat_inj.1 (show x.toNat = (111 : UInt8).toNat from g)]; decide
  ·rw [UInt8.toNat_inj.1 (show x.toNat = (112 : UInt8).toNat from g)]; decide
  ·rw [UInt8.toNat_inj.1 (show x.toNat = (113 : UInt8).toNat from g)]; decide
  ·rw [UInt8.toNat_inj.1 (show x.toNat = (114 : UInt8).toNat from g)]; decide
  ·rw [UInt8.toNat_inj.1 (show x.toNat = (115 : UInt8).toNat from g)]; decide
  ·rw [UInt8.toNat_inj.1 (show x.toNat = (116 : UInt8).toNat from g)]; decide
  ·rw [UInt8.toNat_inj.1 (show x.toNat = (117 : UInt8).toNat from g)]; decide
  ·rw [UInt8.toNat_inj.1 (show x.toNat = (118 : UInt8).toNat from g)]; decide
  ·rw [UInt8.toNat_inj.1 (show x.toNat = (119 : UInt8).toNat from g)]; decide
  ·rw [UInt8.toNat_inj.1 (show x.toNat = (120 : UInt8).toNat from g)]; decide
  ·rw [UInt8.toNat_inj.1 (show x.toNat = (121 : UInt8).toNat from g)]; decide
  ·rw [UInt8.toNat_inj.1 (show x.toNat = (122 : UInt8).toNat from g)]; decide
 | false =>
  rw [Bool.eq_false_iff]
  intro hc
  rw [List.contains_iff_mem] at hc
  have : lowU x = true := by
   simp only [List.mem_cons, List.not_mem_nil, or_false] at hc
   rcases hc with rfl | rfl | rfl | rfl | rfl | rfl | rfl | rfl | rfl | rfl | rfl | rfl | rfl | rfl | rfl | rfl | rfl | rfl | rfl | rfl | rfl | rfl | rfl | rfl | rfl | rfl <;> decide
  rw [this] at h; cases h
theorem dw_all {α : Type} {p : α → Bool} : ∀ l : List α, (∀ x ∈ l, p x = true) → l.dropWhile p = []
 | [], _ => rfl
 | x :: l, h => by
  rw [List.dropWhile_cons, if_pos (h x (List.mem_cons_self ..))]
  exact dw_all l fun y hy => h y (List.mem_cons_of_mem _ hy)
theorem trB_eq (s : ByteArray) : decide (trB s = ⟨#[]⟩) = s.data.toList.all lowU := by
 cases h : s.data.toList.all lowU with
 | true =>
  rw [List.all_eq_true] at h
  refine decide_eq_true ?_
  unfold trB
  have hr : Lib.trimRightS s.data.toList azB.data.toList = [] := by
   unfold Lib.trimRightS
   rw [dw_all _ fun x hx => by rw [az_iff]; exact h x (List.mem_reverse.1 hx)]
   rfl
  unfold Lib.trimS
  rw [hr]
  rfl
 | false =>
  refine decide_eq_false fun e => ?_
  have h4 : Lib.trimS s.data.toList azB.data.toList = [] := by
   have := congrArg (fun b => b.data.toList) e
   simpa [trB] using this
  have h5 := trim_nil h4
  have h6 : s.data.toList.all lowU = true := List.all_eq_true.2 fun x hx => by rw [← az_iff]; exact List.contains_iff_mem.2 (h5 x hx)
  rw [h6] at h; cases h
theorem nm_eq (s : ByteArray) : nmOK s = nmR s := by
 unfold nmOK nmR
 rw [beqS, beqS, trB_eq]
 by_cases h : s = ⟨#[]⟩
 ·subst h; rfl
 ·have hz : s.size ≠ 0 := fun e => h (ByteArray.ext (Array.eq_empty_of_size_eq_zero e))
  rw [decide_eq_false h, cond_false, decide_eq_true (show (s.size : Int) ≥ 1 by omega), Bool.true_and]
  cases decide ((s.size : Int) ≤ 8) <;> cases s.data.toList.all lowU <;> rfl
def nmSt (s : ByteArray) (i : Nat) : LSt := ([.int .i64 (i : Int), .string s, .bool false], [])
def nmO (s : ByteArray) (ok : Bool) : Out := cond ok (.exit 0, [.string s, .bool false], []) (.ret, [.string s, .bool false], [])
theorem name_loop {gl : Gl} (hgl : Low gl) {s : ByteArray} (hz : s.size ≤ 140737488355328) : LpOK Tryz.prog gl 21 0 ⟨[3, 0, 2], [0, 2], gH (atS (nmSt s 0).1 (nmSt s 0).2) (nmO s (s.data.toList.all lowU))⟩ :=
 loop_here goodB hgl tglob (st0 := nmSt s 0) (by show 1000 ≤ most; decide) ⟨{i : Nat // i ≤ s.size}, fun i => nmSt s i.1, fun i => some (nmO s ((s.data.toList.drop i.1).all lowU)), fun i => s.size - i.1, ⟨0, Nat.zero_le _⟩, rfl, rfl, by
  rintro ⟨i, hi⟩ o ho
  have ho2 : o = nmO s ((s.data.toList.drop i).all lowU) := (Option.some.inj ho).symm
  clear ho
  have hlen : s.data.toList.length = s.size := by simp
  by_cases h : i = s.size
  ·subst h
   refine ⟨noSy, HB0, 100, 40, 40, .inr (nmO s true), noSy_ok, HB0_ok, (r_rnm gl (s.size : Int) s).trans (condE (decide_eq_false (by omega)) rfl), ?_⟩
   rw [ho2, List.drop_eq_nil_of_le (by omega)]
   rfl
  ·have hi2 : i < s.size := by omega
   have w : IntKind.i64.wrap ((i : Int) + 1) = ((i + 1 : Nat) : Int) := by rw [wrap_64 (by omega) (by omega)]; omega
   have hb : byteAt s (i : Int) = ((s.data.toList[i]'(by omega)).toNat : Int) := by rw [byteAt_lt (by omega) (by omega)]; simp only [Int.toNat_natCast]
   have e4 : s.data.toList.drop i = s.data.toList[i]'(by omega) :: s.data.toList.drop (i + 1) := List.drop_eq_getElem_cons (by omega)
   rw [e4, List.all_cons] at ho2
   have d : (decide (0 ≤ (i : Int)) && decide ((i : Int) < (s.size : Int))) = true := by rw [d0N, decide_eq_true (show (i : Int) < (s.size : Int) by omega)]; rfl
   refine ⟨noSy, HB0, 100, 40, 40, cond (lowU (s.data.toList[i]'(by omega))) (.inl (nmSt s (i + 1))) (.inr (nmO s false)), noSy_ok, HB0_ok, (r_rnm gl (i : Int) s).trans (condI (decide_eq_true (by omega)) (condI d ?_)), ?_⟩
   ·rw [hb, w]
    unfold lowU
    cases decide (((s.data.toList[i]'(by omega)).toNat : Int) < 97) with
    | true => rfl
    | false =>
     refine condE rfl (condI d ?_)
     cases decide (((s.data.toList[i]'(by omega)).toNat : Int) > 122) <;> rfl
   ·cases hl : lowU (s.data.toList[i]'(by omega)) with
    | false => rw [hl] at ho2; exact ho2.symm
    | true =>
     rw [hl, Bool.true_and] at ho2
     exact ⟨⟨i + 1, by omega⟩, rfl, by show s.size - (i + 1) < s.size - i; omega, by rw [ho2]⟩⟩
theorem HRnc_ok {gl : Gl} {g : GS} {o : Out} (h : LpOK Tryz.prog gl 21 0 ⟨[3, 0, 2], [0, 2], gH g o⟩) : (HRnc g o).OK Tryz.prog gl := hsOf_ok (fun _ h => by cases h) (fun _ h => by cases h) (fun p hp q hq => by
 simp only [List.mem_cons, List.not_mem_nil, or_false] at hp
 subst hp
 simp only [List.mem_cons, List.not_mem_nil, or_false] at hq
 subst hq
 exact h)
theorem fn_rnm {gl : Gl} (hgl : Low gl) : FnOK Tryz.prog gl 21 (afBl nmOK) := fn_ofT hgl fun args σ v h => by
 unfold afBl at h
 split at h
 ·rename_i s
  simp only [Option.some.injEq, Prod.mk.injEq, decide_eq_true_eq] at h
  obtain ⟨h1, rfl⟩ := h
  have hl := name_loop hgl h1
  refine ⟨rfl, noSy, ?_⟩
  rw [nm_eq]
  unfold nmR
  cases hm : s.data.toList.all lowU with
  | true =>
   rw [hm] at hl
   refine ⟨_, 100, 40, 40, noSy_ok, HRnc_ok hl, (r_rnc0 gl _ s).trans (condI (atS_self _ _) ?_)⟩
   cases decide ((s.size : Int) ≥ 1) <;> cases decide ((s.size : Int) ≤ 8) <;> rfl
  | false =>
   rw [hm] at hl
   exact ⟨_, 100, 40, 40, noSy_ok, HRnc_ok hl, (r_rnc1 gl _ s).trans (condI (atS_self _ _) rfl)⟩
 ·cases h
theorem apK_eq {R : Type} : ∀ (ps : List ByteArray) (a : ByteArray) (k : ByteArray → Option R), (∀ p ∈ ps, p.size ≤ 1000000) → a.size + 1000000 * ps.length ≤ 9223372036854775807 → apK ps a k = k (ps.foldl (· ++ ·) a)
 | [], a, k, _, _ => rfl
 | p :: ps, a, k, h, hz => by
  have hp := h p (List.mem_cons_self ..)
  rw [List.length_cons] at hz
  rw [apK, nble (show a.size + p.size ≤ 9223372036854775807 by omega), cond_true, apK_eq ps (a ++ p) k (fun q hq => h q (List.mem_cons_of_mem _ hq)) (by rw [ByteArray.size_append]; omega)]
  rfl
theorem secL_sz {lk tr n body : ByteArray} (h1 : lk.size ≤ 21) (h2 : tr.size ≤ 21) (h3 : n.size ≤ 8) (h4 : body.size ≤ 900000) : ∀ p ∈ secL lk tr n body, p.size ≤ 1000000 := by
 have b1 : lk.size ≤ 1000000 := by omega
 have b2 : tr.size ≤ 1000000 := by omega
 have b3 : n.size ≤ 1000000 := by omega
 have b4 : body.size ≤ 1000000 := by omega
 have ha : (secL lk tr n body).all (fun p => decide (p.size ≤ 1000000)) = true := by
  unfold secL
  simp only [List.all_cons, List.all_nil, decide_eq_true b1, decide_eq_true b2, decide_eq_true b3, decide_eq_true b4, Bool.true_and, Bool.and_true]
  rfl
 exact fun p hp => of_decide_eq_true (List.all_eq_true.1 ha p hp)
set_option maxRecDepth 100000 in
theorem secL_eq (lk tr n body : ByteArray) : (secL lk tr n body).foldl (· ++ ·) secF = secB lk tr n body ++ nlB := by
 refine ba_ext ?_
 simp only [secL, secF, List.foldl_cons, List.foldl_nil, secB, secA, secP, secQ, secR, secZ, endB, nlB, joinB, List.cons_append, List.nil_append, app_data, List.append_assoc]
theorem fn_rsec {gl : Gl} (hF : GlF gl) (hgl : Low gl) : FnOK Tryz.prog gl 9 (afSec seV) := fn_ofT hgl fun args σ v h => by
 unfold afSec at h
 split at h
 ·rename_i lk tr n body
  simp only [Option.some.injEq, Prod.mk.injEq, Bool.and_eq_true, decide_eq_true_eq] at h
  obtain ⟨⟨⟨⟨l0, l1⟩, hn⟩, hb⟩, rfl⟩ := h
  have w : IntKind.i64.wrap lk = lk := wrap_id lk (by omega)
  refine ⟨rfl, noSy, HRsec nmOK mayB smallN itoaB, 100, 40, 40, noSy_ok, one_ok fun p hp => ?_, (r_rsec gl nmOK mayB smallN itoaB lk tr n body).trans ?_⟩
  ·simp only [List.mem_cons, List.not_mem_nil, or_false] at hp
   rcases hp with rfl | rfl | rfl
   ·exact fn_dig hgl
   ·exact fn_rnm hgl
   ·exact fn_rmay25 hF hgl
  ·rw [w]
   unfold seV seS seI
   cases lk.tmod 4 != 0 with
   | true => rfl
   | false =>
    cases lk.tmod 64 == 60 with
    | true => rfl
    | false =>
     by_cases c3 : lk > 2097151
     ·rw [decide_eq_true c3]; rfl
     rw [decide_eq_false c3]
     by_cases c4 : tr < 0
     ·rw [decide_eq_true c4]; rfl
     rw [decide_eq_false c4]
     by_cases c5 : tr > 8
     ·rw [decide_eq_true c5]; rfl
     rw [decide_eq_false c5]
     simp only [cond_false]
     refine condI (decide_eq_true hn) ?_
     cases hm : nmOK n with
     | false => rfl
     | true =>
      simp only [cond_true]
      refine condI (decide_eq_true hb) ?_
      cases mayB body with
      | false => rfl
      | true =>
       have s1 : smallN lk = true := by unfold smallN; rw [decide_eq_true (by omega), decide_eq_true (by omega)]; rfl
       have s2 : smallN tr = true := by unfold smallN; rw [decide_eq_true (by omega), decide_eq_true (by omega)]; rfl
       simp only [cond_true]
       refine condI s1 (condI s2 ?_)
       obtain ⟨_, zn⟩ := nm_no hm
       have il := itoa_size (n := lk) (by omega) (by omega)
       have it := itoa_size (n := tr) (by omega) (by omega)
       rw [apK_eq _ _ _ (secL_sz il it zn hb) (by rw [show (secL (itoaB lk) (itoaB tr) n body).length = 40 from rfl, show secF.size = 9 from rfl]; omega), secL_eq]
       rfl
 ·cases h
end Go.Proofs.YtgohbcbdgakjeaaGreatDoor
noncomputable section
namespace Go.Proofs.YtgohbcbdgakjeaaGreatDoor
open Go.Proofs.YtgohbcbdgakjeaaGreatDoor.Ev Go.RowKit
def HLtl (sv : S4 ByteArray) (se : S4 Int) (sw : S4 ByteArray) (sf : S4 Int) : Hs := hsOf [(8, afSec (seF sv se)), (9, afSec (seF sw sf)), (5, afW)] [] []
set_option maxRecDepth 100000 in
theorem r_lawT (gl : Gl) (sv : S4 ByteArray) (se : S4 Int) (sw : S4 ByteArray) (sf : S4 Int) (lk tr : Int) (n body : ByteArray) : callSK noSy Tryz.prog gl exB (HLtl sv se sw sf) 100 40 40 (.fn 4) [.int .u32 lk, .int .i64 tr, .string n, .string body] LS.start flatR =
 let z0 := decide (0 ≤ lk) && (decide (lk < 4294967296)) && (decide (n.size ≤ 140737488355328)) && (decide (body.size ≤ 900000))
 cond (decide ((↑n.size : Int) > 1000)) (
 some (.bool true)) (
 cond (decide ((↑body.size : Int) > 5000)) (
 some (.bool true)) (
 cond z0 (
 cond z0 (
 cond ((sv lk tr n body).toList == (sw lk tr n body).toList) (
 cond (se lk tr n body == sf lk tr n body) (
 some (.bool true)) (
 some (.bool false))) (
 some (.bool false))) (
 none)) (
 none))) := by kernel_rfl
end Go.Proofs.YtgohbcbdgakjeaaGreatDoor
noncomputable section
namespace Go.Proofs.YtgohbcbdgakjeaaGreatDoor
open Go.Proofs.YtgohbcbdgakjeaaGreatDoor.Ev Go.RowKit
theorem u32_bd2 {n : Int} (h : (Lit.int .u32 n).wf = true) : 0 ≤ n ∧ n < 4294967296 := by
 simp only [Lit.wf, Bool.and_eq_true, decide_eq_true_eq] at h
 have e1 : IntKind.min .u32 = 0 := by decide +kernel
 have e2 : IntKind.max .u32 = 4294967295 := by decide +kernel
 rw [e1, e2] at h
 omega
theorem elideTells_calls (m : Int) (u0 o0 u1 o1 : Nat) {lk tr : Int} (n body : ByteArray) (hlk : (Lit.int .u32 lk).wf = true) {W : World} (hw : Ready Tryz.prog (glE m u0 o0 u1 o1) W) : Calls Tryz.prog 4 #[.int .u32 lk, .int .i64 tr, .string n, .string body] W (fun e W' => e = .returned (.bool true) ∧ Below W.heap.size W W') := by
 have G := glE_ok m u0 o0 u1 o1
 have hgl := G.low
 have M := memo25 m u0 o0 u1 o1
 obtain ⟨l0, l1⟩ := u32_bd2 hlk
 have hH : (HLtl seS seI seS seI).OK Tryz.prog (glE m u0 o0 u1 o1) := one_ok fun p hp => by
  simp only [List.mem_cons, List.not_mem_nil, or_false] at hp
  rcases hp with rfl | rfl | rfl
  ·exact fn_sec G
  ·exact fn_rsec G.F hgl
  ·exact fn_memo hgl M
 refine flatS noSy_ok goodB hgl tglob hH rfl ((r_lawT (glE m u0 o0 u1 o1) seS seI seS seI lk tr n body).trans ?_) hw
 by_cases c1 : (n.size : Int) > 1000
 ·exact condI (decide_eq_true c1) rfl
 by_cases c2 : (body.size : Int) > 5000
 ·exact condE (decide_eq_false c1) (condI (decide_eq_true c2) rfl)
 have q : (decide (0 ≤ lk) && decide (lk < 4294967296) && decide (n.size ≤ 140737488355328) && decide (body.size ≤ 900000)) = true := by
  rw [decide_eq_true l0, decide_eq_true l1, decide_eq_true (show n.size ≤ 140737488355328 by omega), decide_eq_true (show body.size ≤ 900000 by omega)]; rfl
 refine condE (decide_eq_false c1) (condE (decide_eq_false c2) (condI q (condI q (condI ?_ (condI ?_ rfl)))))
 ·exact beq_self_eq_true _
 ·exact beq_self_eq_true _
end Go.Proofs.YtgohbcbdgakjeaaGreatDoor
