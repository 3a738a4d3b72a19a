/- Numbers of 32 bits that came in. -/
import Derived.Test.YtgohnfkidkomhaaDoorM1
noncomputable section
noncomputable section
namespace Go.Proofs.YtgohnfkidkomhaaDoor
open Go.Proofs.YtgohnfkidkomhaaDoor.Ev Go.RowKit

/-! Lists of words: the rounds. -/
structure TkF where
  o : Int → Int
  a : Int → Int
  b : Int → Int
  c : Int → Int
  n : Int → Int
  e : Int → Int
def TkF.v (T : TkF) (x : Int) : Value := .tuple #[cdV (T.o x) (T.a x) (T.b x) (T.c x) (T.n x), .int .i64 (T.e x)]
def lnV (ls : C5 ByteArray) (le : C5 Int) : C5 Value := fun op a b c n => .tuple #[.string (ls op a b c n), .int .i64 (le op a b c n)]
def HLs (T : TkF) (ls : C5 ByteArray) (le : C5 Int) : Hs := hsOf [(41, afTake T.v), (44, afCd tt5 (lnV ls le))] [(45, wsH)] []
def lsLive : List Nat := [16, 5, 0, 15, 2, 3, 4]
def lsOut : List Nat := [5, 2, 3, 4]
abbrev e0 : Value := .string ⟨#[]⟩
abbrev z0 : Value := .int .i64 0
def lsSt0 (off n c : Nat) : LSt := ([.int .i64 0, p0, .slice (some ⟨902, off, none⟩) n c, .int .i64 (n : Int), e0, z0, z0], [b0Row])
def lsSt1 (i : Int) (off n c : Nat) (bs : List Value) (m : Nat) : LSt := ([.int .i64 i, p0, .slice (some ⟨902, off, none⟩) n c, .int .i64 (n : Int), e0, z0, z0], [b1Row 1001 m, bRow bs])
set_option maxRecDepth 100000 in
theorem r_ls0 (gl : Gl) (T : TkF) (ls : C5 ByteArray) (le : C5 Int) (off n c : Nat) (cs : List Value) : roundK (syK 902 off cs) Tryd.prog (glK gl 902 off cs) exB (HLs T ls le) 100 40 40 21 0 lsLive (lsSt0 off n c) (rndK Tryd.prog 1001 lsLive lsOut) =
 cond (decide (0 < (↑n : Int))) (
 cond (decide (0 < (↑n : Int)) && (n.ble c)) (
 cond ((symK off cs).okI .u32 (off + 0)) (
 cond (decide (0 ≤ (symK off cs).int .u32 (off + 0)) && (decide ((symK off cs).int .u32 (off + 0) < 4294967296))) (
 cond (T.e ((symK off cs).int .u32 (off + 0)) != 0) (
 some (.inr (.ret, ([(.pointer (some ⟨1000, 0, none⟩)), (.string ((⟨#[]⟩ : ByteArray))), (.int .i64 0), (.int .i64 (T.e ((symK off cs).int .u32 (off + 0))))], [some (.row ⟨[(.pointer none), (.slice none 0 0)], 79, (0, 0), 0, false, false⟩)])))) (
 cond (decide (0 ≤ T.o ((symK off cs).int .u32 (off + 0))) && true) (
 cond (((ls (T.o ((symK off cs).int .u32 (off + 0))) (T.a ((symK off cs).int .u32 (off + 0))) (T.b ((symK off cs).int .u32 (off + 0))) (T.c ((symK off cs).int .u32 (off + 0))) (T.n ((symK off cs).int .u32 (off + 0)))).size + 1).ble 9223372036854775807) (
 cond (cl (wsG0 [.pointer (some ⟨1000, 0, none⟩), .string (ls (T.o ((symK off cs).int .u32 (off + 0))) (T.a ((symK off cs).int .u32 (off + 0))) (T.b ((symK off cs).int .u32 (off + 0))) (T.c ((symK off cs).int .u32 (off + 0))) (T.n ((symK off cs).int .u32 (off + 0))) ++ (⟨#[10]⟩ : ByteArray))] [some (.row ⟨[.pointer none, .slice none 0 0], 79, (0, 0), 0, false, false⟩)] (ls (T.o ((symK off cs).int .u32 (off + 0))) (T.a ((symK off cs).int .u32 (off + 0))) (T.b ((symK off cs).int .u32 (off + 0))) (T.c ((symK off cs).int .u32 (off + 0))) (T.n ((symK off cs).int .u32 (off + 0))) ++ (⟨#[10]⟩ : ByteArray)))) (
 cond (List.all (byC (ls (T.o ((symK off cs).int .u32 (off + 0))) (T.a ((symK off cs).int .u32 (off + 0))) (T.b ((symK off cs).int .u32 (off + 0))) (T.c ((symK off cs).int .u32 (off + 0))) (T.n ((symK off cs).int .u32 (off + 0))) ++ (⟨#[10]⟩ : ByteArray))) (af 8) && true) (
 cond (List.all (byC (ls (T.o ((symK off cs).int .u32 (off + 0))) (T.a ((symK off cs).int .u32 (off + 0))) (T.b ((symK off cs).int .u32 (off + 0))) (T.c ((symK off cs).int .u32 (off + 0))) (T.n ((symK off cs).int .u32 (off + 0))) ++ (⟨#[10]⟩ : ByteArray))) (af 8) && true) (
 some (.inl ([(.int .i64 1), (.pointer (some ⟨1000, 0, none⟩)), (.slice (some ⟨902, (off), none⟩) (n) (c)), (.int .i64 ((↑n : Int))), (.string ((⟨#[]⟩ : ByteArray))), (.int .i64 0), (.int .i64 0)], [some (.row ⟨[(.pointer (some ⟨1000, 0, none⟩)), (.slice (some ⟨1001, 0, none⟩) ((ls (T.o ((symK off cs).int .u32 (off + 0))) (T.a ((symK off cs).int .u32 (off + 0))) (T.b ((symK off cs).int .u32 (off + 0))) (T.c ((symK off cs).int .u32 (off + 0))) (T.n ((symK off cs).int .u32 (off + 0))) ++ (⟨#[10]⟩ : ByteArray)).size) ((ls (T.o ((symK off cs).int .u32 (off + 0))) (T.a ((symK off cs).int .u32 (off + 0))) (T.b ((symK off cs).int .u32 (off + 0))) (T.c ((symK off cs).int .u32 (off + 0))) (T.n ((symK off cs).int .u32 (off + 0))) ++ (⟨#[10]⟩ : ByteArray)).size))], 79, (0, 0), 0, false, false⟩), some (.row ⟨(byC (ls (T.o ((symK off cs).int .u32 (off + 0))) (T.a ((symK off cs).int .u32 (off + 0))) (T.b ((symK off cs).int .u32 (off + 0))) (T.c ((symK off cs).int .u32 (off + 0))) (T.n ((symK off cs).int .u32 (off + 0))) ++ (⟨#[10]⟩ : ByteArray))), 5, (0, 0), 1, false, false⟩)]))) (
 none)) (
 none)) (
 none)) (
 none)) (
 none))) (
 none)) (
 none)) (
 none)) (
 some (.inr (.exit 0, ([(.pointer (some ⟨1000, 0, none⟩)), (.string ((⟨#[]⟩ : ByteArray))), (.int .i64 0), (.int .i64 0)], [some (.row ⟨[(.pointer none), (.slice none 0 0)], 79, (0, 0), 0, false, false⟩)])))) := by kernel_rfl
set_option maxRecDepth 100000 in
theorem r_ls1 (gl : Gl) (T : TkF) (ls : C5 ByteArray) (le : C5 Int) (i : Int) (off n c : Nat) (cs : List Value) (bs : List Value) (m : Nat) : roundK (syK 902 off cs) Tryd.prog (glK gl 902 off cs) exB (HLs T ls le) 100 40 40 21 0 lsLive (lsSt1 i off n c bs m) (rndK Tryd.prog 1001 lsLive lsOut) =
 cond (decide (i < (↑n : Int))) (
 cond (decide (0 ≤ i) && (decide (i < (↑n : Int))) && (n.ble c)) (
 cond ((symK off cs).okI .u32 (off + i.toNat * 1)) (
 cond (decide (0 ≤ (symK off cs).int .u32 (off + i.toNat * 1)) && (decide ((symK off cs).int .u32 (off + i.toNat * 1) < 4294967296))) (
 cond (T.e ((symK off cs).int .u32 (off + i.toNat * 1)) != 0) (
 cond (List.all bs (af 8) && true) (
 some (.inr (.ret, ([(.pointer (some ⟨1000, 0, none⟩)), (.string ((⟨#[]⟩ : ByteArray))), (.int .i64 (i)), (.int .i64 (T.e ((symK off cs).int .u32 (off + i.toNat * 1))))], [some (.row ⟨[(.pointer (some ⟨1000, 0, none⟩)), (.slice (some ⟨1001, 0, none⟩) (m) (m))], 79, (0, 0), 0, false, false⟩), some (.row ⟨bs, 5, (0, 0), 1, false, false⟩)])))) (
 none)) (
 cond (decide (0 ≤ T.o ((symK off cs).int .u32 (off + i.toNat * 1))) && true) (
 cond (((ls (T.o ((symK off cs).int .u32 (off + i.toNat * 1))) (T.a ((symK off cs).int .u32 (off + i.toNat * 1))) (T.b ((symK off cs).int .u32 (off + i.toNat * 1))) (T.c ((symK off cs).int .u32 (off + i.toNat * 1))) (T.n ((symK off cs).int .u32 (off + i.toNat * 1)))).size + 1).ble 9223372036854775807) (
 cond (List.all bs (af 8) && true) (
 cond (cl (wsG1 [.pointer (some ⟨1000, 0, none⟩), .string (ls (T.o ((symK off cs).int .u32 (off + i.toNat * 1))) (T.a ((symK off cs).int .u32 (off + i.toNat * 1))) (T.b ((symK off cs).int .u32 (off + i.toNat * 1))) (T.c ((symK off cs).int .u32 (off + i.toNat * 1))) (T.n ((symK off cs).int .u32 (off + i.toNat * 1))) ++ (⟨#[10]⟩ : ByteArray))] [some (.row ⟨[.pointer (some ⟨1000, 0, none⟩), .slice (some ⟨1001, 0, none⟩) m m], 79, (0, 0), 0, false, false⟩), some (.row ⟨bs, 5, (0, 0), 1, false, false⟩)] (ls (T.o ((symK off cs).int .u32 (off + i.toNat * 1))) (T.a ((symK off cs).int .u32 (off + i.toNat * 1))) (T.b ((symK off cs).int .u32 (off + i.toNat * 1))) (T.c ((symK off cs).int .u32 (off + i.toNat * 1))) (T.n ((symK off cs).int .u32 (off + i.toNat * 1))) ++ (⟨#[10]⟩ : ByteArray)) m bs)) (
 cond (List.all (bs ++ (byC (ls (T.o ((symK off cs).int .u32 (off + i.toNat * 1))) (T.a ((symK off cs).int .u32 (off + i.toNat * 1))) (T.b ((symK off cs).int .u32 (off + i.toNat * 1))) (T.c ((symK off cs).int .u32 (off + i.toNat * 1))) (T.n ((symK off cs).int .u32 (off + i.toNat * 1))) ++ (⟨#[10]⟩ : ByteArray)))) (af 8) && true) (
 cond (List.all (bs ++ (byC (ls (T.o ((symK off cs).int .u32 (off + i.toNat * 1))) (T.a ((symK off cs).int .u32 (off + i.toNat * 1))) (T.b ((symK off cs).int .u32 (off + i.toNat * 1))) (T.c ((symK off cs).int .u32 (off + i.toNat * 1))) (T.n ((symK off cs).int .u32 (off + i.toNat * 1))) ++ (⟨#[10]⟩ : ByteArray)))) (af 8) && true) (
 some (.inl ([(.int .i64 (IntKind.i64.wrap (i + 1))), (.pointer (some ⟨1000, 0, none⟩)), (.slice (some ⟨902, (off), none⟩) (n) (c)), (.int .i64 ((↑n : Int))), (.string ((⟨#[]⟩ : ByteArray))), (.int .i64 0), (.int .i64 0)], [some (.row ⟨[(.pointer (some ⟨1000, 0, none⟩)), (.slice (some ⟨1001, 0, none⟩) (m + (ls (T.o ((symK off cs).int .u32 (off + i.toNat * 1))) (T.a ((symK off cs).int .u32 (off + i.toNat * 1))) (T.b ((symK off cs).int .u32 (off + i.toNat * 1))) (T.c ((symK off cs).int .u32 (off + i.toNat * 1))) (T.n ((symK off cs).int .u32 (off + i.toNat * 1))) ++ (⟨#[10]⟩ : ByteArray)).size) (m + (ls (T.o ((symK off cs).int .u32 (off + i.toNat * 1))) (T.a ((symK off cs).int .u32 (off + i.toNat * 1))) (T.b ((symK off cs).int .u32 (off + i.toNat * 1))) (T.c ((symK off cs).int .u32 (off + i.toNat * 1))) (T.n ((symK off cs).int .u32 (off + i.toNat * 1))) ++ (⟨#[10]⟩ : ByteArray)).size))], 79, (0, 0), 0, false, false⟩), some (.row ⟨(bs ++ (byC (ls (T.o ((symK off cs).int .u32 (off + i.toNat * 1))) (T.a ((symK off cs).int .u32 (off + i.toNat * 1))) (T.b ((symK off cs).int .u32 (off + i.toNat * 1))) (T.c ((symK off cs).int .u32 (off + i.toNat * 1))) (T.n ((symK off cs).int .u32 (off + i.toNat * 1))) ++ (⟨#[10]⟩ : ByteArray)))), 5, (0, 0), 1, false, false⟩)]))) (
 none)) (
 none)) (
 none)) (
 none)) (
 none)) (
 none))) (
 none)) (
 none)) (
 none)) (
 cond (List.all bs (af 8) && true) (
 some (.inr (.exit 0, ([(.pointer (some ⟨1000, 0, none⟩)), (.string ((⟨#[]⟩ : ByteArray))), (.int .i64 0), (.int .i64 0)], [some (.row ⟨[(.pointer (some ⟨1000, 0, none⟩)), (.slice (some ⟨1001, 0, none⟩) (m) (m))], 79, (0, 0), 0, false, false⟩), some (.row ⟨bs, 5, (0, 0), 1, false, false⟩)])))) (
 none)) := by kernel_rfl
def lsStN : LSt := ([.int .i64 0, p0, .slice none 0 0, .int .i64 0, e0, z0, z0], [b0Row])
set_option maxRecDepth 100000 in
theorem r_lsN (gl : Gl) (T : TkF) (ls : C5 ByteArray) (le : C5 Int) : roundK noSy Tryd.prog gl exB (HLs T ls le) 100 40 40 21 0 lsLive lsStN (rndK Tryd.prog 1001 lsLive lsOut) =
 some (.inr (.exit 0, ([(.pointer (some ⟨1000, 0, none⟩)), (.string ((⟨#[]⟩ : ByteArray))), (.int IntKind.i64 0), (.int IntKind.i64 0)], [some (.row ⟨[(.pointer none), (.slice none 0 0)], 79, (0, 0), 0, false, false⟩)]))) := by kernel_rfl
end Go.Proofs.YtgohnfkidkomhaaDoor

noncomputable section
namespace Go.Proofs.YtgohnfkidkomhaaDoor
open Go.Proofs.YtgohnfkidkomhaaDoor.Ev Go.RowKit

/-! Lists of words: what they are. -/
theorem form_all (op : Int) : formN op = 0 ∨ formN op = 1 ∨ formN op = 2 ∨ formN op = 3 ∨ formN op = 4 ∨ formN op = 5 ∨ formN op = 6 := by
  have : ∀ k : Nat, nthI formsL k = 0 ∨ nthI formsL k = 1 ∨ nthI formsL k = 2 ∨ nthI formsL k = 3 ∨ nthI formsL k = 4 ∨ nthI formsL k = 5 ∨ nthI formsL k = 6 := fun k => by
    rcases Nat.lt_or_ge k 22 with h | h
    · have : ∀ k : Fin 22, nthI formsL k.1 = 0 ∨ nthI formsL k.1 = 1 ∨ nthI formsL k.1 = 2 ∨ nthI formsL k.1 = 3 ∨ nthI formsL k.1 = 4 ∨ nthI formsL k.1 = 5 ∨ nthI formsL k.1 = 6 := by decide
      exact this ⟨k, h⟩
    · obtain ⟨m, rfl⟩ : ∃ m, k = m + 22 := ⟨k - 22, by omega⟩
      exact .inl rfl
  exact this op.toNat
def fA (x : Int) : Int := match formN (oN x) with
  | 1 => x / 4194304 % 16
  | 2 => x / 4194304 % 16
  | 3 => x / 4194304 % 16
  | 6 => x / 4194304 % 16
  | _ => 0
def fB (x : Int) : Int := match formN (oN x) with
  | 1 => x / 262144 % 16
  | 2 => x / 262144 % 16
  | _ => 0
def fC (x : Int) : Int := match formN (oN x) with
  | 1 => x / 16384 % 16
  | _ => 0
def fN (x : Int) : Int := match formN (oN x) with
  | 2 => sg (x % 16384) 8192
  | 3 => sg (x % 4194304) 2097152
  | 4 => sg (x % 4194304) 2097152
  | 5 => x % 4194304
  | _ => 0
theorem takeV_eq (x : Int) : takeV x = tkV x (oN x) (fA x) (fB x) (fC x) (fN x) := by
  unfold takeV fA fB fC fN
  rcases form_all (oN x) with e | e | e | e | e | e | e <;> rw [e] <;> rfl
def okW (x : Int) : Bool := cmay (oN x) (fA x) (fB x) (fC x) (fN x) && decide (wordN (oN x) (fA x) (fB x) (fC x) (fN x) = x)
def TW : TkF where
  o x := cond (okW x) (oN x) 0
  a x := cond (okW x) (fA x) 0
  b x := cond (okW x) (fB x) 0
  c x := cond (okW x) (fC x) 0
  n x := cond (okW x) (fN x) 0
  e x := cond (okW x) 0 6
theorem TW_v (x : Int) : TW.v x = takeV x := by
  rw [takeV_eq]
  unfold TkF.v tkV
  show Value.tuple #[cdV (cond (okW x) _ _) (cond (okW x) _ _) (cond (okW x) _ _) (cond (okW x) _ _) (cond (okW x) _ _), .int .i64 (cond (okW x) 0 6)] = cond (okW x) _ _
  cases okW x <;> rfl
theorem TW_af : afTake TW.v = afTake takeV := congrArg afTake (funext TW_v)
def lnS : C5 ByteArray := fun op a b c n => cond (cmay op a b c n) (lineB op a b c n) ⟨#[]⟩
theorem ln_v : lnV lnS cmayI = lineV := by
  funext op a b c n
  unfold lnV lnS lineV cmayI
  cases cmay op a b c n <;> rfl
theorem HLs_ok {gl : Gl} (hF : GlF gl) (hgl : Low gl) (hp : GlP gl) : (HLs TW lnS cmayI).OK Tryd.prog gl := hsOf_ok (fun p h => by
    simp only [List.mem_cons, List.not_mem_nil, or_false] at h
    rcases h with rfl | rfl
    · show FnOK _ _ _ (afTake TW.v); rw [TW_af]; exact fn_ctake hF hgl
    · show FnOK _ _ _ (afCd tt5 (lnV lnS cmayI)); rw [ln_v]; exact fn_line hF hgl hp) (fun p h => by
    simp only [List.mem_cons, List.not_mem_nil, or_false] at h
    subst h
    exact ws_ok hgl) (fun _ h => by cases h)
def lnW (x : Int) : ByteArray := lineB (oN x) (fA x) (fB x) (fC x) (fN x) ++ (⟨#[10]⟩ : ByteArray)
theorem okW_cf {x : Int} (h : okW x = true) : CF (oN x) (fA x) (fB x) (fC x) (fN x) := by
  unfold okW at h
  exact cmay_f (Bool.and_eq_true_iff.1 h).1
theorem lnS_ok {x : Int} (h : okW x = true) : lnS (TW.o x) (TW.a x) (TW.b x) (TW.c x) (TW.n x) = lineB (oN x) (fA x) (fB x) (fC x) (fN x) := by
  show lnS (cond (okW x) _ _) (cond (okW x) _ _) (cond (okW x) _ _) (cond (okW x) _ _) (cond (okW x) _ _) = _
  rw [h]
  unfold okW at h
  unfold lnS
  simp only [cond_true]
  rw [(Bool.and_eq_true_iff.1 h).1]
  rfl
theorem line_size {op a b c n : Int} (h : CF op a b c n) : (lineB op a b c n).size ≤ 100 := by
  obtain ⟨ba, bb, bc, bn⟩ := cf_small h
  have za := itoa_size (n := a) (by omega) (by omega)
  have zb := itoa_size (n := b) (by omega) (by omega)
  have zc := itoa_size (n := c) (by omega) (by omega)
  have zn := itoa_size (n := n) (by omega) (by omega)
  have zm := name_size h.o0 h.o1
  have s1 : bSp.size = 1 := rfl
  have s2 : bR.size = 1 := rfl
  have s3 : bCs.size = 2 := rfl
  unfold lineB lnTx
  split <;> (try simp only [ByteArray.size_append]) <;> omega
theorem lnW_size {x : Int} (h : okW x = true) : 1 ≤ (lnW x).size ∧ (lnW x).size ≤ 101 := by
  have h1 := line_size (okW_cf h)
  have h2 : (⟨#[10]⟩ : ByteArray).size = 1 := rfl
  unfold lnW
  rw [ByteArray.size_append]
  omega
/-- The lines so far, where it stops, and whether all were instructions'. -/
def lsGo : ByteArray → Nat → List Int → ByteArray × Nat × Bool
  | B, i, [] => (B, i, true)
  | B, i, w :: ws => cond (okW w) (lsGo (B ++ lnW w) (i + 1) ws) (B, i, false)
def wC (ws : List Int) : List Value := ws.map (.int .u32)
def InW (ws : List Int) : Prop := ∀ w ∈ ws, 0 ≤ w ∧ w < 4294967296
theorem symK_w (off : Nat) {ws : List Int} {i : Int} (h0 : 0 ≤ i) (h : i < (ws.length : Int)) (hw : InW ws) : ∃ w, ws[i.toNat]? = some w ∧ 0 ≤ w ∧ w < 4294967296 ∧
    (symK off (wC ws)).okI .u32 (off + i.toNat * 1) = true ∧ (symK off (wC ws)).int .u32 (off + i.toNat * 1) = w := by
  have hi : i.toNat < ws.length := by omega
  have hg : (wC ws)[off + i.toNat * 1 - off]? = some (.int .u32 ws[i.toNat]) := by
    unfold wC
    rw [show off + i.toNat * 1 - off = i.toNat by omega, List.getElem?_map, List.getElem?_eq_getElem hi]
    rfl
  obtain ⟨h1, h2⟩ := hw _ (List.getElem_mem hi)
  refine ⟨ws[i.toNat], List.getElem?_eq_getElem hi, h1, h2, andI (nble (by omega)) ?_, ?_⟩
  · show cellIsI _ _ = true
    rw [hg]; rfl
  · show cellI _ = _
    rw [hg]; rfl
theorem wC_plain (ws : List Int) : Plain (wC ws) := fun v hv => by
  obtain ⟨w, _, rfl⟩ := List.mem_map.1 hv
  exact ⟨rfl, rfl⟩
end Go.Proofs.YtgohnfkidkomhaaDoor

noncomputable section
namespace Go.Proofs.YtgohnfkidkomhaaDoor
open Go.Proofs.YtgohnfkidkomhaaDoor.Ev Go.RowKit

/-! Lists of words: rounds and loops. -/
def lsRows (i : Nat) (B : ByteArray) : List (Option LObj) := match i with
  | 0 => [b0Row]
  | _ + 1 => [b1Row 1001 B.size, bRow (byC B)]
def lsSt (off c : Nat) (ws : List Int) (i : Nat) (B : ByteArray) : LSt := match i with
  | 0 => lsSt0 off ws.length c
  | i + 1 => lsSt1 ((i + 1 : Nat) : Int) off ws.length c (byC B) B.size
def lsFin (r : ByteArray × Nat × Bool) : Out := cond r.2.2 (.exit 0, [p0, e0, z0, z0], lsRows r.2.1 r.1) (.ret, [p0, e0, .int .i64 (r.2.1 : Int), .int .i64 6], lsRows r.2.1 r.1)
theorem ls_round {gl : Gl} {off c : Nat} {ws : List Int} {i : Nat} {B : ByteArray} (hi : i < ws.length) (hc : ws.length ≤ c) (hl : ws.length ≤ 2000) (hw : InW ws) (hB : B.size ≤ 101 * i) (h0 : i = 0 → B = ⟨#[]⟩) :
    roundK (syK 902 off (wC ws)) Tryd.prog (glK gl 902 off (wC ws)) exB (HLs TW lnS cmayI) 100 40 40 21 0 lsLive (lsSt off c ws i B) (rndK Tryd.prog 1001 lsLive lsOut) =
      some (cond (okW ws[i]) (.inl (lsSt off c ws (i + 1) (B ++ lnW ws[i]))) (.inr (.ret, [p0, e0, .int .i64 (i : Int), .int .i64 6], lsRows i B))) := by
  obtain ⟨w, h1, h2, h3, h4, h5⟩ := symK_w off (ws := ws) (i := (i : Int)) (by omega) (by omega) hw
  have hw' : ws[i] = w := by
    rw [Int.toNat_natCast, List.getElem?_eq_getElem hi] at h1
    exact Option.some.inj h1
  rw [hw']
  have e1 : TW.e w = cond (okW w) 0 6 := rfl
  cases i with
  | zero =>
    have hB0 := h0 rfl
    subst hB0
    refine (r_ls0 gl TW lnS cmayI off ws.length c (wC ws)).trans (condI (decide_eq_true (by omega)) (condI (andI (decide_eq_true (by omega)) (nble hc)) (condI h4 ?_)))
    rw [show off + 0 = off + ((0 : Nat) : Int).toNat * 1 from rfl, h5]
    refine condI (andI (decide_eq_true h2) (decide_eq_true h3)) ?_
    rw [e1]
    by_cases hk : okW w = true
    case neg => rw [Bool.eq_false_iff.2 hk]; exact condI rfl rfl
    have hz := lnW_size hk
    have ho : TW.o w = oN w := by show cond (okW w) _ _ = _; rw [hk]; rfl
    have hcf := okW_cf hk
    rw [lnS_ok hk, hk]
    refine condE rfl (condI (andI (decide_eq_true (by rw [ho]; exact hcf.o0)) rfl) (condI (nble (by have := line_size hcf; omega)) (condI (cl_t ⟨rfl, rfl, hz.1, show (lnW w).size ≤ 1000000 by omega⟩) (condI (andI (byC_all _) rfl) (condI (andI (byC_all _) rfl) ?_)))))
    have hE : (⟨#[]⟩ : ByteArray) ++ lnW w = lnW w := ByteArray.empty_append
    rw [hE]
    rfl
  | succ i =>
    refine (r_ls1 gl TW lnS cmayI ((i + 1 : Nat) : Int) off ws.length c (wC ws) (byC B) B.size).trans (condI (decide_eq_true (by omega)) (condI (andI (andI (decide_eq_true (by omega)) (decide_eq_true (by omega))) (nble hc)) (condI h4 ?_)))
    rw [h5]
    refine condI (andI (decide_eq_true h2) (decide_eq_true h3)) ?_
    rw [e1]
    by_cases hk : okW w = true
    case neg => rw [Bool.eq_false_iff.2 hk]; exact condI rfl (condI (andI (byC_all B) rfl) rfl)
    have hz := lnW_size hk
    have ho : TW.o w = oN w := by show cond (okW w) _ _ = _; rw [hk]; rfl
    have hcf := okW_cf hk
    rw [lnS_ok hk, hk]
    have hA : (byC B ++ byC (lnW w)).all (af 8) = true := by rw [← byC_app]; exact byC_all _
    refine condE rfl (condI (andI (decide_eq_true (by rw [ho]; exact hcf.o0)) rfl) (condI (nble (by have := line_size hcf; omega)) (condI (andI (byC_all B) rfl) (condI (cl_t ⟨B, rfl, rfl, rfl, rfl, hz.1, show (lnW w).size ≤ 1000000 by omega, by omega⟩) (condI (andI hA rfl) (condI (andI hA rfl) ?_))))))
    have w1 : IntKind.i64.wrap (((i + 1 : Nat) : Int) + 1) = ((i + 1 + 1 : Nat) : Int) := by rw [wrap_id _ (by omega)]; omega
    rw [w1]
    show some (Sum.inl (lsSt1 ((i + 1 + 1 : Nat) : Int) off ws.length c (byC B ++ byC (lnW w)) (B.size + (lnW w).size))) = some (Sum.inl (lsSt1 ((i + 1 + 1 : Nat) : Int) off ws.length c (byC (B ++ lnW w)) (B ++ lnW w).size))
    rw [byC_app, ByteArray.size_append]
end Go.Proofs.YtgohnfkidkomhaaDoor

noncomputable section
namespace Go.Proofs.YtgohnfkidkomhaaDoor
open Go.Proofs.YtgohnfkidkomhaaDoor.Ev Go.RowKit

/-! Lists of words: the loops' answers. -/
def lsG (off c : Nat) (ws : List Int) (vs : List Value) (rows : List (Option LObj)) : Prop := (vs, rows) = lsSt0 off ws.length c ∧ ws.length ≤ c ∧ ws.length ≤ 2000 ∧ InW ws
def lsT (R : ByteArray × Nat × Bool) : DT Out := .br R.2.2 (.br (Nat.beq R.2.1 0) (.ret (.exit 0, [p0, e0, z0, z0], [b0Row])) (.ret (.exit 0, [p0, e0, z0, z0], [b1Row 1001 R.1.size, bRow (byC R.1)])))
  (.br (Nat.beq R.2.1 0) (.ret (.ret, [p0, e0, .int .i64 (R.2.1 : Int), .int .i64 6], [b0Row])) (.ret (.ret, [p0, e0, .int .i64 (R.2.1 : Int), .int .i64 6], [b1Row 1001 R.1.size, bRow (byC R.1)])))
theorem lsT_run {R : ByteArray × Nat × Bool} {r : Out} (h : (lsT R).run = some r) : r = lsFin R := by
  unfold lsT at h
  unfold lsFin lsRows
  obtain ⟨B, i, b⟩ := R
  cases b <;> cases i <;> (cases h; rfl)
def lsH (off c : Nat) (ws : List Int) : Hd := fun vs rows => match vs with
  | [_, _, .slice none _ _, _, _, _, _] => some (.br (cl ((vs, rows) = lsStN)) (.ret (.exit 0, [p0, e0, z0, z0], [b0Row])) .fail)
  | [_, _, .slice (some _) _ _, _, _, _, _] => some (.br (cl (lsG off c ws vs rows)) (lsT (lsGo ⟨#[]⟩ 0 ws)) .fail)
  | _ => none
/-- Where a round stands: how many lines, and their text. -/
def LPos (ws : List Int) : Type := {q : Nat × ByteArray // q.1 ≤ ws.length ∧ (q.1 = 0 → q.2 = ⟨#[]⟩) ∧ q.2.size ≤ 101 * q.1}
theorem go_step {B : ByteArray} {i : Nat} {ws : List Int} (h : i < ws.length) : lsGo B i (ws.drop i) = cond (okW ws[i]) (lsGo (B ++ lnW ws[i]) (i + 1) (ws.drop (i + 1))) (B, i, false) := by
  rw [List.drop_eq_getElem_cons h]
  rfl
theorem ls_end {gl : Gl} {off c : Nat} {ws : List Int} {i : Nat} {B : ByteArray} (e : i = ws.length) :
    roundK (syK 902 off (wC ws)) Tryd.prog (glK gl 902 off (wC ws)) exB (HLs TW lnS cmayI) 100 40 40 21 0 lsLive (lsSt off c ws i B) (rndK Tryd.prog 1001 lsLive lsOut) = some (.inr (.exit 0, [p0, e0, z0, z0], lsRows i B)) := by
  cases i with
  | zero => exact (r_ls0 gl TW lnS cmayI off ws.length c (wC ws)).trans (condE (decide_eq_false (by omega)) rfl)
  | succ k => exact (r_ls1 gl TW lnS cmayI ((k + 1 : Nat) : Int) off ws.length c (wC ws) (byC B) B.size).trans (condE (decide_eq_false (by omega)) (condI (andI (byC_all B) rfl) rfl))
theorem ls_ok {gl : Gl} {off c : Nat} {ws : List Int} (hF : GlF (glK gl 902 off (wC ws))) (hgl : Low (glK gl 902 off (wC ws))) (hp : GlP (glK gl 902 off (wC ws))) :
    LpOK Tryd.prog (glK gl 902 off (wC ws)) 21 0 ⟨lsLive, lsOut, lsH off c ws⟩ := loop_ofS goodB hgl tglob (HLs_ok hF hgl hp) (L := 100) (G := 40) (d := 40) fun vs rows t r h1 h2 => by
  simp only [lsH] at h1
  split at h1
  · cases h1
    obtain ⟨hg, h3⟩ := brT h2
    have he := of_cl hg
    cases he
    cases h3
    refine ⟨show 1001 ≤ most by decide, _, noSy_ok, Unit, fun _ => lsStN, fun _ => some (.exit 0, [p0, e0, z0, z0], [b0Row]), fun _ => 0, (), .inl rfl, rfl, ?_⟩
    rintro ⟨⟩ o ho
    cases ho
    exact ⟨_, r_lsN _ _ _ _, rfl⟩
  · cases h1
    obtain ⟨hg, h3⟩ := brT h2
    obtain ⟨he, hc, hl, hw⟩ := of_cl hg
    have hr := lsT_run h3
    cases he
    refine ⟨show 1001 ≤ most by decide, _, syK_ok (by decide), LPos ws, fun q => lsSt off c ws q.1.1 q.1.2, fun q => some (lsFin (lsGo q.1.2 q.1.1 (ws.drop q.1.1))), fun q => ws.length - q.1.1, ⟨(0, ⟨#[]⟩), by simp only; omega, fun _ => rfl, Nat.le_refl _⟩, .inl rfl, ?_, ?_⟩
    · rw [hr]; rfl
    · rintro ⟨⟨i, B⟩, q1, q2, q3⟩ o ho
      simp only at q1 q2 q3 ho
      cases ho
      rcases Nat.lt_or_ge i ws.length with hi | hi
      · have hrd := ls_round (gl := gl) (off := off) (c := c) hi hc hl hw q3 q2
        by_cases hk : okW ws[i] = true
        · rw [hk, cond_true] at hrd
          have hz := lnW_size hk
          refine ⟨_, hrd, ⟨(i + 1, B ++ lnW ws[i]), by simp only; omega, by simp, by simp only [ByteArray.size_append]; omega⟩, rfl, by simp only; omega, ?_⟩
          simp only
          rw [go_step (B := B) hi, hk, cond_true]
        · have hk := Bool.eq_false_iff.2 hk
          rw [hk, cond_false] at hrd
          refine ⟨_, hrd, ?_⟩
          rw [go_step (B := B) hi, hk, cond_false]
          rfl
      · have e : i = ws.length := by omega
        subst e
        refine ⟨.inr (.exit 0, [p0, e0, z0, z0], lsRows ws.length B), ls_end rfl, ?_⟩
        · rw [List.drop_length]
          rfl
  · cases h1
end Go.Proofs.YtgohnfkidkomhaaDoor

noncomputable section
namespace Go.Proofs.YtgohnfkidkomhaaDoor
open Go.Proofs.YtgohnfkidkomhaaDoor.Ev Go.RowKit

/-! Lists of words: the functions, and ListLists. -/
def HLsF (off c : Nat) (ws : List Int) : Hs := hsOf [] [(46, bsH)] [(21, [(0, ⟨lsLive, lsOut, lsH off c ws⟩)])]
end Go.Proofs.YtgohnfkidkomhaaDoor

noncomputable section
namespace Go.Proofs.YtgohnfkidkomhaaDoor
open Go.Proofs.YtgohnfkidkomhaaDoor.Ev Go.RowKit

/-! Lists of words: the functions' answers. -/
structure GoB (B : ByteArray) (i : Nat) (ws : List Int) (R : ByteArray × Nat × Bool) : Prop where
  lo : i ≤ R.2.1
  hi : R.2.1 ≤ i + ws.length
  szlo : B.size + (R.2.1 - i) ≤ R.1.size
  szhi : R.1.size ≤ B.size + 101 * (R.2.1 - i)
theorem lsGo_bd : ∀ (ws : List Int) (B : ByteArray) (i : Nat), GoB B i ws (lsGo B i ws)
  | [], B, i => ⟨Nat.le_refl _, Nat.le_add_right _ _, by show B.size + (i - i) ≤ B.size; omega, by show B.size ≤ _; omega⟩
  | w :: ws, B, i => by
    unfold lsGo
    by_cases h : okW w = true
    · rw [h, cond_true]
      obtain ⟨h1, h2, h3, h4⟩ := lsGo_bd ws (B ++ lnW w) (i + 1)
      have hz := lnW_size h
      rw [ByteArray.size_append] at h3 h4
      refine ⟨by omega, by rw [List.length_cons]; omega, by omega, by omega⟩
    · rw [Bool.eq_false_iff.2 h, cond_false]
      exact ⟨Nat.le_refl _, Nat.le_add_right _ _, by show B.size + (i - i) ≤ B.size; omega, by show B.size ≤ _; omega⟩
theorem HLsF_ok {gl : Gl} {off c : Nat} {ws : List Int} (hF : GlF (glK gl 902 off (wC ws))) (hgl : Low (glK gl 902 off (wC ws))) (hp : GlP (glK gl 902 off (wC ws))) : (HLsF off c ws).OK Tryd.prog (glK gl 902 off (wC ws)) :=
  hsOf_ok (fun _ h => by cases h) (fun p h => by
    simp only [List.mem_cons, List.not_mem_nil, or_false] at h
    subst h
    exact bs_sub hgl) (fun p h q hq => by
    simp only [List.mem_cons, List.not_mem_nil, or_false] at h
    subst h
    simp only [List.mem_cons, List.not_mem_nil, or_false] at hq
    subst hq
    exact ls_ok hF hgl hp)
end Go.Proofs.YtgohnfkidkomhaaDoor

noncomputable section
namespace Go.Proofs.YtgohnfkidkomhaaDoor
open Go.Proofs.YtgohnfkidkomhaaDoor.Ev Go.RowKit
open Go.ChangeShapes Go.WideShapes Go.ChangeAt

/-! ListLists: true, of any words. -/
def HW22 (ls : C5 ByteArray) (le : C5 Int) : Hs := hsOf [(44, afCd tt5 (lnV ls le))] [] []
set_option maxRecDepth 100000 in
theorem r_w22 (gl : Gl) (ls : C5 ByteArray) (le : C5 Int) : callSK noSy Tryd.prog gl exB (HW22 ls le) 100 40 40 (.fn 20) [] LS.start flatR =
 cond ((ls 10 1 2 0 (-4)).toList == (⟨#[115, 116, 111, 114, 101, 32, 114, 49, 44, 32, 114, 50, 44, 32, 45, 52]⟩ : ByteArray).toList) (
 cond (le 10 1 2 0 (-4) == 0) (
 some (.bool true)) (
 some (.bool false))) (
 some (.bool false)) := by kernel_rfl
def glC : Gl := glOf [(2, pow10L.map (.int .u64)), (0, formsL.map (.int .i64))]
theorem glC_low : Low glC := lowTabs (by rfl)
theorem glC_hi {b : Nat} (hb : 900 ≤ b) : ∀ k, glC b k = none := by
  intro k
  unfold glC
  simp only [glOf]
  rw [nbeq_f (by omega), nbeq_f (by omega)]
  rfl
theorem glC_F : GlF glC := fun i z h => by
  show (formsL.map (Value.int .i64))[i]? = _
  rw [List.getElem?_map, h]
  rfl
theorem glC_P : GlP glC := fun i z h => by
  show (pow10L.map (Value.int .u64))[i]? = _
  rw [pow10L_eq, List.getElem?_map, h]
  rfl
end Go.Proofs.YtgohnfkidkomhaaDoor

noncomputable section
namespace Go.Proofs.YtgohnfkidkomhaaDoor
open Go.Proofs.YtgohnfkidkomhaaDoor.Ev Go.RowKit

/-! ListLists at words that came in. -/
theorem line_works : lnS 10 1 2 0 (-4) = (⟨#[115, 116, 111, 114, 101, 32, 114, 49, 44, 32, 114, 50, 44, 32, 45, 52]⟩ : ByteArray) := by
  unfold lnS
  rw [show cmay 10 1 2 0 (-4) = true from by decide, cond_true]
  unfold lineB
  rw [itoa_small (n := 1) (by omega) (by omega), itoa_small (n := 2) (by omega) (by omega), itoa_small (n := 0) (by omega) (by omega), itoa_minus (n := -4) (by omega), itoa_small (n := 0 - -4) (by omega) (by omega)]
  rfl
theorem fn_works22 {gl : Gl} (hF : GlF gl) (hgl : Low gl) (hp : GlP gl) : FnOK Tryd.prog gl 20 afW :=
  fn_of noSy_ok goodB hgl tglob (H := HW22 lnS cmayI) (one_ok fun p h => by
    simp only [List.mem_cons, List.not_mem_nil, or_false] at h
    subst h
    show FnOK _ _ _ (afCd tt5 (lnV lnS cmayI)); rw [ln_v]; exact fn_line hF hgl hp) (L := 100) (G := 40) (d := 40) fun args σ v e => by
    unfold afW at e
    split at e
    · simp only [Option.some.injEq, Prod.mk.injEq] at e
      obtain ⟨_, rfl⟩ := e
      refine ⟨rfl, (r_w22 gl lnS cmayI).trans ?_⟩
      rw [line_works, show cmayI 10 1 2 0 (-4) = 0 from by decide]
      exact condI (beq_self_eq_true _) (condI rfl rfl)
    · cases e
theorem glKC_F {off : Nat} {cs : List Value} : GlF (glK glC 902 off cs) := fun i z h => glK_mono (glC_hi (by decide)) _ _ _ (glC_F i z h)
theorem glKC_P {off : Nat} {cs : List Value} : GlP (glK glC 902 off cs) := fun i z h => glK_mono (glC_hi (by decide)) _ _ _ (glC_P i z h)
theorem glKC_low (off : Nat) (ws : List Int) : Low (glK glC 902 off (wC ws)) := glK_low glC_low (by decide) (wC_plain ws)
theorem noCells {gl : Gl} {φ : Phi} {W : World} {b : Nat} (hr : Rel Tryd.prog gl φ LS.start W) : Rel Tryd.prog (glK gl b 0 []) φ LS.start W := by
  refine ⟨hr.live, hr.inj, hr.fresh, hr.bound, fun i o r a _ _ => (by rw [start_get] at a; cases a), fun g k v e => ?_, hr.stat, hr.size⟩
  unfold glK at e
  rw [Bool.cond_eq_ite] at e
  split at e
  · simp at e
  · exact hr.glob g k v e
end Go.Proofs.YtgohnfkidkomhaaDoor
