-- A text of the kit's tools for this claim, its remarks left out.
import Derived.Test.YtdgeokpbedllaaaDoorTreU
import Derived.Test.YtdgeokpbedllaaaDoorETrex15
namespace Go.Proofs.YtdgeokpbedllaaaDoor.Pure
open Go.RowKit Go.Proofs.YtdgeokpbedllaaaDoor.PTre Go.Proofs.YtdgeokpbedllaaaDoorW.PrintWords Go.Proofs.YtdgeokpbedllaaaDoorW.PrintLast Go.Proofs.YtdgeokpbedllaaaDoorW.PrintMore Go.Proofs.YtdgeokpbedllaaaDoor.Base
set_option linter.unusedVariables false
set_option linter.unusedSimpArgs false
set_option maxRecDepth 100000
theorem tmod_at (a : Int) (m : Int) (hm : 0 < m) (hm2 : m ≤ 100) : 0 ≤ wrap64 (Int.tmod (IntKind.u64.wrap a) m) ∧ wrap64 (Int.tmod (IntKind.u64.wrap a) m) < m := by
 have h3 : 0 ≤ IntKind.u64.wrap a := by unfold IntKind.wrap; simp [IntKind.signed, IntKind.bits]; omega
 have h1 := Int.emod_nonneg (IntKind.u64.wrap a) (show m ≠ 0 by omega)
 have h2 := Int.emod_lt_of_pos (IntKind.u64.wrap a) hm
 rw [Int.tmod_eq_emod_of_nonneg h3, wrap64_id (by omega) (by omega)]
 exact ⟨h1, h2⟩
def tB : Nat → ByteArray | 0 => ⟨#[]⟩ | i + 1 => tB i ++ (⟨#[66, 69, 71, 73, 78, 58, 65, 13, 10]⟩ : ByteArray)
def tE (s : ByteArray) : Nat → ByteArray | 0 => s | i + 1 => tE s i ++ (⟨#[69, 78, 68, 58, 65, 13, 10]⟩ : ByteArray)
def lN (n : Int) : Nat → List S40 | 0 => [] | i + 1 => lN n i ++ [(⟨(⟨#[65]⟩ : ByteArray), ([] : List (S44)), wrap64 ((wrap64 (n - 1)) - i)⟩ : S40)]
def llD (n : Nat) : List (List Int) := List.replicate n [66, 69, 71, 73, 78, 58, 65] ++ List.replicate n [69, 78, 68, 58, 65]
def sW : Nat → ByteArray | 0 => (⟨#[66, 69, 71, 73, 78, 58, 82, 10]⟩ : ByteArray) | i + 1 => (((sW i ++ (⟨#[66, 69, 71, 73, 78, 58, 66, 10, 88, 58]⟩ : ByteArray)) ++ (⟨#[49]⟩ : ByteArray)) ++ (⟨#[10, 69, 78, 68, 58, 66, 10]⟩ : ByteArray))
def mW (w : Int) : Nat → List S40 | 0 => [(⟨(⟨#[82]⟩ : ByteArray), ([] : List (S44)), w⟩ : S40)] | i + 1 => mW w i ++ [(⟨(⟨#[66]⟩ : ByteArray), (([(⟨(⟨#[88]⟩ : ByteArray), ([] : List (S70)), (⟨#[49]⟩ : ByteArray)⟩ : S44)] : List (S44))), 0⟩ : S40)]
def llX : Nat → List (List Int) | 0 => [[69, 78, 68, 58, 82]] | n + 1 => [66, 69, 71, 73, 78, 58, 66] :: [88, 58, 49] :: [69, 78, 68, 58, 66] :: llX n
def llW (n : Nat) : List (List Int) := [66, 69, 71, 73, 78, 58, 82] :: llX n
theorem tB_size : ∀ i, (tB i).size = 9 * i
 | 0 => rfl
 | i + 1 => by rw [tB, ByteArray.size_append, tB_size i, show (⟨#[66, 69, 71, 73, 78, 58, 65, 13, 10]⟩ : ByteArray).size = 9 from rfl]; omega
theorem tE_size (s : ByteArray) : ∀ i, (tE s i).size = s.size + 7 * i
 | 0 => rfl
 | i + 1 => by rw [tE, ByteArray.size_append, tE_size s i, show (⟨#[69, 78, 68, 58, 65, 13, 10]⟩ : ByteArray).size = 7 from rfl]; omega
theorem lN_length (n : Int) : ∀ i, (lN n i).length = i
 | 0 => rfl
 | i + 1 => by rw [lN, List.length_append, lN_length n i]; rfl
theorem sW_size : ∀ i, (sW i).size = 8 + 18 * i
 | 0 => rfl
 | i + 1 => by rw [sW, ByteArray.size_append, ByteArray.size_append, ByteArray.size_append, sW_size i, show (⟨#[66, 69, 71, 73, 78, 58, 66, 10, 88, 58]⟩ : ByteArray).size = 10 from rfl, show (⟨#[49]⟩ : ByteArray).size = 1 from rfl, show (⟨#[10, 69, 78, 68, 58, 66, 10]⟩ : ByteArray).size = 7 from rfl]; omega
theorem mW_length (w : Int) : ∀ i, (mW w i).length = i + 1
 | 0 => rfl
 | i + 1 => by rw [mW, List.length_append, mW_length w i]; rfl
def deepOK (n : Nat) : Bool := match tree_Parse.l0 100 ((llD n).map strOfNums) [] 0 with
 | some (l, e) => if n > 8 then e == 20 && l.length == 0 && tree_Check.f 100 (lN n n) == some 20 else e == 0 && solsticekeep_Comps.f 100 l (lN n n) == some true && tree_Check.f 100 (lN n n) == some 0
 | none => false
def wideOK (n : Nat) : Bool := match tree_Parse.l0 400 ((llW n).map strOfNums) [] 0 with
 | some (l, e) => e == 0 && solsticekeep_Comps.f 100 l (mW n n) == some true && (match tree_Kids.f 100 (mW n n) 0 with | some t => t.length == n | none => false)
 | none => false
theorem deep_all : ∀ n, n < 13 → deepOK n = true ∨ n = 0 := by decide +kernel
theorem wide_all : ∀ n, n < 20 → wideOK n = true := by decide +kernel
theorem unf_deep : ∀ n, n < 13 → unfS (bytesOf (tE (tB n) n)) = some (llD n) := by decide +kernel
theorem unf_wide : ∀ n, n < 20 → unfS (bytesOf (sW n ++ (⟨#[69, 78, 68, 58, 82]⟩ : ByteArray))) = some (llW n) := by decide +kernel
theorem wakes19 : solsticelaw19_wakes.F = some true := lim_of (solsticelaw19_wakes.isF).mono (k := 100) (by decide +kernel)
theorem parse_of {s : ByteArray} {ls : List (List Int)} {k : Nat} {r : List S40 × Int} (hs : s.size ≤ 600000) (hu : unfS (bytesOf s) = some ls) (h : tree_Parse.l0 k (ls.map strOfNums) [] 0 = some r) : tree_Parse.F s = some r := by
 rw [tree_Parse.F_eq, Unfold_eq s hs, hu, bind_some_]
 show (if (0 : Int) = 0 then tree_Parse.L0 (ls.map strOfNums) [] 0 else _) = _
 rw [if_pos rfl]
 exact lim_of (tree_Parse.isL0 _ _ _).mono h
theorem deep_j (n : Nat) (h0 : 0 < n) (h1 : n < 13) : ∃ l e, tree_Parse.F (tE (tB n) n) = some (l, e) ∧ solsticelaw19_TreeDeep.J3 n (lN n n) l e false = some true := by
 have hd := (deep_all n h1).resolve_right (by omega)
 unfold deepOK at hd
 split at hd
 ·rename_i l e hp
  refine ⟨l, e, parse_of (by rw [tE_size, tB_size]; omega) (unf_deep n h1) hp, ?_⟩
  rw [solsticelaw19_TreeDeep.J3_eq, if_neg (by decide)]
  by_cases h8 : n > 8
  ·rw [if_pos h8] at hd
   simp only [Bool.and_eq_true, beq_iff_eq] at hd
   obtain ⟨⟨rfl, hl⟩, hc⟩ := hd
   rw [if_pos (by omega), if_pos rfl, if_pos (by omega), (show tree_Check.F _ = some _ from lim_of (tree_Check.isF _).mono hc), bind_some_, if_pos rfl, wakes19, bind_some_]
  ·rw [if_neg h8] at hd
   simp only [Bool.and_eq_true, beq_iff_eq] at hd
   obtain ⟨⟨rfl, hl⟩, hc⟩ := hd
   rw [if_neg (by omega), if_pos rfl, (show solsticekeep_Comps.F _ _ = some _ from lim_of (solsticekeep_Comps.isF _ _).mono hl), bind_some_, if_pos rfl, (show tree_Check.F _ = some _ from lim_of (tree_Check.isF _).mono hc), bind_some_, if_pos rfl, wakes19, bind_some_]
 ·cases hd
theorem l2_run (n : Int) (w : Nat) (hw : w < 20) (x6 x9 : List S40) (x10 : Int) : ∀ d i, i + d = w → solsticelaw19_TreeDeep.L2 n w x6 x9 x10 (sW i) (mW w i) i = solsticelaw19_TreeDeep.J3 n x6 x9 x10 false := by
 intro d
 induction d with
 | zero =>
  intro i hi
  obtain rfl : i = w := by omega
  have hd := wide_all i hw
  unfold wideOK at hd
  split at hd
  ·rename_i l e hp
   simp only [Bool.and_eq_true, beq_iff_eq] at hd
   obtain ⟨⟨rfl, hl⟩, hc⟩ := hd
   have hF : tree_Parse.F (sW i ++ (⟨#[69, 78, 68, 58, 82]⟩ : ByteArray)) = some (l, 0) := parse_of (by rw [ByteArray.size_append, sW_size, show (⟨#[69, 78, 68, 58, 82]⟩ : ByteArray).size = 5 from rfl]; omega) (unf_wide i hw) hp
   split at hc
   ·rename_i t hk
    rw [solsticelaw19_TreeDeep.L2_eq, if_neg (by omega), if_pos (by rw [sW_size]; omega), hF, bind_some_, if_pos rfl, (show solsticekeep_Comps.F _ _ = some _ from lim_of (solsticekeep_Comps.isF _ _).mono hl), bind_some_, if_pos rfl, (show tree_Kids.F _ _ = some _ from lim_of (tree_Kids.isF _ _).mono hk), bind_some_]
    rw [show ((t.length : Int) != (i : Int)) = false by rw [bne_eq_false_iff_eq]; rw [beq_iff_eq] at hc; omega]
   ·cases hc
  ·cases hd
 | succ d ih =>
  intro i hi
  rw [solsticelaw19_TreeDeep.L2_eq, if_pos (by omega), if_pos (by rw [sW_size]; omega), if_pos (by rw [ByteArray.size_append, sW_size, show (⟨#[66, 69, 71, 73, 78, 58, 66, 10, 88, 58]⟩ : ByteArray).size = 10 from rfl]; omega), if_pos (by rw [ByteArray.size_append, ByteArray.size_append, sW_size, show (⟨#[66, 69, 71, 73, 78, 58, 66, 10, 88, 58]⟩ : ByteArray).size = 10 from rfl, show (⟨#[49]⟩ : ByteArray).size = 1 from rfl]; omega), if_pos (by rw [mW_length]; omega), wrap64_id (by omega) (by omega)]
  exact ih (i + 1) (by omega)
theorem l1_run (n : Nat) (hn : n < 13) (w : Int) (x6 : List S40) : ∀ d i, i + d = n → solsticelaw19_TreeDeep.L1 n w (tE (tB n) i) x6 i = (tree_Parse.F (tE (tB n) n)).bind fun b => solsticelaw19_TreeDeep.L2 n w x6 b.1 b.2 (sW 0) (mW w 0) 0 := by
 intro d
 induction d with
 | zero =>
  intro i hi
  obtain rfl : i = n := by omega
  rw [solsticelaw19_TreeDeep.L1_eq, if_neg (by omega)]
  rfl
 | succ d ih =>
  intro i hi
  rw [solsticelaw19_TreeDeep.L1_eq, if_pos (by omega), if_pos (by rw [tE_size, tB_size]; omega), wrap64_id (by omega) (by omega)]
  exact ih (i + 1) (by omega)
theorem l0_run (n : Nat) (hn : n < 13) (w : Int) : ∀ d i, i + d = n → solsticelaw19_TreeDeep.L0 n w (tB i) (lN n i) i = solsticelaw19_TreeDeep.L1 n w (tE (tB n) 0) (lN n n) 0 := by
 intro d
 induction d with
 | zero =>
  intro i hi
  obtain rfl : i = n := by omega
  rw [solsticelaw19_TreeDeep.L0_eq, if_neg (by omega)]
  rfl
 | succ d ih =>
  intro i hi
  rw [solsticelaw19_TreeDeep.L0_eq, if_pos (by omega), if_pos (by rw [tB_size]; omega), if_pos (by rw [lN_length]; omega), wrap64_id (n := (i : Int) + 1) (by omega) (by omega)]
  exact ih (i + 1) (by omega)
theorem TreeDeep : solsticelaw19_TreeDeep.Pure := by
 intro a0 a1 _ _
 suffices h : solsticelaw19_TreeDeep.F a0 a1 = some true from lim_some h
 rw [solsticelaw19_TreeDeep.F_eq]
 have h1 := tmod_at a0 12 (by omega) (by omega)
 have h2 := tmod_at a1 20 (by omega) (by omega)
 generalize wrap64 (Int.tmod (IntKind.u64.wrap a0) 12) = u at h1
 generalize wrap64 (Int.tmod (IntKind.u64.wrap a1) 20) = v at h2
 obtain ⟨n, hn⟩ : ∃ n : Nat, 1 + u = (n : Int) := ⟨(1 + u).toNat, by omega⟩
 obtain ⟨w, rfl⟩ : ∃ w : Nat, v = (w : Int) := ⟨v.toNat, by omega⟩
 rw [hn, wrap64_id (n := (n : Int)) (by omega) (by omega)]
 obtain ⟨l, e, hp, hj⟩ := deep_j n (by omega) (by omega)
 have := l0_run n (by omega) w n 0 (by omega)
 rw [show solsticelaw19_TreeDeep.L0 n w (⟨#[]⟩ : ByteArray) [] 0 = solsticelaw19_TreeDeep.L0 n w (tB 0) (lN n 0) (0 : Nat) from rfl, this]
 have h3 := l1_run n (by omega) w (lN n n) n 0 (by omega)
 rw [show solsticelaw19_TreeDeep.L1 n w (tE (tB n) 0) (lN n n) 0 = solsticelaw19_TreeDeep.L1 n w (tE (tB n) 0) (lN n n) (0 : Nat) from rfl, h3, hp, bind_some_]
 have h4 := l2_run n w (by omega) (lN n n) l e w 0 (by omega)
 rw [show solsticelaw19_TreeDeep.L2 n w (lN n n) (l, e).1 (l, e).2 (sW 0) (mW w 0) 0 = solsticelaw19_TreeDeep.L2 n w (lN n n) l e (sW 0) (mW w 0) (0 : Nat) from rfl, h4, hj]
end Go.Proofs.YtdgeokpbedllaaaDoor.Pure
