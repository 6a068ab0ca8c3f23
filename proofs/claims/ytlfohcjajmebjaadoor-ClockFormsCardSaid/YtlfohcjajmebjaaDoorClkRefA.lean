/- The page's own answers: bound, quotient, digits, number, text. No condition. -/
import Derived.Test.YtlfohcjajmebjaaDoorNumT
import Derived.Test.YtlfohcjajmebjaaDoorEClkx4
import Derived.Test.YtlfohcjajmebjaaDoorPClkx4
import Derived.Test.YtlfohcjajmebjaaDoorPClkx6
namespace Go.Proofs.YtlfohcjajmebjaaDoor.Base
open Go.RowKit Go.Proofs.YtlfohcjajmebjaaDoor.PClk Go.Proofs.YtlfohcjajmebjaaDoorW.PrintWords Go.Proofs.YtlfohcjajmebjaaDoorW.PrintLast Go.Proofs.YtlfohcjajmebjaaDoorW.PrintMore
set_option linter.unusedVariables false
set_option linter.unusedSimpArgs false
/-! The page's -/
theorem ref_Bound_eq (a : Int) : solsticeref01_Bound.f a = some (decide (Bd a)) := by
  unfold solsticeref01_Bound.f solsticeref01_In.f Bd
  split
  · rename_i h
    have h' : -4611686018427387904 ≤ a := h
    rw [bind_some_]
    simp [h']
  · rename_i h
    have h' : ¬ -4611686018427387904 ≤ a := h
    rw [bind_some_]
    simp [h']
theorem ref_Div_eq (a b : Int) (ha : -9223372036854775808 ≤ a ∧ a ≤ 9223372036854775807) (hb : 1 ≤ b ∧ b ≤ 9223372036854775807) : solsticeref01_Div.f a b = some (a / b, a % b) := by
  unfold solsticeref01_Div.f
  rw [if_neg (by omega)]
  have := tdiv_wrap (a := a) hb.1 ha hb.2
  rw [← this]
  split <;> rfl
theorem ref_digit_eq (c : Int) : solsticeref01_digit.f c = some (isDig c) := by
  unfold solsticeref01_digit.f isDig
  split
  · rename_i h
    have : 48 ≤ c := h
    simp [this]
  · rename_i h
    have : ¬ 48 ≤ c := h
    simp [this]
theorem ref_Digits_L0 (s : ByteArray) (hs : s.size ≤ 9223372036854775806) : ∀ (n : Nat) (i : Int), n = (s.size : Int).toNat - i.toNat → 0 ≤ i → i ≤ (s.size : Int) →
    solsticeref01_Digits.L0 s i = some ((rest s i).all isDig) := by
  intro n
  induction n with
  | zero =>
    intro i hn h0 h1
    rw [solsticeref01_Digits.L0_eq, if_neg (by omega), rest_nil (by omega)]
    rfl
  | succ n ih =>
    intro i hn h0 h1
    have hlt : i < (s.size : Int) := by omega
    rw [solsticeref01_Digits.L0_eq, if_pos hlt, if_pos h0, ref_digit_eq, bind_some_, rest_cons h0 hlt, List.all_cons]
    cases hd : isDig (bt s i) with
    | true => rw [if_pos rfl, wrap64_id (by omega) (by omega), ih (i + 1) (by omega) (by omega) (by omega), Bool.true_and]
    | false => rw [if_neg (by simp), Bool.false_and]
theorem ref_Digits_eq (s : ByteArray) (hs : s.size ≤ 9223372036854775806) (lo hi : Int) : solsticeref01_Digits.F s lo hi = some (decide (lo ≤ (s.size : Int) ∧ (s.size : Int) ≤ hi ∧ (bytesOf s).all isDig = true)) := by
  rw [solsticeref01_Digits.F_eq]
  by_cases h1 : (s.size : Int) < lo
  · rw [if_pos h1, solsticeref01_Digits.J0_eq, if_pos rfl]
    congr 1
    exact (decide_eq_false (fun h => by omega)).symm
  · rw [if_neg h1, solsticeref01_Digits.J0_eq]
    by_cases h2 : (s.size : Int) > hi
    · rw [if_pos (decide_eq_true h2)]
      congr 1
      exact (decide_eq_false (fun h => by omega)).symm
    · rw [if_neg (by simpa using h2), ref_Digits_L0 s hs _ 0 rfl (by omega) (by omega), rest_zero]
      congr 1
      cases hd : (bytesOf s).all isDig with
      | true => exact (decide_eq_true ⟨by omega, by omega, rfl⟩).symm
      | false => exact (decide_eq_false (fun h => by simp at h)).symm
theorem ref_Value_L0 (s : ByteArray) (hs : s.size ≤ 18) (hd : (bytesOf s).all isDig = true) : ∀ (n : Nat) (i : Int) (a : Int), n = (s.size : Int).toNat - i.toNat → 0 ≤ i → i ≤ (s.size : Int) → 0 ≤ a → a < (10 : Int) ^ i.toNat →
    solsticeref01_Value.L0 s a i = some (val a (rest s i)) := by
  intro n
  induction n with
  | zero =>
    intro i a hn h0 h1 _ _
    rw [solsticeref01_Value.L0_eq, if_neg (by omega), rest_nil (by omega)]
    rfl
  | succ n ih =>
    intro i a hn h0 h1 ha0 ha1
    have hlt : i < (s.size : Int) := by omega
    rw [solsticeref01_Value.L0_eq, if_pos hlt, if_pos h0, rest_cons h0 hlt]
    have hb : isDig (bt s i) = true := List.all_eq_true.1 hd _ (by
      have : bt s i ∈ rest s i := by rw [rest_cons h0 hlt]; exact List.mem_cons_self ..
      exact List.mem_of_mem_drop this)
    rw [isDig_iff] at hb
    have hp : (10 : Int) ^ i.toNat ≤ 10 ^ 17 := by
      have : (10 : Nat) ^ i.toNat ≤ 10 ^ 17 := Nat.pow_le_pow_right (by omega) (by omega)
      exact_mod_cast this
    have hp17 : (10 : Int) ^ 17 = 100000000000000000 := by decide
    rw [wrap64_id (n := 10 * a) (by omega) (by omega), wrap64_id (n := bt s i) (by omega) (by omega), wrap64_id (n := 10 * a + bt s i) (by omega) (by omega), wrap64_id (n := 10 * a + bt s i - 48) (by omega) (by omega), wrap64_id (n := i + 1) (by omega) (by omega)]
    rw [ih (i + 1) (10 * a + bt s i - 48) (by omega) (by omega) (by omega) (by omega) (by
        rw [show (i + 1).toNat = i.toNat + 1 by omega, Int.pow_succ]
        omega)]
    show _ = some (val (10 * a + (bt s i - 48)) _)
    rw [show 10 * a + bt s i - 48 = 10 * a + (bt s i - 48) by omega]
theorem ref_Value_eq (s : ByteArray) (hs : s.size ≤ 18) (hd : (bytesOf s).all isDig = true) : solsticeref01_Value.F s = some (val 0 (bytesOf s)) := by
  rw [solsticeref01_Value.F_eq, ref_Value_L0 s hs hd _ 0 0 rfl (by omega) (by omega) (by omega) (by decide), rest_zero]
end Go.Proofs.YtlfohcjajmebjaaDoor.Base
