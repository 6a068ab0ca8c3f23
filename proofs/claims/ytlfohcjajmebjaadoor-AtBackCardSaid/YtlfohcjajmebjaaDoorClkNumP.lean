/- What the printed num.Text and num.Parse compute. No condition. -/
import Derived.Test.YtlfohcjajmebjaaDoorNumT
import Derived.Test.YtlfohcjajmebjaaDoorEClkx2
namespace Go.Proofs.YtlfohcjajmebjaaDoor.Base
open Go.RowKit Go.Proofs.YtlfohcjajmebjaaDoor.PClk Go.Proofs.YtlfohcjajmebjaaDoorW.PrintWords Go.Proofs.YtlfohcjajmebjaaDoorW.PrintLast Go.Proofs.YtlfohcjajmebjaaDoorW.PrintMore
set_option linter.unusedVariables false
set_option linter.unusedSimpArgs false
def parsS (l : List Int) : Int × Bool := if 1 ≤ l.length ∧ l.length ≤ 18 ∧ l.all isDig = true then (val 0 l, true) else (0, false)
theorem num_Parse_L0 (s : ByteArray) (hs : s.size ≤ 18) : ∀ (n : Nat) (i : Int) (a : Int), n = (s.size : Int).toNat - i.toNat → 0 ≤ i → i ≤ (s.size : Int) → 0 ≤ a → a < (10 : Int) ^ i.toNat →
    num_Parse.L0 s a (s.size : Int) i = some (if (rest s i).all isDig = true then (val a (rest s i), true) else (0, false)) := by
  intro n
  induction n with
  | zero =>
    intro i a hn h0 h1 _ _
    rw [num_Parse.L0_eq, if_neg (by omega), rest_nil (by omega)]
    rfl
  | succ n ih =>
    intro i a hn h0 h1 ha0 ha1
    have hlt : i < (s.size : Int) := by omega
    rw [num_Parse.L0_eq, if_pos hlt, if_pos h0, if_pos hlt, rest_cons h0 hlt, List.all_cons]
    by_cases hd : isDig (bt s i) = true
    · rw [hd, Bool.true_and]
      rw [isDig_iff] at hd
      rw [if_neg (by omega), if_neg (by omega)]
      have hp : (10 : Int) ^ i.toNat ≤ 10 ^ 17 := by
        have : (10 : Nat) ^ i.toNat ≤ 10 ^ 17 := Nat.pow_le_pow_right (by omega) (by omega)
        exact_mod_cast this
      have hp17 : (10 : Int) ^ 17 = 100000000000000000 := by decide
      have e1 : wrap64 (10 * a) = 10 * a := wrap64_id (by omega) (by omega)
      have e2 : (bt s i - 48) % 256 = bt s i - 48 := by omega
      rw [e1, e2, wrap64_id (by omega) (by omega), wrap64_id (n := i + 1) (by omega) (by omega)]
      rw [ih (i + 1) (10 * a + (bt s i - 48)) (by omega) (by omega) (by omega) (by omega) (by
        rw [show (i + 1).toNat = i.toNat + 1 by omega, Int.pow_succ]
        omega)]
      rfl
    · have hR : ((isDig (bt s i) && (rest s (i + 1)).all isDig) = true) = False := eq_false (by rw [Bool.and_eq_true]; exact fun h => hd h.1)
      simp only [hR, if_false]
      have : ¬ (48 ≤ bt s i ∧ bt s i ≤ 57) := fun h => hd ((isDig_iff _).2 h)
      by_cases hl : bt s i < 48
      · rw [if_pos hl]
      · rw [if_neg hl, if_pos (by omega)]
theorem num_Parse_eq (s : ByteArray) : num_Parse.F s = some (parsS (bytesOf s)) := by
  unfold parsS
  have hz := size_len s
  rw [num_Parse.F_eq]
  by_cases h : (s.size : Int) < 1
  · rw [if_pos h, num_Parse.J0_eq, if_pos rfl, if_neg (by omega)]
  · rw [if_neg h, num_Parse.J0_eq]
    by_cases h2 : (s.size : Int) > 18
    · rw [if_pos (decide_eq_true h2), if_neg (by omega)]
    · rw [if_neg (by simpa using h2), num_Parse_L0 s (by omega) _ 0 0 rfl (by omega) (by omega) (by omega) (by decide), rest_zero]
      by_cases hd : (bytesOf s).all isDig = true
      · rw [if_pos hd, if_pos ⟨by omega, by omega, hd⟩]
      · rw [if_neg hd, if_neg (fun h => hd h.2.2)]
theorem num_Parse_str {l : List Int} (h : Bytes l) : num_Parse.F (strOfNums l) = some (parsS l) := by rw [num_Parse_eq, bytes_strOf h]
end Go.Proofs.YtlfohcjajmebjaaDoor.Base
