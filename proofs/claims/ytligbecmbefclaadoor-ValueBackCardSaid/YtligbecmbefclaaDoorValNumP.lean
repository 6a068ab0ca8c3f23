/- What the printed num.Text and num.Parse compute. No condition. -/
import Derived.Test.YtligbecmbefclaaDoorNumT
import Derived.Test.YtligbecmbefclaaDoorPValx1
import Derived.Test.YtligbecmbefclaaDoorEValx3
/- What the printed num.Text computes. No condition. -/
namespace Go.Proofs.YtligbecmbefclaaDoor.Base
open Go.RowKit Go.Proofs.YtligbecmbefclaaDoor.PVal Go.Proofs.YtligbecmbefclaaDoorW.PrintWords Go.Proofs.YtligbecmbefclaaDoorW.PrintLast Go.Proofs.YtligbecmbefclaaDoorW.PrintMore
set_option linter.unusedVariables false
set_option linter.unusedSimpArgs false
theorem num_Text_eq (n d : Int) (hn : -9223372036854775808 ≤ n ∧ n ≤ 9223372036854775807) (_hd : -9223372036854775808 ≤ d ∧ d ≤ 9223372036854775807) : num_Text.f n d = some (strOfNums (txt n d)) := by
  unfold num_Text.f txt
  by_cases h : n < 0
  · rw [if_pos h, if_pos h]; rfl
  · rw [if_neg h, if_neg h]
    unfold strconv_Itoa.f
    rw [if_pos hn, bind_some_, itoa_eq n (by omega), size_strOf]
    have hl := digs_len20 hn.2
    have hw : wide d = if d < 0 ∨ d > 20 then 0 else d.toNat := rfl
    have hs20 : (strOfNums (digs n.toNat)).size ≤ 20 := by rw [size_strOf]; exact hl
    by_cases h1 : d < 0
    · rw [if_pos h1, hw, if_pos (Or.inl h1)]
      simp
    · rw [if_neg h1]
      by_cases h2 : d > 20
      · rw [if_pos h2, hw, if_pos (Or.inr h2)]
        simp
      · rw [if_neg h2, hw, if_neg (show ¬ (d < 0 ∨ d > 20) by omega)]
        by_cases h3 : d ≤ ((digs n.toNat).length : Int)
        · rw [if_pos h3, show d.toNat - (digs n.toNat).length = 0 by omega]
          rfl
        · rw [if_neg h3, wrap64_id (by omega) (by omega)]
          unfold strings_Repeat.f
          have e : (d - ((digs n.toNat).length : Int)).toNat = d.toNat - (digs n.toNat).length := by omega
          rw [e, if_pos ⟨by omega, by omega, by have : (⟨#[48]⟩ : ByteArray).size = 1 := rfl; rw [this]; omega⟩, bind_some_, rep_eq, size_strOf, if_pos (by rw [List.length_replicate]; omega), strOf_append]
end Go.Proofs.YtligbecmbefclaaDoor.Base

namespace Go.Proofs.YtligbecmbefclaaDoor.Base
open Go.RowKit Go.Proofs.YtligbecmbefclaaDoor.PVal Go.Proofs.YtligbecmbefclaaDoorW.PrintWords Go.Proofs.YtligbecmbefclaaDoorW.PrintLast Go.Proofs.YtligbecmbefclaaDoorW.PrintMore
set_option linter.unusedVariables false
set_option linter.unusedSimpArgs false
def parsS (l : List Int) : Int × Bool := if 1 ≤ l.length ∧ l.length ≤ 18 ∧ l.all isDig = true then (val 0 l, true) else (0, false)
theorem num_Parse_L0 (s : ByteArray) (hs : s.size ≤ 18) : ∀ (n : Nat) (i : Int) (a : Int), n = (s.size : Int).toNat - i.toNat → 0 ≤ i → i ≤ (s.size : Int) → 0 ≤ a → a < (10 : Int) ^ i.toNat →
    num_Parse.L0 s a (s.size : Int) i = some (if (rest s i).all isDig = true then (val a (rest s i), true) else (0, false)) := by
  intro n
  induction n with
  | zero =>
    intro i a hn h0 h1 _ _
    rw [num_Parse.L0_eq, if_neg (by omega), rest_nil (by omega)]
    rfl
  | succ n ih =>
    intro i a hn h0 h1 ha0 ha1
    have hlt : i < (s.size : Int) := by omega
    rw [num_Parse.L0_eq, if_pos hlt, if_pos h0, if_pos hlt, rest_cons h0 hlt, List.all_cons]
    by_cases hd : isDig (bt s i) = true
    · rw [hd, Bool.true_and]
      rw [isDig_iff] at hd
      rw [if_neg (by omega), if_neg (by omega)]
      have hp : (10 : Int) ^ i.toNat ≤ 10 ^ 17 := by
        have : (10 : Nat) ^ i.toNat ≤ 10 ^ 17 := Nat.pow_le_pow_right (by omega) (by omega)
        exact_mod_cast this
      have hp17 : (10 : Int) ^ 17 = 100000000000000000 := by decide
      have e1 : wrap64 (10 * a) = 10 * a := wrap64_id (by omega) (by omega)
      have e2 : (bt s i - 48) % 256 = bt s i - 48 := by omega
      rw [e1, e2, wrap64_id (by omega) (by omega), wrap64_id (n := i + 1) (by omega) (by omega)]
      rw [ih (i + 1) (10 * a + (bt s i - 48)) (by omega) (by omega) (by omega) (by omega) (by
        rw [show (i + 1).toNat = i.toNat + 1 by omega, Int.pow_succ]
        omega)]
      rfl
    · have hR : ((isDig (bt s i) && (rest s (i + 1)).all isDig) = true) = False := eq_false (by rw [Bool.and_eq_true]; exact fun h => hd h.1)
      simp only [hR, if_false]
      have : ¬ (48 ≤ bt s i ∧ bt s i ≤ 57) := fun h => hd ((isDig_iff _).2 h)
      by_cases hl : bt s i < 48
      · rw [if_pos hl]
      · rw [if_neg hl, if_pos (by omega)]
theorem num_Parse_eq (s : ByteArray) : num_Parse.F s = some (parsS (bytesOf s)) := by
  unfold parsS
  have hz := size_len s
  rw [num_Parse.F_eq]
  by_cases h : (s.size : Int) < 1
  · rw [if_pos h, num_Parse.J0_eq, if_pos rfl, if_neg (by omega)]
  · rw [if_neg h, num_Parse.J0_eq]
    by_cases h2 : (s.size : Int) > 18
    · rw [if_pos (decide_eq_true h2), if_neg (by omega)]
    · rw [if_neg (by simpa using h2), num_Parse_L0 s (by omega) _ 0 0 rfl (by omega) (by omega) (by omega) (by decide), rest_zero]
      by_cases hd : (bytesOf s).all isDig = true
      · rw [if_pos hd, if_pos ⟨by omega, by omega, hd⟩]
      · rw [if_neg hd, if_neg (fun h => hd h.2.2)]
theorem num_Parse_str {l : List Int} (h : Bytes l) : num_Parse.F (strOfNums l) = some (parsS l) := by rw [num_Parse_eq, bytes_strOf h]
end Go.Proofs.YtligbecmbefclaaDoor.Base
