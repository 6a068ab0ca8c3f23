/- The page's own answers: bound, quotient, digits, number, text. No condition. -/
import Derived.Test.YtligbecmbefclaaDoorVexNumP
import Derived.Test.YtligbecmbefclaaDoorEVexx13
import Derived.Test.YtligbecmbefclaaDoorEVexx9
import Derived.Test.YtligbecmbefclaaDoorPVexx9
/- The page's text of a number. No condition. -/
namespace Go.Proofs.YtligbecmbefclaaDoor.Base
open Go.RowKit Go.Proofs.YtligbecmbefclaaDoor.PVex Go.Proofs.YtligbecmbefclaaDoorW.PrintWords Go.Proofs.YtligbecmbefclaaDoorW.PrintLast Go.Proofs.YtligbecmbefclaaDoorW.PrintMore
set_option linter.unusedVariables false
set_option linter.unusedSimpArgs false
theorem ref_Text_L1 (d : Int) (_hd : d ≤ 20) : ∀ (n : Nat) (l : List Int), n = d.toNat - l.length → l.length ≤ 100 → solsticeref01_Text.L1 d (strOfNums l) = some (strOfNums (List.replicate (d.toNat - l.length) 48 ++ l)) := by
  intro n
  induction n with
  | zero =>
    intro l hn _
    rw [solsticeref01_Text.L1_eq, size_strOf, if_neg (by omega), ← hn]
    rfl
  | succ n ih =>
    intro l hn hl
    rw [solsticeref01_Text.L1_eq, size_strOf, if_pos (by omega), if_pos (by omega)]
    have e : (⟨#[48]⟩ : ByteArray) ++ strOfNums l = strOfNums (48 :: l) := by
      rw [show (⟨#[48]⟩ : ByteArray) = strOfNums [48] from rfl, strOf_append]; rfl
    rw [e, ih (48 :: l) (by rw [List.length_cons]; omega) (by rw [List.length_cons]; omega), List.length_cons]
    rw [show d.toNat - l.length = (d.toNat - (l.length + 1)) + 1 by omega, List.replicate_succ']
    simp
theorem ref_Text_L0 (d : Int) (hd : d ≤ 20) : ∀ (n : Nat) (l : List Int) (k : Nat), 1 ≤ k → n < 10 ^ k → n ≤ 9223372036854775807 → l.length + k ≤ 80 → (l ≠ [] → n ≠ 0) → solsticeref01_Text.L0 n d (strOfNums l) = solsticeref01_Text.L1 d (strOfNums (digs n ++ l)) := by
  intro n
  induction n using Nat.strongRecOn with
  | _ n ih =>
    intro l k hk hn h64 hl hz
    have e1 : (wrap64 (48 + Int.tmod (n : Int) 10)) % 256 = 48 + ((n % 10 : Nat) : Int) := by
      rw [Int.tmod_eq_emod_of_nonneg (by omega), wrap64_id (by omega) (by omega)]; omega
    have e2 : wrap64 (Int.tdiv (n : Int) 10) = ((n / 10 : Nat) : Int) := by
      rw [Int.tdiv_eq_ediv_of_nonneg (by omega), wrap64_id (by omega) (by omega)]; omega
    have step : solsticeref01_Text.L0 n d (strOfNums l) = solsticeref01_Text.L0 ((n / 10 : Nat) : Int) d (strOfNums ((48 + ((n % 10 : Nat) : Int)) :: l)) := by
      have hh : ((some (([(wrap64 (48 + (Int.tmod (n : Int) 10))) % 256] : List Int) : List Int)).bind fun y144 => (if (strOfNums y144).size + (strOfNums l).size ≤ 9223372036854775807 then (solsticeref01_Text.L0 (wrap64 (Int.tdiv (n : Int) 10)) d ((strOfNums y144) ++ (strOfNums l))) else (none))) = solsticeref01_Text.L0 ((n / 10 : Nat) : Int) d (strOfNums ((48 + ((n % 10 : Nat) : Int)) :: l)) := by
        rw [bind_some_, e1, e2, size_strOf, size_strOf, if_pos (by simp; omega), strOf_append]; rfl
      rw [solsticeref01_Text.L0_eq]
      by_cases h0 : (n : Int) > 0
      · rw [if_pos h0, hh]
      · have hle : l = [] := by
          rcases l with _ | ⟨c, l⟩
          · rfl
          · exact absurd (by omega : n = 0) (hz (by simp))
        subst hle
        rw [if_neg h0, if_pos (by rw [size_strOf]; rfl), hh]
    rw [step]
    by_cases h10 : n < 10
    · rw [show n / 10 = 0 by omega, digs_small h10, solsticeref01_Text.L0_eq, if_neg (by omega), if_neg (by rw [size_strOf]; simp; omega), show n % 10 = n by omega]
      rfl
    · obtain ⟨k', rfl⟩ : ∃ k', k = k' + 2 := ⟨k - 2, by
        rcases k with _ | _ | k
        · omega
        · omega
        · omega⟩
      rw [ih (n / 10) (by omega) _ (k' + 1) (by omega) (by rw [Nat.pow_succ] at hn; omega) (by omega) (by rw [List.length_cons]; omega) (fun _ => by omega), digs_big h10]
      simp
theorem ref_Text_eq (n d : Int) (hn : -9223372036854775808 ≤ n ∧ n ≤ 9223372036854775807) : solsticeref01_Text.F n d = some (strOfNums (txt n d)) := by
  unfold txt
  rw [solsticeref01_Text.F_eq]
  by_cases h : n < 0
  · rw [if_pos h, if_pos h]; rfl
  · rw [if_neg h, if_neg h]
    have hl := digs_len20 hn.2
    have key : ∀ d' : Int, d' ≤ 20 → solsticeref01_Text.J1 n d' = some (strOfNums (List.replicate (d'.toNat - (digs n.toNat).length) 48 ++ digs n.toNat)) := by
      intro d' hd'
      have e : n = ((n.toNat : Nat) : Int) := by omega
      rw [solsticeref01_Text.J1_eq]
      have := ref_Text_L0 d' hd' n.toNat [] 20 (by omega) (by
        have : (10 : Nat) ^ 20 = 100000000000000000000 := by decide
        omega) (by omega) (by simp) (fun h => absurd rfl h)
      rw [← e, strOf_nil, List.append_nil] at this
      rw [this, ref_Text_L1 d' hd' _ _ rfl (by omega)]
    unfold wide
    by_cases h1 : d < 0
    · rw [if_pos h1, solsticeref01_Text.J0_eq, if_pos rfl, key 0 (by omega), if_pos (Or.inl h1)]
      rfl
    · rw [if_neg h1, solsticeref01_Text.J0_eq]
      by_cases h2 : d > 20
      · rw [if_pos (decide_eq_true h2), key 0 (by omega), if_pos (Or.inr h2)]
        rfl
      · rw [if_neg (by simpa using h2), key d (by omega), if_neg (show ¬ (d < 0 ∨ d > 20) by omega)]
end Go.Proofs.YtligbecmbefclaaDoor.Base

namespace Go.Proofs.YtligbecmbefclaaDoor.Base
open Go.RowKit Go.Proofs.YtligbecmbefclaaDoor.PVex Go.Proofs.YtligbecmbefclaaDoorW.PrintWords Go.Proofs.YtligbecmbefclaaDoorW.PrintLast Go.Proofs.YtligbecmbefclaaDoorW.PrintMore
set_option linter.unusedVariables false
set_option linter.unusedSimpArgs false
/-! The page's -/
theorem ref_Div_eq (a b : Int) (ha : -9223372036854775808 ≤ a ∧ a ≤ 9223372036854775807) (hb : 1 ≤ b ∧ b ≤ 9223372036854775807) : solsticeref01_Div.f a b = some (a / b, a % b) := by
  unfold solsticeref01_Div.f
  rw [if_neg (by omega)]
  have := tdiv_wrap (a := a) hb.1 ha hb.2
  rw [← this]
  split <;> rfl
theorem ref_digit_eq (c : Int) : solsticeref01_digit.f c = some (isDig c) := by
  unfold solsticeref01_digit.f isDig
  split
  · rename_i h
    have : 48 ≤ c := h
    simp [this]
  · rename_i h
    have : ¬ 48 ≤ c := h
    simp [this]
theorem ref_Digits_L0 (s : ByteArray) (hs : s.size ≤ 9223372036854775806) : ∀ (n : Nat) (i : Int), n = (s.size : Int).toNat - i.toNat → 0 ≤ i → i ≤ (s.size : Int) →
    solsticeref01_Digits.L0 s i = some ((rest s i).all isDig) := by
  intro n
  induction n with
  | zero =>
    intro i hn h0 h1
    rw [solsticeref01_Digits.L0_eq, if_neg (by omega), rest_nil (by omega)]
    rfl
  | succ n ih =>
    intro i hn h0 h1
    have hlt : i < (s.size : Int) := by omega
    rw [solsticeref01_Digits.L0_eq, if_pos hlt, if_pos h0, ref_digit_eq, bind_some_, rest_cons h0 hlt, List.all_cons]
    cases hd : isDig (bt s i) with
    | true => rw [if_pos rfl, wrap64_id (by omega) (by omega), ih (i + 1) (by omega) (by omega) (by omega), Bool.true_and]
    | false => rw [if_neg (by simp), Bool.false_and]
theorem ref_Digits_eq (s : ByteArray) (hs : s.size ≤ 9223372036854775806) (lo hi : Int) : solsticeref01_Digits.F s lo hi = some (decide (lo ≤ (s.size : Int) ∧ (s.size : Int) ≤ hi ∧ (bytesOf s).all isDig = true)) := by
  rw [solsticeref01_Digits.F_eq]
  by_cases h1 : (s.size : Int) < lo
  · rw [if_pos h1, solsticeref01_Digits.J0_eq, if_pos rfl]
    congr 1
    exact (decide_eq_false (fun h => by omega)).symm
  · rw [if_neg h1, solsticeref01_Digits.J0_eq]
    by_cases h2 : (s.size : Int) > hi
    · rw [if_pos (decide_eq_true h2)]
      congr 1
      exact (decide_eq_false (fun h => by omega)).symm
    · rw [if_neg (by simpa using h2), ref_Digits_L0 s hs _ 0 rfl (by omega) (by omega), rest_zero]
      congr 1
      cases hd : (bytesOf s).all isDig with
      | true => exact (decide_eq_true ⟨by omega, by omega, rfl⟩).symm
      | false => exact (decide_eq_false (fun h => by simp at h)).symm
theorem ref_Value_L0 (s : ByteArray) (hs : s.size ≤ 18) (hd : (bytesOf s).all isDig = true) : ∀ (n : Nat) (i : Int) (a : Int), n = (s.size : Int).toNat - i.toNat → 0 ≤ i → i ≤ (s.size : Int) → 0 ≤ a → a < (10 : Int) ^ i.toNat →
    solsticeref01_Value.L0 s a i = some (val a (rest s i)) := by
  intro n
  induction n with
  | zero =>
    intro i a hn h0 h1 _ _
    rw [solsticeref01_Value.L0_eq, if_neg (by omega), rest_nil (by omega)]
    rfl
  | succ n ih =>
    intro i a hn h0 h1 ha0 ha1
    have hlt : i < (s.size : Int) := by omega
    rw [solsticeref01_Value.L0_eq, if_pos hlt, if_pos h0, rest_cons h0 hlt]
    have hb : isDig (bt s i) = true := List.all_eq_true.1 hd _ (by
      have : bt s i ∈ rest s i := by rw [rest_cons h0 hlt]; exact List.mem_cons_self ..
      exact List.mem_of_mem_drop this)
    rw [isDig_iff] at hb
    have hp : (10 : Int) ^ i.toNat ≤ 10 ^ 17 := by
      have : (10 : Nat) ^ i.toNat ≤ 10 ^ 17 := Nat.pow_le_pow_right (by omega) (by omega)
      exact_mod_cast this
    have hp17 : (10 : Int) ^ 17 = 100000000000000000 := by decide
    rw [wrap64_id (n := 10 * a) (by omega) (by omega), wrap64_id (n := bt s i) (by omega) (by omega), wrap64_id (n := 10 * a + bt s i) (by omega) (by omega), wrap64_id (n := 10 * a + bt s i - 48) (by omega) (by omega), wrap64_id (n := i + 1) (by omega) (by omega)]
    rw [ih (i + 1) (10 * a + bt s i - 48) (by omega) (by omega) (by omega) (by omega) (by
        rw [show (i + 1).toNat = i.toNat + 1 by omega, Int.pow_succ]
        omega)]
    show _ = some (val (10 * a + (bt s i - 48)) _)
    rw [show 10 * a + bt s i - 48 = 10 * a + (bt s i - 48) by omega]
theorem ref_Value_eq (s : ByteArray) (hs : s.size ≤ 18) (hd : (bytesOf s).all isDig = true) : solsticeref01_Value.F s = some (val 0 (bytesOf s)) := by
  rw [solsticeref01_Value.F_eq, ref_Value_L0 s hs hd _ 0 0 rfl (by omega) (by omega) (by omega) (by decide), rest_zero]
end Go.Proofs.YtligbecmbefclaaDoor.Base
