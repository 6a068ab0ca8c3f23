/- Plain texts (the page's Plain), and what is right of an offset's short text. No condition. -/
import Derived.Test.YtookjnpmbenheaaDoorFmtB
import Derived.Test.YtookjnpmbenheaaDoorEFmtx3
namespace Go.Proofs.YtookjnpmbenheaaDoor.Base
open Go.RowKit Go.Proofs.YtookjnpmbenheaaDoor.PFmt Go.Proofs.YtookjnpmbenheaaDoorW.PrintWords Go.Proofs.YtookjnpmbenheaaDoorW.PrintLast Go.Proofs.YtookjnpmbenheaaDoorW.PrintMore
set_option linter.unusedVariables false
set_option linter.unusedSimpArgs false

theorem rgt_iff {l : List Int} : rgt l = true ↔ l.all sgn = true ∧ 1 ≤ l.length ∧ l.length ≤ 40 := by unfold rgt; simp [and_assoc]
def plainS (l : List Int) (m : Int) : Bool := decide (1 ≤ l.length) && decide ((l.length : Int) ≤ m) && l.all sgn
theorem plainS_iff {l : List Int} {m : Int} : plainS l m = true ↔ 1 ≤ l.length ∧ (l.length : Int) ≤ m ∧ l.all sgn = true := by unfold plainS; simp [and_assoc]
theorem ref_letter_eq (c : Int) : solsticeref09_letter.f c = some (decide ((65 ≤ c ∧ c ≤ 90) ∨ (97 ≤ c ∧ c ≤ 122))) := by
  have key : ∀ (b : Bool) (p : Prop) [Decidable p], (b = true ↔ p) → some b = some (decide p) := fun b p _ h => by
    congr 1
    rw [Bool.eq_iff_iff, decide_eq_true_eq]
    exact h
  unfold solsticeref09_letter.f
  repeat' split
  all_goals refine key _ _ ?_
  all_goals simp
  all_goals omega
theorem ref_digit_eq9 (c : Int) : solsticeref09_digit.f c = some (decide (48 ≤ c ∧ c ≤ 57)) := by
  unfold solsticeref09_digit.f
  by_cases h : c ≥ 48
  · rw [if_pos h]
    congr 1
    rw [decide_eq_decide]
    omega
  · rw [if_neg h]
    congr 1
    exact (decide_eq_false (by omega)).symm
theorem plain_L0 (s : ByteArray) (hs : s.size ≤ 9223372036854775806) : ∀ (n : Nat) (i : Int), n = (s.size : Int).toNat - i.toNat → 0 ≤ i → i ≤ (s.size : Int) →
    solsticeref09_Plain.L0 s i = some ((rest s i).all sgn) := by
  intro n
  induction n with
  | zero =>
    intro i hn h0 h1
    rw [solsticeref09_Plain.L0_eq, if_neg (by omega), rest_nil (by omega)]
    rfl
  | succ n ih =>
    intro i hn h0 h1
    have hlt : i < (s.size : Int) := by omega
    have next := ih (i + 1) (by omega) (by omega) (by omega)
    rw [solsticeref09_Plain.L0_eq, if_pos hlt, if_pos h0, ref_letter_eq, bind_some_, ref_digit_eq9, bind_some_, wrap64_id (n := i + 1) (by omega) (by omega), next, rest_cons h0 hlt, List.all_cons]
    by_cases h : sgn (bt s i) = true
    · have h' := (sgn_iff _).1 h
      rw [h, Bool.true_and]
      by_cases c1 : (65 ≤ bt s i ∧ bt s i ≤ 90) ∨ (97 ≤ bt s i ∧ bt s i ≤ 122)
      · rw [if_pos (decide_eq_true c1)]
      · rw [if_neg (by simpa using c1)]
        by_cases c2 : 48 ≤ bt s i ∧ bt s i ≤ 57
        · rw [if_pos (decide_eq_true c2)]
        · rw [if_neg (by simpa using c2)]
          by_cases c3 : bt s i = 43
          · rw [if_pos c3]
          · rw [if_neg c3, if_pos (by omega)]
    · have h' : ¬ _ := fun x => h ((sgn_iff _).2 x)
      rw [Bool.not_eq_true] at h
      rw [h, Bool.false_and, if_neg (by rw [decide_eq_true_eq]; omega), if_neg (by rw [decide_eq_true_eq]; omega), if_neg (by omega), if_neg (by omega)]
theorem plain_eq (s : ByteArray) (hs : s.size ≤ 9223372036854775806) (m : Int) : solsticeref09_Plain.F s m = some (plainS (bytesOf s) m) := by
  have hz := size_len s
  rw [solsticeref09_Plain.F_eq]
  unfold plainS
  by_cases h1 : (s.size : Int) < 1
  · rw [if_pos h1, solsticeref09_Plain.J0_eq, if_pos rfl, decide_eq_false (show ¬ 1 ≤ (bytesOf s).length by omega), Bool.false_and, Bool.false_and]
  · rw [if_neg h1, solsticeref09_Plain.J0_eq, decide_eq_true (show 1 ≤ (bytesOf s).length by omega), Bool.true_and]
    by_cases h2 : (s.size : Int) > m
    · rw [if_pos (decide_eq_true h2), decide_eq_false (show ¬ ((bytesOf s).length : Int) ≤ m by omega), Bool.false_and]
    · rw [if_neg (by simpa using h2), decide_eq_true (show ((bytesOf s).length : Int) ≤ m by omega), Bool.true_and, plain_L0 s hs _ 0 rfl (by omega) (by omega), rest_zero]
theorem dig_sgn_ {l : List Int} (h : l.all isDig = true) : l.all sgn = true := by
  rw [List.all_eq_true] at h ⊢
  intro x hx
  have := (isDig_iff x).1 (h x hx)
  exact (sgn_iff x).2 (Or.inl this)
theorem stail_sgn_ {m : Int} (h : 0 ≤ m) : (stail m).all sgn = true := by
  unfold stail
  rw [List.all_append, List.all_append, dig_sgn_ (txt_dig_ (by omega)), Bool.true_and]
  have a : (if m % 3600 = 0 then [] else txt (m % 3600 / 60) 2).all sgn = true := by
    split
    · rfl
    · exact dig_sgn_ (txt_dig_ (by omega))
  have b : (if m % 60 = 0 then [] else txt (m % 60) 2).all sgn = true := by
    split
    · rfl
    · exact dig_sgn_ (txt_dig_ (by omega))
  rw [a, b]
  rfl
theorem stail_len_ {m : Int} (h : 0 ≤ m ∧ m < 172800) : 1 ≤ (stail m).length ∧ (stail m).length ≤ 6 := by
  have a := txt_two (n := m / 3600) (by omega) (by omega)
  have b := txt_two (n := m % 3600 / 60) (by omega) (by omega)
  have c := txt_two (n := m % 60) (by omega) (by omega)
  unfold stail
  rw [List.length_append, List.length_append, a]
  by_cases h1 : m % 3600 = 0
  · rw [if_pos h1, if_pos (by omega)]
    simp
  · rw [if_neg h1, b]
    by_cases h2 : m % 60 = 0
    · rw [if_pos h2]
      simp
    · rw [if_neg h2, c]
      omega
theorem stxt_len_ {a : Int} (ha : Off a) : 2 ≤ (stxt a).length ∧ (stxt a).length ≤ 7 := by
  unfold Off at ha
  unfold stxt
  split
  · have := stail_len_ (m := -a) (by omega)
    rw [List.length_cons]; omega
  · have := stail_len_ (m := a) (by omega)
    rw [List.length_cons]; omega
theorem stxt_rgt_ {a : Int} (ha : Off a) : rgt (stxt a) = true := by
  have hl := stxt_len_ ha
  rw [rgt_iff]
  refine ⟨?_, by omega, by omega⟩
  unfold Off at ha
  unfold stxt
  split
  · rw [List.all_cons, stail_sgn_ (by omega)]
    decide
  · rw [List.all_cons, stail_sgn_ (by omega)]
    decide
end Go.Proofs.YtookjnpmbenheaaDoor.Base
