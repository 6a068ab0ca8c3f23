/- The law FormatShort over numbers and lists: for every two whole numbers the law's printed function answers true. -/
import Derived.Test.YtookjnpmbenheaaDoorFmtA
import Derived.Test.YtookjnpmbenheaaDoorEFmtx9
namespace Go.Proofs.YtookjnpmbenheaaDoor.Pure
open Go.RowKit Go.Proofs.YtookjnpmbenheaaDoor.PFmt Go.Proofs.YtookjnpmbenheaaDoorW.PrintWords Go.Proofs.YtookjnpmbenheaaDoorW.PrintLast Go.Proofs.YtookjnpmbenheaaDoorW.PrintMore Go.Proofs.YtookjnpmbenheaaDoor.Base
set_option linter.unusedVariables false
set_option linter.unusedSimpArgs false

theorem dig_sgn {l : List Int} (h : l.all isDig = true) : l.all sgn = true := by
  rw [List.all_eq_true] at h ⊢
  intro x hx
  have := (isDig_iff x).1 (h x hx)
  exact (sgn_iff x).2 (Or.inl this)
theorem stail_sgn {m : Int} (h : 0 ≤ m) : (stail m).all sgn = true := by
  unfold stail
  rw [List.all_append, List.all_append, dig_sgn (txt_dig_ (by omega)), Bool.true_and]
  have a : (if m % 3600 = 0 then [] else txt (m % 3600 / 60) 2).all sgn = true := by
    split
    · rfl
    · exact dig_sgn (txt_dig_ (by omega))
  have b : (if m % 60 = 0 then [] else txt (m % 60) 2).all sgn = true := by
    split
    · rfl
    · exact dig_sgn (txt_dig_ (by omega))
  rw [a, b]
  rfl
theorem stail_len {m : Int} (h : 0 ≤ m ∧ m < 172800) : (stail m).length = if m % 3600 = 0 then 2 else if m % 60 = 0 then 4 else 6 := by
  have a := txt_two (n := m / 3600) (by omega) (by omega)
  have b := txt_two (n := m % 3600 / 60) (by omega) (by omega)
  have c := txt_two (n := m % 60) (by omega) (by omega)
  unfold stail
  rw [List.length_append, List.length_append, a]
  by_cases h1 : m % 3600 = 0
  · rw [if_pos h1, if_pos h1, if_pos (by omega)]
    rfl
  · rw [if_neg h1, if_neg h1, b]
    by_cases h2 : m % 60 = 0
    · rw [if_pos h2, if_pos h2]
      rfl
    · rw [if_neg h2, if_neg h2, c]
theorem txt2_inj {a b : Int} (ha : 0 ≤ a) (hb : 0 ≤ b) (h : txt a 2 = txt b 2) : a = b := by
  have := congrArg (val 0) h
  rw [txt_val_ ha, txt_val_ hb] at this
  exact this
theorem stail_inj {m n : Int} (hm : 0 ≤ m ∧ m < 172800) (hn : 0 ≤ n ∧ n < 172800) (h : stail m = stail n) : m = n := by
  have hl := congrArg List.length h
  rw [stail_len hm, stail_len hn] at hl
  have a := txt_two (n := m / 3600) (by omega) (by omega)
  have a' := txt_two (n := n / 3600) (by omega) (by omega)
  have b := txt_two (n := m % 3600 / 60) (by omega) (by omega)
  have b' := txt_two (n := n % 3600 / 60) (by omega) (by omega)
  unfold stail at h
  obtain ⟨h1, h2⟩ := List.append_inj h (by rw [a, a'])
  have e1 := txt2_inj (by omega) (by omega) h1
  by_cases c1 : m % 3600 = 0
  · rw [if_pos c1] at hl
    have c1' : n % 3600 = 0 := by
      by_cases h' : n % 3600 = 0
      · exact h'
      · rw [if_neg h'] at hl
        split at hl <;> omega
    omega
  · rw [if_neg c1] at hl h2
    have c1' : ¬ n % 3600 = 0 := by
      intro h'
      rw [if_pos h'] at hl
      split at hl <;> omega
    rw [if_neg c1'] at hl h2
    obtain ⟨h3, h4⟩ := List.append_inj h2 (by rw [b, b'])
    have e2 := txt2_inj (by omega) (by omega) h3
    by_cases c2 : m % 60 = 0
    · rw [if_pos c2] at hl
      have c2' : n % 60 = 0 := by
        by_cases h' : n % 60 = 0
        · exact h'
        · rw [if_neg h'] at hl
          omega
      omega
    · rw [if_neg c2] at hl h4
      have c2' : ¬ n % 60 = 0 := by
        intro h'
        rw [if_pos h'] at hl
        omega
      rw [if_neg c2'] at h4
      have e3 := txt2_inj (by omega) (by omega) h4
      omega
theorem stxt_inj {a b : Int} (ha : Off a) (hb : Off b) : stxt a = stxt b ↔ a = b := by
  unfold Off at ha hb
  constructor
  · intro h
    unfold stxt at h
    by_cases h1 : a < 0
    · rw [if_pos h1] at h
      by_cases h2 : b < 0
      · rw [if_pos h2, List.cons.injEq] at h
        have := stail_inj (by omega) (by omega) h.2
        omega
      · rw [if_neg h2, List.cons.injEq] at h
        omega
    · rw [if_neg h1] at h
      by_cases h2 : b < 0
      · rw [if_pos h2, List.cons.injEq] at h
        omega
      · rw [if_neg h2, List.cons.injEq] at h
        exact stail_inj (by omega) (by omega) h.2
  · rintro rfl; rfl
theorem stxt_len {a : Int} (ha : Off a) : (stxt a).length = if a % 3600 = 0 then 3 else if a % 60 = 0 then 5 else 7 := by
  unfold Off at ha
  unfold stxt
  by_cases h1 : a < 0
  · rw [if_pos h1, List.length_cons, stail_len (m := -a) (by omega)]
    have e1 : (-a) % 3600 = 0 ↔ a % 3600 = 0 := by omega
    have e2 : (-a) % 60 = 0 ↔ a % 60 = 0 := by omega
    simp only [e1, e2]
    split
    · rfl
    · split <;> rfl
  · rw [if_neg h1, List.length_cons, stail_len (m := a) (by omega)]
    split
    · rfl
    · split <;> rfl
theorem stxt_rgt {a : Int} (ha : Off a) : rgt (stxt a) = true := by
  have hl := stxt_len ha
  have h7 : 1 ≤ (stxt a).length ∧ (stxt a).length ≤ 40 := by
    rw [hl]
    split
    · omega
    · split <;> omega
  unfold rgt
  rw [decide_eq_true h7.1, decide_eq_true h7.2, Bool.and_true, Bool.and_true]
  unfold Off at ha
  unfold stxt
  split
  · rw [List.all_cons, stail_sgn (by omega)]
    decide
  · rw [List.all_cons, stail_sgn (by omega)]
    decide
theorem stxt_head (a : Int) : bt (strOfNums (stxt a)) 0 = if a < 0 then 45 else 43 := by
  have hpos : 0 < ((strOfNums (stxt a)).size : Int) := by
    rw [size_strOf]
    unfold stxt
    split <;> (rw [List.length_cons]; omega)
  have h1 := rest_cons (s := strOfNums (stxt a)) (i := 0) (by omega) hpos
  rw [rest_zero, bytes_strOf (stxt_bytes a)] at h1
  unfold stxt at h1 ⊢
  split at h1
  · rename_i h
    simp only [List.cons.injEq] at h1
    rw [if_pos h, if_pos h] at *
    exact h1.1.symm
  · rename_i h
    simp only [List.cons.injEq] at h1
    rw [if_neg h, if_neg h] at *
    exact h1.1.symm
theorem short_all (a b : Int) (ha : Off a) (hb : Off b) (x9 : Int) (h9 : ¬ a % 3600 = 0 → x9 = if a % 60 = 0 then 5 else 7) :
    solsticelaw12_FormatShort.J0 a b (strOfNums (stxt a)) 0 (strOfNums (stxt b)) 0 x9 = some true := by
  have hm : Int.tmod a 3600 = 0 ↔ a % 3600 = 0 := by
    constructor
    · intro h; have := Int.mul_tdiv_add_tmod a 3600; omega
    · intro h; exact Int.tmod_eq_zero_of_dvd (Int.dvd_of_emod_eq_zero h)
  have hl := stxt_len ha
  have hr := right_eq (strOfNums (stxt a)) (by
    rw [size_strOf, hl]
    split
    · omega
    · split <;> omega)
  rw [bytes_strOf (stxt_bytes a), stxt_rgt ha] at hr
  have h1 : ((bt (strOfNums (stxt a)) 0 == 45) == decide (a < 0)) = true := by
    rw [stxt_head]
    by_cases h : a < 0
    · rw [if_pos h, decide_eq_true h]; rfl
    · rw [if_neg h, decide_eq_false h]; rfl
  have h2 : (((strOfNums (stxt a)).toList == (strOfNums (stxt b)).toList) == (a == b)) = true := by
    rw [beq_iff_eq, Bool.eq_iff_iff, beq_iff_eq, beq_iff_eq, toList_iff]
    constructor
    · intro h; exact (stxt_inj ha hb).1 (strOf_inj (stxt_bytes a) (stxt_bytes b) h)
    · rintro rfl; rfl
  rw [solsticelaw12_FormatShort.J0_eq, size_strOf, h1, h2, hr, bind_some_, wakes12, bind_some_]
  by_cases h : a % 3600 = 0
  · rw [if_pos h] at hl
    rw [if_pos (hm.2 h), if_pos rfl, if_pos rfl, if_pos (by omega), if_pos (by omega), if_pos rfl, if_pos rfl, if_pos rfl]
  · rw [if_neg h] at hl
    have hx := h9 h
    rw [if_neg (fun h' => h (hm.1 h')), if_pos rfl, if_pos rfl, if_pos (by rw [hl, hx]; split <;> rfl), if_pos (by rw [hl]; split <;> omega), if_pos rfl, if_pos rfl, if_pos rfl]
theorem FormatShort : solsticelaw12_FormatShort.Pure := by
  intro a b _ _
  suffices h : solsticelaw12_FormatShort.F a b = some true from lim_some h
  have hm : ∀ n : Int, Off (Int.tmod n 172800) := by
    intro n
    have h2 := Int.tmod_lt_of_pos n (show (0 : Int) < 172800 by omega)
    have h3 := Int.tmod_lt_of_pos (-n) (show (0 : Int) < 172800 by omega)
    rw [Int.neg_tmod] at h3
    unfold Off
    omega
  have ha := hm a; have hb := hm b
  rw [solsticelaw12_FormatShort.F_eq]
  generalize Int.tmod a 172800 = x at *
  generalize Int.tmod b 172800 = y at *
  have ha' := ha; have hb' := hb
  unfold Off at ha' hb'
  have h60 : Int.tmod x 60 = 0 ↔ x % 60 = 0 := by
    constructor
    · intro h; have := Int.mul_tdiv_add_tmod x 60; omega
    · intro h; exact Int.tmod_eq_zero_of_dvd (Int.dvd_of_emod_eq_zero h)
  rw [short_eq x (by omega), if_pos ha, bind_some_, short_eq y (by omega), if_pos hb, bind_some_]
  dsimp only
  by_cases h : x % 60 = 0
  · rw [if_pos (h60.2 h), short_all x y ha hb 5 (fun _ => by rw [if_pos h])]
  · rw [if_neg (fun h' => h (h60.1 h')), short_all x y ha hb 7 (fun _ => by rw [if_neg h])]
end Go.Proofs.YtookjnpmbenheaaDoor.Pure
