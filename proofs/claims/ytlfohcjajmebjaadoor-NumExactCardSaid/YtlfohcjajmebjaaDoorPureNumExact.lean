/- The law NumExact over numbers and lists: for every input the law's printed function answers true. -/
import Derived.Test.YtlfohcjajmebjaaDoorNumB
import Derived.Test.YtlfohcjajmebjaaDoorNumW
import Derived.Test.YtlfohcjajmebjaaDoorENumx5
namespace Go.Proofs.YtlfohcjajmebjaaDoor.Pure
open Go.RowKit Go.Proofs.YtlfohcjajmebjaaDoor.PNum Go.Proofs.YtlfohcjajmebjaaDoorW.PrintWords Go.Proofs.YtlfohcjajmebjaaDoorW.PrintLast Go.Proofs.YtlfohcjajmebjaaDoorW.PrintMore Go.Proofs.YtlfohcjajmebjaaDoor.Base
set_option linter.unusedVariables false
set_option linter.unusedSimpArgs false

theorem exact_J3 (s : ByteArray) (hs : s.size ≤ 9223372036854775806) : solsticelaw01_NumExact.J3 s (parsS (bytesOf s)).1 (parsS (bytesOf s)).2 = some true := by
  rw [solsticelaw01_NumExact.J3_eq, ref_Digits_eq s hs, bind_some_, wakes_eq]
  have hz := size_len s
  unfold parsS
  by_cases h : 1 ≤ (bytesOf s).length ∧ (bytesOf s).length ≤ 18 ∧ (bytesOf s).all isDig = true
  · rw [if_pos h, if_pos (decide_eq_true ⟨by omega, by omega, h.2.2⟩)]
    dsimp only
    rw [if_pos rfl, ref_Value_eq s (by omega) h.2.2, bind_some_, if_pos rfl, bind_some_]
  · rw [if_neg h, if_neg (by simp only [decide_eq_true_eq]; exact fun h' => h ⟨by omega, by omega, h'.2.2⟩)]
    dsimp only
    rw [if_neg (by simp), if_pos rfl, bind_some_]
theorem exact_J2 (a b : Int) (s : ByteArray) (ha : -9223372036854775808 ≤ a ∧ a ≤ 9223372036854775807) (hb : -9223372036854775808 ≤ b ∧ b ≤ 9223372036854775807) (hs : s.size ≤ 9223372036854775806) :
    solsticelaw01_NumExact.J2 a b s (divS a b).1 (divS a b).2.1 (parsS (bytesOf s)).1 (parsS (bytesOf s)).2 (decide (Bd a ∧ Bd b ∧ 1 ≤ b)) false = some true := by
  rw [solsticelaw01_NumExact.J2_eq, if_neg (by simp)]
  by_cases h : Bd a ∧ Bd b ∧ 1 ≤ b
  · have e : divS a b = (a / b, a % b, true) := by unfold divS; rw [if_pos h]
    rw [if_pos (decide_eq_true h), ref_Div_eq a b ha ⟨h.2.2, hb.2⟩, bind_some_, e, if_pos rfl, if_pos rfl, exact_J3 s hs]
  · rw [if_neg (by simpa using h), exact_J3 s hs]
theorem exact_J1 (a b : Int) (s : ByteArray) (ha : -9223372036854775808 ≤ a ∧ a ≤ 9223372036854775807) (hb : -9223372036854775808 ≤ b ∧ b ≤ 9223372036854775807) (hs : s.size ≤ 9223372036854775806) :
    solsticelaw01_NumExact.J1 a b s (divS a b).1 (divS a b).2.1 (divS a b).2.2 (parsS (bytesOf s)).1 (parsS (bytesOf s)).2 (decide (Bd a ∧ Bd b ∧ 1 ≤ b)) = some true := by
  have e2 : (divS a b).2.2 = decide (Bd a ∧ Bd b ∧ 1 ≤ b) := by
    unfold divS
    by_cases h : Bd a ∧ Bd b ∧ 1 ≤ b
    · rw [if_pos h]; exact (decide_eq_true h).symm
    · rw [if_neg h]; exact (decide_eq_false h).symm
  have key := exact_J2 a b s ha hb hs
  rw [solsticelaw01_NumExact.J1_eq, e2, if_neg (by simp)]
  by_cases h : Bd a ∧ Bd b ∧ 1 ≤ b
  · rw [if_pos (decide_eq_true h), key]
  · have e : divS a b = (0, 0, false) := by unfold divS; rw [if_neg h]
    rw [if_neg (by simpa using h)]
    rw [e] at key ⊢
    dsimp only at key ⊢
    rw [if_pos rfl]
    exact key
theorem NumExact : solsticelaw01_NumExact.Pure := by
  intro a b s d hwa hwb hws hwd
  have ha := wf64 hwa; have hb := wf64 hwb; have hd := wf64 hwd
  suffices h : solsticelaw01_NumExact.F a b s d = some true from lim_some h
  rw [solsticelaw01_NumExact.F_eq]
  by_cases h100 : (s.size : Int) > 100
  · rw [if_pos h100]
  · rw [if_neg h100, num_Add_eq a b ha hb, bind_some_, num_Mul_eq, bind_some_, num_Div_eq a b ha hb, bind_some_, num_Parse_eq, bind_some_, ref_Add_eq a b ha hb, bind_some_, ref_Mul_eq, bind_some_, if_pos rfl, if_neg (by simp), if_pos rfl, if_neg (by simp), num_Text_eq a d ha hd, bind_some_, ref_Text_eq a d ha, bind_some_]
    rw [show ((strOfNums (txt a d)).toList != (strOfNums (txt a d)).toList) = false by simp, solsticelaw01_NumExact.J0_eq, if_neg (by simp)]
    have key := exact_J1 a b s ha hb (by omega)
    by_cases h1 : 1 ≤ b
    · rw [if_pos h1, ref_Bound_eq, bind_some_]
      by_cases h2 : Bd a
      · rw [if_pos (decide_eq_true h2), ref_Bound_eq, bind_some_]
        rw [show decide (Bd b) = decide (Bd a ∧ Bd b ∧ 1 ≤ b) by simp [h1, h2]]
        exact key
      · rw [if_neg (by simpa using h2)]
        rw [show false = decide (Bd a ∧ Bd b ∧ 1 ≤ b) from (decide_eq_false (fun h => h2 h.1)).symm]
        exact key
    · rw [if_neg h1]
      rw [show false = decide (Bd a ∧ Bd b ∧ 1 ≤ b) from (decide_eq_false (fun h => h1 h.2.2)).symm]
      exact key
end Go.Proofs.YtlfohcjajmebjaaDoor.Pure
