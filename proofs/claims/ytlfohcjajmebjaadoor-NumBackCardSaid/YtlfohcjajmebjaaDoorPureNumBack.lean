/- The law NumBack over numbers: for every two whole numbers the law's printed function answers true. -/
import Derived.Test.YtlfohcjajmebjaaDoorNumB
import Derived.Test.YtlfohcjajmebjaaDoorNumW
import Derived.Test.YtlfohcjajmebjaaDoorENumx6
namespace Go.Proofs.YtlfohcjajmebjaaDoor.Pure
open Go.RowKit Go.Proofs.YtlfohcjajmebjaaDoor.PNum Go.Proofs.YtlfohcjajmebjaaDoorW.PrintWords Go.Proofs.YtlfohcjajmebjaaDoorW.PrintLast Go.Proofs.YtlfohcjajmebjaaDoorW.PrintMore Go.Proofs.YtlfohcjajmebjaaDoor.Base
set_option linter.unusedVariables false
set_option linter.unusedSimpArgs false

theorem back_J2 (a b p : Int) (x : Bool) (ha : -9223372036854775808 ≤ a ∧ a ≤ 9223372036854775807) (hb : -9223372036854775808 ≤ b ∧ b ≤ 9223372036854775807) (h : x = true → Bd a ∧ Bd b ∧ Bd (a * b) ∧ 0 < b ∧ p = a * b) : solsticelaw01_NumBack.J2 a b p x = some true := by
  rw [solsticelaw01_NumBack.J2_eq, wakes_eq]
  cases x with
  | false => rw [if_neg (by simp)]; rfl
  | true =>
    obtain ⟨h1, h2, h3, h4, rfl⟩ := h rfl
    have h3' := h3
    unfold Bd at h3'
    have e : divS (a * b) b = (a, 0, true) := by
      unfold divS
      rw [if_pos ⟨h3, h2, by omega⟩, Int.mul_ediv_cancel _ (by omega), Int.mul_emod_left]
    rw [if_pos rfl, num_Div_eq _ _ (by omega) hb, bind_some_, e]
    simp only [bind_some_, if_true]
theorem back_J1 (a b : Int) (ha : -9223372036854775808 ≤ a ∧ a ≤ 9223372036854775807) (hb : -9223372036854775808 ≤ b ∧ b ≤ 9223372036854775807) : solsticelaw01_NumBack.J1 a b = some true := by
  rw [solsticelaw01_NumBack.J1_eq, num_Mul_eq, bind_some_]
  unfold mulS
  by_cases h : Bd a ∧ Bd b ∧ Bd (a * b)
  · rw [if_pos h]
    rw [if_pos rfl, back_J2 a b _ _ ha hb (fun h0 => ⟨h.1, h.2.1, h.2.2, by simpa using h0, rfl⟩)]
  · rw [if_neg h]
    rw [if_neg (by simp), back_J2 a b _ _ ha hb (fun h0 => by simp at h0)]
theorem back_J0 (a b : Int) (ha : -9223372036854775808 ≤ a ∧ a ≤ 9223372036854775807) (hb : -9223372036854775808 ≤ b ∧ b ≤ 9223372036854775807) : solsticelaw01_NumBack.J0 a b = some true := by
  rw [solsticelaw01_NumBack.J0_eq, num_Add_eq a b ha hb, bind_some_]
  by_cases h : Bd a ∧ Bd b ∧ Bd (a + b)
  · have e : addS a b = (a + b, true) := by unfold addS; rw [if_pos h]
    have e2 : addS (a + b) (-a) = (b, true) := by
      obtain ⟨h1, h2, h3⟩ := h
      unfold addS
      have e3 : a + b + -a = b := by omega
      rw [e3, if_pos ⟨h3, by unfold Bd at *; omega, h2⟩]
    have h1 := h.1; have h3 := h.2.2
    unfold Bd at h1 h3
    rw [e, if_pos rfl, wrap64_id (by omega) (by omega), num_Add_eq _ _ (by show _ ≤ a + b ∧ a + b ≤ _; omega) (by omega), bind_some_]
    show (if (addS (a + b) (-a)).2 = true then _ else _) = _
    rw [e2, if_pos rfl, if_pos rfl, back_J1 a b ha hb]
  · have e : addS a b = (0, false) := by unfold addS; rw [if_neg h]
    rw [e, if_neg (by simp), back_J1 a b ha hb]
theorem NumBack : solsticelaw01_NumBack.Pure := by
  intro a b hwa hwb
  have ha := wf64 hwa; have hb := wf64 hwb
  suffices h : solsticelaw01_NumBack.F a b = some true from lim_some h
  rw [solsticelaw01_NumBack.F_eq, num_Div_eq a b ha hb, bind_some_]
  by_cases h : Bd a ∧ Bd b ∧ 1 ≤ b
  · have e : divS a b = (a / b, a % b, true) := by unfold divS; rw [if_pos h]
    obtain ⟨h1, h2, h3⟩ := h
    obtain ⟨d1, d2, d3, d4⟩ := ediv_bd (a := a) h3
    have hsum : a / b * b + a % b = a := by have := Int.mul_ediv_add_emod a b; rw [Int.mul_comm] at this; exact this
    have h1' := h1; have h2' := h2
    unfold Bd at h1' h2'
    rw [e]
    simp only [if_true]
    rw [num_Mul_eq, bind_some_]
    by_cases hm : Bd (a / b) ∧ Bd b ∧ Bd (a / b * b)
    · have em : mulS (a / b) b = (a / b * b, true) := by unfold mulS; rw [if_pos hm]
      have hm' := hm.2.2
      unfold Bd at hm'
      have es : addS (a / b * b) (a % b) = (a, true) := by
        unfold addS
        rw [hsum, if_pos ⟨hm.2.2, by unfold Bd; omega, h1⟩]
      rw [em, num_Add_eq _ _ (by show _ ≤ a / b * b ∧ a / b * b ≤ _; omega) (by omega), bind_some_, es]
      simp only [if_true]
      rw [if_neg (by omega), if_neg (by omega), back_J0 a b ha hb]
    · have em : mulS (a / b) b = (0, false) := by unfold mulS; rw [if_neg hm]
      rw [em, num_Add_eq _ _ (by decide) (by omega), bind_some_]
      simp only [Bool.false_eq_true, if_false]
      rw [if_neg (by omega), if_neg (by omega), back_J0 a b ha hb]
  · have e : divS a b = (0, 0, false) := by unfold divS; rw [if_neg h]
    rw [e]
    simp only [Bool.false_eq_true, if_false]
    rw [back_J0 a b ha hb]
end Go.Proofs.YtlfohcjajmebjaaDoor.Pure
