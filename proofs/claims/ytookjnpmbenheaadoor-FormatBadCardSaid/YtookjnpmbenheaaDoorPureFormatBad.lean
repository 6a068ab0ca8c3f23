/- The law FormatBad over numbers: for every two whole numbers the law's printed function answers true. -/
import Derived.Test.YtookjnpmbenheaaDoorFmtA
import Derived.Test.YtookjnpmbenheaaDoorEFmtx10
namespace Go.Proofs.YtookjnpmbenheaaDoor.Pure
open Go.RowKit Go.Proofs.YtookjnpmbenheaaDoor.PFmt Go.Proofs.YtookjnpmbenheaaDoorW.PrintWords Go.Proofs.YtookjnpmbenheaaDoorW.PrintLast Go.Proofs.YtookjnpmbenheaaDoorW.PrintMore Go.Proofs.YtookjnpmbenheaaDoor.Base
set_option linter.unusedVariables false
set_option linter.unusedSimpArgs false

theorem name_save (f w : ByteArray) (o v : Int) (u : Int) (h : (v == 0) = (u == 0)) : format_Name.F f w o v = format_Name.F f w o u := by
  have hj : ∀ b : Bool, format_Name.J0 f w o v b = format_Name.J0 f w o u b := fun b => by rw [format_Name.J0_eq, format_Name.J0_eq, h]
  rw [format_Name.F_eq, format_Name.F_eq]
  simp only [hj]
theorem u64_mod_ (a : Int) (m : Int) (h : 0 < m) (hm : m ≤ 1000000000) : 0 ≤ wrap64 (Int.tmod (IntKind.u64.wrap a) m) ∧ wrap64 (Int.tmod (IntKind.u64.wrap a) m) < m := by
  have h2 : 0 ≤ IntKind.u64.wrap a := by unfold IntKind.wrap; simp [IntKind.signed, IntKind.bits]; omega
  have h3 := Int.emod_nonneg (IntKind.u64.wrap a) (show m ≠ 0 by omega)
  have h4 := Int.emod_lt_of_pos (IntKind.u64.wrap a) h
  rw [Int.tmod_eq_emod_of_nonneg h2, wrap64_id (by omega) (by omega)]
  exact ⟨h3, h4⟩
def bads : List ByteArray := [(⟨#[]⟩ : ByteArray), (⟨#[37]⟩ : ByteArray), (⟨#[37, 120]⟩ : ByteArray), (⟨#[97, 37, 115, 37, 122]⟩ : ByteArray), (⟨#[97, 47, 98, 47, 99]⟩ : ByteArray), (⟨#[97, 47, 37, 115]⟩ : ByteArray), (⟨#[97, 32, 98]⟩ : ByteArray), (⟨#[97, 95, 98]⟩ : ByteArray), (⟨#[37, 115, 47, 98]⟩ : ByteArray), (⟨#[60, 43, 48, 51, 62]⟩ : ByteArray)]
theorem bad_name (j : Int) (h0 : 0 ≤ j) (h1 : j < 10) (v : Int) : format_Name.F (rdOf ByteArray.empty bads j) (⟨#[83]⟩ : ByteArray) 3600 v = some ((⟨#[]⟩ : ByteArray), 16) := by
  have hc : j = 0 ∨ j = 1 ∨ j = 2 ∨ j = 3 ∨ j = 4 ∨ j = 5 ∨ j = 6 ∨ j = 7 ∨ j = 8 ∨ j = 9 := by omega
  have key : ∀ u : Int, u = 0 ∨ u = 1 → format_Name.F (rdOf ByteArray.empty bads j) (⟨#[83]⟩ : ByteArray) 3600 u = some ((⟨#[]⟩ : ByteArray), 16) := by
    intro u hu
    refine lim_of (format_Name.isF _ _ _ _).mono (k := 30) ?_
    rcases hu with rfl | rfl <;> rcases hc with rfl | rfl | rfl | rfl | rfl | rfl | rfl | rfl | rfl | rfl <;> decide +kernel
  by_cases hv : v = 0
  · subst hv; exact key 0 (Or.inl rfl)
  · rw [name_save _ _ _ v 1 (by rw [beq_eq_false_iff_ne.2 hv]; rfl)]
    exact key 1 (Or.inr rfl)
theorem FormatBad : solsticelaw12_FormatBad.Pure := by
  intro a v _ _
  suffices h : solsticelaw12_FormatBad.F a v = some true from lim_some h
  obtain ⟨j0, j1⟩ := u64_mod_ a 10 (by omega) (by omega)
  rw [solsticelaw12_FormatBad.F_eq, bind_some_]
  generalize wrap64 (Int.tmod (IntKind.u64.wrap a) 10) = j at *
  have hb := bad_name j j0 j1 v
  unfold bads at hb
  rw [if_pos j0, if_pos (by simp only [List.length_cons, List.length_nil]; omega), hb, bind_some_, wakes12]
  by_cases hv : v = 0
  · subst hv
    have n1 : format_Name.F (⟨#[47, 98]⟩ : ByteArray) (⟨#[]⟩ : ByteArray) 0 0 = some ((⟨#[]⟩ : ByteArray), 16) := lim_of (format_Name.isF _ _ _ _).mono (k := 30) (by decide +kernel)
    have n2 : format_Name.F (⟨#[98, 47]⟩ : ByteArray) (⟨#[]⟩ : ByteArray) 0 0 = some ((⟨#[98]⟩ : ByteArray), 0) := lim_of (format_Name.isF _ _ _ _).mono (k := 30) (by decide +kernel)
    rw [n1, bind_some_, n2, bind_some_]
    decide +kernel
  · have e : (v == 0) = ((1 : Int) == 0) := by rw [beq_eq_false_iff_ne.2 hv]; rfl
    have n1 : format_Name.F (⟨#[47, 98]⟩ : ByteArray) (⟨#[]⟩ : ByteArray) 0 1 = some ((⟨#[98]⟩ : ByteArray), 0) := lim_of (format_Name.isF _ _ _ _).mono (k := 30) (by decide +kernel)
    have n2 : format_Name.F (⟨#[98, 47]⟩ : ByteArray) (⟨#[]⟩ : ByteArray) 0 1 = some ((⟨#[]⟩ : ByteArray), 16) := lim_of (format_Name.isF _ _ _ _).mono (k := 30) (by decide +kernel)
    rw [name_save _ _ _ v 1 e, name_save _ _ _ v 1 e, n1, bind_some_, n2, bind_some_, if_neg hv]
    decide +kernel
end Go.Proofs.YtookjnpmbenheaaDoor.Pure
