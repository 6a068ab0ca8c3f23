/- The law ValueBad over numbers and lists: for every whole number the law's printed function answers true (fourteen texts and eleven, each by reckoning). -/
import Derived.Test.YtligbecmbefclaaDoorStr
import Derived.Test.YtligbecmbefclaaDoorEValx9
namespace Go.Proofs.YtligbecmbefclaaDoor.Pure
open Go.RowKit Go.Proofs.YtligbecmbefclaaDoor.PVal Go.Proofs.YtligbecmbefclaaDoorW.PrintWords Go.Proofs.YtligbecmbefclaaDoorW.PrintLast Go.Proofs.YtligbecmbefclaaDoorW.PrintMore Go.Proofs.YtligbecmbefclaaDoor.Base
set_option linter.unusedVariables false
set_option linter.unusedSimpArgs false

theorem u64_mod_ (a : Int) (m : Int) (h : 0 < m) (hm : m ≤ 1000000000) : 0 ≤ wrap64 (Int.tmod (IntKind.u64.wrap a) m) ∧ wrap64 (Int.tmod (IntKind.u64.wrap a) m) < m := by
  have h2 : 0 ≤ IntKind.u64.wrap a := by unfold IntKind.wrap; simp [IntKind.signed, IntKind.bits]; omega
  have h3 := Int.emod_nonneg (IntKind.u64.wrap a) (show m ≠ 0 by omega)
  have h4 := Int.emod_lt_of_pos (IntKind.u64.wrap a) h
  rw [Int.tmod_eq_emod_of_nonneg h2, wrap64_id (by omega) (by omega)]
  exact ⟨h3, h4⟩
theorem bad_times (j : Int) (h0 : 0 ≤ j) (h1 : j < 14) : value_ParseTime.F (rdOf ByteArray.empty ([(⟨#[]⟩ : ByteArray), (⟨#[49, 57, 55, 48, 49, 48, 49, 84, 48, 48, 48, 48, 48, 48]⟩ : ByteArray), (⟨#[49, 57, 55, 48, 48, 49, 48, 49, 32, 48, 48, 48, 48, 48, 48]⟩ : ByteArray), (⟨#[49, 57, 55, 48, 49, 51, 48, 49, 84, 48, 48, 48, 48, 48, 48]⟩ : ByteArray), (⟨#[49, 57, 55, 48, 48, 48, 48, 49, 84, 48, 48, 48, 48, 48, 48]⟩ : ByteArray), (⟨#[49, 57, 55, 48, 48, 49, 51, 50, 84, 48, 48, 48, 48, 48, 48]⟩ : ByteArray), (⟨#[49, 57, 48, 48, 48, 50, 50, 57, 84, 48, 48, 48, 48, 48, 48]⟩ : ByteArray), (⟨#[49, 57, 55, 48, 48, 49, 48, 49, 84, 50, 52, 48, 48, 48, 48]⟩ : ByteArray), (⟨#[49, 57, 55, 48, 48, 49, 48, 49, 84, 48, 48, 54, 48, 48, 48]⟩ : ByteArray), (⟨#[49, 57, 55, 48, 48, 49, 48, 49, 84, 48, 48, 48, 48, 54, 48]⟩ : ByteArray), (⟨#[48, 48, 48, 48, 48, 49, 48, 49, 84, 48, 48, 48, 48, 48, 48]⟩ : ByteArray), (⟨#[49, 57, 55, 48, 48, 49, 48, 49, 84, 48, 48, 48, 48, 48, 48, 122]⟩ : ByteArray), (⟨#[49, 57, 55, 48, 48, 49, 48, 49, 84, 48, 48, 48, 48, 48, 48, 90, 90]⟩ : ByteArray), (⟨#[43, 57, 55, 48, 48, 49, 48, 49, 84, 48, 48, 48, 48, 48, 48]⟩ : ByteArray)] : List ByteArray) j) = some (0, false, 19) := by
  have hc : j = 0 ∨ j = 1 ∨ j = 2 ∨ j = 3 ∨ j = 4 ∨ j = 5 ∨ j = 6 ∨ j = 7 ∨ j = 8 ∨ j = 9 ∨ j = 10 ∨ j = 11 ∨ j = 12 ∨ j = 13 := by omega
  clear h0 h1
  rcases hc with rfl | rfl | rfl | rfl | rfl | rfl | rfl | rfl | rfl | rfl | rfl | rfl | rfl | rfl <;> exact lim_of (value_ParseTime.isF _).mono (k := 60) (by decide +kernel)
theorem bad_offs (j : Int) (h0 : 0 ≤ j) (h1 : j < 11) : value_ParseOffset.F (rdOf ByteArray.empty ([(⟨#[]⟩ : ByteArray), (⟨#[48, 49, 48, 48]⟩ : ByteArray), (⟨#[43, 49]⟩ : ByteArray), (⟨#[43, 48, 49, 48, 48, 48]⟩ : ByteArray), (⟨#[45, 48, 48, 48, 48]⟩ : ByteArray), (⟨#[45, 48, 48, 48, 48, 48, 48]⟩ : ByteArray), (⟨#[43, 50, 52, 48, 48]⟩ : ByteArray), (⟨#[43, 48, 48, 54, 48]⟩ : ByteArray), (⟨#[43, 48, 48, 48, 48, 54, 48]⟩ : ByteArray), (⟨#[43, 48, 49, 58, 48, 48]⟩ : ByteArray), (⟨#[32, 43, 48, 49, 48, 48]⟩ : ByteArray)] : List ByteArray) j) = some (0, 19) := by
  have hc : j = 0 ∨ j = 1 ∨ j = 2 ∨ j = 3 ∨ j = 4 ∨ j = 5 ∨ j = 6 ∨ j = 7 ∨ j = 8 ∨ j = 9 ∨ j = 10 := by omega
  clear h0 h1
  rcases hc with rfl | rfl | rfl | rfl | rfl | rfl | rfl | rfl | rfl | rfl | rfl <;> exact lim_of (value_ParseOffset.isF _).mono (k := 60) (by decide +kernel)
theorem good_off : value_ParseOffset.F (⟨#[43, 48, 49, 48, 48, 48, 48]⟩ : ByteArray) = some (3600, 0) := lim_of (value_ParseOffset.isF _).mono (k := 60) (by decide +kernel)
theorem wakes20 : solsticelaw20_wakes.F = some true := lim_of (solsticelaw20_wakes.isF).mono (k := 200) (by decide +kernel)
theorem ValueBad : solsticelaw20_ValueBad.Pure := by
  intro a _
  suffices h : solsticelaw20_ValueBad.F a = some true from lim_some h
  obtain ⟨k0, k1⟩ := u64_mod_ a 1000 (by omega) (by omega)
  rw [solsticelaw20_ValueBad.F_eq, bind_some_, bind_some_]
  generalize wrap64 (Int.tmod (IntKind.u64.wrap a) 1000) = k at *
  simp only [List.length_cons, List.length_nil, Nat.zero_add, Nat.reduceAdd]
  have e14 : ((14 : Nat) : Int) = 14 := rfl
  have e11 : ((11 : Nat) : Int) = 11 := rfl
  rw [e14, e11]
  have m14 : 0 ≤ Int.tmod k 14 ∧ Int.tmod k 14 < 14 := by rw [Int.tmod_eq_emod_of_nonneg k0]; omega
  have m11 : 0 ≤ Int.tmod k 11 ∧ Int.tmod k 11 < 11 := by rw [Int.tmod_eq_emod_of_nonneg k0]; omega
  generalize Int.tmod k 14 = i at *
  generalize Int.tmod k 11 = j at *
  rw [if_neg (by omega), if_pos m14.1, if_pos m14.2, bad_times i m14.1 m14.2, bind_some_, if_neg (by omega), if_pos m11.1, if_pos m11.2, bad_offs j m11.1 m11.2, bind_some_, good_off, bind_some_]
  dsimp only
  rw [if_pos rfl, if_pos rfl, if_neg (by simp), if_pos rfl, if_pos rfl, if_pos rfl, if_pos rfl, wakes20, bind_some_]
end Go.Proofs.YtligbecmbefclaaDoor.Pure
