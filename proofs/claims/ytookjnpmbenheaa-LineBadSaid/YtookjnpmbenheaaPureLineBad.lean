/- The law LineBad over numbers and lists: for every whole number the law's printed function answers true (fifteen texts, each by reckoning). -/
import Derived.Test.YtookjnpmbenheaaStr
import Derived.Test.YtookjnpmbenheaaPLinx8
namespace Go.Proofs.Ytookjnpmbenheaa.Pure
open Go.RowKit Go.Proofs.Ytookjnpmbenheaa.PLin Go.Proofs.YtookjnpmbenheaaW.PrintWords Go.Proofs.YtookjnpmbenheaaW.PrintLast Go.Proofs.Ytookjnpmbenheaa.Base

theorem bad_index (a : Int) : ∃ j : Int, wrap64 (Int.tmod (IntKind.u64.wrap a) (IntKind.u64.wrap 15)) = j ∧ 0 ≤ j ∧ j < 15 := by
  refine ⟨_, rfl, ?_⟩
  have h1 : IntKind.u64.wrap 15 = 15 := by decide
  have h2 : 0 ≤ IntKind.u64.wrap a := by unfold IntKind.wrap; simp [IntKind.signed, IntKind.bits]; omega
  rw [h1, Int.tmod_eq_emod_of_nonneg h2]
  have h3 : 0 ≤ IntKind.u64.wrap a % 15 := by omega
  have h4 : IntKind.u64.wrap a % 15 < 15 := by omega
  rw [wrap64_id (by omega) (by omega)]
  exact ⟨h3, h4⟩
theorem LineBad : solsticelaw18_LineBad.Pure := by
  intro a _
  refine ⟨60, ?_⟩
  obtain ⟨j, hj, h0, h1⟩ := bad_index a
  have hj' : wrap64 (Int.tmod (IntKind.u64.wrap a) (IntKind.u64.wrap ((15 : Nat) : Int))) = j := hj
  unfold solsticelaw18_LineBad.f
  rw [bind_some_]
  simp only [List.length_cons, List.length_nil, Nat.zero_add, Nat.reduceAdd, hj']
  have hc : j = 0 ∨ j = 1 ∨ j = 2 ∨ j = 3 ∨ j = 4 ∨ j = 5 ∨ j = 6 ∨ j = 7 ∨ j = 8 ∨ j = 9 ∨ j = 10 ∨ j = 11 ∨ j = 12 ∨ j = 13 ∨ j = 14 := by omega
  clear hj hj' h0 h1
  rcases hc with rfl | rfl | rfl | rfl | rfl | rfl | rfl | rfl | rfl | rfl | rfl | rfl | rfl | rfl | rfl <;> decide +kernel
end Go.Proofs.Ytookjnpmbenheaa.Pure
