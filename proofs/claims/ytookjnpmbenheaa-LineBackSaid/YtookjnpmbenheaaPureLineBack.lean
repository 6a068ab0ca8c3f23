/- The law LineBack over numbers and lists: for every two lines the law's printed function answers true. -/
import Derived.Test.YtookjnpmbenheaaLinC
import Derived.Test.YtookjnpmbenheaaELinx11
namespace Go.Proofs.Ytookjnpmbenheaa.Pure
open Go.RowKit Go.Proofs.Ytookjnpmbenheaa.PLin Go.Proofs.YtookjnpmbenheaaW.PrintWords Go.Proofs.YtookjnpmbenheaaW.PrintLast Go.Proofs.YtookjnpmbenheaaW.PrintMore Go.Proofs.Ytookjnpmbenheaa.Base
set_option linter.unusedVariables false
set_option linter.unusedSimpArgs false

theorem light_len {ps : List S54} (h : ∀ p ∈ ps, LightP p) : ∀ p ∈ ps, p.f1.length ≤ 9223372036854775806 := fun p hp => by have := (h p hp).2.1; omega
theorem LineBack_F (n : ByteArray) (ps : List S54) (v n' : ByteArray) (qs : List S54) (v' : ByteArray) : solsticelaw18_LineBack.F n ps v n' qs v' = some true := by
  have stop : solsticelaw18_LineBack.J0 true n ps v n' qs v' = some true := by rw [solsticelaw18_LineBack.J0_eq, if_pos rfl]
  have hnil : (⟨#[]⟩ : ByteArray).toList = ([] : List UInt8) := by rw [ByteArray.toList_eq]
  rw [solsticelaw18_LineBack.F_eq, stop]
  rcases Heavy_eq n ps v with h1 | ⟨h1, g1⟩
  · rw [h1, bind_some_, if_pos rfl]
  · rw [h1, bind_some_, if_neg (by simp)]
    rcases Heavy_eq n' qs v' with h2 | ⟨h2, g2⟩
    · rw [h2, bind_some_, stop]
    · rw [h2, bind_some_, solsticelaw18_LineBack.J0_eq, if_neg (by simp), Text_eq n ps v g1, bind_some_, Text_eq n' qs v' g2, bind_some_]
      have hk := fun a b c => keep_line n ps v a b c (by have := g1.2.2.1; omega) (light_len g1.2.2.2)
      by_cases l1 : lnS n ps v = true
      · have e1 : (if lnS n ps v = true then (strOfNums (txtS n ps v), (0 : Int)) else ((⟨#[]⟩ : ByteArray), 18)) = (strOfNums (txtS n ps v), 0) := if_pos l1
        rw [e1]
        by_cases l2 : lnS n' qs v' = true
        · have e2 : (if lnS n' qs v' = true then (strOfNums (txtS n' qs v'), (0 : Int)) else ((⟨#[]⟩ : ByteArray), 18)) = (strOfNums (txtS n' qs v'), 0) := if_pos l2
          have hp := Parse_eq (strOfNums (txtS n ps v)) (by have := txtS_len g1; omega)
          rw [bytes_strOf (txtS_bytes _ _ _), prs_txt l1] at hp
          have heq : (((strOfNums (txtS n ps v)).toList == (strOfNums (txtS n' qs v')).toList) == decide (n = n' ∧ v = v' ∧ ps = qs)) = true := by
            rw [beq_iff_eq, Bool.eq_iff_iff, beq_iff_eq, decide_eq_true_eq, toList_iff]
            constructor
            · intro h
              have h' := strOf_inj (txtS_bytes _ _ _) (txtS_bytes _ _ _) h
              have a := prs_txt l1
              rw [h', prs_txt l2, Option.some.injEq, Prod.mk.injEq, Prod.mk.injEq] at a
              exact ⟨a.1.symm, a.2.2.symm, a.2.1.symm⟩
            · rintro ⟨rfl, rfl, rfl⟩
              rfl
          rw [e2]
          dsimp only
          rw [if_pos rfl, show ((0 : Int) != 0) = false from rfl, solsticelaw18_LineBack.J1_eq, if_neg (by simp), hp, bind_some_]
          unfold encL
          dsimp only
          rw [if_pos rfl, hk, bind_some_, if_pos (by simp), hk, bind_some_, if_pos heq, wakes18, bind_some_]
        · have e2 : (if lnS n' qs v' = true then (strOfNums (txtS n' qs v'), (0 : Int)) else ((⟨#[]⟩ : ByteArray), 18)) = ((⟨#[]⟩ : ByteArray), 18) := if_neg l2
          rw [e2]
          dsimp only
          rw [if_pos rfl, show ((18 : Int) != 0) = true from rfl, solsticelaw18_LineBack.J1_eq, if_pos rfl, if_pos rfl, if_neg (by decide), if_pos hnil, wakes18, bind_some_]
      · have e1 : (if lnS n ps v = true then (strOfNums (txtS n ps v), (0 : Int)) else ((⟨#[]⟩ : ByteArray), 18)) = ((⟨#[]⟩ : ByteArray), 18) := if_neg l1
        rw [e1]
        dsimp only
        rw [if_neg (by decide), solsticelaw18_LineBack.J1_eq, if_pos rfl, if_neg (by decide), if_pos hnil, wakes18, bind_some_]
        by_cases l2 : lnS n' qs v' = true
        · have e2 : (if lnS n' qs v' = true then (strOfNums (txtS n' qs v'), (0 : Int)) else ((⟨#[]⟩ : ByteArray), 18)) = (strOfNums (txtS n' qs v'), 0) := if_pos l2
          rw [e2]
          dsimp only
          rw [if_pos rfl]
        · have e2 : (if lnS n' qs v' = true then (strOfNums (txtS n' qs v'), (0 : Int)) else ((⟨#[]⟩ : ByteArray), 18)) = ((⟨#[]⟩ : ByteArray), 18) := if_neg l2
          rw [e2]
          dsimp only
          rw [if_neg (by decide), if_pos hnil]
theorem LineBack (n : ByteArray) (ps : List S54) (v n' : ByteArray) (qs : List S54) (v' : ByteArray) : ∃ k, solsticelaw18_LineBack.f k n ps v n' qs v' = some true := lim_some (LineBack_F _ _ _ _ _ _)
end Go.Proofs.Ytookjnpmbenheaa.Pure
