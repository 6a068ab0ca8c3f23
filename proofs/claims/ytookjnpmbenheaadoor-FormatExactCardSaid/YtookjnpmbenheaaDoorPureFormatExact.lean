/- The law FormatExact over numbers and lists: for every input the law's printed function answers true. -/
import Derived.Test.YtookjnpmbenheaaDoorFmtE
import Derived.Test.YtookjnpmbenheaaDoorEFmtx7
namespace Go.Proofs.YtookjnpmbenheaaDoor.Pure
open Go.RowKit Go.Proofs.YtookjnpmbenheaaDoor.PFmt Go.Proofs.YtookjnpmbenheaaDoorW.PrintWords Go.Proofs.YtookjnpmbenheaaDoorW.PrintLast Go.Proofs.YtookjnpmbenheaaDoorW.PrintMore Go.Proofs.YtookjnpmbenheaaDoor.Base
set_option linter.unusedVariables false
set_option linter.unusedSimpArgs false

theorem name_abbr (f w : ByteArray) (o v : Int) (hf : f.size ≤ 1000) (hw : w.size ≤ 1000) :
    (∃ n, format_Name.F f w o v = some (n, 0) ∧ solsticeref09_Abbr.F f w o v = some (n, true)) ∨ (format_Name.F f w o v = some ((⟨#[]⟩ : ByteArray), 16) ∧ solsticeref09_Abbr.F f w o v = some ((⟨#[]⟩ : ByteArray), false)) := by
  have fin : ∀ l : List Int, format_Name.F f w o v = some (nameR l) → solsticeref09_Abbr.F f w o v = some (nameB l) → (∃ n, format_Name.F f w o v = some (n, 0) ∧ solsticeref09_Abbr.F f w o v = some (n, true)) ∨ (format_Name.F f w o v = some ((⟨#[]⟩ : ByteArray), 16) ∧ solsticeref09_Abbr.F f w o v = some ((⟨#[]⟩ : ByteArray), false)) := by
    intro l h1 h2
    rw [h1, h2]
    unfold nameR nameB
    by_cases h : rgt l = true
    · rw [if_pos h, if_pos h]
      exact Or.inl ⟨_, rfl, rfl⟩
    · rw [if_neg h, if_neg h]
      exact Or.inr ⟨rfl, rfl⟩
  by_cases hz : (1 ≤ f.size ∧ f.size ≤ 40) ∧ Shape (bytesOf f)
  · have zt := zone_of_shape hz.1 hz.2
    have rt := rf_of_shape hz.1 hz.2
    by_cases hl : letS (bytesOf w) = true
    · by_cases ho : Off o
      · cases hz.2 with
        | one h => exact fin _ (name_1 hz.1 h hw hl ho) (ab_1 hz.1 h hw hl ho)
        | two A B h hA hB => exact fin _ (name_2 hz.1 h hA hB hw hl ho) (ab_2 hz.1 h hA hB hw hl ho)
        | three A d B h hA hB hd =>
          have h3 := ab_3 (v := v) hz.1 h hA hB hd hw hl ho
          rcases hd with rfl | rfl
          · rw [if_pos rfl] at h3
            exact fin _ (name_3 hz.1 h hA hB hw hl ho) h3
          · rw [if_neg (by decide)] at h3
            exact fin _ (name_4 hz.1 h hA hB hw hl ho) h3
      · right
        have hin : solsticeref09_in.f o (-172799) 172799 = some false := by
          unfold solsticeref09_in.f
          unfold Off at ho
          by_cases h : o ≥ -172799
          · rw [if_pos h, decide_eq_false (by omega)]
          · rw [if_neg h]
        refine ⟨?_, ?_⟩
        · rw [format_Name.F_eq, zt, bind_some_, if_pos rfl, letter_eq w hw, bind_some_, if_pos hl, below_eq, bind_some_, decide_eq_false ho, format_Name.J0_eq]
          rfl
        · rw [solsticeref09_Abbr.F_eq, rt, bind_some_, if_pos rfl, ref_Letter_eq w hw, bind_some_, if_pos hl, hin, bind_some_, solsticeref09_Abbr.J0_eq]
          rfl
    · right
      refine ⟨?_, ?_⟩
      · rw [format_Name.F_eq, zt, bind_some_, if_pos rfl, letter_eq w hw, bind_some_, if_neg hl, format_Name.J0_eq]
        rfl
      · rw [solsticeref09_Abbr.F_eq, rt, bind_some_, if_pos rfl, ref_Letter_eq w hw, bind_some_, if_neg hl, solsticeref09_Abbr.J0_eq]
        rfl
  · right
    have zf : zone_Format.F f = some false := by
      obtain ⟨b, hb⟩ := zone_total f hf
      cases b with
      | true => exact absurd (zone_shape hf hb) hz
      | false => exact hb
    have rf := rf_shape hf hz
    refine ⟨?_, ?_⟩
    · rw [format_Name.F_eq, zf, bind_some_, if_neg (by simp), format_Name.J0_eq]
      rfl
    · rw [solsticeref09_Abbr.F_eq, rf, bind_some_, if_neg (by simp), solsticeref09_Abbr.J0_eq]
      rfl
theorem exact_J2 (o : Int) (ho : -9223372036854775808 ≤ o ∧ o ≤ 9223372036854775807) : solsticelaw12_FormatExact.J1 o (if Off o then (strOfNums (stxt o), (0 : Int)) else ((⟨#[]⟩ : ByteArray), 5)).1 (if Off o then (strOfNums (stxt o), (0 : Int)) else ((⟨#[]⟩ : ByteArray), 5)).2 false = some true := by
  have hnil : (⟨#[]⟩ : ByteArray).toList = ([] : List UInt8) := by rw [ByteArray.toList_eq]
  have bad : solsticelaw12_FormatExact.J2 o (⟨#[]⟩ : ByteArray) 5 true = some true := by
    rw [solsticelaw12_FormatExact.J2_eq, if_pos rfl, if_pos rfl, if_pos hnil, wakes12, bind_some_]
  rw [solsticelaw12_FormatExact.J1_eq, if_neg (by simp)]
  by_cases h : Off o
  · have h' := h
    unfold Off at h'
    have e : (if Off o then (strOfNums (stxt o), (0 : Int)) else ((⟨#[]⟩ : ByteArray), 5)) = (strOfNums (stxt o), 0) := if_pos h
    rw [e, if_neg (by omega), decide_eq_false (by omega), solsticelaw12_FormatExact.J2_eq, if_neg (by simp), if_pos rfl, ref_short_eq o h, bind_some_, if_pos rfl, wakes12, bind_some_]
  · have h' := h
    unfold Off at h'
    have e : (if Off o then (strOfNums (stxt o), (0 : Int)) else ((⟨#[]⟩ : ByteArray), 5)) = ((⟨#[]⟩ : ByteArray), 5) := if_neg h
    rw [e]
    dsimp only
    by_cases h1 : o ≤ -172800
    · rw [if_pos h1, bad]
    · rw [if_neg h1, decide_eq_true (by omega), bad]
theorem FormatExact : solsticelaw12_FormatExact.Pure := by
  intro f w o v hf hw ho hv
  suffices h : solsticelaw12_FormatExact.F f w o v = some true from lim_some h
  have stop : solsticelaw12_FormatExact.J0 f w o v true = some true := by rw [solsticelaw12_FormatExact.J0_eq, if_pos rfl]
  have hnil : (⟨#[]⟩ : ByteArray).toList = ([] : List UInt8) := by rw [ByteArray.toList_eq]
  have ho' : -9223372036854775808 ≤ o ∧ o ≤ 9223372036854775807 := by
    exact wf64 ho
  rw [solsticelaw12_FormatExact.F_eq, stop]
  by_cases h1 : (f.size : Int) > 200
  · rw [if_pos h1]
  · rw [if_neg h1]
    by_cases h2 : (w.size : Int) > 200
    · rw [decide_eq_true h2, stop]
    · have hr : (rgt (bytesOf f) != plainS (bytesOf f) 40) = false := by rw [rgt_plain]; simp
      rw [decide_eq_false h2, solsticelaw12_FormatExact.J0_eq, if_neg (by simp), short_eq o ho', right_eq f (by omega), plain_eq f (by omega)]
      rcases name_abbr f w o v (by omega) (by omega) with ⟨n, e1, e2⟩ | ⟨e1, e2⟩
      · rw [e1, bind_some_, bind_some_, e2, bind_some_]
        dsimp only
        rw [if_pos rfl, if_pos rfl, if_pos rfl, bind_some_, bind_some_, hr]
        exact exact_J2 o ho'
      · rw [e1, bind_some_, bind_some_, e2, bind_some_]
        dsimp only
        rw [if_neg (by simp), if_pos rfl, if_pos hnil, bind_some_, bind_some_, hr]
        exact exact_J2 o ho'
end Go.Proofs.YtookjnpmbenheaaDoor.Pure
