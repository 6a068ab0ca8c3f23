/- The law ClockExact over numbers and lists: for every input the law's printed function answers true. -/
import Derived.Test.YtlfohcjajmebjaaDoorClkB
import Derived.Test.YtlfohcjajmebjaaDoorEClkx6
namespace Go.Proofs.YtlfohcjajmebjaaDoor.Pure
open Go.RowKit Go.Proofs.YtlfohcjajmebjaaDoor.PClk Go.Proofs.YtlfohcjajmebjaaDoorW.PrintWords Go.Proofs.YtlfohcjajmebjaaDoorW.PrintLast Go.Proofs.YtlfohcjajmebjaaDoorW.PrintMore Go.Proofs.YtlfohcjajmebjaaDoor.Base
set_option linter.unusedVariables false
set_option linter.unusedSimpArgs false

theorem cexact_J0 (n a b : Int) (hn : -9223372036854775808 ≤ n ∧ n ≤ 9223372036854775807) (ha : -9223372036854775808 ≤ a ∧ a ≤ 9223372036854775807) (hb : -9223372036854775808 ≤ b ∧ b ≤ 9223372036854775807) (t : ByteArray) (f : Int)
    (h : (t, f) = if -345600 ≤ n ∧ n ≤ 345600 then (strOfNums (ctxt n), 0) else ((⟨#[]⟩ : ByteArray), 5)) :
    solsticelaw04_ClockExact.J0 n a b t f (n / 86400) (n % 86400) (joinS a b).1 (joinS a b).2 false = some true := by
  rw [solsticelaw04_ClockExact.J0_eq, if_neg (by simp), ref_Div_eq n 86400 hn (by omega), bind_some_, if_pos rfl, show (n % 86400 != n % 86400) = false by simp, solsticelaw04_ClockExact.J1_eq, if_neg (by simp), ref_JoinDay_eq a b ha hb, bind_some_, if_pos rfl, show ((joinS a b).2 != (joinS a b).2) = false by simp, solsticelaw04_ClockExact.J2_eq, if_neg (by simp)]
  have far : ¬ (-345600 ≤ n ∧ n ≤ 345600) → solsticelaw04_ClockExact.J3 n t f true = some true := by
    intro hf
    rw [if_neg hf] at h
    simp only [Prod.mk.injEq] at h
    obtain ⟨rfl, rfl⟩ := h
    rw [solsticelaw04_ClockExact.J3_eq, if_pos rfl, if_pos rfl, if_pos (by decide +kernel), wakes04, bind_some_]
  by_cases h1 : n < -345600
  · rw [if_pos h1, far (by omega)]
  · rw [if_neg h1]
    by_cases h2 : n > 345600
    · rw [decide_eq_true h2, far (by omega)]
    · have hin : -345600 ≤ n ∧ n ≤ 345600 := ⟨by omega, by omega⟩
      rw [if_pos hin] at h
      simp only [Prod.mk.injEq] at h
      obtain ⟨rfl, rfl⟩ := h
      rw [decide_eq_false h2, solsticelaw04_ClockExact.J3_eq, if_neg (by simp), if_pos rfl, ref_ClockText_eq n hin, bind_some_, if_pos rfl, wakes04, bind_some_]
theorem ClockExact : solsticelaw04_ClockExact.Pure := by
  intro s n a b hws hwn hwa hwb
  have hn := wf64 hwn; have ha := wf64 hwa; have hb := wf64 hwb
  suffices h : solsticelaw04_ClockExact.F s n a b = some true from lim_some h
  rw [solsticelaw04_ClockExact.F_eq]
  by_cases h100 : (s.size : Int) > 100
  · rw [if_pos h100]
  · obtain ⟨t, f, e⟩ : ∃ t f, (t, f) = if -345600 ≤ n ∧ n ≤ 345600 then (strOfNums (ctxt n), (0 : Int)) else ((⟨#[]⟩ : ByteArray), 5) := ⟨_, _, rfl⟩
    rw [if_neg h100, clock_Parse_eq s (by omega), bind_some_, clock_Text_eq n hn, bind_some_, clock_Split_eq n hn, bind_some_, clock_Join_eq a b ha hb, bind_some_, ref_Clock_eq s (by omega), bind_some_, ← e]
    have key := cexact_J0 n a b hn ha hb t f e
    cases hc : clkS (bytesOf s) with
    | none =>
      unfold enc0 encB
      dsimp only
      rw [if_neg (by simp), if_pos rfl, if_pos rfl]
      exact key
    | some v =>
      unfold enc0 encB
      dsimp only
      rw [if_pos rfl, if_pos rfl, show (v != v) = false by simp]
      exact key
end Go.Proofs.YtlfohcjajmebjaaDoor.Pure
