/- The law ClockBack over numbers and lists: for every input the law's printed function answers true. -/
import Derived.Test.YtlfohcjajmebjaaDoorClkB
import Derived.Test.YtlfohcjajmebjaaDoorEClkx7
namespace Go.Proofs.YtlfohcjajmebjaaDoor.Pure
open Go.RowKit Go.Proofs.YtlfohcjajmebjaaDoor.PClk Go.Proofs.YtlfohcjajmebjaaDoorW.PrintWords Go.Proofs.YtlfohcjajmebjaaDoorW.PrintLast Go.Proofs.YtlfohcjajmebjaaDoorW.PrintMore Go.Proofs.YtlfohcjajmebjaaDoor.Base
set_option linter.unusedVariables false
set_option linter.unusedSimpArgs false

theorem text_in {n : Int} (h : -345600 ≤ n ∧ n ≤ 345600) : clock_Text.F n = some (strOfNums (ctxt n), 0) := by
  rw [clock_Text_eq n (by omega), if_pos h]
theorem parse_text {n : Int} (h : -345600 ≤ n ∧ n ≤ 345600) : clock_Parse.F (strOfNums (ctxt n)) = some (n, 0) := by
  have := ctxt_len h
  rw [clock_Parse_eq _ (by rw [size_strOf]; omega), bytes_strOf (ctxt_bytes n), clkS_ctxt h]
  rfl
theorem cback_J0 (s : ByteArray) (hs : s.size ≤ 100) : solsticelaw04_ClockBack.J0 s false = some true := by
  rw [solsticelaw04_ClockBack.J0_eq, if_neg (by simp), clock_Parse_eq s (by omega), bind_some_, wakes04]
  cases hc : clkS (bytesOf s) with
  | none =>
    unfold enc0
    dsimp only
    rw [if_neg (by omega), if_pos rfl, bind_some_]
  | some v =>
    have hv := clkS_bd hc
    unfold enc0
    dsimp only
    rw [if_pos rfl, text_in hv, bind_some_, parse_text hv, bind_some_, if_pos rfl, if_pos rfl, if_pos rfl, bind_some_]
theorem ClockBack : solsticelaw04_ClockBack.Pure := by
  intro n t s hwn hwt hws
  have hn := wf64 hwn; have ht := wf64 hwt
  suffices h : solsticelaw04_ClockBack.F n t s = some true from lim_some h
  rw [solsticelaw04_ClockBack.F_eq]
  by_cases h100 : (s.size : Int) > 100
  · rw [if_pos h100]
  · have hm : -345600 ≤ Int.tmod n 345601 ∧ Int.tmod n 345601 ≤ 345600 := by
      have h2 : Int.tmod n 345601 < 345601 := Int.tmod_lt_of_pos n (by omega)
      have h3 := Int.tmod_lt_of_pos (-n) (b := 345601) (by omega)
      rw [Int.neg_tmod] at h3
      omega
    have hj : joinS (t / 86400) (t % 86400) = if Bd t then (t, true) else (0, false) := by
      unfold joinS
      rw [show t / 86400 * 86400 + t % 86400 = t by omega]
    have key := cback_J0 s (by omega)
    rw [if_neg h100, text_in hm, bind_some_, parse_text hm, bind_some_, clock_Split_eq t ht, bind_some_, clock_Join_eq _ _ (by show _ ≤ t / 86400 ∧ t / 86400 ≤ _; omega) (by show _ ≤ t % 86400 ∧ t % 86400 ≤ _; omega), bind_some_, if_pos rfl, if_pos rfl, if_pos rfl, if_neg (by show ¬ t % 86400 < 0; omega), if_neg (by show ¬ t % 86400 ≥ 86400; omega), ref_Bound_eq, bind_some_]
    dsimp only
    rw [hj]
    by_cases hb : Bd t
    · rw [if_pos hb, decide_eq_true hb]
      dsimp only
      rw [if_neg (by simp), if_pos rfl, show (t != t) = false by simp, key]
    · rw [if_neg hb, decide_eq_false hb]
      dsimp only
      rw [if_neg (by simp), if_neg (by simp), key]
end Go.Proofs.YtlfohcjajmebjaaDoor.Pure
