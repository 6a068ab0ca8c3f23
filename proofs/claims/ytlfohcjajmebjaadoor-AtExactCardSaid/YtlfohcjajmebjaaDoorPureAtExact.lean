-- Remarks left out.
import Derived.Test.YtlfohcjajmebjaaDoorAtA
import Derived.Test.YtlfohcjajmebjaaDoorEClkx11
namespace Go.Proofs.YtlfohcjajmebjaaDoor.Pure
open Go.RowKit Go.Proofs.YtlfohcjajmebjaaDoor.PClk Go.Proofs.YtlfohcjajmebjaaDoorW.PrintWords Go.Proofs.YtlfohcjajmebjaaDoorW.PrintLast Go.Proofs.YtlfohcjajmebjaaDoorW.PrintMore Go.Proofs.YtlfohcjajmebjaaDoor.Base
set_option linter.unusedVariables false
set_option linter.unusedSimpArgs false
theorem ref_In_eq (n lo hi : Int) : solsticeref01_In.f n lo hi = some (decide (lo ≤ n ∧ n ≤ hi)) := by
 unfold solsticeref01_In.f
 by_cases h : n ≥ lo
 ·rw [if_pos h]
  have : lo ≤ n := h
  simp [this]
 ·rw [if_neg h]
  have : ¬ lo ≤ n := h
  simp [this]
theorem ref_At_eq (a k : Int) : solsticeref01_At.f a k = some (decide (Sec a ∧ Kin k)) := by
 unfold solsticeref01_At.f
 rw [ref_In_eq, bind_some_]
 by_cases h1 : Sec a
 ·have h1' : (decide (-345600 ≤ a ∧ a ≤ 345600)) = true := decide_eq_true h1
  rw [if_pos h1', ref_In_eq, bind_some_]
  congr 1
  rw [decide_eq_decide]
  exact ⟨fun h => ⟨h1, h⟩, fun h => h.2⟩
 ·have h1' : ¬ (decide (-345600 ≤ a ∧ a ≤ 345600)) = true := by rw [decide_eq_true_eq]; exact h1
  rw [if_neg h1']
  congr 1
  exact (decide_eq_false (fun h => h1 h.1)).symm
theorem ref_AtText_eq (a k : Int) (ha : Sec a) (hk : Kin k) : solsticeref01_AtText.F a k = some (strOfNums (ctxt a ++ letter k)) := by
 have hl := ctxt_len ha
 have hk' := hk
 unfold Kin at hk'
 rw [solsticeref01_AtText.F_eq, ref_ClockText_eq a ha, bind_some_, bind_some_, if_pos (by omega), if_pos (by simp only [List.length_cons, List.length_nil]; omega)]
 have hc : k = 1 ∨ k = 2 ∨ k = 3 := by omega
 rcases hc with rfl | rfl | rfl
 ·have e : rdOf ByteArray.empty [(⟨#[]⟩ : ByteArray), (⟨#[]⟩ : ByteArray), (⟨#[115]⟩ : ByteArray), (⟨#[117]⟩ : ByteArray)] 1 = strOfNums [] := rfl
  rw [e, size_strOf, size_strOf, if_pos (by rw [List.length_nil]; omega), strOf_append]
  rfl
 ·have e : rdOf ByteArray.empty [(⟨#[]⟩ : ByteArray), (⟨#[]⟩ : ByteArray), (⟨#[115]⟩ : ByteArray), (⟨#[117]⟩ : ByteArray)] 2 = strOfNums [115] := rfl
  rw [e, size_strOf, size_strOf, if_pos (by rw [List.length_singleton]; omega), strOf_append]
  rfl
 ·have e : rdOf ByteArray.empty [(⟨#[]⟩ : ByteArray), (⟨#[]⟩ : ByteArray), (⟨#[115]⟩ : ByteArray), (⟨#[117]⟩ : ByteArray)] 3 = strOfNums [117] := rfl
  rw [e, size_strOf, size_strOf, if_pos (by rw [List.length_singleton]; omega), strOf_append]
  rfl
theorem ref_Utc_eq (l k s v : Int) (hl : Bd l) (hs : Sec s) (hv : Sec v) : solsticeref01_Utc.f l k s v = some (if k = 1 then l - s - v else if k = 2 then l - s else l) := by
 unfold solsticeref01_Utc.f
 unfold Bd at hl
 unfold Sec at hs hv
 rw [wrap64_id (n := l - s) (by omega) (by omega), wrap64_id (n := l - s - v) (by omega) (by omega)]
 split
 ·rfl
 ·split <;> rfl
theorem aexact_J2 (a k : Int) (t : ByteArray) (f : Int) (h : (t, f) = if Sec a ∧ Kin k then (strOfNums (ctxt a ++ letter k), (0 : Int)) else ((⟨#[]⟩ : ByteArray), 9)) : solsticelaw08_AtExact.J2 t f false a k = some true := by
 rw [solsticelaw08_AtExact.J2_eq, if_neg (by simp), ref_At_eq, bind_some_, at_Check_eq, bind_some_, wakes08]
 by_cases hc : Sec a ∧ Kin k
 ·rw [if_pos hc] at h
  simp only [Prod.mk.injEq] at h
  obtain ⟨rfl, rfl⟩ := h
  rw [if_pos (decide_eq_true hc), if_pos hc, if_pos rfl, if_pos rfl, ref_AtText_eq a k hc.1 hc.2, bind_some_, if_pos rfl, bind_some_]
 ·rw [if_neg hc] at h
  simp only [Prod.mk.injEq] at h
  obtain ⟨rfl, rfl⟩ := h
  rw [if_neg (by rw [decide_eq_true_eq]; exact hc), if_neg hc, bind_some_, if_pos rfl, if_pos rfl, if_pos (by decide +kernel), bind_some_]
theorem aexact_J0 (l kd s v a k : Int) (t : ByteArray) (f : Int) (h : (t, f) = if Sec a ∧ Kin k then (strOfNums (ctxt a ++ letter k), (0 : Int)) else ((⟨#[]⟩ : ByteArray), 9)) :
  solsticelaw08_AtExact.J0 l kd s v t f (utcS l kd s v).1 (utcS l kd s v).2 false a k = some true := by
 have key := aexact_J2 a k t f h
 have e2 : (utcS l kd s v).2 = decide (Kin kd ∧ Bd l ∧ Sec s ∧ Sec v) := by
  unfold utcS
  by_cases hc : Kin kd ∧ Bd l ∧ Sec s ∧ Sec v
  ·rw [if_pos hc]; exact (decide_eq_true hc).symm
  ·rw [if_neg hc]; exact (decide_eq_false hc).symm
 have J1 : solsticelaw08_AtExact.J1 l kd s v t f (utcS l kd s v).1 (utcS l kd s v).2 (decide (Kin kd ∧ Bd l ∧ Sec s ∧ Sec v)) a k = some true := by
  rw [solsticelaw08_AtExact.J1_eq, e2, if_neg (by simp)]
  by_cases hc : Kin kd ∧ Bd l ∧ Sec s ∧ Sec v
  ·have e1 : (utcS l kd s v).1 = (if kd = 1 then l - s - v else if kd = 2 then l - s else l) := by unfold utcS; rw [if_pos hc]
   rw [if_pos (decide_eq_true hc), ref_Utc_eq l kd s v hc.2.1 hc.2.2.1 hc.2.2.2, bind_some_, e1]
   rw [show ((if kd = 1 then l - s - v else if kd = 2 then l - s else l) != (if kd = 1 then l - s - v else if kd = 2 then l - s else l)) = false by simp]
   exact key
  ·have e1 : (utcS l kd s v).1 = 0 := by unfold utcS; rw [if_neg hc]
   rw [if_neg (by rw [decide_eq_true_eq]; exact hc), e1, if_pos rfl]
   exact key
 rw [solsticelaw08_AtExact.J0_eq, if_neg (by simp)]
 by_cases h1 : Kin kd
 ·have h1' := h1
  unfold Kin at h1'
  rw [if_pos (by omega), if_pos (by omega), ref_Bound_eq, bind_some_]
  by_cases h2 : Bd l
  ·rw [if_pos (decide_eq_true h2), ref_In_eq, bind_some_]
   by_cases h3 : Sec s
   ·have h3' : (decide (-345600 ≤ s ∧ s ≤ 345600)) = true := decide_eq_true h3
    rw [if_pos h3', ref_In_eq, bind_some_]
    have e4 : decide (-345600 ≤ v ∧ v ≤ 345600) = decide (Kin kd ∧ Bd l ∧ Sec s ∧ Sec v) := by
     rw [decide_eq_decide]
     exact ⟨fun h => ⟨h1, h2, h3, h⟩, fun h => h.2.2.2⟩
    rw [e4]
    exact J1
   ·have h3' : ¬ (decide (-345600 ≤ s ∧ s ≤ 345600)) = true := by rw [decide_eq_true_eq]; exact h3
    rw [if_neg h3']
    rw [show false = decide (Kin kd ∧ Bd l ∧ Sec s ∧ Sec v) from (decide_eq_false (fun h => h3 h.2.2.1)).symm]
    exact J1
  ·rw [if_neg (by simpa using h2)]
   rw [show false = decide (Kin kd ∧ Bd l ∧ Sec s ∧ Sec v) from (decide_eq_false (fun h => h2 h.2.1)).symm]
   exact J1
 ·have ef : false = decide (Kin kd ∧ Bd l ∧ Sec s ∧ Sec v) := (decide_eq_false (fun h => h1 h.1)).symm
  unfold Kin at h1
  rw [← ef] at J1
  by_cases h5 : kd ≥ 1
  ·rw [if_pos h5, if_neg (by omega)]
   exact J1
  ·rw [if_neg h5]
   exact J1
theorem AtExact (s : ByteArray) (a k l kd st sv : Int) (hs : s.size ≤ 140737488351232) (hak : (Lit.int .i64 a).wf = true ∧ (Lit.int .i64 k).wf = true) (w2 : (Lit.int .i64 l).wf = true) (w3 : (Lit.int .i64 kd).wf = true) (w4 : (Lit.int .i64 st).wf = true) (w5 : (Lit.int .i64 sv).wf = true) :
  ∃ n, solsticelaw08_AtExact.f n s a k l kd st sv = some true := by
 have ha := wf64 hak.1
 suffices h : solsticelaw08_AtExact.F s a k l kd st sv = some true from lim_some h
 rw [solsticelaw08_AtExact.F_eq]
 by_cases h60 : (s.size : Int) > 60
 ·rw [if_pos h60]
 ·obtain ⟨t, f, e⟩ : ∃ t f, (t, f) = if Sec a ∧ Kin k then (strOfNums (ctxt a ++ letter k), (0 : Int)) else ((⟨#[]⟩ : ByteArray), 9) := ⟨_, _, rfl⟩
  have key := aexact_J0 l kd st sv a k t f e
  rw [if_neg h60, at_Parse_eq s (by omega), bind_some_, at_Text_eq a k ha, bind_some_, at_Utc_eq, bind_some_, ref_AtForm_eq s (by omega), bind_some_, ← e]
  cases hc : atS s with
  | none =>
   unfold encAt encAtB
   dsimp only
   rw [if_neg (by simp), if_pos rfl, if_neg (by simp)]
   exact key
  | some p =>
   obtain ⟨v, w⟩ := p
   unfold encAt encAtB
   dsimp only
   rw [if_pos rfl, if_pos rfl, show (!(v == v) || !(w == w)) = false by simp]
   exact key
end Go.Proofs.YtlfohcjajmebjaaDoor.Pure
