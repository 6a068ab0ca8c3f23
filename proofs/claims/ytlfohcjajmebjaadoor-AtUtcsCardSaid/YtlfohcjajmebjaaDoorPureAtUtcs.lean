/- The law AtUtcs over numbers: for every three whole numbers the law's printed function answers true. -/
import Derived.Test.YtlfohcjajmebjaaDoorAtA
import Derived.Test.YtlfohcjajmebjaaDoorEClkx13
namespace Go.Proofs.YtlfohcjajmebjaaDoor.Pure
open Go.RowKit Go.Proofs.YtlfohcjajmebjaaDoor.PClk Go.Proofs.YtlfohcjajmebjaaDoorW.PrintWords Go.Proofs.YtlfohcjajmebjaaDoorW.PrintLast Go.Proofs.YtlfohcjajmebjaaDoorW.PrintMore Go.Proofs.YtlfohcjajmebjaaDoor.Base
set_option linter.unusedVariables false
set_option linter.unusedSimpArgs false
theorem AtUtcs : solsticelaw08_AtUtcs.Pure := by
  intro a b c _ _ _
  suffices h : solsticelaw08_AtUtcs.F a b c = some true from lim_some h
  have hm : ∀ n m : Int, 0 < m → -m < Int.tmod n m ∧ Int.tmod n m < m := by
    intro n m h
    have h2 := Int.tmod_lt_of_pos n h
    have h3 := Int.tmod_lt_of_pos (-n) h
    rw [Int.neg_tmod] at h3
    omega
  have h1 := hm a 1099511627776 (by omega)
  have h2 := hm b 345601 (by omega)
  have h3 := hm c 345601 (by omega)
  rw [solsticelaw08_AtUtcs.F_eq]
  generalize Int.tmod a 1099511627776 = l at *
  generalize Int.tmod b 345601 = s at *
  generalize Int.tmod c 345601 = v at *
  have hs : Sec s := by unfold Sec; omega
  have hv : Sec v := by unfold Sec; omega
  have hl : Bd l := by unfold Bd; omega
  have k3 : Kin 3 := by decide
  have k2 : Kin 2 := by decide
  have k1 : Kin 1 := by decide
  have u3 : utcS l 3 s v = (l, true) := by unfold utcS; rw [if_pos ⟨k3, hl, hs, hv⟩]; rfl
  have u2 : utcS l 2 s v = (l - s, true) := by unfold utcS; rw [if_pos ⟨k2, hl, hs, hv⟩]; rfl
  have u1 : utcS l 1 s v = (l - s - v, true) := by unfold utcS; rw [if_pos ⟨k1, hl, hs, hv⟩]; rfl
  have u0 : utcS l 0 s v = (0, false) := by unfold utcS; rw [if_neg (fun h => absurd h.1 (by decide))]
  have u4 : utcS l 3 345601 v = (0, false) := by unfold utcS; rw [if_neg (fun h => absurd h.2.2.1 (by decide))]
  rw [at_Utc_eq, bind_some_, at_Utc_eq, bind_some_, at_Utc_eq, bind_some_, at_Utc_eq, bind_some_, at_Utc_eq, bind_some_, u3, u2, u1, u0, u4, wakes08]
  dsimp only
  rw [if_pos rfl, if_pos rfl, if_pos rfl, if_neg (by simp), if_neg (by simp), if_pos rfl, wrap64_id (n := l - s + s) (by omega) (by omega), if_pos (by omega), wrap64_id (n := l - s - v + s) (by omega) (by omega), wrap64_id (n := l - s - v + s + v) (by omega) (by omega), if_pos (by omega), bind_some_]
end Go.Proofs.YtlfohcjajmebjaaDoor.Pure
