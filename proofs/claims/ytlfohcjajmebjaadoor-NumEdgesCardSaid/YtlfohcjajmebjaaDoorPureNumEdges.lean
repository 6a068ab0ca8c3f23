/- The law NumEdges over numbers: for every whole number the law's printed function answers true. -/
import Derived.Test.YtlfohcjajmebjaaDoorNumB
import Derived.Test.YtlfohcjajmebjaaDoorNumW
import Derived.Test.YtlfohcjajmebjaaDoorENumx6
namespace Go.Proofs.YtlfohcjajmebjaaDoor.Pure
open Go.RowKit Go.Proofs.YtlfohcjajmebjaaDoor.PNum Go.Proofs.YtlfohcjajmebjaaDoorW.PrintWords Go.Proofs.YtlfohcjajmebjaaDoorW.PrintLast Go.Proofs.YtlfohcjajmebjaaDoorW.PrintMore Go.Proofs.YtlfohcjajmebjaaDoor.Base
set_option linter.unusedVariables false
set_option linter.unusedSimpArgs false

theorem NumEdges : solsticelaw01_NumEdges.Pure := by
  intro a _
  suffices h : solsticelaw01_NumEdges.F a = some true from lim_some h
  obtain ⟨n, hn, h0, h1⟩ : ∃ n : Int, wrap64 (1 + (wrap64 (Int.tmod (IntKind.u64.wrap (a)) 1000000))) = n ∧ 1 ≤ n ∧ n ≤ 1000000 := by
    refine ⟨_, rfl, ?_⟩
    have h2 : 0 ≤ IntKind.u64.wrap a := u64_nonneg a
    rw [Int.tmod_eq_emod_of_nonneg h2, wrap64_id (n := IntKind.u64.wrap a % 1000000) (by omega) (by omega), wrap64_id (by omega) (by omega)]
    omega
  have hd := (ediv_bd (a := 4611686018427387904) h0).1 (by omega)
  have e3 : Int.tdiv 4611686018427387904 n = 4611686018427387904 / n := Int.tdiv_eq_ediv_of_nonneg (by omega)
  have hm := Int.mul_ediv_add_emod 4611686018427387904 n
  have hm1 := (ediv_bd (a := 4611686018427387904) h0).2.2
  rw [Int.mul_comm] at hm
  have hq1 : (4611686018427387904 / n + 1) * n = 4611686018427387904 / n * n + n := by rw [Int.add_mul, Int.one_mul]
  rw [solsticelaw01_NumEdges.F_eq]
  simp only [hn, e3]
  generalize hqe : 4611686018427387904 / n = q at *
  generalize hre : 4611686018427387904 % n = r at *
  rw [wrap64_id (n := 4611686018427387904 - n) (by omega) (by omega), wrap64_id (n := n + 1) (by omega) (by omega), wrap64_id (n := n - 4611686018427387904) (by omega) (by omega), wrap64_id (n := -n) (by omega) (by omega), wrap64_id (n := -n - 1) (by omega) (by omega), wrap64_id (n := q) (by omega) (by omega), wrap64_id (n := q + 1) (by omega) (by omega)]
  have a1 : addS (4611686018427387904 - n) n = (4611686018427387904, true) := by
    unfold addS Bd
    rw [if_pos (by omega)]
    congr 1
    omega
  have a2 : addS (4611686018427387904 - n) (n + 1) = (0, false) := by
    unfold addS Bd
    rw [if_neg (by omega)]
  have a3 : addS (n - 4611686018427387904) (-n) = (-4611686018427387904, true) := by
    unfold addS Bd
    rw [if_pos (by omega)]
    congr 1
    omega
  have a4 : addS (n - 4611686018427387904) (-n - 1) = (0, false) := by
    unfold addS Bd
    rw [if_neg (by omega)]
  have m1 : mulS (q + 1) n = (0, false) := by
    unfold mulS Bd
    rw [if_neg (by omega)]
  have m2 : mulS q n = (q * n, true) := by
    unfold mulS Bd
    rw [if_pos (by omega)]
  have hn0 : (n = 0) = False := eq_false (by omega)
  simp only [hn0, if_false]
  rw [num_Add_eq _ _ (by omega) (by omega), bind_some_, num_Add_eq _ _ (by omega) (by omega), bind_some_, num_Add_eq _ _ (by omega) (by omega), bind_some_, num_Add_eq _ _ (by omega) (by omega), bind_some_, num_Mul_eq, bind_some_, num_Mul_eq, bind_some_, a1, a2, a3, a4, m1, m2, wakes_eq]
  have hle : q * n ≤ 4611686018427387904 := by omega
  simp only [bind_some_, if_true, Bool.false_eq_true, if_false, hle]
end Go.Proofs.YtlfohcjajmebjaaDoor.Pure
