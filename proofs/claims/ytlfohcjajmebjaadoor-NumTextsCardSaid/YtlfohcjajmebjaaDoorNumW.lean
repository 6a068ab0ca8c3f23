/- What the law's closed look at num computes: true. -/
import Derived.Test.YtlfohcjajmebjaaDoorNumA
import Derived.Test.YtlfohcjajmebjaaDoorENumx1
namespace Go.Proofs.YtlfohcjajmebjaaDoor.Base
open Go.RowKit Go.Proofs.YtlfohcjajmebjaaDoor.PNum Go.Proofs.YtlfohcjajmebjaaDoorW.PrintWords Go.Proofs.YtlfohcjajmebjaaDoorW.PrintLast Go.Proofs.YtlfohcjajmebjaaDoorW.PrintMore
set_option linter.unusedVariables false
set_option linter.unusedSimpArgs false
theorem u64_nonneg (a : Int) : 0 ≤ IntKind.u64.wrap a := by unfold IntKind.wrap; simp [IntKind.signed, IntKind.bits]; omega
theorem wakes_eq : solsticelaw01_wakes.F = some true := by
  have d1 : divS (-1) 7 = (-1, 6, true) := by decide
  have a1 : addS 2 3 = (5, true) := by decide
  have a2 : addS 4611686018427387904 1 = (0, false) := by decide
  have p1 : parsS (bytesOf (⟨#[48, 52, 50]⟩ : ByteArray)) = (42, true) := by decide
  have t1 : txt 7 3 = [48, 48, 55] := by
    have e : digs (7 : Int).toNat = [48 + ((7 : Int).toNat : Int)] := digs_small (by decide)
    unfold txt
    rw [if_neg (by decide), e]
    rfl
  rw [solsticelaw01_wakes.F_eq, num_Div_eq _ _ (by omega) (by omega), bind_some_, num_Add_eq _ _ (by omega) (by omega), bind_some_, num_Add_eq _ _ (by omega) (by omega), bind_some_, num_Parse_eq, bind_some_, d1, a1, a2, p1, num_Text_eq _ _ (by omega) (by omega), bind_some_, t1]
  decide +kernel
end Go.Proofs.YtlfohcjajmebjaaDoor.Base
