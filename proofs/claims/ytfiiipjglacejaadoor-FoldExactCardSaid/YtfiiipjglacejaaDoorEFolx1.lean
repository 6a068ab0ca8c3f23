/- Printed functions of the family Fol without a bound on their rounds, and the equation that each meets. No condition. -/
import Derived.Test.YtfiiipjglacejaaDoorBase
import Derived.Test.YtfiiipjglacejaaDoorPFolx1
namespace Go.Proofs.YtfiiipjglacejaaDoor.PFol
open Go.RowKit Go.Proofs.YtfiiipjglacejaaDoorW.PrintWords Go.Proofs.YtfiiipjglacejaaDoorW.PrintLast Go.Proofs.YtfiiipjglacejaaDoor.Base
set_option linter.unusedVariables false
noncomputable def fold_cut.L0 (x0 : ByteArray) (x1 : Int) (x2 : Int) (x7 : Int) (x8 : Int) : Option (Int) := lim fun k => fold_cut.l0 k x0 x1 x2 x7 x8
noncomputable def fold_cut.F (a0 : ByteArray) (a1 : Int) (a2 : Int) : Option (Int) := lim fun k => fold_cut.f k a0 a1 a2
theorem fold_cut.isL0 (x0 : ByteArray) (x1 : Int) (x2 : Int) (x7 : Int) (x8 : Int) : IsLim (fun k => fold_cut.l0 k x0 x1 x2 x7 x8) (fold_cut.L0 x0 x1 x2 x7 x8) := ⟨fun k => (fold_cut.mono_l k) x0 x1 x2 x7 x8, rfl⟩
theorem fold_cut.isF (a0 : ByteArray) (a1 : Int) (a2 : Int) : IsLim (fun k => fold_cut.f k a0 a1 a2) (fold_cut.F a0 a1 a2) := ⟨fun k => fold_cut.mono a0 a1 a2 k, rfl⟩
theorem fold_cut.L0_eq (x0 : ByteArray) (x1 : Int) (x2 : Int) (x7 : Int) (x8 : Int) : fold_cut.L0 x0 x1 x2 x7 x8 = if x8 > x1 then (if 0 ≤ x8 then (if x8 < (x0.size : Int) then ((fold_on.f (bt x0 x8)).bind fun t102 => (if t102 = true then (if (wrap64 (x7 - x8)) ≤ 3 then (fold_cut.L0 x0 x1 x2 x7 (wrap64 (x8 - 1))) else ((fold_on.f (bt x0 x8)).bind fun t103 => (if t103 = true then (some x2) else (if (wrap64 (x7 - x8)) > 3 then (some x2) else (some (wrap64 (x8 - x1))))))) else ((fold_on.f (bt x0 x8)).bind fun t104 => (if t104 = true then (some x2) else (if (wrap64 (x7 - x8)) > 3 then (some x2) else (some (wrap64 (x8 - x1)))))))) else (none)) else (none)) else (if 0 ≤ x8 then (if x8 < (x0.size : Int) then ((fold_on.f (bt x0 x8)).bind fun t105 => (if t105 = true then (some x2) else (if (wrap64 (x7 - x8)) > 3 then (some x2) else (some (wrap64 (x8 - x1)))))) else (none)) else (none)) := by
  refine IsLim.step (fold_cut.isL0 x0 x1 x2 x7 x8).mono (f := fun k => if x8 > x1 then (if 0 ≤ x8 then (if x8 < (x0.size : Int) then ((fold_on.f (bt x0 x8)).bind fun t102 => (if t102 = true then (if (wrap64 (x7 - x8)) ≤ 3 then (fold_cut.l0 k x0 x1 x2 x7 (wrap64 (x8 - 1))) else ((fold_on.f (bt x0 x8)).bind fun t103 => (if t103 = true then (some x2) else (if (wrap64 (x7 - x8)) > 3 then (some x2) else (some (wrap64 (x8 - x1))))))) else ((fold_on.f (bt x0 x8)).bind fun t104 => (if t104 = true then (some x2) else (if (wrap64 (x7 - x8)) > 3 then (some x2) else (some (wrap64 (x8 - x1)))))))) else (none)) else (none)) else (if 0 ≤ x8 then (if x8 < (x0.size : Int) then ((fold_on.f (bt x0 x8)).bind fun t105 => (if t105 = true then (some x2) else (if (wrap64 (x7 - x8)) > 3 then (some x2) else (some (wrap64 (x8 - x1)))))) else (none)) else (none))) (fun k => by rw [fold_cut.l0]) ?_
  · repeat' first
    | (with_reducible exact IsLim.const _)
    | (with_reducible exact fold_cut.isL0 _ _ _ _ _)
    | (with_reducible refine IsLim.ite ?_ ?_)
    | (with_reducible refine IsLim.bind ?_ (fun _ => ?_))
theorem fold_cut.F_eq (a0 : ByteArray) (a1 : Int) (a2 : Int) : fold_cut.F a0 a1 a2 = if (wrap64 ((a0.size : Int) - a1)) ≤ a2 then (some (wrap64 ((a0.size : Int) - a1))) else (if 0 ≤ (wrap64 (a1 + a2)) then (if (wrap64 (a1 + a2)) < (a0.size : Int) then ((fold_on.f (bt a0 (wrap64 (a1 + a2)))).bind fun t101 => (if t101 = true then (fold_cut.L0 a0 a1 a2 (wrap64 (a1 + a2)) (wrap64 (a1 + a2))) else (some a2))) else (none)) else (none)) := by
  refine IsLim.eq (g := fun k => if (wrap64 ((a0.size : Int) - a1)) ≤ a2 then (some (wrap64 ((a0.size : Int) - a1))) else (if 0 ≤ (wrap64 (a1 + a2)) then (if (wrap64 (a1 + a2)) < (a0.size : Int) then ((fold_on.f (bt a0 (wrap64 (a1 + a2)))).bind fun t101 => (if t101 = true then (fold_cut.l0 k a0 a1 a2 (wrap64 (a1 + a2)) (wrap64 (a1 + a2))) else (some a2))) else (none)) else (none))) ?_
  · repeat' first
    | (with_reducible exact IsLim.const _)
    | (with_reducible exact fold_cut.isL0 _ _ _ _ _)
    | (with_reducible refine IsLim.ite ?_ ?_)
    | (with_reducible refine IsLim.bind ?_ (fun _ => ?_))
noncomputable def fold_Line.L0 (x0 : ByteArray) (x4 : List ByteArray) (x5 : Int) (x6 : Int) : Option (ByteArray × Int) := lim fun k => fold_Line.l0 k x0 x4 x5 x6
noncomputable def fold_Line.F (a0 : ByteArray) : Option (ByteArray × Int) := lim fun k => fold_Line.f k a0
theorem fold_Line.isL0 (x0 : ByteArray) (x4 : List ByteArray) (x5 : Int) (x6 : Int) : IsLim (fun k => fold_Line.l0 k x0 x4 x5 x6) (fold_Line.L0 x0 x4 x5 x6) := ⟨fun k => (fold_Line.mono_l k) x0 x4 x5 x6, rfl⟩
theorem fold_Line.isF (a0 : ByteArray) : IsLim (fun k => fold_Line.f k a0) (fold_Line.F a0) := ⟨fun k => fold_Line.mono a0 k, rfl⟩
theorem fold_Line.L0_eq (x0 : ByteArray) (x4 : List ByteArray) (x5 : Int) (x6 : Int) : fold_Line.L0 x0 x4 x5 x6 = (fold_cut.F x0 x5 x6).bind fun t108 => (if 0 ≤ x5 then (if x5 ≤ (wrap64 (x5 + t108)) then (if (wrap64 (x5 + t108)) ≤ (x0.size : Int) then (if x4.length < 8796093022208 then ((some (x4 ++ [x0.extract (x5 : Int).toNat ((wrap64 (x5 + t108)) : Int).toNat] : List ByteArray)).bind fun y109 => (if (wrap64 (x5 + t108)) ≥ (x0.size : Int) then ((strings_Join.f y109 (⟨#[13, 10, 32]⟩ : ByteArray)).bind fun t112 => (if t112.size + 2 ≤ 9223372036854775807 then (some (t112 ++ (⟨#[13, 10]⟩ : ByteArray), 0)) else (none))) else (fold_Line.L0 x0 y109 (wrap64 (x5 + t108)) 74))) else (none)) else (none)) else (none)) else (none)) := by
  refine IsLim.step (fold_Line.isL0 x0 x4 x5 x6).mono (f := fun k => (fold_cut.f k x0 x5 x6).bind fun t108 => (if 0 ≤ x5 then (if x5 ≤ (wrap64 (x5 + t108)) then (if (wrap64 (x5 + t108)) ≤ (x0.size : Int) then (if x4.length < 8796093022208 then ((some (x4 ++ [x0.extract (x5 : Int).toNat ((wrap64 (x5 + t108)) : Int).toNat] : List ByteArray)).bind fun y109 => (if (wrap64 (x5 + t108)) ≥ (x0.size : Int) then ((strings_Join.f y109 (⟨#[13, 10, 32]⟩ : ByteArray)).bind fun t112 => (if t112.size + 2 ≤ 9223372036854775807 then (some (t112 ++ (⟨#[13, 10]⟩ : ByteArray), 0)) else (none))) else (fold_Line.l0 k x0 y109 (wrap64 (x5 + t108)) 74))) else (none)) else (none)) else (none)) else (none))) (fun k => by rw [fold_Line.l0]) ?_
  · repeat' first
    | (with_reducible exact IsLim.const _)
    | (with_reducible exact fold_Line.isL0 _ _ _ _)
    | (with_reducible exact fold_cut.isF _ _ _)
    | (with_reducible refine IsLim.ite ?_ ?_)
    | (with_reducible refine IsLim.bind ?_ (fun _ => ?_))
theorem fold_Line.F_eq (a0 : ByteArray) : fold_Line.F a0 = if (a0.size : Int) > 60000 then (some ((⟨#[]⟩ : ByteArray), 2)) else ((strings_IndexByte.f a0 10).bind fun t106 => (if t106 ≥ 0 then (some ((⟨#[]⟩ : ByteArray), 18)) else ((strings_IndexByte.f a0 13).bind fun t107 => (if t107 ≥ 0 then (some ((⟨#[]⟩ : ByteArray), 18)) else (fold_Line.L0 a0 ([] : List ByteArray) 0 75))))) := by
  refine IsLim.eq (g := fun k => if (a0.size : Int) > 60000 then (some ((⟨#[]⟩ : ByteArray), 2)) else ((strings_IndexByte.f a0 10).bind fun t106 => (if t106 ≥ 0 then (some ((⟨#[]⟩ : ByteArray), 18)) else ((strings_IndexByte.f a0 13).bind fun t107 => (if t107 ≥ 0 then (some ((⟨#[]⟩ : ByteArray), 18)) else (fold_Line.l0 k a0 ([] : List ByteArray) 0 75)))))) ?_
  · repeat' first
    | (with_reducible exact IsLim.const _)
    | (with_reducible exact fold_Line.isL0 _ _ _ _)
    | (with_reducible refine IsLim.ite ?_ ?_)
    | (with_reducible refine IsLim.bind ?_ (fun _ => ?_))
end Go.Proofs.YtfiiipjglacejaaDoor.PFol
