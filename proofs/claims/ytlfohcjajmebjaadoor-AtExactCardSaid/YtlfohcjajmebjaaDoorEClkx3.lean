-- Remarks left out.
import Derived.Test.YtlfohcjajmebjaaDoorBase
import Derived.Test.YtlfohcjajmebjaaDoorPClkx3
namespace Go.Proofs.YtlfohcjajmebjaaDoor.PClk
open Go.RowKit Go.Proofs.YtlfohcjajmebjaaDoorW.PrintWords Go.Proofs.YtlfohcjajmebjaaDoorW.PrintLast Go.Proofs.YtlfohcjajmebjaaDoor.Base
set_option linter.unusedVariables false
noncomputable def clock_Text.J0 (x0 : Int) (x11 : Bool) : Option (ByteArray × Int) := lim fun k => clock_Text.j0 k x0 x11
noncomputable def clock_Text.J1 (x0 : Int) (x4 : ByteArray) : Option (ByteArray × Int) := lim fun k => clock_Text.j1 k x0 x4
noncomputable def clock_Text.F (a0 : Int) : Option (ByteArray × Int) := lim fun k => clock_Text.f k a0
theorem clock_Text.isJ0 (x0 : Int) (x11 : Bool) : IsLim (fun k => clock_Text.j0 k x0 x11) (clock_Text.J0 x0 x11) := ⟨fun k => (clock_Text.mono_l k).1 x0 x11, rfl⟩
theorem clock_Text.isJ1 (x0 : Int) (x4 : ByteArray) : IsLim (fun k => clock_Text.j1 k x0 x4) (clock_Text.J1 x0 x4) := ⟨fun k => (clock_Text.mono_l k).2 x0 x4, rfl⟩
theorem clock_Text.isF (a0 : Int) : IsLim (fun k => clock_Text.f k a0) (clock_Text.F a0) := ⟨fun k => clock_Text.mono a0 k, rfl⟩
theorem clock_Text.J0_eq (x0 : Int) (x11 : Bool) : clock_Text.J0 x0 x11 = if x11 = true then (some ((⟨#[]⟩ : ByteArray), 5)) else (if x0 < 0 then (clock_Text.J1 (wrap64 (-x0)) (⟨#[45]⟩ : ByteArray)) else (clock_Text.J1 x0 (⟨#[]⟩ : ByteArray))) := by
 refine IsLim.step (clock_Text.isJ0 x0 x11).mono (f := fun k => if x11 = true then (some ((⟨#[]⟩ : ByteArray), 5)) else (if x0 < 0 then (clock_Text.j1 k (wrap64 (-x0)) (⟨#[45]⟩ : ByteArray)) else (clock_Text.j1 k x0 (⟨#[]⟩ : ByteArray)))) (fun k => by rw [clock_Text.j0]) ?_
 ·repeat' first
  | (with_reducible exact IsLim.const _)
  | (with_reducible exact clock_Text.isJ1 _ _)
  | (with_reducible refine IsLim.ite ?_ ?_)
  | (with_reducible refine IsLim.bind ?_ (fun _ => ?_))
theorem clock_Text.J1_eq (x0 : Int) (x4 : ByteArray) : clock_Text.J1 x0 x4 = (num_Text.f (wrap64 (Int.tdiv x0 3600)) 1).bind fun t113 => (if x4.size + t113.size ≤ 9223372036854775807 then (if (Int.tmod x0 3600) = 0 then (if (Int.tmod x0 60) = 0 then (some (x4 ++ t113, 0)) else ((num_Text.f (Int.tmod x0 60) 2).bind fun t114 => (if 1 + t114.size ≤ 9223372036854775807 then (if (x4 ++ t113).size + ((⟨#[58]⟩ : ByteArray) ++ t114).size ≤ 9223372036854775807 then (some ((x4 ++ t113) ++ ((⟨#[58]⟩ : ByteArray) ++ t114), 0)) else (none)) else (none)))) else ((num_Text.f (wrap64 (Int.tdiv (Int.tmod x0 3600) 60)) 2).bind fun t115 => (if 1 + t115.size ≤ 9223372036854775807 then (if (x4 ++ t113).size + ((⟨#[58]⟩ : ByteArray) ++ t115).size ≤ 9223372036854775807 then (if (Int.tmod x0 60) = 0 then (some ((x4 ++ t113) ++ ((⟨#[58]⟩ : ByteArray) ++ t115), 0)) else ((num_Text.f (Int.tmod x0 60) 2).bind fun t116 => (if 1 + t116.size ≤ 9223372036854775807 then (if ((x4 ++ t113) ++ ((⟨#[58]⟩ : ByteArray) ++ t115)).size + ((⟨#[58]⟩ : ByteArray) ++ t116).size ≤ 9223372036854775807 then (some (((x4 ++ t113) ++ ((⟨#[58]⟩ : ByteArray) ++ t115)) ++ ((⟨#[58]⟩ : ByteArray) ++ t116), 0)) else (none)) else (none)))) else (none)) else (none)))) else (none)) := by
 refine IsLim.step (clock_Text.isJ1 x0 x4).mono (f := fun k => (num_Text.f (wrap64 (Int.tdiv x0 3600)) 1).bind fun t113 => (if x4.size + t113.size ≤ 9223372036854775807 then (if (Int.tmod x0 3600) = 0 then (if (Int.tmod x0 60) = 0 then (some (x4 ++ t113, 0)) else ((num_Text.f (Int.tmod x0 60) 2).bind fun t114 => (if 1 + t114.size ≤ 9223372036854775807 then (if (x4 ++ t113).size + ((⟨#[58]⟩ : ByteArray) ++ t114).size ≤ 9223372036854775807 then (some ((x4 ++ t113) ++ ((⟨#[58]⟩ : ByteArray) ++ t114), 0)) else (none)) else (none)))) else ((num_Text.f (wrap64 (Int.tdiv (Int.tmod x0 3600) 60)) 2).bind fun t115 => (if 1 + t115.size ≤ 9223372036854775807 then (if (x4 ++ t113).size + ((⟨#[58]⟩ : ByteArray) ++ t115).size ≤ 9223372036854775807 then (if (Int.tmod x0 60) = 0 then (some ((x4 ++ t113) ++ ((⟨#[58]⟩ : ByteArray) ++ t115), 0)) else ((num_Text.f (Int.tmod x0 60) 2).bind fun t116 => (if 1 + t116.size ≤ 9223372036854775807 then (if ((x4 ++ t113) ++ ((⟨#[58]⟩ : ByteArray) ++ t115)).size + ((⟨#[58]⟩ : ByteArray) ++ t116).size ≤ 9223372036854775807 then (some (((x4 ++ t113) ++ ((⟨#[58]⟩ : ByteArray) ++ t115)) ++ ((⟨#[58]⟩ : ByteArray) ++ t116), 0)) else (none)) else (none)))) else (none)) else (none)))) else (none))) (fun k => by rw [clock_Text.j1]) ?_
 ·repeat' first
  | (with_reducible exact IsLim.const _)
  | (with_reducible refine IsLim.ite ?_ ?_)
  | (with_reducible refine IsLim.bind ?_ (fun _ => ?_))
theorem clock_Text.F_eq (a0 : Int) : clock_Text.F a0 = if a0 < (-345600) then (clock_Text.J0 a0 true) else (clock_Text.J0 a0 (decide (a0 > 345600))) := by
 refine IsLim.eq (g := fun k => if a0 < (-345600) then (clock_Text.j0 k a0 true) else (clock_Text.j0 k a0 (decide (a0 > 345600)))) ?_
 ·repeat' first
  | (with_reducible exact IsLim.const _)
  | (with_reducible exact clock_Text.isJ0 _ _)
  | (with_reducible refine IsLim.ite ?_ ?_)
  | (with_reducible refine IsLim.bind ?_ (fun _ => ?_))
noncomputable def clock_Join.J0 (x7 : Int) (x8 : Int) (x28 : Bool) : Option (Int × Bool) := lim fun k => clock_Join.j0 k x7 x8 x28
noncomputable def clock_Join.F (a0 : Int) (a1 : Int) : Option (Int × Bool) := lim fun k => clock_Join.f k a0 a1
theorem clock_Join.isJ0 (x7 : Int) (x8 : Int) (x28 : Bool) : IsLim (fun k => clock_Join.j0 k x7 x8 x28) (clock_Join.J0 x7 x8 x28) := ⟨fun k => (clock_Join.mono_l k) x7 x8 x28, rfl⟩
theorem clock_Join.isF (a0 : Int) (a1 : Int) : IsLim (fun k => clock_Join.f k a0 a1) (clock_Join.F a0 a1) := ⟨fun k => clock_Join.mono a0 a1 k, rfl⟩
theorem clock_Join.J0_eq (x7 : Int) (x8 : Int) (x28 : Bool) : clock_Join.J0 x7 x8 x28 = if x28 = true then (some (0, false)) else (if x8 > (wrap64 (Int.tdiv (wrap64 (4611686018427387904 - x7)) 86400)) then (some (0, false)) else (if x8 < (wrap64 (-(wrap64 (Int.tdiv (wrap64 (4611686018427387904 + x7)) 86400)))) then (some (0, false)) else (some (wrap64 ((wrap64 (x8 * 86400)) + x7), true)))) := by
 refine IsLim.step (clock_Join.isJ0 x7 x8 x28).mono (f := fun k => if x28 = true then (some (0, false)) else (if x8 > (wrap64 (Int.tdiv (wrap64 (4611686018427387904 - x7)) 86400)) then (some (0, false)) else (if x8 < (wrap64 (-(wrap64 (Int.tdiv (wrap64 (4611686018427387904 + x7)) 86400)))) then (some (0, false)) else (some (wrap64 ((wrap64 (x8 * 86400)) + x7), true))))) (fun k => by rw [clock_Join.j0]) ?_
 ·repeat' first
  | (with_reducible exact IsLim.const _)
  | (with_reducible refine IsLim.ite ?_ ?_)
  | (with_reducible refine IsLim.bind ?_ (fun _ => ?_))
theorem clock_Join.F_eq (a0 : Int) (a1 : Int) : clock_Join.F a0 a1 = (clock_Split.f a1).bind fun bt117 => (if ((decide (a0 ≥ 0)) == (decide (bt117.1 ≥ 0))) = true then (clock_Join.J0 bt117.2 (wrap64 (a0 + bt117.1)) ((decide ((wrap64 (a0 + bt117.1)) ≥ 0)) != (decide (a0 ≥ 0)))) else (clock_Join.J0 bt117.2 (wrap64 (a0 + bt117.1)) false)) := by
 refine IsLim.eq (g := fun k => (clock_Split.f a1).bind fun bt117 => (if ((decide (a0 ≥ 0)) == (decide (bt117.1 ≥ 0))) = true then (clock_Join.j0 k bt117.2 (wrap64 (a0 + bt117.1)) ((decide ((wrap64 (a0 + bt117.1)) ≥ 0)) != (decide (a0 ≥ 0)))) else (clock_Join.j0 k bt117.2 (wrap64 (a0 + bt117.1)) false))) ?_
 ·repeat' first
  | (with_reducible exact IsLim.const _)
  | (with_reducible exact clock_Join.isJ0 _ _ _)
  | (with_reducible refine IsLim.ite ?_ ?_)
  | (with_reducible refine IsLim.bind ?_ (fun _ => ?_))
noncomputable def solsticeref01_Digits.J0 (x0 : ByteArray) (x17 : Bool) : Option (Bool) := lim fun k => solsticeref01_Digits.j0 k x0 x17
noncomputable def solsticeref01_Digits.L0 (x0 : ByteArray) (x7 : Int) : Option (Bool) := lim fun k => solsticeref01_Digits.l0 k x0 x7
noncomputable def solsticeref01_Digits.F (a0 : ByteArray) (a1 : Int) (a2 : Int) : Option (Bool) := lim fun k => solsticeref01_Digits.f k a0 a1 a2
theorem solsticeref01_Digits.isJ0 (x0 : ByteArray) (x17 : Bool) : IsLim (fun k => solsticeref01_Digits.j0 k x0 x17) (solsticeref01_Digits.J0 x0 x17) := ⟨fun k => (solsticeref01_Digits.mono_l k).1 x0 x17, rfl⟩
theorem solsticeref01_Digits.isL0 (x0 : ByteArray) (x7 : Int) : IsLim (fun k => solsticeref01_Digits.l0 k x0 x7) (solsticeref01_Digits.L0 x0 x7) := ⟨fun k => (solsticeref01_Digits.mono_l k).2 x0 x7, rfl⟩
theorem solsticeref01_Digits.isF (a0 : ByteArray) (a1 : Int) (a2 : Int) : IsLim (fun k => solsticeref01_Digits.f k a0 a1 a2) (solsticeref01_Digits.F a0 a1 a2) := ⟨fun k => solsticeref01_Digits.mono a0 a1 a2 k, rfl⟩
theorem solsticeref01_Digits.J0_eq (x0 : ByteArray) (x17 : Bool) : solsticeref01_Digits.J0 x0 x17 = if x17 = true then (some false) else (solsticeref01_Digits.L0 x0 0) := by
 refine IsLim.step (solsticeref01_Digits.isJ0 x0 x17).mono (f := fun k => if x17 = true then (some false) else (solsticeref01_Digits.l0 k x0 0)) (fun k => by rw [solsticeref01_Digits.j0]) ?_
 ·repeat' first
  | (with_reducible exact IsLim.const _)
  | (with_reducible exact solsticeref01_Digits.isL0 _ _)
  | (with_reducible refine IsLim.ite ?_ ?_)
  | (with_reducible refine IsLim.bind ?_ (fun _ => ?_))
theorem solsticeref01_Digits.L0_eq (x0 : ByteArray) (x7 : Int) : solsticeref01_Digits.L0 x0 x7 = if x7 < (x0.size : Int) then (if 0 ≤ x7 then ((solsticeref01_digit.f (bt x0 x7)).bind fun t119 => (if t119 = true then (solsticeref01_Digits.L0 x0 (wrap64 (x7 + 1))) else (some false))) else (none)) else (some true) := by
 refine IsLim.step (solsticeref01_Digits.isL0 x0 x7).mono (f := fun k => if x7 < (x0.size : Int) then (if 0 ≤ x7 then ((solsticeref01_digit.f (bt x0 x7)).bind fun t119 => (if t119 = true then (solsticeref01_Digits.l0 k x0 (wrap64 (x7 + 1))) else (some false))) else (none)) else (some true)) (fun k => by rw [solsticeref01_Digits.l0]) ?_
 ·repeat' first
  | (with_reducible exact IsLim.const _)
  | (with_reducible exact solsticeref01_Digits.isL0 _ _)
  | (with_reducible refine IsLim.ite ?_ ?_)
  | (with_reducible refine IsLim.bind ?_ (fun _ => ?_))
theorem solsticeref01_Digits.F_eq (a0 : ByteArray) (a1 : Int) (a2 : Int) : solsticeref01_Digits.F a0 a1 a2 = if (a0.size : Int) < a1 then (solsticeref01_Digits.J0 a0 true) else (solsticeref01_Digits.J0 a0 (decide ((a0.size : Int) > a2))) := by
 refine IsLim.eq (g := fun k => if (a0.size : Int) < a1 then (solsticeref01_Digits.j0 k a0 true) else (solsticeref01_Digits.j0 k a0 (decide ((a0.size : Int) > a2)))) ?_
 ·repeat' first
  | (with_reducible exact IsLim.const _)
  | (with_reducible exact solsticeref01_Digits.isJ0 _ _)
  | (with_reducible refine IsLim.ite ?_ ?_)
  | (with_reducible refine IsLim.bind ?_ (fun _ => ?_))
noncomputable def solsticeref01_Value.L0 (x0 : ByteArray) (x3 : Int) (x4 : Int) : Option (Int) := lim fun k => solsticeref01_Value.l0 k x0 x3 x4
noncomputable def solsticeref01_Value.F (a0 : ByteArray) : Option (Int) := lim fun k => solsticeref01_Value.f k a0
theorem solsticeref01_Value.isL0 (x0 : ByteArray) (x3 : Int) (x4 : Int) : IsLim (fun k => solsticeref01_Value.l0 k x0 x3 x4) (solsticeref01_Value.L0 x0 x3 x4) := ⟨fun k => (solsticeref01_Value.mono_l k) x0 x3 x4, rfl⟩
theorem solsticeref01_Value.isF (a0 : ByteArray) : IsLim (fun k => solsticeref01_Value.f k a0) (solsticeref01_Value.F a0) := ⟨fun k => solsticeref01_Value.mono a0 k, rfl⟩
theorem solsticeref01_Value.L0_eq (x0 : ByteArray) (x3 : Int) (x4 : Int) : solsticeref01_Value.L0 x0 x3 x4 = if x4 < (x0.size : Int) then (if 0 ≤ x4 then (solsticeref01_Value.L0 x0 (wrap64 ((wrap64 ((wrap64 (10 * x3)) + (wrap64 (bt x0 x4)))) - 48)) (wrap64 (x4 + 1))) else (none)) else (some x3) := by
 refine IsLim.step (solsticeref01_Value.isL0 x0 x3 x4).mono (f := fun k => if x4 < (x0.size : Int) then (if 0 ≤ x4 then (solsticeref01_Value.l0 k x0 (wrap64 ((wrap64 ((wrap64 (10 * x3)) + (wrap64 (bt x0 x4)))) - 48)) (wrap64 (x4 + 1))) else (none)) else (some x3)) (fun k => by rw [solsticeref01_Value.l0]) ?_
 ·repeat' first
  | (with_reducible exact IsLim.const _)
  | (with_reducible exact solsticeref01_Value.isL0 _ _ _)
  | (with_reducible refine IsLim.ite ?_ ?_)
  | (with_reducible refine IsLim.bind ?_ (fun _ => ?_))
theorem solsticeref01_Value.F_eq (a0 : ByteArray) : solsticeref01_Value.F a0 = solsticeref01_Value.L0 a0 0 0 := by
 refine IsLim.eq (g := fun k => solsticeref01_Value.l0 k a0 0 0) ?_
 ·repeat' first
  | (with_reducible exact IsLim.const _)
  | (with_reducible exact solsticeref01_Value.isL0 _ _ _)
  | (with_reducible refine IsLim.ite ?_ ?_)
  | (with_reducible refine IsLim.bind ?_ (fun _ => ?_))
end Go.Proofs.YtlfohcjajmebjaaDoor.PClk
