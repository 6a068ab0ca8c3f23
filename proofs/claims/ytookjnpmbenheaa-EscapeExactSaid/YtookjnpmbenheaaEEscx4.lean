/- Printed functions of the family Esc without a bound on their rounds, and the equation that each meets. No condition. -/
import Derived.Test.YtookjnpmbenheaaBase
import Derived.Test.YtookjnpmbenheaaPEscx4
import Derived.Test.YtookjnpmbenheaaEEscx1
import Derived.Test.YtookjnpmbenheaaEEscx2
import Derived.Test.YtookjnpmbenheaaEEscx3
namespace Go.Proofs.Ytookjnpmbenheaa.PEsc
open Go.RowKit Go.Proofs.YtookjnpmbenheaaW.PrintWords Go.Proofs.YtookjnpmbenheaaW.PrintLast Go.Proofs.Ytookjnpmbenheaa.Base
set_option linter.unusedVariables false
noncomputable def solsticelaw17_EscapeBack.J0 (x0 : ByteArray) (x1 : List ByteArray) (x25 : Bool) : Option (Bool) := lim fun k => solsticelaw17_EscapeBack.j0 k x0 x1 x25
noncomputable def solsticelaw17_EscapeBack.J1 (x0 : ByteArray) (x1 : List ByteArray) : Option (Bool) := lim fun k => solsticelaw17_EscapeBack.j1 k x0 x1
noncomputable def solsticelaw17_EscapeBack.J2 (x1 : List ByteArray) : Option (Bool) := lim fun k => solsticelaw17_EscapeBack.j2 k x1
noncomputable def solsticelaw17_EscapeBack.F (a0 : ByteArray) (l1 : List ByteArray) : Option (Bool) := lim fun k => solsticelaw17_EscapeBack.f k a0 l1
theorem solsticelaw17_EscapeBack.isJ0 (x0 : ByteArray) (x1 : List ByteArray) (x25 : Bool) : IsLim (fun k => solsticelaw17_EscapeBack.j0 k x0 x1 x25) (solsticelaw17_EscapeBack.J0 x0 x1 x25) := ⟨fun k => (solsticelaw17_EscapeBack.mono_l k).1 x0 x1 x25, rfl⟩
theorem solsticelaw17_EscapeBack.isJ1 (x0 : ByteArray) (x1 : List ByteArray) : IsLim (fun k => solsticelaw17_EscapeBack.j1 k x0 x1) (solsticelaw17_EscapeBack.J1 x0 x1) := ⟨fun k => (solsticelaw17_EscapeBack.mono_l k).2.1 x0 x1, rfl⟩
theorem solsticelaw17_EscapeBack.isJ2 (x1 : List ByteArray) : IsLim (fun k => solsticelaw17_EscapeBack.j2 k x1) (solsticelaw17_EscapeBack.J2 x1) := ⟨fun k => (solsticelaw17_EscapeBack.mono_l k).2.2 x1, rfl⟩
theorem solsticelaw17_EscapeBack.isF (a0 : ByteArray) (l1 : List ByteArray) : IsLim (fun k => solsticelaw17_EscapeBack.f k a0 l1) (solsticelaw17_EscapeBack.F a0 l1) := ⟨fun k => solsticelaw17_EscapeBack.mono a0 l1 k, rfl⟩
theorem solsticelaw17_EscapeBack.J0_eq (x0 : ByteArray) (x1 : List ByteArray) (x25 : Bool) : solsticelaw17_EscapeBack.J0 x0 x1 x25 = if x25 = true then (some true) else ((escape_Put.F x0).bind fun bt173 => (if bt173.2 = 0 then ((escape_Get.F bt173.1).bind fun bt175 => (if bt175.2 = 0 then (if bt175.1.toList = x0.toList then (solsticelaw17_EscapeBack.J1 x0 x1) else (some false)) else (some false))) else (solsticelaw17_EscapeBack.J1 x0 x1))) := by
  refine IsLim.step (solsticelaw17_EscapeBack.isJ0 x0 x1 x25).mono (f := fun k => if x25 = true then (some true) else ((escape_Put.f k x0).bind fun bt173 => (if bt173.2 = 0 then ((escape_Get.f k bt173.1).bind fun bt175 => (if bt175.2 = 0 then (if bt175.1.toList = x0.toList then (solsticelaw17_EscapeBack.j1 k x0 x1) else (some false)) else (some false))) else (solsticelaw17_EscapeBack.j1 k x0 x1)))) (fun k => by rw [solsticelaw17_EscapeBack.j0]) ?_
  · repeat' first
    | (with_reducible exact IsLim.const _)
    | (with_reducible exact escape_Get.isF _)
    | (with_reducible exact escape_Put.isF _)
    | (with_reducible exact solsticelaw17_EscapeBack.isJ1 _ _)
    | (with_reducible refine IsLim.ite ?_ ?_)
    | (with_reducible refine IsLim.bind ?_ (fun _ => ?_))
theorem solsticelaw17_EscapeBack.J1_eq (x0 : ByteArray) (x1 : List ByteArray) : solsticelaw17_EscapeBack.J1 x0 x1 = (escape_Get.F x0).bind fun bt177 => (if bt177.2 = 0 then ((escape_Put.F bt177.1).bind fun bt179 => ((escape_Get.F bt179.1).bind fun bt181 => (if bt179.2 = 0 then (if bt181.2 = 0 then (if bt181.1.toList = bt177.1.toList then (solsticelaw17_EscapeBack.J2 x1) else (some false)) else (some false)) else (some false)))) else (solsticelaw17_EscapeBack.J2 x1)) := by
  refine IsLim.step (solsticelaw17_EscapeBack.isJ1 x0 x1).mono (f := fun k => (escape_Get.f k x0).bind fun bt177 => (if bt177.2 = 0 then ((escape_Put.f k bt177.1).bind fun bt179 => ((escape_Get.f k bt179.1).bind fun bt181 => (if bt179.2 = 0 then (if bt181.2 = 0 then (if bt181.1.toList = bt177.1.toList then (solsticelaw17_EscapeBack.j2 k x1) else (some false)) else (some false)) else (some false)))) else (solsticelaw17_EscapeBack.j2 k x1))) (fun k => by rw [solsticelaw17_EscapeBack.j1]) ?_
  · repeat' first
    | (with_reducible exact IsLim.const _)
    | (with_reducible exact escape_Get.isF _)
    | (with_reducible exact escape_Put.isF _)
    | (with_reducible exact solsticelaw17_EscapeBack.isJ2 _)
    | (with_reducible refine IsLim.ite ?_ ?_)
    | (with_reducible refine IsLim.bind ?_ (fun _ => ?_))
theorem solsticelaw17_EscapeBack.J2_eq (x1 : List ByteArray) : solsticelaw17_EscapeBack.J2 x1 = (escape_List.F x1).bind fun bt183 => (if bt183.2 = 0 then ((escape_Unlist.F bt183.1).bind fun bt185 => (if bt185.2 = 0 then ((solsticekeep_Texts.F bt185.1 x1).bind fun t189 => (if t189 = true then ((solsticelaw17_wakes.F).bind fun t190 => (some t190)) else (some false))) else (some false))) else (if bt183.1.toList = ([] : List UInt8) then ((solsticelaw17_wakes.F).bind fun t191 => (some t191)) else (some false))) := by
  refine IsLim.step (solsticelaw17_EscapeBack.isJ2 x1).mono (f := fun k => (escape_List.f k x1).bind fun bt183 => (if bt183.2 = 0 then ((escape_Unlist.f k bt183.1).bind fun bt185 => (if bt185.2 = 0 then ((solsticekeep_Texts.f k bt185.1 x1).bind fun t189 => (if t189 = true then ((solsticelaw17_wakes.f k).bind fun t190 => (some t190)) else (some false))) else (some false))) else (if bt183.1.toList = ([] : List UInt8) then ((solsticelaw17_wakes.f k).bind fun t191 => (some t191)) else (some false)))) (fun k => by rw [solsticelaw17_EscapeBack.j2]) ?_
  · repeat' first
    | (with_reducible exact IsLim.const _)
    | (with_reducible exact escape_List.isF _)
    | (with_reducible exact escape_Unlist.isF _)
    | (with_reducible exact solsticekeep_Texts.isF _ _)
    | (with_reducible exact solsticelaw17_wakes.isF)
    | (with_reducible refine IsLim.ite ?_ ?_)
    | (with_reducible refine IsLim.bind ?_ (fun _ => ?_))
theorem solsticelaw17_EscapeBack.F_eq (a0 : ByteArray) (l1 : List ByteArray) : solsticelaw17_EscapeBack.F a0 l1 = if (a0.size : Int) > 1000 then (solsticelaw17_EscapeBack.J0 a0 l1 true) else ((solsticelaw05_Heavy.F l1).bind fun t172 => (solsticelaw17_EscapeBack.J0 a0 l1 t172)) := by
  refine IsLim.eq (g := fun k => if (a0.size : Int) > 1000 then (solsticelaw17_EscapeBack.j0 k a0 l1 true) else ((solsticelaw05_Heavy.f k l1).bind fun t172 => (solsticelaw17_EscapeBack.j0 k a0 l1 t172))) ?_
  · repeat' first
    | (with_reducible exact IsLim.const _)
    | (with_reducible exact solsticelaw05_Heavy.isF _)
    | (with_reducible exact solsticelaw17_EscapeBack.isJ0 _ _ _)
    | (with_reducible refine IsLim.ite ?_ ?_)
    | (with_reducible refine IsLim.bind ?_ (fun _ => ?_))
noncomputable def solsticeref16_Put.L0 (x0 : ByteArray) (x4 : List Int) (x5 : Int) : Option (ByteArray × Int) := lim fun k => solsticeref16_Put.l0 k x0 x4 x5
noncomputable def solsticeref16_Put.F (a0 : ByteArray) : Option (ByteArray × Int) := lim fun k => solsticeref16_Put.f k a0
theorem solsticeref16_Put.isL0 (x0 : ByteArray) (x4 : List Int) (x5 : Int) : IsLim (fun k => solsticeref16_Put.l0 k x0 x4 x5) (solsticeref16_Put.L0 x0 x4 x5) := ⟨fun k => (solsticeref16_Put.mono_l k) x0 x4 x5, rfl⟩
theorem solsticeref16_Put.isF (a0 : ByteArray) : IsLim (fun k => solsticeref16_Put.f k a0) (solsticeref16_Put.F a0) := ⟨fun k => solsticeref16_Put.mono a0 k, rfl⟩
theorem solsticeref16_Put.L0_eq (x0 : ByteArray) (x4 : List Int) (x5 : Int) : solsticeref16_Put.L0 x0 x4 x5 = if x5 < (x0.size : Int) then (if 0 ≤ x5 then (if (bt x0 x5) = 10 then ((some (([92, 110] : List Int) : List Int)).bind fun y195 => (if x4.length + y195.length < 140737488355328 then (solsticeref16_Put.L0 x0 (x4 ++ y195) (wrap64 (x5 + 1))) else (none))) else ((solsticeref16_bad.f (bt x0 x5)).bind fun t201 => (if t201 = true then (some ((⟨#[]⟩ : ByteArray), 3)) else (if (bt x0 x5) = 92 then ((some (([92, bt x0 x5] : List Int) : List Int)).bind fun y202 => (if x4.length + y202.length < 140737488355328 then (solsticeref16_Put.L0 x0 (x4 ++ y202) (wrap64 (x5 + 1))) else (none))) else (if (bt x0 x5) = 59 then ((some (([92, bt x0 x5] : List Int) : List Int)).bind fun y208 => (if x4.length + y208.length < 140737488355328 then (solsticeref16_Put.L0 x0 (x4 ++ y208) (wrap64 (x5 + 1))) else (none))) else (if (bt x0 x5) = 44 then ((some (([92, bt x0 x5] : List Int) : List Int)).bind fun y214 => (if x4.length + y214.length < 140737488355328 then (solsticeref16_Put.L0 x0 (x4 ++ y214) (wrap64 (x5 + 1))) else (none))) else (if x4.length < 140737488355328 then (solsticeref16_Put.L0 x0 (x4 ++ [bt x0 x5]) (wrap64 (x5 + 1))) else (none)))))))) else (none)) else (some (strOfNums x4, 0)) := by
  refine IsLim.step (solsticeref16_Put.isL0 x0 x4 x5).mono (f := fun k => if x5 < (x0.size : Int) then (if 0 ≤ x5 then (if (bt x0 x5) = 10 then ((some (([92, 110] : List Int) : List Int)).bind fun y195 => (if x4.length + y195.length < 140737488355328 then (solsticeref16_Put.l0 k x0 (x4 ++ y195) (wrap64 (x5 + 1))) else (none))) else ((solsticeref16_bad.f (bt x0 x5)).bind fun t201 => (if t201 = true then (some ((⟨#[]⟩ : ByteArray), 3)) else (if (bt x0 x5) = 92 then ((some (([92, bt x0 x5] : List Int) : List Int)).bind fun y202 => (if x4.length + y202.length < 140737488355328 then (solsticeref16_Put.l0 k x0 (x4 ++ y202) (wrap64 (x5 + 1))) else (none))) else (if (bt x0 x5) = 59 then ((some (([92, bt x0 x5] : List Int) : List Int)).bind fun y208 => (if x4.length + y208.length < 140737488355328 then (solsticeref16_Put.l0 k x0 (x4 ++ y208) (wrap64 (x5 + 1))) else (none))) else (if (bt x0 x5) = 44 then ((some (([92, bt x0 x5] : List Int) : List Int)).bind fun y214 => (if x4.length + y214.length < 140737488355328 then (solsticeref16_Put.l0 k x0 (x4 ++ y214) (wrap64 (x5 + 1))) else (none))) else (if x4.length < 140737488355328 then (solsticeref16_Put.l0 k x0 (x4 ++ [bt x0 x5]) (wrap64 (x5 + 1))) else (none)))))))) else (none)) else (some (strOfNums x4, 0))) (fun k => by rw [solsticeref16_Put.l0]) ?_
  · repeat' first
    | (with_reducible exact IsLim.const _)
    | (with_reducible exact solsticeref16_Put.isL0 _ _ _)
    | (with_reducible refine IsLim.ite ?_ ?_)
    | (with_reducible refine IsLim.bind ?_ (fun _ => ?_))
theorem solsticeref16_Put.F_eq (a0 : ByteArray) : solsticeref16_Put.F a0 = solsticeref16_Put.L0 a0 ([] : List Int) 0 := by
  refine IsLim.eq (g := fun k => solsticeref16_Put.l0 k a0 ([] : List Int) 0) ?_
  · repeat' first
    | (with_reducible exact IsLim.const _)
    | (with_reducible exact solsticeref16_Put.isL0 _ _ _)
    | (with_reducible refine IsLim.ite ?_ ?_)
    | (with_reducible refine IsLim.bind ?_ (fun _ => ?_))
end Go.Proofs.Ytookjnpmbenheaa.PEsc
