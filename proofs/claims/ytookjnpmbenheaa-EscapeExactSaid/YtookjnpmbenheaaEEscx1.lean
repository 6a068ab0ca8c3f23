/- Printed functions of the family Esc without a bound on their rounds, and the equation that each meets. No condition. -/
import Derived.Test.YtookjnpmbenheaaBase
import Derived.Test.YtookjnpmbenheaaPEscx1
namespace Go.Proofs.Ytookjnpmbenheaa.PEsc
open Go.RowKit Go.Proofs.YtookjnpmbenheaaW.PrintWords Go.Proofs.YtookjnpmbenheaaW.PrintLast Go.Proofs.Ytookjnpmbenheaa.Base
set_option linter.unusedVariables false
noncomputable def escape_Put.L0 (x0 : ByteArray) (x4 : List Int) (x8 : Int) (x9 : Int) : Option (ByteArray × Int) := lim fun k => escape_Put.l0 k x0 x4 x8 x9
noncomputable def escape_Put.F (a0 : ByteArray) : Option (ByteArray × Int) := lim fun k => escape_Put.f k a0
theorem escape_Put.isL0 (x0 : ByteArray) (x4 : List Int) (x8 : Int) (x9 : Int) : IsLim (fun k => escape_Put.l0 k x0 x4 x8 x9) (escape_Put.L0 x0 x4 x8 x9) := ⟨fun k => (escape_Put.mono_l k) x0 x4 x8 x9, rfl⟩
theorem escape_Put.isF (a0 : ByteArray) : IsLim (fun k => escape_Put.f k a0) (escape_Put.F a0) := ⟨fun k => escape_Put.mono a0 k, rfl⟩
theorem escape_Put.L0_eq (x0 : ByteArray) (x4 : List Int) (x8 : Int) (x9 : Int) : escape_Put.L0 x0 x4 x8 x9 = if x9 < x8 then (if 0 ≤ x9 then (if x9 < (x0.size : Int) then (if (bt x0 x9) = 10 then ((some (([92, 110] : List Int) : List Int)).bind fun y101 => (if x4.length + y101.length < 140737488355328 then (escape_Put.L0 x0 (x4 ++ y101) x8 (wrap64 (x9 + 1))) else (none))) else ((escape_plain.f (bt x0 x9)).bind fun t107 => (if t107 = true then ((strings_IndexByte.f (⟨#[92, 59, 44]⟩ : ByteArray) (bt x0 x9)).bind fun t108 => (if t108 ≥ 0 then ((some (([92, bt x0 x9] : List Int) : List Int)).bind fun y109 => (if x4.length + y109.length < 140737488355328 then (escape_Put.L0 x0 (x4 ++ y109) x8 (wrap64 (x9 + 1))) else (none))) else (if x4.length < 140737488355328 then (escape_Put.L0 x0 (x4 ++ [bt x0 x9]) x8 (wrap64 (x9 + 1))) else (none)))) else (some ((⟨#[]⟩ : ByteArray), 3))))) else (none)) else (none)) else (some (strOfNums x4, 0)) := by
  refine IsLim.step (escape_Put.isL0 x0 x4 x8 x9).mono (f := fun k => if x9 < x8 then (if 0 ≤ x9 then (if x9 < (x0.size : Int) then (if (bt x0 x9) = 10 then ((some (([92, 110] : List Int) : List Int)).bind fun y101 => (if x4.length + y101.length < 140737488355328 then (escape_Put.l0 k x0 (x4 ++ y101) x8 (wrap64 (x9 + 1))) else (none))) else ((escape_plain.f (bt x0 x9)).bind fun t107 => (if t107 = true then ((strings_IndexByte.f (⟨#[92, 59, 44]⟩ : ByteArray) (bt x0 x9)).bind fun t108 => (if t108 ≥ 0 then ((some (([92, bt x0 x9] : List Int) : List Int)).bind fun y109 => (if x4.length + y109.length < 140737488355328 then (escape_Put.l0 k x0 (x4 ++ y109) x8 (wrap64 (x9 + 1))) else (none))) else (if x4.length < 140737488355328 then (escape_Put.l0 k x0 (x4 ++ [bt x0 x9]) x8 (wrap64 (x9 + 1))) else (none)))) else (some ((⟨#[]⟩ : ByteArray), 3))))) else (none)) else (none)) else (some (strOfNums x4, 0))) (fun k => by rw [escape_Put.l0]) ?_
  · repeat' first
    | (with_reducible exact IsLim.const _)
    | (with_reducible exact escape_Put.isL0 _ _ _ _)
    | (with_reducible refine IsLim.ite ?_ ?_)
    | (with_reducible refine IsLim.bind ?_ (fun _ => ?_))
theorem escape_Put.F_eq (a0 : ByteArray) : escape_Put.F a0 = escape_Put.L0 a0 ([] : List Int) (a0.size : Int) 0 := by
  refine IsLim.eq (g := fun k => escape_Put.l0 k a0 ([] : List Int) (a0.size : Int) 0) ?_
  · repeat' first
    | (with_reducible exact IsLim.const _)
    | (with_reducible exact escape_Put.isL0 _ _ _ _)
    | (with_reducible refine IsLim.ite ?_ ?_)
    | (with_reducible refine IsLim.bind ?_ (fun _ => ?_))
noncomputable def escape_Get.L0 (x0 : ByteArray) (x4 : List Int) (x5 : Int) : Option (ByteArray × Int) := lim fun k => escape_Get.l0 k x0 x4 x5
noncomputable def escape_Get.J1 (x0 : ByteArray) (x4 : List Int) (x5 : Int) (x6 : Int) (x7 : Bool) (x17 : Bool) : Option (ByteArray × Int) := lim fun k => escape_Get.j1 k x0 x4 x5 x6 x7 x17
noncomputable def escape_Get.J2 (x0 : ByteArray) (x4 : List Int) (x5 : Int) (x6 : Int) (x7 : Bool) (x36 : Bool) : Option (ByteArray × Int) := lim fun k => escape_Get.j2 k x0 x4 x5 x6 x7 x36
noncomputable def escape_Get.F (a0 : ByteArray) : Option (ByteArray × Int) := lim fun k => escape_Get.f k a0
theorem escape_Get.isL0 (x0 : ByteArray) (x4 : List Int) (x5 : Int) : IsLim (fun k => escape_Get.l0 k x0 x4 x5) (escape_Get.L0 x0 x4 x5) := ⟨fun k => (escape_Get.mono_l k).1 x0 x4 x5, rfl⟩
theorem escape_Get.isJ1 (x0 : ByteArray) (x4 : List Int) (x5 : Int) (x6 : Int) (x7 : Bool) (x17 : Bool) : IsLim (fun k => escape_Get.j1 k x0 x4 x5 x6 x7 x17) (escape_Get.J1 x0 x4 x5 x6 x7 x17) := ⟨fun k => (escape_Get.mono_l k).2.1 x0 x4 x5 x6 x7 x17, rfl⟩
theorem escape_Get.isJ2 (x0 : ByteArray) (x4 : List Int) (x5 : Int) (x6 : Int) (x7 : Bool) (x36 : Bool) : IsLim (fun k => escape_Get.j2 k x0 x4 x5 x6 x7 x36) (escape_Get.J2 x0 x4 x5 x6 x7 x36) := ⟨fun k => (escape_Get.mono_l k).2.2 x0 x4 x5 x6 x7 x36, rfl⟩
theorem escape_Get.isF (a0 : ByteArray) : IsLim (fun k => escape_Get.f k a0) (escape_Get.F a0) := ⟨fun k => escape_Get.mono a0 k, rfl⟩
theorem escape_Get.L0_eq (x0 : ByteArray) (x4 : List Int) (x5 : Int) : escape_Get.L0 x0 x4 x5 = if x5 < (x0.size : Int) then (if 0 ≤ x5 then (if (bt x0 x5) = 92 then (escape_Get.J1 x0 x4 x5 (bt x0 x5) true (decide ((wrap64 (x5 + 1)) < (x0.size : Int)))) else (escape_Get.J1 x0 x4 x5 (bt x0 x5) true false)) else (none)) else (some (strOfNums x4, 0)) := by
  refine IsLim.step (escape_Get.isL0 x0 x4 x5).mono (f := fun k => if x5 < (x0.size : Int) then (if 0 ≤ x5 then (if (bt x0 x5) = 92 then (escape_Get.j1 k x0 x4 x5 (bt x0 x5) true (decide ((wrap64 (x5 + 1)) < (x0.size : Int)))) else (escape_Get.j1 k x0 x4 x5 (bt x0 x5) true false)) else (none)) else (some (strOfNums x4, 0))) (fun k => by rw [escape_Get.l0]) ?_
  · repeat' first
    | (with_reducible exact IsLim.const _)
    | (with_reducible exact escape_Get.isJ1 _ _ _ _ _ _)
    | (with_reducible refine IsLim.ite ?_ ?_)
    | (with_reducible refine IsLim.bind ?_ (fun _ => ?_))
theorem escape_Get.J1_eq (x0 : ByteArray) (x4 : List Int) (x5 : Int) (x6 : Int) (x7 : Bool) (x17 : Bool) : escape_Get.J1 x0 x4 x5 x6 x7 x17 = if x17 = true then (if 0 ≤ (wrap64 (x5 + 1)) then (if (wrap64 (x5 + 1)) < (x0.size : Int) then ((escape_behind.f (bt x0 (wrap64 (x5 + 1)))).bind fun bt119 => (if bt119.2 = true then (if x4.length < 140737488355328 then (escape_Get.L0 x0 (x4 ++ [bt119.1]) (wrap64 ((wrap64 (x5 + 1)) + 1))) else (none)) else (some ((⟨#[]⟩ : ByteArray), 3)))) else (none)) else (none)) else (if x6 = 92 then (escape_Get.J2 x0 x4 x5 x6 x7 true) else ((escape_plain.f x6).bind fun t124 => (if t124 = true then ((strings_IndexByte.f (⟨#[92, 59, 44]⟩ : ByteArray) x6).bind fun t125 => (escape_Get.J2 x0 x4 x5 x6 x7 (decide (t125 ≥ 0)))) else (escape_Get.J2 x0 x4 x5 x6 x7 true)))) := by
  refine IsLim.step (escape_Get.isJ1 x0 x4 x5 x6 x7 x17).mono (f := fun k => if x17 = true then (if 0 ≤ (wrap64 (x5 + 1)) then (if (wrap64 (x5 + 1)) < (x0.size : Int) then ((escape_behind.f (bt x0 (wrap64 (x5 + 1)))).bind fun bt119 => (if bt119.2 = true then (if x4.length < 140737488355328 then (escape_Get.l0 k x0 (x4 ++ [bt119.1]) (wrap64 ((wrap64 (x5 + 1)) + 1))) else (none)) else (some ((⟨#[]⟩ : ByteArray), 3)))) else (none)) else (none)) else (if x6 = 92 then (escape_Get.j2 k x0 x4 x5 x6 x7 true) else ((escape_plain.f x6).bind fun t124 => (if t124 = true then ((strings_IndexByte.f (⟨#[92, 59, 44]⟩ : ByteArray) x6).bind fun t125 => (escape_Get.j2 k x0 x4 x5 x6 x7 (decide (t125 ≥ 0)))) else (escape_Get.j2 k x0 x4 x5 x6 x7 true))))) (fun k => by rw [escape_Get.j1]) ?_
  · repeat' first
    | (with_reducible exact IsLim.const _)
    | (with_reducible exact escape_Get.isJ2 _ _ _ _ _ _)
    | (with_reducible exact escape_Get.isL0 _ _ _)
    | (with_reducible refine IsLim.ite ?_ ?_)
    | (with_reducible refine IsLim.bind ?_ (fun _ => ?_))
theorem escape_Get.J2_eq (x0 : ByteArray) (x4 : List Int) (x5 : Int) (x6 : Int) (x7 : Bool) (x36 : Bool) : escape_Get.J2 x0 x4 x5 x6 x7 x36 = if x36 = true then (some ((⟨#[]⟩ : ByteArray), 3)) else (if x7 = true then (if x4.length < 140737488355328 then (escape_Get.L0 x0 (x4 ++ [x6]) (wrap64 (x5 + 1))) else (none)) else (some ((⟨#[]⟩ : ByteArray), 3))) := by
  refine IsLim.step (escape_Get.isJ2 x0 x4 x5 x6 x7 x36).mono (f := fun k => if x36 = true then (some ((⟨#[]⟩ : ByteArray), 3)) else (if x7 = true then (if x4.length < 140737488355328 then (escape_Get.l0 k x0 (x4 ++ [x6]) (wrap64 (x5 + 1))) else (none)) else (some ((⟨#[]⟩ : ByteArray), 3)))) (fun k => by rw [escape_Get.j2]) ?_
  · repeat' first
    | (with_reducible exact IsLim.const _)
    | (with_reducible exact escape_Get.isL0 _ _ _)
    | (with_reducible refine IsLim.ite ?_ ?_)
    | (with_reducible refine IsLim.bind ?_ (fun _ => ?_))
theorem escape_Get.F_eq (a0 : ByteArray) : escape_Get.F a0 = escape_Get.L0 a0 ([] : List Int) 0 := by
  refine IsLim.eq (g := fun k => escape_Get.l0 k a0 ([] : List Int) 0) ?_
  · repeat' first
    | (with_reducible exact IsLim.const _)
    | (with_reducible exact escape_Get.isL0 _ _ _)
    | (with_reducible refine IsLim.ite ?_ ?_)
    | (with_reducible refine IsLim.bind ?_ (fun _ => ?_))
noncomputable def escape_List.L0 (x0 : List ByteArray) (x4 : List ByteArray) (x9 : List ByteArray) (x10 : Int) (x11 : Int) : Option (ByteArray × Int) := lim fun k => escape_List.l0 k x0 x4 x9 x10 x11
noncomputable def escape_List.F (l0 : List ByteArray) : Option (ByteArray × Int) := lim fun k => escape_List.f k l0
theorem escape_List.isL0 (x0 : List ByteArray) (x4 : List ByteArray) (x9 : List ByteArray) (x10 : Int) (x11 : Int) : IsLim (fun k => escape_List.l0 k x0 x4 x9 x10 x11) (escape_List.L0 x0 x4 x9 x10 x11) := ⟨fun k => (escape_List.mono_l k) x0 x4 x9 x10 x11, rfl⟩
theorem escape_List.isF (l0 : List ByteArray) : IsLim (fun k => escape_List.f k l0) (escape_List.F l0) := ⟨fun k => escape_List.mono l0 k, rfl⟩
theorem escape_List.L0_eq (x0 : List ByteArray) (x4 : List ByteArray) (x9 : List ByteArray) (x10 : Int) (x11 : Int) : escape_List.L0 x0 x4 x9 x10 x11 = if x11 < x10 then (if 0 ≤ x11 then (if x11 < (x9.length : Int) then ((escape_Put.F (rdOf ByteArray.empty x9 x11)).bind fun bt130 => (if bt130.2 = 0 then (if x4.length < 8796093022208 then (escape_List.L0 x0 (x4 ++ [bt130.1]) x9 x10 (wrap64 (x11 + 1))) else (none)) else (some ((⟨#[]⟩ : ByteArray), bt130.2)))) else (none)) else (none)) else (if (x0.length : Int) = 0 then (some ((⟨#[]⟩ : ByteArray), 2)) else ((strings_Join.f x4 (⟨#[44]⟩ : ByteArray)).bind fun t135 => (some (t135, 0)))) := by
  refine IsLim.step (escape_List.isL0 x0 x4 x9 x10 x11).mono (f := fun k => if x11 < x10 then (if 0 ≤ x11 then (if x11 < (x9.length : Int) then ((escape_Put.f k (rdOf ByteArray.empty x9 x11)).bind fun bt130 => (if bt130.2 = 0 then (if x4.length < 8796093022208 then (escape_List.l0 k x0 (x4 ++ [bt130.1]) x9 x10 (wrap64 (x11 + 1))) else (none)) else (some ((⟨#[]⟩ : ByteArray), bt130.2)))) else (none)) else (none)) else (if (x0.length : Int) = 0 then (some ((⟨#[]⟩ : ByteArray), 2)) else ((strings_Join.f x4 (⟨#[44]⟩ : ByteArray)).bind fun t135 => (some (t135, 0))))) (fun k => by rw [escape_List.l0]) ?_
  · repeat' first
    | (with_reducible exact IsLim.const _)
    | (with_reducible exact escape_List.isL0 _ _ _ _ _)
    | (with_reducible exact escape_Put.isF _)
    | (with_reducible refine IsLim.ite ?_ ?_)
    | (with_reducible refine IsLim.bind ?_ (fun _ => ?_))
theorem escape_List.F_eq (l0 : List ByteArray) : escape_List.F l0 = escape_List.L0 l0 ([] : List ByteArray) l0 (l0.length : Int) 0 := by
  refine IsLim.eq (g := fun k => escape_List.l0 k l0 ([] : List ByteArray) l0 (l0.length : Int) 0) ?_
  · repeat' first
    | (with_reducible exact IsLim.const _)
    | (with_reducible exact escape_List.isL0 _ _ _ _ _)
    | (with_reducible refine IsLim.ite ?_ ?_)
    | (with_reducible refine IsLim.bind ?_ (fun _ => ?_))
end Go.Proofs.Ytookjnpmbenheaa.PEsc
