/- Functions of the family Rec without a bound on their rounds, and the equation that each meets. No condition. -/
import Derived.Test.YtjanombhdnoemaaGreatDoorBase
import Derived.Test.YtjanombhdnoemaaGreatDoorRecP
import Derived.Test.YtjanombhdnoemaaGreatDoorERecx11
import Derived.Test.YtjanombhdnoemaaGreatDoorERecx12
import Derived.Test.YtjanombhdnoemaaGreatDoorRecQ
import Derived.Test.YtjanombhdnoemaaGreatDoorERechRecE
/- Functions of the family Rec without a bound on their rounds, and the equation that each meets. No condition. -/
namespace Go.Proofs.YtjanombhdnoemaaGreatDoor.PRec
open Go.RowKit Go.Proofs.YtjanombhdnoemaaGreatDoorW.PrintWords Go.Proofs.YtjanombhdnoemaaGreatDoorW.PrintLast Go.Proofs.YtjanombhdnoemaaGreatDoorW.PrintMore Go.Proofs.YtjanombhdnoemaaGreatDoor.Base
set_option linter.unusedVariables false
noncomputable def pt_rest.F (a1 : ByteArray) (a2 : ByteArray) : Option (Bool × Upd) := lim fun k => pt_rest k a1 a2
theorem pt_rest.isF (a1 : ByteArray) (a2 : ByteArray) : IsLim (fun k => pt_rest k a1 a2) (pt_rest.F a1 a2) := ⟨fun k => pt_rest.mono a1 a2 k, rfl⟩
theorem pt_rest.F_eq (a1 : ByteArray) (a2 : ByteArray) : pt_rest.F a1 a2 = (recur_word.F ([(⟨#[70, 82, 69, 81]⟩ : ByteArray), (⟨#[73, 78, 84, 69, 82, 86, 65, 76]⟩ : ByteArray), (⟨#[67, 79, 85, 78, 84]⟩ : ByteArray), (⟨#[85, 78, 84, 73, 76]⟩ : ByteArray), (⟨#[66, 89, 68, 65, 89]⟩ : ByteArray), (⟨#[87, 75, 83, 84]⟩ : ByteArray)] : List ByteArray) a1).bind fun t => if t.2 = true then (if t.1 = 0 then (recur_freqs.f.bind fun fr => (recur_word.F fr a2).bind fun t2 => some (t2.2, .num 0 (wrap64 (1 + t2.1)))) else (if t.1 = 1 then ((recur_number.F a2 false).bind fun t2 => some (t2.2, .num 1 t2.1)) else (if t.1 = 2 then ((recur_number.F a2 false).bind fun t2 => some (if t2.2 = true then decide (t2.1 > 0) else false, .num 2 t2.1)) else (if t.1 = 3 then ((value_ParseTime.F a2).bind fun t2 => some (t2.2.2 == 0, .til t2.1 t2.2.1)) else (if t.1 = 4 then ((recur_byDays.F a2).bind fun t2 => some (t2.2, .dys t2.1)) else (recur_weekdays.f.bind fun wd => (recur_word.F wd a2).bind fun t2 => some (t2.2, .num 15 t2.1))))))) else some (false, .no) := by
  apply IsLim.via
  case hf =>
    repeat'
      try intro _
      first
      | (with_reducible exact recur_byDays.isF _)
      | (with_reducible exact recur_number.isF _ _)
      | (with_reducible exact recur_word.isF _ _)
      | (with_reducible exact value_ParseTime.isF _)
      | (with_reducible apply IsLim.ite)
      | (with_reducible apply IsLim.bind)
      | (apply IsLim.cst; intro _; exact rfl)
  case h => exact fun _ => rfl
noncomputable def recur_part.L0 (a1 : ByteArray) (a2 : ByteArray) (x2 : Int) : Option (Bool × Upd) := lim fun k => recur_part.l0 k a1 a2 x2
noncomputable def recur_part.F (a1 : ByteArray) (a2 : ByteArray) : Option (Bool × Upd) := lim fun k => recur_part.f k a1 a2
theorem recur_part.isL0 (a1 : ByteArray) (a2 : ByteArray) (x2 : Int) : IsLim (fun k => recur_part.l0 k a1 a2 x2) (recur_part.L0 a1 a2 x2) := ⟨fun k => (recur_part.mono_l k) a1 a2 x2, rfl⟩
theorem recur_part.isF (a1 : ByteArray) (a2 : ByteArray) : IsLim (fun k => recur_part.f k a1 a2) (recur_part.F a1 a2) := ⟨fun k => recur_part.mono a1 a2 k, rfl⟩
theorem recur_part.L0_eq (a1 : ByteArray) (a2 : ByteArray) (x2 : Int) : recur_part.L0 a1 a2 x2 = if x2 < 8 then (if 0 ≤ x2 then ((line_Alike.F (rdOf ptZ ptL x2).1 a1).bind fun t => (if t = true then ((recur_numbers.F a2 (rdOf ptZ ptL x2).2.2).bind fun t2 => some (t2.2, .lst (rdOf ptZ ptL x2).2.1 t2.1)) else recur_part.L0 a1 a2 (wrap64 (x2 + 1)))) else none) else pt_rest.F a1 a2 := by
  apply IsLim.step (recur_part.isL0 a1 a2 x2).mono
  case hf =>
    repeat'
      try intro _
      first
      | (with_reducible exact line_Alike.isF _ _)
      | (with_reducible exact pt_rest.isF _ _)
      | (with_reducible exact recur_numbers.isF _ _)
      | (with_reducible exact recur_part.isL0 _ _ _)
      | (with_reducible apply IsLim.ite)
      | (with_reducible apply IsLim.bind)
      | (apply IsLim.cst; intro _; exact rfl)
  case h => intro k; rw [recur_part.l0]
theorem recur_part.F_eq (a1 : ByteArray) (a2 : ByteArray) : recur_part.F a1 a2 = recur_part.L0 a1 a2 0 := by
  apply IsLim.via
  case hf =>
    repeat'
      try intro _
      first
      | (with_reducible exact recur_part.isL0 _ _ _)
      | (with_reducible apply IsLim.ite)
      | (with_reducible apply IsLim.bind)
      | (apply IsLim.cst; intro _; exact rfl)
  case h => exact fun _ => rfl
end Go.Proofs.YtjanombhdnoemaaGreatDoor.PRec

namespace Go.Proofs.YtjanombhdnoemaaGreatDoor.PRec
open Go.RowKit Go.Proofs.YtjanombhdnoemaaGreatDoorW.PrintWords Go.Proofs.YtjanombhdnoemaaGreatDoorW.PrintLast Go.Proofs.YtjanombhdnoemaaGreatDoorW.PrintMore Go.Proofs.YtjanombhdnoemaaGreatDoor.Base
set_option linter.unusedVariables false
noncomputable def pa_end.F (x : RV) (y : List ByteArray) : Option (RV × Int) := lim fun k => pa_end k x y
theorem pa_end.isF (x : RV) (y : List ByteArray) : IsLim (fun k => pa_end k x y) (pa_end.F x y) := ⟨fun k => pa_end.mono x y k, rfl⟩
theorem pa_end.F_eq (x : RV) (y : List ByteArray) : pa_end.F x y = (recur_twice_string.F y).bind fun t => if t = true then some (RV.zero, (21 : Int)) else ((recur_Check.F (x.n 0) (x.n 1) (x.n 2) x.u x.t x.z (x.l 6) (x.l 7) (x.l 8) x.d (x.l 10) (x.l 11) (x.l 12) (x.l 13) (x.l 14) (x.n 15)).bind fun e => if e = 0 then some (x, (0 : Int)) else some (RV.zero, (21 : Int))) := by
  apply IsLim.via
  case hf =>
    repeat'
      try intro _
      first
      | (with_reducible exact recur_Check.isF _ _ _ _ _ _ _ _ _ _ _ _ _ _ _ _)
      | (with_reducible exact recur_twice_string.isF _)
      | (with_reducible apply IsLim.ite)
      | (with_reducible apply IsLim.bind)
      | (apply IsLim.cst; intro _; exact rfl)
  case h => exact fun _ => rfl
noncomputable def recur_Parse.L0 (x0 : List ByteArray) (x : RV) (y : List ByteArray) (i : Int) : Option (RV × Int) := lim fun k => recur_Parse.l0 k x0 x y i
noncomputable def recur_Parse.F (a0 : ByteArray) : Option (Int × Int × Int × Bool × Int × Bool × (List Int) × (List Int) × (List Int) × (List (S38)) × (List Int) × (List Int) × (List Int) × (List Int) × (List Int) × Int × Int) := lim fun k => recur_Parse.f k a0
theorem recur_Parse.isL0 (x0 : List ByteArray) (x : RV) (y : List ByteArray) (i : Int) : IsLim (fun k => recur_Parse.l0 k x0 x y i) (recur_Parse.L0 x0 x y i) := ⟨fun k => (recur_Parse.mono_l k) x0 x y i, rfl⟩
theorem recur_Parse.isF (a0 : ByteArray) : IsLim (fun k => recur_Parse.f k a0) (recur_Parse.F a0) := ⟨fun k => recur_Parse.mono a0 k, rfl⟩
theorem recur_Parse.L0_eq (x0 : List ByteArray) (x : RV) (y : List ByteArray) (i : Int) : recur_Parse.L0 x0 x y i = if i < (x0.length : Int) then (if 0 ≤ i then ((strings_Cut.f (rdOf ByteArray.empty x0 i) (⟨#[61]⟩ : ByteArray)).bind fun t => (if t.2.2 = true then ((recur_part.F t.1 t.2.1).bind fun t2 => (if t2.1 = true then ((recur_large.f t.1).bind fun t3 => (if y.length < 8796093022208 then recur_Parse.L0 x0 (x.upd t2.2) (y ++ [t3]) (wrap64 (i + 1)) else none)) else some (RV.zero, (21 : Int)))) else some (RV.zero, (21 : Int)))) else none) else pa_end.F x y := by
  apply IsLim.step (recur_Parse.isL0 x0 x y i).mono
  case hf =>
    repeat'
      try intro _
      first
      | (with_reducible exact pa_end.isF _ _)
      | (with_reducible exact recur_Parse.isL0 _ _ _ _)
      | (with_reducible exact recur_part.isF _ _)
      | (with_reducible apply IsLim.ite)
      | (with_reducible apply IsLim.bind)
      | (apply IsLim.cst; intro _; exact rfl)
  case h => intro k; rw [recur_Parse.l0]
theorem recur_Parse.F_eq (a0 : ByteArray) : recur_Parse.F a0 = (strings_Split.f a0 (⟨#[59]⟩ : ByteArray)).bind fun t => (recur_Parse.L0 t RV.one ([] : List ByteArray) 0).bind fun p => some (p.1.flat p.2) := by
  apply IsLim.via
  case hf =>
    repeat'
      try intro _
      first
      | (with_reducible exact recur_Parse.isL0 _ _ _ _)
      | (with_reducible apply IsLim.ite)
      | (with_reducible apply IsLim.bind)
      | (apply IsLim.cst; intro _; exact rfl)
  case h => exact fun _ => rfl
end Go.Proofs.YtjanombhdnoemaaGreatDoor.PRec
