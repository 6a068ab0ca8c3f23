/- Functions of the family Rec without a bound on their rounds, and the equation that each meets. No condition. -/
import Derived.Test.YtjanombhdnoemaaGreatDoorBase
import Derived.Test.YtjanombhdnoemaaGreatDoorPRecx3
import Derived.Test.YtjanombhdnoemaaGreatDoorERecx11
import Derived.Test.YtjanombhdnoemaaGreatDoorRecA
import Derived.Test.YtjanombhdnoemaaGreatDoorRecC
import Derived.Test.YtjanombhdnoemaaGreatDoorRecE
/- Functions of the family Rec without a bound on their rounds, and the equation that each meets. No condition. -/
namespace Go.Proofs.YtjanombhdnoemaaGreatDoor.PRec
open Go.RowKit Go.Proofs.YtjanombhdnoemaaGreatDoorW.PrintWords Go.Proofs.YtjanombhdnoemaaGreatDoorW.PrintLast Go.Proofs.YtjanombhdnoemaaGreatDoorW.PrintMore Go.Proofs.YtjanombhdnoemaaGreatDoor.Base
set_option linter.unusedVariables false
noncomputable def recur_ends.J0 (x19 : Bool) (x124000 : Int) (x124001 : Int) (x124002 : Int) (x124003 : Bool) (x124004 : Int) (x124005 : Bool) (x124006 : List Int) (x124007 : List Int) (x124008 : List Int) (x124009 : List (S38)) (x124010 : List Int) (x124011 : List Int) (x124012 : List Int) (x124013 : List Int) (x124014 : List Int) (x124015 : Int) : Option (Bool) := lim fun k => recur_ends.j0 k x19 x124000 x124001 x124002 x124003 x124004 x124005 x124006 x124007 x124008 x124009 x124010 x124011 x124012 x124013 x124014 x124015
noncomputable def recur_ends.F (a0_0 : Int) (a0_1 : Int) (a0_2 : Int) (a0_3 : Bool) (a0_4 : Int) (a0_5 : Bool) (l0_6 : List Int) (l0_7 : List Int) (l0_8 : List Int) (l0_9 : List (S38)) (l0_10 : List Int) (l0_11 : List Int) (l0_12 : List Int) (l0_13 : List Int) (l0_14 : List Int) (a0_15 : Int) : Option (Bool) := lim fun k => recur_ends.f k a0_0 a0_1 a0_2 a0_3 a0_4 a0_5 l0_6 l0_7 l0_8 l0_9 l0_10 l0_11 l0_12 l0_13 l0_14 a0_15
theorem recur_ends.isJ0 (x19 : Bool) (x124000 : Int) (x124001 : Int) (x124002 : Int) (x124003 : Bool) (x124004 : Int) (x124005 : Bool) (x124006 : List Int) (x124007 : List Int) (x124008 : List Int) (x124009 : List (S38)) (x124010 : List Int) (x124011 : List Int) (x124012 : List Int) (x124013 : List Int) (x124014 : List Int) (x124015 : Int) : IsLim (fun k => recur_ends.j0 k x19 x124000 x124001 x124002 x124003 x124004 x124005 x124006 x124007 x124008 x124009 x124010 x124011 x124012 x124013 x124014 x124015) (recur_ends.J0 x19 x124000 x124001 x124002 x124003 x124004 x124005 x124006 x124007 x124008 x124009 x124010 x124011 x124012 x124013 x124014 x124015) := ⟨fun k => (recur_ends.mono_l k) x19 x124000 x124001 x124002 x124003 x124004 x124005 x124006 x124007 x124008 x124009 x124010 x124011 x124012 x124013 x124014 x124015, rfl⟩
theorem recur_ends.isF (a0_0 : Int) (a0_1 : Int) (a0_2 : Int) (a0_3 : Bool) (a0_4 : Int) (a0_5 : Bool) (l0_6 : List Int) (l0_7 : List Int) (l0_8 : List Int) (l0_9 : List (S38)) (l0_10 : List Int) (l0_11 : List Int) (l0_12 : List Int) (l0_13 : List Int) (l0_14 : List Int) (a0_15 : Int) : IsLim (fun k => recur_ends.f k a0_0 a0_1 a0_2 a0_3 a0_4 a0_5 l0_6 l0_7 l0_8 l0_9 l0_10 l0_11 l0_12 l0_13 l0_14 a0_15) (recur_ends.F a0_0 a0_1 a0_2 a0_3 a0_4 a0_5 l0_6 l0_7 l0_8 l0_9 l0_10 l0_11 l0_12 l0_13 l0_14 a0_15) := ⟨fun k => recur_ends.mono a0_0 a0_1 a0_2 a0_3 a0_4 a0_5 l0_6 l0_7 l0_8 l0_9 l0_10 l0_11 l0_12 l0_13 l0_14 a0_15 k, rfl⟩
theorem recur_ends.J0_eq (x19 : Bool) (x124000 : Int) (x124001 : Int) (x124002 : Int) (x124003 : Bool) (x124004 : Int) (x124005 : Bool) (x124006 : List Int) (x124007 : List Int) (x124008 : List Int) (x124009 : List (S38)) (x124010 : List Int) (x124011 : List Int) (x124012 : List Int) (x124013 : List Int) (x124014 : List Int) (x124015 : Int) : recur_ends.J0 x19 x124000 x124001 x124002 x124003 x124004 x124005 x124006 x124007 x124008 x124009 x124010 x124011 x124012 x124013 x124014 x124015 = if x19 = true then (some false) else (if x124003 = true then ((recur_year.F x124004).bind fun t124 => (some t124)) else (if x124004 = 0 then (some (!x124005)) else (some false))) := by
  apply IsLim.step (recur_ends.isJ0 x19 x124000 x124001 x124002 x124003 x124004 x124005 x124006 x124007 x124008 x124009 x124010 x124011 x124012 x124013 x124014 x124015).mono
  case hf =>
    repeat'
      try intro _
      first
      | (with_reducible exact recur_year.isF _)
      | (with_reducible apply IsLim.ite)
      | (with_reducible apply IsLim.bind)
      | (apply IsLim.cst; intro _; exact rfl)
  case h => intro k; rw [recur_ends.j0]
theorem recur_ends.F_eq (a0_0 : Int) (a0_1 : Int) (a0_2 : Int) (a0_3 : Bool) (a0_4 : Int) (a0_5 : Bool) (l0_6 : List Int) (l0_7 : List Int) (l0_8 : List Int) (l0_9 : List (S38)) (l0_10 : List Int) (l0_11 : List Int) (l0_12 : List Int) (l0_13 : List Int) (l0_14 : List Int) (a0_15 : Int) : recur_ends.F a0_0 a0_1 a0_2 a0_3 a0_4 a0_5 l0_6 l0_7 l0_8 l0_9 l0_10 l0_11 l0_12 l0_13 l0_14 a0_15 = if a0_2 < 0 then (recur_ends.J0 true a0_0 a0_1 a0_2 a0_3 a0_4 a0_5 l0_6 l0_7 l0_8 l0_9 l0_10 l0_11 l0_12 l0_13 l0_14 a0_15) else (if a0_2 > 100000 then (recur_ends.J0 true a0_0 a0_1 a0_2 a0_3 a0_4 a0_5 l0_6 l0_7 l0_8 l0_9 l0_10 l0_11 l0_12 l0_13 l0_14 a0_15) else (if a0_3 = true then (recur_ends.J0 (decide (a0_2 > 0)) a0_0 a0_1 a0_2 a0_3 a0_4 a0_5 l0_6 l0_7 l0_8 l0_9 l0_10 l0_11 l0_12 l0_13 l0_14 a0_15) else (recur_ends.J0 false a0_0 a0_1 a0_2 a0_3 a0_4 a0_5 l0_6 l0_7 l0_8 l0_9 l0_10 l0_11 l0_12 l0_13 l0_14 a0_15))) := by
  apply IsLim.via
  case hf =>
    repeat'
      try intro _
      first
      | (with_reducible exact recur_ends.isJ0 _ _ _ _ _ _ _ _ _ _ _ _ _ _ _ _ _)
      | (with_reducible apply IsLim.ite)
      | (with_reducible apply IsLim.bind)
      | (apply IsLim.cst; intro _; exact rfl)
  case h => exact fun _ => rfl
end Go.Proofs.YtjanombhdnoemaaGreatDoor.PRec

/- Functions of the family Rec without a bound on their rounds, and the equation that each meets. No condition. -/
/- Functions of the family Rec without a bound on their rounds, and the equation that each meets. No condition. -/
namespace Go.Proofs.YtjanombhdnoemaaGreatDoor.PRec
open Go.RowKit Go.Proofs.YtjanombhdnoemaaGreatDoorW.PrintWords Go.Proofs.YtjanombhdnoemaaGreatDoorW.PrintLast Go.Proofs.YtjanombhdnoemaaGreatDoorW.PrintMore Go.Proofs.YtjanombhdnoemaaGreatDoor.Base
set_option linter.unusedVariables false
noncomputable def recur_twice_int.L0 (x0 : List Int) (x1 : List Int) (x2 : Int) : Option (Bool) := lim fun k => recur_twice_int.l0 k x0 x1 x2
noncomputable def recur_twice_int.F (l0 : List Int) : Option (Bool) := lim fun k => recur_twice_int.f k l0
theorem recur_twice_int.isL0 (x0 : List Int) (x1 : List Int) (x2 : Int) : IsLim (fun k => recur_twice_int.l0 k x0 x1 x2) (recur_twice_int.L0 x0 x1 x2) := ⟨fun k => (recur_twice_int.mono_l k) x0 x1 x2, rfl⟩
theorem recur_twice_int.isF (l0 : List Int) : IsLim (fun k => recur_twice_int.f k l0) (recur_twice_int.F l0) := ⟨fun k => recur_twice_int.mono l0 k, rfl⟩
theorem recur_twice_int.L0_eq (x0 : List Int) (x1 : List Int) (x2 : Int) : recur_twice_int.L0 x0 x1 x2 = if x2 < (x0.length : Int) then (if 0 ≤ x2 then (if -9223372036854775808 ≤ (rd x0 x2) ∧ (rd x0 x2) ≤ 9223372036854775807 then (if RecM.hasB x1 (rd x0 x2) = true then (some true) else (if x1.length < 1000000000 then (recur_twice_int.L0 x0 (x1 ++ [(rd x0 x2)]) (wrap64 (x2 + 1))) else (none))) else (none)) else (none)) else (some false) := by
  apply IsLim.step (recur_twice_int.isL0 x0 x1 x2).mono
  case hf =>
    repeat'
      try intro _
      first
      | (with_reducible exact recur_twice_int.isL0 _ _ _)
      | (with_reducible apply IsLim.ite)
      | (with_reducible apply IsLim.bind)
      | (apply IsLim.cst; intro _; exact rfl)
  case h => intro k; rw [recur_twice_int.l0]
theorem recur_twice_int.F_eq (l0 : List Int) : recur_twice_int.F l0 = recur_twice_int.L0 l0 ([] : List Int) 0 := by
  apply IsLim.via
  case hf =>
    repeat'
      try intro _
      first
      | (with_reducible exact recur_twice_int.isL0 _ _ _)
      | (with_reducible apply IsLim.ite)
      | (with_reducible apply IsLim.bind)
      | (apply IsLim.cst; intro _; exact rfl)
  case h => exact fun _ => rfl
noncomputable def recur_twice_string.L0 (x0 : List ByteArray) (x1 : List ByteArray) (x2 : Int) : Option (Bool) := lim fun k => recur_twice_string.l0 k x0 x1 x2
noncomputable def recur_twice_string.F (l0 : List ByteArray) : Option (Bool) := lim fun k => recur_twice_string.f k l0
theorem recur_twice_string.isL0 (x0 : List ByteArray) (x1 : List ByteArray) (x2 : Int) : IsLim (fun k => recur_twice_string.l0 k x0 x1 x2) (recur_twice_string.L0 x0 x1 x2) := ⟨fun k => (recur_twice_string.mono_l k) x0 x1 x2, rfl⟩
theorem recur_twice_string.isF (l0 : List ByteArray) : IsLim (fun k => recur_twice_string.f k l0) (recur_twice_string.F l0) := ⟨fun k => recur_twice_string.mono l0 k, rfl⟩
theorem recur_twice_string.L0_eq (x0 : List ByteArray) (x1 : List ByteArray) (x2 : Int) : recur_twice_string.L0 x0 x1 x2 = if x2 < (x0.length : Int) then (if 0 ≤ x2 then (if (rdOf ByteArray.empty x0 x2).size ≤ 140737488351232 then (if RecM.hasB x1 (rdOf ByteArray.empty x0 x2) = true then (some true) else (if x1.length < 1000000000 then (recur_twice_string.L0 x0 (x1 ++ [(rdOf ByteArray.empty x0 x2)]) (wrap64 (x2 + 1))) else (none))) else (none)) else (none)) else (some false) := by
  apply IsLim.step (recur_twice_string.isL0 x0 x1 x2).mono
  case hf =>
    repeat'
      try intro _
      first
      | (with_reducible exact recur_twice_string.isL0 _ _ _)
      | (with_reducible apply IsLim.ite)
      | (with_reducible apply IsLim.bind)
      | (apply IsLim.cst; intro _; exact rfl)
  case h => intro k; rw [recur_twice_string.l0]
theorem recur_twice_string.F_eq (l0 : List ByteArray) : recur_twice_string.F l0 = recur_twice_string.L0 l0 ([] : List ByteArray) 0 := by
  apply IsLim.via
  case hf =>
    repeat'
      try intro _
      first
      | (with_reducible exact recur_twice_string.isL0 _ _ _)
      | (with_reducible apply IsLim.ite)
      | (with_reducible apply IsLim.bind)
      | (apply IsLim.cst; intro _; exact rfl)
  case h => exact fun _ => rfl
noncomputable def recur_twiceD.L0 (x0 : List (S38)) (x1 : List (S38)) (x2 : Int) : Option (Bool) := lim fun k => recur_twiceD.l0 k x0 x1 x2
noncomputable def recur_twiceD.F (l0 : List (S38)) : Option (Bool) := lim fun k => recur_twiceD.f k l0
theorem recur_twiceD.isL0 (x0 : List (S38)) (x1 : List (S38)) (x2 : Int) : IsLim (fun k => recur_twiceD.l0 k x0 x1 x2) (recur_twiceD.L0 x0 x1 x2) := ⟨fun k => (recur_twiceD.mono_l k) x0 x1 x2, rfl⟩
theorem recur_twiceD.isF (l0 : List (S38)) : IsLim (fun k => recur_twiceD.f k l0) (recur_twiceD.F l0) := ⟨fun k => recur_twiceD.mono l0 k, rfl⟩
theorem recur_twiceD.L0_eq (x0 : List (S38)) (x1 : List (S38)) (x2 : Int) : recur_twiceD.L0 x0 x1 x2 = if x2 < (x0.length : Int) then (if 0 ≤ x2 then (if (-9223372036854775808 ≤ (rd_T38 x0 x2).f0 ∧ (rd_T38 x0 x2).f0 ≤ 9223372036854775807) ∧ (-9223372036854775808 ≤ (rd_T38 x0 x2).f1 ∧ (rd_T38 x0 x2).f1 ≤ 9223372036854775807) then (if RecM.hasB x1 (rd_T38 x0 x2) = true then (some true) else (if x1.length < 1000000000 then (recur_twiceD.L0 x0 (x1 ++ [(rd_T38 x0 x2)]) (wrap64 (x2 + 1))) else (none))) else (none)) else (none)) else (some false) := by
  apply IsLim.step (recur_twiceD.isL0 x0 x1 x2).mono
  case hf =>
    repeat'
      try intro _
      first
      | (with_reducible exact recur_twiceD.isL0 _ _ _)
      | (with_reducible apply IsLim.ite)
      | (with_reducible apply IsLim.bind)
      | (apply IsLim.cst; intro _; exact rfl)
  case h => intro k; rw [recur_twiceD.l0]
theorem recur_twiceD.F_eq (l0 : List (S38)) : recur_twiceD.F l0 = recur_twiceD.L0 l0 ([] : List (S38)) 0 := by
  apply IsLim.via
  case hf =>
    repeat'
      try intro _
      first
      | (with_reducible exact recur_twiceD.isL0 _ _ _)
      | (with_reducible apply IsLim.ite)
      | (with_reducible apply IsLim.bind)
      | (apply IsLim.cst; intro _; exact rfl)
  case h => exact fun _ => rfl
end Go.Proofs.YtjanombhdnoemaaGreatDoor.PRec

namespace Go.Proofs.YtjanombhdnoemaaGreatDoor.PRec
open Go.RowKit Go.Proofs.YtjanombhdnoemaaGreatDoorW.PrintWords Go.Proofs.YtjanombhdnoemaaGreatDoorW.PrintLast Go.Proofs.YtjanombhdnoemaaGreatDoorW.PrintMore Go.Proofs.YtjanombhdnoemaaGreatDoor.Base
set_option linter.unusedVariables false
noncomputable def recur_days.F (a0 : Int) (l12 : List Int) (l9 : List (S38)) : Option (Bool) := lim fun k => recur_days.f k a0 l12 l9
theorem recur_days.isF (a0 : Int) (l12 : List Int) (l9 : List (S38)) : IsLim (fun k => recur_days.f k a0 l12 l9) (recur_days.F a0 l12 l9) := ⟨fun k => recur_days.mono a0 l12 l9 k, rfl⟩
theorem recur_days.F_eq (a0 : Int) (l12 : List Int) (l9 : List (S38)) : recur_days.F a0 l12 l9 = if l9.any (wrD ((a0 == 6 || a0 == 7) && ((l12.length : Int) == 0))) = true then (some false) else ((recur_twiceD.F l9).bind fun t1 => (some (!t1))) := by
  apply IsLim.via
  case hf =>
    repeat'
      try intro _
      first
      | (with_reducible exact recur_twiceD.isF _)
      | (with_reducible apply IsLim.ite)
      | (with_reducible apply IsLim.bind)
      | (apply IsLim.cst; intro _; exact rfl)
  case h => exact fun _ => rfl
noncomputable def recur_right.F (lo : Int) (hi : Int) (ng : Bool) (l0 : List Int) : Option (Bool) := lim fun k => recur_right.f k lo hi ng l0
theorem recur_right.isF (lo : Int) (hi : Int) (ng : Bool) (l0 : List Int) : IsLim (fun k => recur_right.f k lo hi ng l0) (recur_right.F lo hi ng l0) := ⟨fun k => recur_right.mono lo hi ng l0 k, rfl⟩
theorem recur_right.F_eq (lo : Int) (hi : Int) (ng : Bool) (l0 : List Int) : recur_right.F lo hi ng l0 = if l0.any (wrI lo hi ng) = true then (some false) else ((recur_twice_int.F l0).bind fun t1 => (some (!t1))) := by
  apply IsLim.via
  case hf =>
    repeat'
      try intro _
      first
      | (with_reducible exact recur_twice_int.isF _)
      | (with_reducible apply IsLim.ite)
      | (with_reducible apply IsLim.bind)
      | (apply IsLim.cst; intro _; exact rfl)
  case h => exact fun _ => rfl
end Go.Proofs.YtjanombhdnoemaaGreatDoor.PRec

namespace Go.Proofs.YtjanombhdnoemaaGreatDoor.PRec
open Go.RowKit Go.Proofs.YtjanombhdnoemaaGreatDoorW.PrintWords Go.Proofs.YtjanombhdnoemaaGreatDoorW.PrintLast Go.Proofs.YtjanombhdnoemaaGreatDoorW.PrintMore Go.Proofs.YtjanombhdnoemaaGreatDoor.Base
set_option linter.unusedVariables false
noncomputable def recur_rights.F (l13 : List Int) (l12 : List Int) (l11 : List Int) (l10 : List Int) (l8 : List Int) (l7 : List Int) (l6 : List Int) (l14 : List Int) : Option (Bool) := lim fun k => recur_rights.f k l13 l12 l11 l10 l8 l7 l6 l14
theorem recur_rights.isF (l13 : List Int) (l12 : List Int) (l11 : List Int) (l10 : List Int) (l8 : List Int) (l7 : List Int) (l6 : List Int) (l14 : List Int) : IsLim (fun k => recur_rights.f k l13 l12 l11 l10 l8 l7 l6 l14) (recur_rights.F l13 l12 l11 l10 l8 l7 l6 l14) := ⟨fun k => recur_rights.mono l13 l12 l11 l10 l8 l7 l6 l14 k, rfl⟩
theorem recur_rights.F_eq (l13 : List Int) (l12 : List Int) (l11 : List Int) (l10 : List Int) (l8 : List Int) (l7 : List Int) (l6 : List Int) (l14 : List Int) : recur_rights.F l13 l12 l11 l10 l8 l7 l6 l14 = (recur_right.F 1 12 false l13).bind fun r13 => ((recur_right.F 1 53 true l12).bind fun r12 => ((recur_right.F 1 366 true l11).bind fun r11 => ((recur_right.F 1 31 true l10).bind fun r10 => ((recur_right.F 0 23 false l8).bind fun r8 => ((recur_right.F 0 59 false l7).bind fun r7 => ((recur_right.F 0 59 false l6).bind fun r6 => ((recur_right.F 1 366 true l14).bind fun r14 => (some (!r13 || (!r12 || (!r11 || (!r10 || (!r8 || (!r7 || (!r6 || (!r14 || false)))))))))))))))) := by
  apply IsLim.via
  case hf =>
    repeat'
      try intro _
      first
      | (with_reducible exact recur_right.isF _ _ _ _)
      | (with_reducible apply IsLim.ite)
      | (with_reducible apply IsLim.bind)
      | (apply IsLim.cst; intro _; exact rfl)
  case h => exact fun _ => rfl
noncomputable def recur_Check.F (a0 : Int) (a1 : Int) (a2 : Int) (a3 : Bool) (a4 : Int) (a5 : Bool) (l6 : List Int) (l7 : List Int) (l8 : List Int) (l9 : List (S38)) (l10 : List Int) (l11 : List Int) (l12 : List Int) (l13 : List Int) (l14 : List Int) (a15 : Int) : Option (Int) := lim fun k => recur_Check.f k a0 a1 a2 a3 a4 a5 l6 l7 l8 l9 l10 l11 l12 l13 l14 a15
theorem recur_Check.isF (a0 : Int) (a1 : Int) (a2 : Int) (a3 : Bool) (a4 : Int) (a5 : Bool) (l6 : List Int) (l7 : List Int) (l8 : List Int) (l9 : List (S38)) (l10 : List Int) (l11 : List Int) (l12 : List Int) (l13 : List Int) (l14 : List Int) (a15 : Int) : IsLim (fun k => recur_Check.f k a0 a1 a2 a3 a4 a5 l6 l7 l8 l9 l10 l11 l12 l13 l14 a15) (recur_Check.F a0 a1 a2 a3 a4 a5 l6 l7 l8 l9 l10 l11 l12 l13 l14 a15) := ⟨fun k => recur_Check.mono a0 a1 a2 a3 a4 a5 l6 l7 l8 l9 l10 l11 l12 l13 l14 a15 k, rfl⟩
theorem recur_Check.F_eq (a0 : Int) (a1 : Int) (a2 : Int) (a3 : Bool) (a4 : Int) (a5 : Bool) (l6 : List Int) (l7 : List Int) (l8 : List Int) (l9 : List (S38)) (l10 : List Int) (l11 : List Int) (l12 : List Int) (l13 : List Int) (l14 : List Int) (a15 : Int) : recur_Check.F a0 a1 a2 a3 a4 a5 l6 l7 l8 l9 l10 l11 l12 l13 l14 a15 = if a0 < 1 then (some 21) else (if a0 > 7 then (some 21) else (if a1 < 1 then (some 21) else (if a1 > 1000 then (some 21) else (if a15 < 0 then (some 21) else (if a15 > 6 then (some 21) else ((recur_ends.F a0 a1 a2 a3 a4 a5 l6 l7 l8 l9 l10 l11 l12 l13 l14 a15).bind fun t1 => ((recur_rights.F l13 l12 l11 l10 l8 l7 l6 l14).bind fun t2 => ((recur_days.F a0 l12 l9).bind fun t3 => ((recur_beside.f a0 a1 a2 a3 a4 a5 l6 l7 l8 l9 l10 l11 l12 l13 l14 a15).bind fun t4 => (if t1 = true then (if t2 = true then (some (21 : Int)) else (if t3 = true then (if t4 = true then (some (0 : Int)) else (some (21 : Int))) else (some (21 : Int)))) else (some (21 : Int)))))))))))) := by
  apply IsLim.via
  case hf =>
    repeat'
      try intro _
      first
      | (with_reducible exact recur_days.isF _ _ _)
      | (with_reducible exact recur_ends.isF _ _ _ _ _ _ _ _ _ _ _ _ _ _ _ _)
      | (with_reducible exact recur_rights.isF _ _ _ _ _ _ _ _)
      | (with_reducible apply IsLim.ite)
      | (with_reducible apply IsLim.bind)
      | (apply IsLim.cst; intro _; exact rfl)
  case h => exact fun _ => rfl
end Go.Proofs.YtjanombhdnoemaaGreatDoor.PRec
