-- A text of the kit's tools for this claim, its remarks left out.
import Derived.Test.YtookjnpmbenheaaBase
import Derived.Test.YtookjnpmbenheaaPLinx10
import Derived.Test.YtookjnpmbenheaaELinx9
namespace Go.Proofs.Ytookjnpmbenheaa.PLin
open Go.RowKit Go.Proofs.YtookjnpmbenheaaW.PrintWords Go.Proofs.YtookjnpmbenheaaW.PrintLast Go.Proofs.Ytookjnpmbenheaa.Base
set_option linter.unusedVariables false
noncomputable def solsticeref16_ParseLine.L0 (x0 : ByteArray) (x6 : Int) (x209000 : ByteArray) (x209002 : ByteArray) (x211000 : ByteArray) (x211001 : List (S54)) (x211002 : ByteArray) : Option (ByteArray × (List (S54)) × ByteArray × Bool) := lim fun k => solsticeref16_ParseLine.l0 k x0 x6 x209000 x209002 x211000 x211001 x211002
noncomputable def solsticeref16_ParseLine.J1 (x0 : ByteArray) (x6 : Int) (x27 : Bool) (x209000 : ByteArray) (x209002 : ByteArray) (x211000 : ByteArray) (x211001 : List (S54)) (x211002 : ByteArray) : Option (ByteArray × (List (S54)) × ByteArray × Bool) := lim fun k => solsticeref16_ParseLine.j1 k x0 x6 x27 x209000 x209002 x211000 x211001 x211002
noncomputable def solsticeref16_ParseLine.J2 (x0 : ByteArray) (x6 : Int) (x48 : Bool) (x209000 : ByteArray) (x209002 : ByteArray) (x211000 : ByteArray) (x211001 : List (S54)) (x211002 : ByteArray) (x213000 : ByteArray) : Option (ByteArray × (List (S54)) × ByteArray × Bool) := lim fun k => solsticeref16_ParseLine.j2 k x0 x6 x48 x209000 x209002 x211000 x211001 x211002 x213000
noncomputable def solsticeref16_ParseLine.L1 (x0 : ByteArray) (x6 : Int) (x8 : Bool) (x209000 : ByteArray) (x209002 : ByteArray) (x211000 : ByteArray) (x211001 : List (S54)) (x211002 : ByteArray) (x213000 : ByteArray) (x213001 : List ByteArray) : Option (ByteArray × (List (S54)) × ByteArray × Bool) := lim fun k => solsticeref16_ParseLine.l1 k x0 x6 x8 x209000 x209002 x211000 x211001 x211002 x213000 x213001
noncomputable def solsticeref16_ParseLine.J4 (x0 : ByteArray) (x6 : Int) (x9 : Int) (x63 : Bool) (x209000 : ByteArray) (x209002 : ByteArray) (x211000 : ByteArray) (x211001 : List (S54)) (x211002 : ByteArray) (x213000 : ByteArray) (x213001 : List ByteArray) : Option (ByteArray × (List (S54)) × ByteArray × Bool) := lim fun k => solsticeref16_ParseLine.j4 k x0 x6 x9 x63 x209000 x209002 x211000 x211001 x211002 x213000 x213001
noncomputable def solsticeref16_ParseLine.L2 (x0 : ByteArray) (x6 : Int) (x9 : Int) (x209000 : ByteArray) (x209002 : ByteArray) (x211000 : ByteArray) (x211001 : List (S54)) (x211002 : ByteArray) (x213000 : ByteArray) (x213001 : List ByteArray) : Option (ByteArray × (List (S54)) × ByteArray × Bool) := lim fun k => solsticeref16_ParseLine.l2 k x0 x6 x9 x209000 x209002 x211000 x211001 x211002 x213000 x213001
noncomputable def solsticeref16_ParseLine.L3 (x0 : ByteArray) (x6 : Int) (x9 : Int) (x209000 : ByteArray) (x209002 : ByteArray) (x211000 : ByteArray) (x211001 : List (S54)) (x211002 : ByteArray) (x213000 : ByteArray) (x213001 : List ByteArray) : Option (ByteArray × (List (S54)) × ByteArray × Bool) := lim fun k => solsticeref16_ParseLine.l3 k x0 x6 x9 x209000 x209002 x211000 x211001 x211002 x213000 x213001
noncomputable def solsticeref16_ParseLine.J7 (x0 : ByteArray) (x6 : Int) (x149 : Bool) (x209000 : ByteArray) (x209002 : ByteArray) (x211000 : ByteArray) (x211001 : List (S54)) (x211002 : ByteArray) : Option (ByteArray × (List (S54)) × ByteArray × Bool) := lim fun k => solsticeref16_ParseLine.j7 k x0 x6 x149 x209000 x209002 x211000 x211001 x211002
noncomputable def solsticeref16_ParseLine.F (a0 : ByteArray) : Option (ByteArray × (List (S54)) × ByteArray × Bool) := lim fun k => solsticeref16_ParseLine.f k a0
theorem solsticeref16_ParseLine.isL0 (x0 : ByteArray) (x6 : Int) (x209000 : ByteArray) (x209002 : ByteArray) (x211000 : ByteArray) (x211001 : List (S54)) (x211002 : ByteArray) : IsLim (fun k => solsticeref16_ParseLine.l0 k x0 x6 x209000 x209002 x211000 x211001 x211002) (solsticeref16_ParseLine.L0 x0 x6 x209000 x209002 x211000 x211001 x211002) := ⟨fun k => (solsticeref16_ParseLine.mono_l k).1 x0 x6 x209000 x209002 x211000 x211001 x211002, rfl⟩
theorem solsticeref16_ParseLine.isJ1 (x0 : ByteArray) (x6 : Int) (x27 : Bool) (x209000 : ByteArray) (x209002 : ByteArray) (x211000 : ByteArray) (x211001 : List (S54)) (x211002 : ByteArray) : IsLim (fun k => solsticeref16_ParseLine.j1 k x0 x6 x27 x209000 x209002 x211000 x211001 x211002) (solsticeref16_ParseLine.J1 x0 x6 x27 x209000 x209002 x211000 x211001 x211002) := ⟨fun k => (solsticeref16_ParseLine.mono_l k).2.1 x0 x6 x27 x209000 x209002 x211000 x211001 x211002, rfl⟩
theorem solsticeref16_ParseLine.isJ2 (x0 : ByteArray) (x6 : Int) (x48 : Bool) (x209000 : ByteArray) (x209002 : ByteArray) (x211000 : ByteArray) (x211001 : List (S54)) (x211002 : ByteArray) (x213000 : ByteArray) : IsLim (fun k => solsticeref16_ParseLine.j2 k x0 x6 x48 x209000 x209002 x211000 x211001 x211002 x213000) (solsticeref16_ParseLine.J2 x0 x6 x48 x209000 x209002 x211000 x211001 x211002 x213000) := ⟨fun k => (solsticeref16_ParseLine.mono_l k).2.2.1 x0 x6 x48 x209000 x209002 x211000 x211001 x211002 x213000, rfl⟩
theorem solsticeref16_ParseLine.isL1 (x0 : ByteArray) (x6 : Int) (x8 : Bool) (x209000 : ByteArray) (x209002 : ByteArray) (x211000 : ByteArray) (x211001 : List (S54)) (x211002 : ByteArray) (x213000 : ByteArray) (x213001 : List ByteArray) : IsLim (fun k => solsticeref16_ParseLine.l1 k x0 x6 x8 x209000 x209002 x211000 x211001 x211002 x213000 x213001) (solsticeref16_ParseLine.L1 x0 x6 x8 x209000 x209002 x211000 x211001 x211002 x213000 x213001) := ⟨fun k => (solsticeref16_ParseLine.mono_l k).2.2.2.1 x0 x6 x8 x209000 x209002 x211000 x211001 x211002 x213000 x213001, rfl⟩
theorem solsticeref16_ParseLine.isJ4 (x0 : ByteArray) (x6 : Int) (x9 : Int) (x63 : Bool) (x209000 : ByteArray) (x209002 : ByteArray) (x211000 : ByteArray) (x211001 : List (S54)) (x211002 : ByteArray) (x213000 : ByteArray) (x213001 : List ByteArray) : IsLim (fun k => solsticeref16_ParseLine.j4 k x0 x6 x9 x63 x209000 x209002 x211000 x211001 x211002 x213000 x213001) (solsticeref16_ParseLine.J4 x0 x6 x9 x63 x209000 x209002 x211000 x211001 x211002 x213000 x213001) := ⟨fun k => (solsticeref16_ParseLine.mono_l k).2.2.2.2.1 x0 x6 x9 x63 x209000 x209002 x211000 x211001 x211002 x213000 x213001, rfl⟩
theorem solsticeref16_ParseLine.isL2 (x0 : ByteArray) (x6 : Int) (x9 : Int) (x209000 : ByteArray) (x209002 : ByteArray) (x211000 : ByteArray) (x211001 : List (S54)) (x211002 : ByteArray) (x213000 : ByteArray) (x213001 : List ByteArray) : IsLim (fun k => solsticeref16_ParseLine.l2 k x0 x6 x9 x209000 x209002 x211000 x211001 x211002 x213000 x213001) (solsticeref16_ParseLine.L2 x0 x6 x9 x209000 x209002 x211000 x211001 x211002 x213000 x213001) := ⟨fun k => (solsticeref16_ParseLine.mono_l k).2.2.2.2.2.1 x0 x6 x9 x209000 x209002 x211000 x211001 x211002 x213000 x213001, rfl⟩
theorem solsticeref16_ParseLine.isL3 (x0 : ByteArray) (x6 : Int) (x9 : Int) (x209000 : ByteArray) (x209002 : ByteArray) (x211000 : ByteArray) (x211001 : List (S54)) (x211002 : ByteArray) (x213000 : ByteArray) (x213001 : List ByteArray) : IsLim (fun k => solsticeref16_ParseLine.l3 k x0 x6 x9 x209000 x209002 x211000 x211001 x211002 x213000 x213001) (solsticeref16_ParseLine.L3 x0 x6 x9 x209000 x209002 x211000 x211001 x211002 x213000 x213001) := ⟨fun k => (solsticeref16_ParseLine.mono_l k).2.2.2.2.2.2.1 x0 x6 x9 x209000 x209002 x211000 x211001 x211002 x213000 x213001, rfl⟩
theorem solsticeref16_ParseLine.isJ7 (x0 : ByteArray) (x6 : Int) (x149 : Bool) (x209000 : ByteArray) (x209002 : ByteArray) (x211000 : ByteArray) (x211001 : List (S54)) (x211002 : ByteArray) : IsLim (fun k => solsticeref16_ParseLine.j7 k x0 x6 x149 x209000 x209002 x211000 x211001 x211002) (solsticeref16_ParseLine.J7 x0 x6 x149 x209000 x209002 x211000 x211001 x211002) := ⟨fun k => (solsticeref16_ParseLine.mono_l k).2.2.2.2.2.2.2 x0 x6 x149 x209000 x209002 x211000 x211001 x211002, rfl⟩
theorem solsticeref16_ParseLine.isF (a0 : ByteArray) : IsLim (fun k => solsticeref16_ParseLine.f k a0) (solsticeref16_ParseLine.F a0) := ⟨fun k => solsticeref16_ParseLine.mono a0 k, rfl⟩
theorem solsticeref16_ParseLine.L0_eq (x0 : ByteArray) (x6 : Int) (x209000 : ByteArray) (x209002 : ByteArray) (x211000 : ByteArray) (x211001 : List (S54)) (x211002 : ByteArray) : solsticeref16_ParseLine.L0 x0 x6 x209000 x209002 x211000 x211001 x211002 = if x6 < (x0.size : Int) then (if 0 ≤ x6 then (solsticeref16_ParseLine.J1 x0 x6 ((bt x0 x6) == 59) x209000 x209002 x211000 x211001 x211002) else (none)) else (solsticeref16_ParseLine.J1 x0 x6 false x209000 x209002 x211000 x211001 x211002) := by
 apply IsLim.step (solsticeref16_ParseLine.isL0 x0 x6 x209000 x209002 x211000 x211001 x211002).mono
 case hf =>
  repeat'
   try intro _
   first
   | (with_reducible exact solsticeref16_ParseLine.isJ1 _ _ _ _ _ _ _ _)
   | (with_reducible apply IsLim.ite)
   | (with_reducible apply IsLim.bind)
   | (apply IsLim.cst; intro _; exact rfl)
 case h => intro k; rw [solsticeref16_ParseLine.l0]
theorem solsticeref16_ParseLine.J1_eq (x0 : ByteArray) (x6 : Int) (x27 : Bool) (x209000 : ByteArray) (x209002 : ByteArray) (x211000 : ByteArray) (x211001 : List (S54)) (x211002 : ByteArray) : solsticeref16_ParseLine.J1 x0 x6 x27 x209000 x209002 x211000 x211001 x211002 = if x27 = true then ((solsticeref16_word.F x0 (wrap64 (x6 + 1))).bind fun t211 => (if (wrap64 ((wrap64 (x6 + 1)) + (t211.size : Int))) ≥ (x0.size : Int) then (solsticeref16_ParseLine.J2 x0 (wrap64 ((wrap64 (x6 + 1)) + (t211.size : Int))) true x209000 x209002 x211000 x211001 x211002 t211) else (if 0 ≤ (wrap64 ((wrap64 (x6 + 1)) + (t211.size : Int))) then (if (wrap64 ((wrap64 (x6 + 1)) + (t211.size : Int))) < (x0.size : Int) then (solsticeref16_ParseLine.J2 x0 (wrap64 ((wrap64 (x6 + 1)) + (t211.size : Int))) ((bt x0 (wrap64 ((wrap64 (x6 + 1)) + (t211.size : Int)))) != 61) x209000 x209002 x211000 x211001 x211002 t211) else (none)) else (none)))) else (if x6 ≥ (x0.size : Int) then (solsticeref16_ParseLine.J7 x0 x6 true x209000 x209002 x211000 x211001 x211002) else (if 0 ≤ x6 then (if x6 < (x0.size : Int) then (solsticeref16_ParseLine.J7 x0 x6 ((bt x0 x6) != 58) x209000 x209002 x211000 x211001 x211002) else (none)) else (none))) := by
 apply IsLim.step (solsticeref16_ParseLine.isJ1 x0 x6 x27 x209000 x209002 x211000 x211001 x211002).mono
 case hf =>
  repeat'
   try intro _
   first
   | (with_reducible exact solsticeref16_ParseLine.isJ2 _ _ _ _ _ _ _ _ _)
   | (with_reducible exact solsticeref16_ParseLine.isJ7 _ _ _ _ _ _ _ _)
   | (with_reducible exact solsticeref16_word.isF _ _)
   | (with_reducible apply IsLim.ite)
   | (with_reducible apply IsLim.bind)
   | (apply IsLim.cst; intro _; exact rfl)
 case h => intro k; rw [solsticeref16_ParseLine.j1]
theorem solsticeref16_ParseLine.J2_eq (x0 : ByteArray) (x6 : Int) (x48 : Bool) (x209000 : ByteArray) (x209002 : ByteArray) (x211000 : ByteArray) (x211001 : List (S54)) (x211002 : ByteArray) (x213000 : ByteArray) : solsticeref16_ParseLine.J2 x0 x6 x48 x209000 x209002 x211000 x211001 x211002 x213000 = if x48 = true then (some (x209000, ([] : List (S54)), x209002, false)) else (solsticeref16_ParseLine.L1 x0 x6 true x209000 x209002 x211000 x211001 x211002 x213000 ([] : List ByteArray)) := by
 apply IsLim.step (solsticeref16_ParseLine.isJ2 x0 x6 x48 x209000 x209002 x211000 x211001 x211002 x213000).mono
 case hf =>
  repeat'
   try intro _
   first
   | (with_reducible exact solsticeref16_ParseLine.isL1 _ _ _ _ _ _ _ _ _ _)
   | (with_reducible apply IsLim.ite)
   | (with_reducible apply IsLim.bind)
   | (apply IsLim.cst; intro _; exact rfl)
 case h => intro k; rw [solsticeref16_ParseLine.j2]
theorem solsticeref16_ParseLine.L1_eq (x0 : ByteArray) (x6 : Int) (x8 : Bool) (x209000 : ByteArray) (x209002 : ByteArray) (x211000 : ByteArray) (x211001 : List (S54)) (x211002 : ByteArray) (x213000 : ByteArray) (x213001 : List ByteArray) : solsticeref16_ParseLine.L1 x0 x6 x8 x209000 x209002 x211000 x211001 x211002 x213000 x213001 = if x8 = true then (if (wrap64 (x6 + 1)) < (x0.size : Int) then (if 0 ≤ (wrap64 (x6 + 1)) then (solsticeref16_ParseLine.J4 x0 (wrap64 (x6 + 1)) (wrap64 (x6 + 1)) ((bt x0 (wrap64 (x6 + 1))) == 34) x209000 x209002 x211000 x211001 x211002 x213000 x213001) else (none)) else (solsticeref16_ParseLine.J4 x0 (wrap64 (x6 + 1)) (wrap64 (x6 + 1)) false x209000 x209002 x211000 x211001 x211002 x213000 x213001)) else (if x211001.length < 3518437208883 then (solsticeref16_ParseLine.L0 x0 x6 x209000 x209002 x211000 (x211001 ++ [(⟨x213000, x213001⟩ : S54)]) x211002) else (none)) := by
 apply IsLim.step (solsticeref16_ParseLine.isL1 x0 x6 x8 x209000 x209002 x211000 x211001 x211002 x213000 x213001).mono
 case hf =>
  repeat'
   try intro _
   first
   | (with_reducible exact solsticeref16_ParseLine.isJ4 _ _ _ _ _ _ _ _ _ _ _)
   | (with_reducible exact solsticeref16_ParseLine.isL0 _ _ _ _ _ _ _)
   | (with_reducible apply IsLim.ite)
   | (with_reducible apply IsLim.bind)
   | (apply IsLim.cst; intro _; exact rfl)
 case h => intro k; rw [solsticeref16_ParseLine.l1]
theorem solsticeref16_ParseLine.J4_eq (x0 : ByteArray) (x6 : Int) (x9 : Int) (x63 : Bool) (x209000 : ByteArray) (x209002 : ByteArray) (x211000 : ByteArray) (x211001 : List (S54)) (x211002 : ByteArray) (x213000 : ByteArray) (x213001 : List ByteArray) : solsticeref16_ParseLine.J4 x0 x6 x9 x63 x209000 x209002 x211000 x211001 x211002 x213000 x213001 = if x63 = true then (solsticeref16_ParseLine.L2 x0 (wrap64 (x6 + 1)) x9 x209000 x209002 x211000 x211001 x211002 x213000 x213001) else (solsticeref16_ParseLine.L3 x0 x6 x9 x209000 x209002 x211000 x211001 x211002 x213000 x213001) := by
 apply IsLim.step (solsticeref16_ParseLine.isJ4 x0 x6 x9 x63 x209000 x209002 x211000 x211001 x211002 x213000 x213001).mono
 case hf =>
  repeat'
   try intro _
   first
   | (with_reducible exact solsticeref16_ParseLine.isL2 _ _ _ _ _ _ _ _ _ _)
   | (with_reducible exact solsticeref16_ParseLine.isL3 _ _ _ _ _ _ _ _ _ _)
   | (with_reducible apply IsLim.ite)
   | (with_reducible apply IsLim.bind)
   | (apply IsLim.cst; intro _; exact rfl)
 case h => intro k; rw [solsticeref16_ParseLine.j4]
theorem solsticeref16_ParseLine.L2_eq (x0 : ByteArray) (x6 : Int) (x9 : Int) (x209000 : ByteArray) (x209002 : ByteArray) (x211000 : ByteArray) (x211001 : List (S54)) (x211002 : ByteArray) (x213000 : ByteArray) (x213001 : List ByteArray) : solsticeref16_ParseLine.L2 x0 x6 x9 x209000 x209002 x211000 x211001 x211002 x213000 x213001 = if x6 < (x0.size : Int) then (if 0 ≤ x6 then (if (bt x0 x6) = 34 then (if x6 ≥ (x0.size : Int) then (some (x209000, ([] : List (S54)), x209002, false)) else (if 0 ≤ (wrap64 (x9 + 1)) then (if (wrap64 (x9 + 1)) ≤ x6 then (if x6 ≤ (x0.size : Int) then (if x213001.length < 8796093022208 then ((some (x213001 ++ [x0.extract ((wrap64 (x9 + 1)) : Int).toNat (x6 : Int).toNat] : List ByteArray)).bind fun y216 => (if (wrap64 (x6 + 1)) < (x0.size : Int) then (if 0 ≤ (wrap64 (x6 + 1)) then (solsticeref16_ParseLine.L1 x0 (wrap64 (x6 + 1)) ((bt x0 (wrap64 (x6 + 1))) == 44) x209000 x209002 x211000 x211001 x211002 x213000 y216) else (none)) else (solsticeref16_ParseLine.L1 x0 (wrap64 (x6 + 1)) false x209000 x209002 x211000 x211001 x211002 x213000 y216))) else (none)) else (none)) else (none)) else (none))) else (solsticeref16_ParseLine.L2 x0 (wrap64 (x6 + 1)) x9 x209000 x209002 x211000 x211001 x211002 x213000 x213001)) else (none)) else (if x6 ≥ (x0.size : Int) then (some (x209000, ([] : List (S54)), x209002, false)) else (if 0 ≤ (wrap64 (x9 + 1)) then (if (wrap64 (x9 + 1)) ≤ x6 then (if x6 ≤ (x0.size : Int) then (if x213001.length < 8796093022208 then ((some (x213001 ++ [x0.extract ((wrap64 (x9 + 1)) : Int).toNat (x6 : Int).toNat] : List ByteArray)).bind fun y219 => (if (wrap64 (x6 + 1)) < (x0.size : Int) then (if 0 ≤ (wrap64 (x6 + 1)) then (solsticeref16_ParseLine.L1 x0 (wrap64 (x6 + 1)) ((bt x0 (wrap64 (x6 + 1))) == 44) x209000 x209002 x211000 x211001 x211002 x213000 y219) else (none)) else (solsticeref16_ParseLine.L1 x0 (wrap64 (x6 + 1)) false x209000 x209002 x211000 x211001 x211002 x213000 y219))) else (none)) else (none)) else (none)) else (none))) := by
 apply IsLim.step (solsticeref16_ParseLine.isL2 x0 x6 x9 x209000 x209002 x211000 x211001 x211002 x213000 x213001).mono
 case hf =>
  repeat'
   try intro _
   first
   | (with_reducible exact solsticeref16_ParseLine.isL1 _ _ _ _ _ _ _ _ _ _)
   | (with_reducible exact solsticeref16_ParseLine.isL2 _ _ _ _ _ _ _ _ _ _)
   | (with_reducible apply IsLim.ite)
   | (with_reducible apply IsLim.bind)
   | (apply IsLim.cst; intro _; exact rfl)
 case h => intro k; rw [solsticeref16_ParseLine.l2]
theorem solsticeref16_ParseLine.L3_eq (x0 : ByteArray) (x6 : Int) (x9 : Int) (x209000 : ByteArray) (x209002 : ByteArray) (x211000 : ByteArray) (x211001 : List (S54)) (x211002 : ByteArray) (x213000 : ByteArray) (x213001 : List ByteArray) : solsticeref16_ParseLine.L3 x0 x6 x9 x209000 x209002 x211000 x211001 x211002 x213000 x213001 = if x6 < (x0.size : Int) then (if 0 ≤ x6 then (if (bt x0 x6) = 59 then (if 0 ≤ x9 then (if x9 ≤ x6 then (if x6 ≤ (x0.size : Int) then (if x213001.length < 8796093022208 then (solsticeref16_ParseLine.L1 x0 x6 ((bt x0 x6) == 44) x209000 x209002 x211000 x211001 x211002 x213000 (x213001 ++ [x0.extract (x9 : Int).toNat (x6 : Int).toNat])) else (none)) else (none)) else (none)) else (none)) else (if (bt x0 x6) = 58 then (if 0 ≤ x9 then (if x9 ≤ x6 then (if x6 ≤ (x0.size : Int) then (if x213001.length < 8796093022208 then (solsticeref16_ParseLine.L1 x0 x6 ((bt x0 x6) == 44) x209000 x209002 x211000 x211001 x211002 x213000 (x213001 ++ [x0.extract (x9 : Int).toNat (x6 : Int).toNat])) else (none)) else (none)) else (none)) else (none)) else (if (bt x0 x6) = 44 then (if 0 ≤ x9 then (if x9 ≤ x6 then (if x6 ≤ (x0.size : Int) then (if x213001.length < 8796093022208 then (solsticeref16_ParseLine.L1 x0 x6 ((bt x0 x6) == 44) x209000 x209002 x211000 x211001 x211002 x213000 (x213001 ++ [x0.extract (x9 : Int).toNat (x6 : Int).toNat])) else (none)) else (none)) else (none)) else (none)) else (solsticeref16_ParseLine.L3 x0 (wrap64 (x6 + 1)) x9 x209000 x209002 x211000 x211001 x211002 x213000 x213001)))) else (none)) else (if 0 ≤ x9 then (if x9 ≤ x6 then (if x6 ≤ (x0.size : Int) then (if x213001.length < 8796093022208 then (solsticeref16_ParseLine.L1 x0 x6 false x209000 x209002 x211000 x211001 x211002 x213000 (x213001 ++ [x0.extract (x9 : Int).toNat (x6 : Int).toNat])) else (none)) else (none)) else (none)) else (none)) := by
 apply IsLim.step (solsticeref16_ParseLine.isL3 x0 x6 x9 x209000 x209002 x211000 x211001 x211002 x213000 x213001).mono
 case hf =>
  repeat'
   try intro _
   first
   | (with_reducible exact solsticeref16_ParseLine.isL1 _ _ _ _ _ _ _ _ _ _)
   | (with_reducible exact solsticeref16_ParseLine.isL3 _ _ _ _ _ _ _ _ _ _)
   | (with_reducible apply IsLim.ite)
   | (with_reducible apply IsLim.bind)
   | (apply IsLim.cst; intro _; exact rfl)
 case h => intro k; rw [solsticeref16_ParseLine.l3]
theorem solsticeref16_ParseLine.J7_eq (x0 : ByteArray) (x6 : Int) (x149 : Bool) (x209000 : ByteArray) (x209002 : ByteArray) (x211000 : ByteArray) (x211001 : List (S54)) (x211002 : ByteArray) : solsticeref16_ParseLine.J7 x0 x6 x149 x209000 x209002 x211000 x211001 x211002 = if x149 = true then (some (x209000, ([] : List (S54)), x209002, false)) else (if 0 ≤ (wrap64 (x6 + 1)) then (if (wrap64 (x6 + 1)) ≤ (x0.size : Int) then ((solsticeref16_Line.F x211000 x211001 (x0.extract ((wrap64 (x6 + 1)) : Int).toNat x0.size)).bind fun t234 => (if t234 = true then (some (x211000, x211001, x0.extract ((wrap64 (x6 + 1)) : Int).toNat x0.size, true)) else (some (x209000, ([] : List (S54)), x209002, false)))) else (none)) else (none)) := by
 apply IsLim.step (solsticeref16_ParseLine.isJ7 x0 x6 x149 x209000 x209002 x211000 x211001 x211002).mono
 case hf =>
  repeat'
   try intro _
   first
   | (with_reducible exact solsticeref16_Line.isF _ _ _)
   | (with_reducible apply IsLim.ite)
   | (with_reducible apply IsLim.bind)
   | (apply IsLim.cst; intro _; exact rfl)
 case h => intro k; rw [solsticeref16_ParseLine.j7]
theorem solsticeref16_ParseLine.F_eq (a0 : ByteArray) : solsticeref16_ParseLine.F a0 = (solsticeref16_word.F a0 0).bind fun t209 => (solsticeref16_ParseLine.L0 a0 (t209.size : Int) (⟨#[]⟩ : ByteArray) (⟨#[]⟩ : ByteArray) t209 ([] : List (S54)) (⟨#[]⟩ : ByteArray)) := by
 apply IsLim.via
 case hf =>
  repeat'
   try intro _
   first
   | (with_reducible exact solsticeref16_ParseLine.isL0 _ _ _ _ _ _ _)
   | (with_reducible exact solsticeref16_word.isF _ _)
   | (with_reducible apply IsLim.ite)
   | (with_reducible apply IsLim.bind)
   | (apply IsLim.cst; intro _; exact rfl)
 case h => exact fun _ => rfl
end Go.Proofs.Ytookjnpmbenheaa.PLin
