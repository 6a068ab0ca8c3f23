-- A text of the kit's tools for this claim, its remarks left out.
import Derived.Test.YtookjnpmbenheaaBase
import Derived.Test.YtookjnpmbenheaaPLinx9
import Derived.Test.YtookjnpmbenheaaELinx8
namespace Go.Proofs.Ytookjnpmbenheaa.PLin
open Go.RowKit Go.Proofs.YtookjnpmbenheaaW.PrintWords Go.Proofs.YtookjnpmbenheaaW.PrintLast Go.Proofs.Ytookjnpmbenheaa.Base
set_option linter.unusedVariables false
noncomputable def solsticeref16_Line.J0 (x15 : Bool) (x200000 : ByteArray) (x200001 : List (S54)) (x200002 : ByteArray) : Option (Bool) := lim fun k => solsticeref16_Line.j0 k x15 x200000 x200001 x200002
noncomputable def solsticeref16_Line.L0 (x3 : Int) (x200000 : ByteArray) (x200001 : List (S54)) (x200002 : ByteArray) : Option (Bool) := lim fun k => solsticeref16_Line.l0 k x3 x200000 x200001 x200002
noncomputable def solsticeref16_Line.J2 (x3 : Int) (x37 : Bool) (x200000 : ByteArray) (x200001 : List (S54)) (x200002 : ByteArray) (x204000 : ByteArray) (x204001 : List ByteArray) : Option (Bool) := lim fun k => solsticeref16_Line.j2 k x3 x37 x200000 x200001 x200002 x204000 x204001
noncomputable def solsticeref16_Line.L1 (x3 : Int) (x5 : Int) (x200000 : ByteArray) (x200001 : List (S54)) (x200002 : ByteArray) (x204000 : ByteArray) (x204001 : List ByteArray) : Option (Bool) := lim fun k => solsticeref16_Line.l1 k x3 x5 x200000 x200001 x200002 x204000 x204001
noncomputable def solsticeref16_Line.F (a0_0 : ByteArray) (l0_1 : List (S54)) (a0_2 : ByteArray) : Option (Bool) := lim fun k => solsticeref16_Line.f k a0_0 l0_1 a0_2
theorem solsticeref16_Line.isJ0 (x15 : Bool) (x200000 : ByteArray) (x200001 : List (S54)) (x200002 : ByteArray) : IsLim (fun k => solsticeref16_Line.j0 k x15 x200000 x200001 x200002) (solsticeref16_Line.J0 x15 x200000 x200001 x200002) := ⟨fun k => (solsticeref16_Line.mono_l k).1 x15 x200000 x200001 x200002, rfl⟩
theorem solsticeref16_Line.isL0 (x3 : Int) (x200000 : ByteArray) (x200001 : List (S54)) (x200002 : ByteArray) : IsLim (fun k => solsticeref16_Line.l0 k x3 x200000 x200001 x200002) (solsticeref16_Line.L0 x3 x200000 x200001 x200002) := ⟨fun k => (solsticeref16_Line.mono_l k).2.1 x3 x200000 x200001 x200002, rfl⟩
theorem solsticeref16_Line.isJ2 (x3 : Int) (x37 : Bool) (x200000 : ByteArray) (x200001 : List (S54)) (x200002 : ByteArray) (x204000 : ByteArray) (x204001 : List ByteArray) : IsLim (fun k => solsticeref16_Line.j2 k x3 x37 x200000 x200001 x200002 x204000 x204001) (solsticeref16_Line.J2 x3 x37 x200000 x200001 x200002 x204000 x204001) := ⟨fun k => (solsticeref16_Line.mono_l k).2.2.1 x3 x37 x200000 x200001 x200002 x204000 x204001, rfl⟩
theorem solsticeref16_Line.isL1 (x3 : Int) (x5 : Int) (x200000 : ByteArray) (x200001 : List (S54)) (x200002 : ByteArray) (x204000 : ByteArray) (x204001 : List ByteArray) : IsLim (fun k => solsticeref16_Line.l1 k x3 x5 x200000 x200001 x200002 x204000 x204001) (solsticeref16_Line.L1 x3 x5 x200000 x200001 x200002 x204000 x204001) := ⟨fun k => (solsticeref16_Line.mono_l k).2.2.2 x3 x5 x200000 x200001 x200002 x204000 x204001, rfl⟩
theorem solsticeref16_Line.isF (a0_0 : ByteArray) (l0_1 : List (S54)) (a0_2 : ByteArray) : IsLim (fun k => solsticeref16_Line.f k a0_0 l0_1 a0_2) (solsticeref16_Line.F a0_0 l0_1 a0_2) := ⟨fun k => solsticeref16_Line.mono a0_0 l0_1 a0_2 k, rfl⟩
theorem solsticeref16_Line.J0_eq (x15 : Bool) (x200000 : ByteArray) (x200001 : List (S54)) (x200002 : ByteArray) : solsticeref16_Line.J0 x15 x200000 x200001 x200002 = if x15 = true then (some false) else (solsticeref16_Line.L0 0 x200000 x200001 x200002) := by
 apply IsLim.step (solsticeref16_Line.isJ0 x15 x200000 x200001 x200002).mono
 case hf =>
  repeat'
   try intro _
   first
   | (with_reducible exact solsticeref16_Line.isL0 _ _ _ _)
   | (with_reducible apply IsLim.ite)
   | (with_reducible apply IsLim.bind)
   | (apply IsLim.cst; intro _; exact rfl)
 case h => intro k; rw [solsticeref16_Line.j0]
theorem solsticeref16_Line.L0_eq (x3 : Int) (x200000 : ByteArray) (x200001 : List (S54)) (x200002 : ByteArray) : solsticeref16_Line.L0 x3 x200000 x200001 x200002 = if x3 < (x200001.length : Int) then (if 0 ≤ x3 then ((solsticeref16_Name.F ((rd_T54 x200001 x3).f0)).bind fun t204 => (if t204 = true then (solsticeref16_Line.J2 x3 ((((rd_T54 x200001 x3).f1).length : Int) == 0) x200000 x200001 x200002 ((rd_T54 x200001 x3).f0) ((rd_T54 x200001 x3).f1)) else (solsticeref16_Line.J2 x3 true x200000 x200001 x200002 ((rd_T54 x200001 x3).f0) ((rd_T54 x200001 x3).f1)))) else (none)) else (some true) := by
 apply IsLim.step (solsticeref16_Line.isL0 x3 x200000 x200001 x200002).mono
 case hf =>
  repeat'
   try intro _
   first
   | (with_reducible exact solsticeref16_Line.isJ2 _ _ _ _ _ _ _)
   | (with_reducible exact solsticeref16_Name.isF _)
   | (with_reducible apply IsLim.ite)
   | (with_reducible apply IsLim.bind)
   | (apply IsLim.cst; intro _; exact rfl)
 case h => intro k; rw [solsticeref16_Line.l0]
theorem solsticeref16_Line.J2_eq (x3 : Int) (x37 : Bool) (x200000 : ByteArray) (x200001 : List (S54)) (x200002 : ByteArray) (x204000 : ByteArray) (x204001 : List ByteArray) : solsticeref16_Line.J2 x3 x37 x200000 x200001 x200002 x204000 x204001 = if x37 = true then (some false) else (solsticeref16_Line.L1 x3 0 x200000 x200001 x200002 x204000 x204001) := by
 apply IsLim.step (solsticeref16_Line.isJ2 x3 x37 x200000 x200001 x200002 x204000 x204001).mono
 case hf =>
  repeat'
   try intro _
   first
   | (with_reducible exact solsticeref16_Line.isL1 _ _ _ _ _ _ _)
   | (with_reducible apply IsLim.ite)
   | (with_reducible apply IsLim.bind)
   | (apply IsLim.cst; intro _; exact rfl)
 case h => intro k; rw [solsticeref16_Line.j2]
theorem solsticeref16_Line.L1_eq (x3 : Int) (x5 : Int) (x200000 : ByteArray) (x200001 : List (S54)) (x200002 : ByteArray) (x204000 : ByteArray) (x204001 : List ByteArray) : solsticeref16_Line.L1 x3 x5 x200000 x200001 x200002 x204000 x204001 = if x5 < (x204001.length : Int) then (if 0 ≤ x5 then ((solsticeref16_clean.F (rdOf ByteArray.empty x204001 x5) true).bind fun t206 => (if t206 = true then (solsticeref16_Line.L1 x3 (wrap64 (x5 + 1)) x200000 x200001 x200002 x204000 x204001) else (some false))) else (none)) else (solsticeref16_Line.L0 (wrap64 (x3 + 1)) x200000 x200001 x200002) := by
 apply IsLim.step (solsticeref16_Line.isL1 x3 x5 x200000 x200001 x200002 x204000 x204001).mono
 case hf =>
  repeat'
   try intro _
   first
   | (with_reducible exact solsticeref16_Line.isL0 _ _ _ _)
   | (with_reducible exact solsticeref16_Line.isL1 _ _ _ _ _ _ _)
   | (with_reducible exact solsticeref16_clean.isF _ _)
   | (with_reducible apply IsLim.ite)
   | (with_reducible apply IsLim.bind)
   | (apply IsLim.cst; intro _; exact rfl)
 case h => intro k; rw [solsticeref16_Line.l1]
theorem solsticeref16_Line.F_eq (a0_0 : ByteArray) (l0_1 : List (S54)) (a0_2 : ByteArray) : solsticeref16_Line.F a0_0 l0_1 a0_2 = (solsticeref16_Name.F a0_0).bind fun t200 => (if t200 = true then ((solsticeref16_clean.F a0_2 false).bind fun t201 => (solsticeref16_Line.J0 (!t201) a0_0 l0_1 a0_2)) else (solsticeref16_Line.J0 true a0_0 l0_1 a0_2)) := by
 apply IsLim.via
 case hf =>
  repeat'
   try intro _
   first
   | (with_reducible exact solsticeref16_Line.isJ0 _ _ _ _)
   | (with_reducible exact solsticeref16_Name.isF _)
   | (with_reducible exact solsticeref16_clean.isF _ _)
   | (with_reducible apply IsLim.ite)
   | (with_reducible apply IsLim.bind)
   | (apply IsLim.cst; intro _; exact rfl)
 case h => exact fun _ => rfl
noncomputable def solsticeref16_word.L0 (x0 : ByteArray) (x1 : Int) (x5 : Int) : Option (ByteArray) := lim fun k => solsticeref16_word.l0 k x0 x1 x5
noncomputable def solsticeref16_word.F (a0 : ByteArray) (a1 : Int) : Option (ByteArray) := lim fun k => solsticeref16_word.f k a0 a1
theorem solsticeref16_word.isL0 (x0 : ByteArray) (x1 : Int) (x5 : Int) : IsLim (fun k => solsticeref16_word.l0 k x0 x1 x5) (solsticeref16_word.L0 x0 x1 x5) := ⟨fun k => (solsticeref16_word.mono_l k) x0 x1 x5, rfl⟩
theorem solsticeref16_word.isF (a0 : ByteArray) (a1 : Int) : IsLim (fun k => solsticeref16_word.f k a0 a1) (solsticeref16_word.F a0 a1) := ⟨fun k => solsticeref16_word.mono a0 a1 k, rfl⟩
theorem solsticeref16_word.L0_eq (x0 : ByteArray) (x1 : Int) (x5 : Int) : solsticeref16_word.L0 x0 x1 x5 = if x5 < (x0.size : Int) then (if 0 ≤ x5 then (if (bt x0 x5) = 59 then (if 0 ≤ x1 then (if x1 ≤ x5 then (if x5 ≤ (x0.size : Int) then (some (x0.extract (x1 : Int).toNat (x5 : Int).toNat)) else (none)) else (none)) else (none)) else (if (bt x0 x5) = 58 then (if 0 ≤ x1 then (if x1 ≤ x5 then (if x5 ≤ (x0.size : Int) then (some (x0.extract (x1 : Int).toNat (x5 : Int).toNat)) else (none)) else (none)) else (none)) else (if (bt x0 x5) = 61 then (if 0 ≤ x1 then (if x1 ≤ x5 then (if x5 ≤ (x0.size : Int) then (some (x0.extract (x1 : Int).toNat (x5 : Int).toNat)) else (none)) else (none)) else (none)) else (solsticeref16_word.L0 x0 x1 (wrap64 (x5 + 1)))))) else (none)) else (if 0 ≤ x1 then (if x1 ≤ x5 then (if x5 ≤ (x0.size : Int) then (some (x0.extract (x1 : Int).toNat (x5 : Int).toNat)) else (none)) else (none)) else (none)) := by
 apply IsLim.step (solsticeref16_word.isL0 x0 x1 x5).mono
 case hf =>
  repeat'
   try intro _
   first
   | (with_reducible exact solsticeref16_word.isL0 _ _ _)
   | (with_reducible apply IsLim.ite)
   | (with_reducible apply IsLim.bind)
   | (apply IsLim.cst; intro _; exact rfl)
 case h => intro k; rw [solsticeref16_word.l0]
theorem solsticeref16_word.F_eq (a0 : ByteArray) (a1 : Int) : solsticeref16_word.F a0 a1 = solsticeref16_word.L0 a0 a1 a1 := by
 apply IsLim.via
 case hf =>
  repeat'
   try intro _
   first
   | (with_reducible exact solsticeref16_word.isL0 _ _ _)
   | (with_reducible apply IsLim.ite)
   | (with_reducible apply IsLim.bind)
   | (apply IsLim.cst; intro _; exact rfl)
 case h => exact fun _ => rfl
end Go.Proofs.Ytookjnpmbenheaa.PLin
