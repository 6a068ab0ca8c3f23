/- Printed functions of the family Fld without a bound on their rounds, and the equation that each meets. No condition. -/
import Derived.Test.YtmkknigneppneaaDoorBase
import Derived.Test.YtmkknigneppneaaDoorPFldx1
namespace Go.Proofs.YtmkknigneppneaaDoor.PFld
open Go.RowKit Go.Proofs.YtmkknigneppneaaDoorW.PrintWords Go.Proofs.YtmkknigneppneaaDoorW.PrintLast Go.Proofs.YtmkknigneppneaaDoor.Base
set_option linter.unusedVariables false
noncomputable def fields_has.L0 (x0 : ByteArray) (x1 : ByteArray) (x7 : Int) (x8 : Int) : Option (Bool) := lim fun k => fields_has.l0 k x0 x1 x7 x8
noncomputable def fields_has.F (a0 : ByteArray) (a1 : ByteArray) : Option (Bool) := lim fun k => fields_has.f k a0 a1
theorem fields_has.isL0 (x0 : ByteArray) (x1 : ByteArray) (x7 : Int) (x8 : Int) : IsLim (fun k => fields_has.l0 k x0 x1 x7 x8) (fields_has.L0 x0 x1 x7 x8) := ⟨fun k => (fields_has.mono_l k) x0 x1 x7 x8, rfl⟩
theorem fields_has.isF (a0 : ByteArray) (a1 : ByteArray) : IsLim (fun k => fields_has.f k a0 a1) (fields_has.F a0 a1) := ⟨fun k => fields_has.mono a0 a1 k, rfl⟩
theorem fields_has.L0_eq (x0 : ByteArray) (x1 : ByteArray) (x7 : Int) (x8 : Int) : fields_has.L0 x0 x1 x7 x8 = if x8 < x7 then (if 0 ≤ x8 then (if x8 < (x0.size : Int) then ((strings_IndexByte.f x1 (bt x0 x8)).bind fun t101 => (if t101 ≥ 0 then (some true) else (fields_has.L0 x0 x1 x7 (wrap64 (x8 + 1))))) else (none)) else (none)) else (some false) := by
  refine IsLim.step (fields_has.isL0 x0 x1 x7 x8).mono (f := fun k => if x8 < x7 then (if 0 ≤ x8 then (if x8 < (x0.size : Int) then ((strings_IndexByte.f x1 (bt x0 x8)).bind fun t101 => (if t101 ≥ 0 then (some true) else (fields_has.l0 k x0 x1 x7 (wrap64 (x8 + 1))))) else (none)) else (none)) else (some false)) (fun k => by rw [fields_has.l0]) ?_
  · repeat' first
    | (with_reducible exact IsLim.const _)
    | (with_reducible exact fields_has.isL0 _ _ _ _)
    | (with_reducible refine IsLim.ite ?_ ?_)
    | (with_reducible refine IsLim.bind ?_ (fun _ => ?_))
theorem fields_has.F_eq (a0 : ByteArray) (a1 : ByteArray) : fields_has.F a0 a1 = fields_has.L0 a0 a1 (a0.size : Int) 0 := by
  refine IsLim.eq (g := fun k => fields_has.l0 k a0 a1 (a0.size : Int) 0) ?_
  · repeat' first
    | (with_reducible exact IsLim.const _)
    | (with_reducible exact fields_has.isL0 _ _ _ _)
    | (with_reducible refine IsLim.ite ?_ ?_)
    | (with_reducible refine IsLim.bind ?_ (fun _ => ?_))
noncomputable def fields_quotes.F (a0 : ByteArray) : Option (Bool) := lim fun k => fields_quotes.f k a0
theorem fields_quotes.isF (a0 : ByteArray) : IsLim (fun k => fields_quotes.f k a0) (fields_quotes.F a0) := ⟨fun k => fields_quotes.mono a0 k, rfl⟩
theorem fields_quotes.F_eq (a0 : ByteArray) : fields_quotes.F a0 = if a0.toList = ([] : List UInt8) then (some true) else ((fields_has.F a0 (⟨#[32, 9, 13, 35]⟩ : ByteArray)).bind fun t102 => (some t102)) := by
  refine IsLim.eq (g := fun k => if a0.toList = ([] : List UInt8) then (some true) else ((fields_has.f k a0 (⟨#[32, 9, 13, 35]⟩ : ByteArray)).bind fun t102 => (some t102))) ?_
  · repeat' first
    | (with_reducible exact IsLim.const _)
    | (with_reducible exact fields_has.isF _ _)
    | (with_reducible refine IsLim.ite ?_ ?_)
    | (with_reducible refine IsLim.bind ?_ (fun _ => ?_))
noncomputable def fields_Join.L0 (x4 : List ByteArray) (x5 : Int) (x8 : List ByteArray) (x9 : Int) (x10 : Int) : Option (ByteArray × Int) := lim fun k => fields_Join.l0 k x4 x5 x8 x9 x10
noncomputable def fields_Join.F (l0 : List ByteArray) : Option (ByteArray × Int) := lim fun k => fields_Join.f k l0
theorem fields_Join.isL0 (x4 : List ByteArray) (x5 : Int) (x8 : List ByteArray) (x9 : Int) (x10 : Int) : IsLim (fun k => fields_Join.l0 k x4 x5 x8 x9 x10) (fields_Join.L0 x4 x5 x8 x9 x10) := ⟨fun k => (fields_Join.mono_l k) x4 x5 x8 x9 x10, rfl⟩
theorem fields_Join.isF (l0 : List ByteArray) : IsLim (fun k => fields_Join.f k l0) (fields_Join.F l0) := ⟨fun k => fields_Join.mono l0 k, rfl⟩
theorem fields_Join.L0_eq (x4 : List ByteArray) (x5 : Int) (x8 : List ByteArray) (x9 : Int) (x10 : Int) : fields_Join.L0 x4 x5 x8 x9 x10 = if x10 < x9 then (if 0 ≤ x10 then (if x10 < (x8.length : Int) then ((fields_has.F (rdOf ByteArray.empty x8 x10) (⟨#[0, 10, 34]⟩ : ByteArray)).bind fun t105 => (if t105 = true then (some ((⟨#[]⟩ : ByteArray), 6)) else ((fields_quotes.F (rdOf ByteArray.empty x8 x10)).bind fun t106 => (if t106 = true then (if 1 + (rdOf ByteArray.empty x8 x10).size ≤ 9223372036854775807 then (if ((⟨#[34]⟩ : ByteArray) ++ (rdOf ByteArray.empty x8 x10)).size + 1 ≤ 9223372036854775807 then (if x4.length < 8796093022208 then (fields_Join.L0 (x4 ++ [((⟨#[34]⟩ : ByteArray) ++ (rdOf ByteArray.empty x8 x10)) ++ (⟨#[34]⟩ : ByteArray)]) (wrap64 (x5 + (wrap64 (((((⟨#[34]⟩ : ByteArray) ++ (rdOf ByteArray.empty x8 x10)) ++ (⟨#[34]⟩ : ByteArray)).size : Int) + 1)))) x8 x9 (wrap64 (x10 + 1))) else (none)) else (none)) else (none)) else (if x4.length < 8796093022208 then (fields_Join.L0 (x4 ++ [rdOf ByteArray.empty x8 x10]) (wrap64 (x5 + (wrap64 (((rdOf ByteArray.empty x8 x10).size : Int) + 1)))) x8 x9 (wrap64 (x10 + 1))) else (none)))))) else (none)) else (none)) else (if (wrap64 (x5 - 1)) > 600 then (some ((⟨#[]⟩ : ByteArray), 2)) else ((strings_Join.f x4 (⟨#[32]⟩ : ByteArray)).bind fun t103 => (some (t103, 0)))) := by
  refine IsLim.step (fields_Join.isL0 x4 x5 x8 x9 x10).mono (f := fun k => if x10 < x9 then (if 0 ≤ x10 then (if x10 < (x8.length : Int) then ((fields_has.f k (rdOf ByteArray.empty x8 x10) (⟨#[0, 10, 34]⟩ : ByteArray)).bind fun t105 => (if t105 = true then (some ((⟨#[]⟩ : ByteArray), 6)) else ((fields_quotes.f k (rdOf ByteArray.empty x8 x10)).bind fun t106 => (if t106 = true then (if 1 + (rdOf ByteArray.empty x8 x10).size ≤ 9223372036854775807 then (if ((⟨#[34]⟩ : ByteArray) ++ (rdOf ByteArray.empty x8 x10)).size + 1 ≤ 9223372036854775807 then (if x4.length < 8796093022208 then (fields_Join.l0 k (x4 ++ [((⟨#[34]⟩ : ByteArray) ++ (rdOf ByteArray.empty x8 x10)) ++ (⟨#[34]⟩ : ByteArray)]) (wrap64 (x5 + (wrap64 (((((⟨#[34]⟩ : ByteArray) ++ (rdOf ByteArray.empty x8 x10)) ++ (⟨#[34]⟩ : ByteArray)).size : Int) + 1)))) x8 x9 (wrap64 (x10 + 1))) else (none)) else (none)) else (none)) else (if x4.length < 8796093022208 then (fields_Join.l0 k (x4 ++ [rdOf ByteArray.empty x8 x10]) (wrap64 (x5 + (wrap64 (((rdOf ByteArray.empty x8 x10).size : Int) + 1)))) x8 x9 (wrap64 (x10 + 1))) else (none)))))) else (none)) else (none)) else (if (wrap64 (x5 - 1)) > 600 then (some ((⟨#[]⟩ : ByteArray), 2)) else ((strings_Join.f x4 (⟨#[32]⟩ : ByteArray)).bind fun t103 => (some (t103, 0))))) (fun k => by rw [fields_Join.l0]) ?_
  · repeat' first
    | (with_reducible exact IsLim.const _)
    | (with_reducible exact fields_Join.isL0 _ _ _ _ _)
    | (with_reducible exact fields_has.isF _ _)
    | (with_reducible exact fields_quotes.isF _)
    | (with_reducible refine IsLim.ite ?_ ?_)
    | (with_reducible refine IsLim.bind ?_ (fun _ => ?_))
theorem fields_Join.F_eq (l0 : List ByteArray) : fields_Join.F l0 = fields_Join.L0 ([] : List ByteArray) 0 l0 (l0.length : Int) 0 := by
  refine IsLim.eq (g := fun k => fields_Join.l0 k ([] : List ByteArray) 0 l0 (l0.length : Int) 0) ?_
  · repeat' first
    | (with_reducible exact IsLim.const _)
    | (with_reducible exact fields_Join.isL0 _ _ _ _ _)
    | (with_reducible refine IsLim.ite ?_ ?_)
    | (with_reducible refine IsLim.bind ?_ (fun _ => ?_))
noncomputable def solsticekeep_Texts.L0 (x0 : List ByteArray) (x1 : List ByteArray) (x5 : Int) : Option (Bool) := lim fun k => solsticekeep_Texts.l0 k x0 x1 x5
noncomputable def solsticekeep_Texts.F (l0 : List ByteArray) (l1 : List ByteArray) : Option (Bool) := lim fun k => solsticekeep_Texts.f k l0 l1
theorem solsticekeep_Texts.isL0 (x0 : List ByteArray) (x1 : List ByteArray) (x5 : Int) : IsLim (fun k => solsticekeep_Texts.l0 k x0 x1 x5) (solsticekeep_Texts.L0 x0 x1 x5) := ⟨fun k => (solsticekeep_Texts.mono_l k) x0 x1 x5, rfl⟩
theorem solsticekeep_Texts.isF (l0 : List ByteArray) (l1 : List ByteArray) : IsLim (fun k => solsticekeep_Texts.f k l0 l1) (solsticekeep_Texts.F l0 l1) := ⟨fun k => solsticekeep_Texts.mono l0 l1 k, rfl⟩
theorem solsticekeep_Texts.L0_eq (x0 : List ByteArray) (x1 : List ByteArray) (x5 : Int) : solsticekeep_Texts.L0 x0 x1 x5 = if x5 < (x0.length : Int) then (if 0 ≤ x5 then (if x5 < (x1.length : Int) then (if (rdOf ByteArray.empty x0 x5).toList = (rdOf ByteArray.empty x1 x5).toList then (solsticekeep_Texts.L0 x0 x1 (wrap64 (x5 + 1))) else (some false)) else (none)) else (none)) else (some true) := by
  refine IsLim.step (solsticekeep_Texts.isL0 x0 x1 x5).mono (f := fun k => if x5 < (x0.length : Int) then (if 0 ≤ x5 then (if x5 < (x1.length : Int) then (if (rdOf ByteArray.empty x0 x5).toList = (rdOf ByteArray.empty x1 x5).toList then (solsticekeep_Texts.l0 k x0 x1 (wrap64 (x5 + 1))) else (some false)) else (none)) else (none)) else (some true)) (fun k => by rw [solsticekeep_Texts.l0]) ?_
  · repeat' first
    | (with_reducible exact IsLim.const _)
    | (with_reducible exact solsticekeep_Texts.isL0 _ _ _)
    | (with_reducible refine IsLim.ite ?_ ?_)
    | (with_reducible refine IsLim.bind ?_ (fun _ => ?_))
theorem solsticekeep_Texts.F_eq (l0 : List ByteArray) (l1 : List ByteArray) : solsticekeep_Texts.F l0 l1 = if (l0.length : Int) = (l1.length : Int) then (solsticekeep_Texts.L0 l0 l1 0) else (some false) := by
  refine IsLim.eq (g := fun k => if (l0.length : Int) = (l1.length : Int) then (solsticekeep_Texts.l0 k l0 l1 0) else (some false)) ?_
  · repeat' first
    | (with_reducible exact IsLim.const _)
    | (with_reducible exact solsticekeep_Texts.isL0 _ _ _)
    | (with_reducible refine IsLim.ite ?_ ?_)
    | (with_reducible refine IsLim.bind ?_ (fun _ => ?_))
end Go.Proofs.YtmkknigneppneaaDoor.PFld
