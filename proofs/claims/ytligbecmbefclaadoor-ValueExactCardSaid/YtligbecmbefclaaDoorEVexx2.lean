/- Printed functions of the family Vex without a bound on their rounds, and the equation that each meets. No condition. -/
import Derived.Test.YtligbecmbefclaaDoorBase
import Derived.Test.YtligbecmbefclaaDoorPVexx2
import Derived.Test.YtligbecmbefclaaDoorEVexx1
namespace Go.Proofs.YtligbecmbefclaaDoor.PVex
open Go.RowKit Go.Proofs.YtligbecmbefclaaDoorW.PrintWords Go.Proofs.YtligbecmbefclaaDoorW.PrintLast Go.Proofs.YtligbecmbefclaaDoor.Base
set_option linter.unusedVariables false
noncomputable def value_Time.J0 (x1 : Bool) (x7 : Int) (x32 : Bool) (x125000 : Int) (x125001 : Int) (x125002 : Int) : Option (ByteArray × Int) := lim fun k => value_Time.j0 k x1 x7 x32 x125000 x125001 x125002
noncomputable def value_Time.F (a0 : Int) (a1 : Bool) : Option (ByteArray × Int) := lim fun k => value_Time.f k a0 a1
theorem value_Time.isJ0 (x1 : Bool) (x7 : Int) (x32 : Bool) (x125000 : Int) (x125001 : Int) (x125002 : Int) : IsLim (fun k => value_Time.j0 k x1 x7 x32 x125000 x125001 x125002) (value_Time.J0 x1 x7 x32 x125000 x125001 x125002) := ⟨fun k => (value_Time.mono_l k) x1 x7 x32 x125000 x125001 x125002, rfl⟩
theorem value_Time.isF (a0 : Int) (a1 : Bool) : IsLim (fun k => value_Time.f k a0 a1) (value_Time.F a0 a1) := ⟨fun k => value_Time.mono a0 a1 k, rfl⟩
theorem value_Time.J0_eq (x1 : Bool) (x7 : Int) (x32 : Bool) (x125000 : Int) (x125001 : Int) (x125002 : Int) : value_Time.J0 x1 x7 x32 x125000 x125001 x125002 = if x32 = true then (some ((⟨#[]⟩ : ByteArray), 23)) else ((num_Text.f x125000 4).bind fun t125 => ((num_Text.f x125001 2).bind fun t126 => (if t125.size + t126.size ≤ 9223372036854775807 then ((num_Text.f x125002 2).bind fun t127 => (if (t125 ++ t126).size + t127.size ≤ 9223372036854775807 then (if ((t125 ++ t126) ++ t127).size + 1 ≤ 9223372036854775807 then ((num_Text.f (wrap64 (Int.tdiv x7 3600)) 2).bind fun t128 => (if (((t125 ++ t126) ++ t127) ++ (⟨#[84]⟩ : ByteArray)).size + t128.size ≤ 9223372036854775807 then ((num_Text.f (wrap64 (Int.tdiv (Int.tmod x7 3600) 60)) 2).bind fun t129 => (if ((((t125 ++ t126) ++ t127) ++ (⟨#[84]⟩ : ByteArray)) ++ t128).size + t129.size ≤ 9223372036854775807 then ((num_Text.f (Int.tmod x7 60) 2).bind fun t130 => (if (((((t125 ++ t126) ++ t127) ++ (⟨#[84]⟩ : ByteArray)) ++ t128) ++ t129).size + t130.size ≤ 9223372036854775807 then (if x1 = true then (if ((((((t125 ++ t126) ++ t127) ++ (⟨#[84]⟩ : ByteArray)) ++ t128) ++ t129) ++ t130).size + 1 ≤ 9223372036854775807 then (some (((((((t125 ++ t126) ++ t127) ++ (⟨#[84]⟩ : ByteArray)) ++ t128) ++ t129) ++ t130) ++ (⟨#[90]⟩ : ByteArray), 0)) else (none)) else (some ((((((t125 ++ t126) ++ t127) ++ (⟨#[84]⟩ : ByteArray)) ++ t128) ++ t129) ++ t130, 0))) else (none))) else (none))) else (none))) else (none)) else (none))) else (none)))) := by
  apply IsLim.step (value_Time.isJ0 x1 x7 x32 x125000 x125001 x125002).mono
  case hf =>
    repeat'
      try intro _
      first
      | (with_reducible apply IsLim.ite)
      | (with_reducible apply IsLim.bind)
      | (apply IsLim.cst; intro _; exact rfl)
  case h => intro k; rw [value_Time.j0]
theorem value_Time.F_eq (a0 : Int) (a1 : Bool) : value_Time.F a0 a1 = (clock_Split.f a0).bind fun bt118 => ((civil_Date.F bt118.1).bind fun bt120 => (if bt120.2.2.2 = 0 then (if bt120.1 < 1 then (value_Time.J0 a1 bt118.2 true bt120.1 bt120.2.1 bt120.2.2.1) else (value_Time.J0 a1 bt118.2 (decide (bt120.1 > 9999)) bt120.1 bt120.2.1 bt120.2.2.1)) else (value_Time.J0 a1 bt118.2 true bt120.1 bt120.2.1 bt120.2.2.1))) := by
  apply IsLim.via
  case hf =>
    repeat'
      try intro _
      first
      | (with_reducible exact civil_Date.isF _)
      | (with_reducible exact value_Time.isJ0 _ _ _ _ _ _)
      | (with_reducible apply IsLim.ite)
      | (with_reducible apply IsLim.bind)
      | (apply IsLim.cst; intro _; exact rfl)
  case h => exact fun _ => rfl
end Go.Proofs.YtligbecmbefclaaDoor.PVex
