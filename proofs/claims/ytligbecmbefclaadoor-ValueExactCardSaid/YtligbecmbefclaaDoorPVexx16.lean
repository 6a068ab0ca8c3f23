-- Printed by a program of this session's over the kit's printer; library functions by contracts off the shelf.
import Derived.Test.YtligbecmbefclaaDoorGP
import Derived.Test.YtligbecmbefclaaDoorPVexx0
import Derived.Test.YtligbecmbefclaaDoorPVexx2
import Derived.Test.YtligbecmbefclaaDoorPVexx6
import Derived.Test.YtligbecmbefclaaDoorPVexx7
import Derived.Test.YtligbecmbefclaaDoorPVexx8
import Derived.Test.YtligbecmbefclaaDoorPVexx9
import Derived.Test.YtligbecmbefclaaDoorPVexx11
import Derived.Test.YtligbecmbefclaaDoorPVexx12
import Derived.Test.YtligbecmbefclaaDoorPVexx13
import Derived.Test.YtligbecmbefclaaDoorPVexx14
import Derived.Test.YtligbecmbefclaaDoorPVexx15
namespace Go.Proofs.YtligbecmbefclaaDoor.PVex
open Go.RowKit Go.Proofs.YtligbecmbefclaaDoorW.PrintWords Go.Proofs.YtligbecmbefclaaDoorW.PrintLast Go.Proofs.YtligbecmbefclaaDoorW.PrintMore Go.Proofs.YtligbecmbefclaaDoor.Base
attribute [local go_sem] max2_int min2_int max_two min_two max_three min_three max_four min_four   -- for this text's walks alone
set_option linter.unusedVariables false
set_option linter.unusedSimpArgs false
mutual
def solsticelaw20_ValueExact.j0 : Nat → Int → Int → Bool → ByteArray → ByteArray → Int → ByteArray → Int → Int → Int → List Int → Bool → Int → Bool → Option (Bool)
 | 0, _, _, _, _, _, _, _, _, _, _, _, _, _, _ => none
 | k + 1, x0, x1, x2, x3, x9, x10, x14, x15, x16, x17, x18, x19, x20, x92 => if x92 = true then (some false) else ((solsticeref16_ParseOffset.f k x3).bind fun bt328 => (if (bt328.2 != (x17 == 0)) = true then (solsticelaw20_ValueExact.j1 k x0 x1 x2 x3 x9 x10 x14 x15 x18 x19 x20 true) else (if bt328.2 = true then (solsticelaw20_ValueExact.j1 k x0 x1 x2 x3 x9 x10 x14 x15 x18 x19 x20 (x16 != bt328.1)) else (if x17 = 19 then (solsticelaw20_ValueExact.j1 k x0 x1 x2 x3 x9 x10 x14 x15 x18 x19 x20 (x16 != bt328.1)) else (solsticelaw20_ValueExact.j1 k x0 x1 x2 x3 x9 x10 x14 x15 x18 x19 x20 true)))))
def solsticelaw20_ValueExact.j1 : Nat → Int → Int → Bool → ByteArray → ByteArray → Int → ByteArray → Int → List Int → Bool → Int → Bool → Option (Bool)
 | 0, _, _, _, _, _, _, _, _, _, _, _, _ => none
 | k + 1, x0, x1, x2, x3, x9, x10, x14, x15, x18, x19, x20, x114 => if x114 = true then (some false) else ((solsticeref16_Times.f k x3).bind fun bt330 => (if (bt330.2.2 != (x20 == 0)) = true then (solsticelaw20_ValueExact.j2 k x0 x1 x2 x9 x10 x14 x15 true) else (if bt330.2.2 = true then ((solsticekeep_Ints.f k x18 bt330.1).bind fun t335 => (if t335 = true then (solsticelaw20_ValueExact.j2 k x0 x1 x2 x9 x10 x14 x15 (x19 != bt330.2.1)) else (solsticelaw20_ValueExact.j2 k x0 x1 x2 x9 x10 x14 x15 true))) else (if x20 = 19 then ((solsticekeep_Ints.f k x18 bt330.1).bind fun t336 => (if t336 = true then (solsticelaw20_ValueExact.j2 k x0 x1 x2 x9 x10 x14 x15 (x19 != bt330.2.1)) else (solsticelaw20_ValueExact.j2 k x0 x1 x2 x9 x10 x14 x15 true))) else (solsticelaw20_ValueExact.j2 k x0 x1 x2 x9 x10 x14 x15 true)))))
def solsticelaw20_ValueExact.j2 : Nat → Int → Int → Bool → ByteArray → Int → ByteArray → Int → Bool → Option (Bool)
 | 0, _, _, _, _, _, _, _, _ => none
 | k + 1, x0, x1, x2, x9, x10, x14, x15, x143 => if x143 = true then (some false) else (if x1 ≤ (-86400) then (solsticelaw20_ValueExact.j3 k x0 x1 x2 x9 x10 x14 x15 true) else (solsticelaw20_ValueExact.j3 k x0 x1 x2 x9 x10 x14 x15 (decide (x1 ≥ 86400))))
def solsticelaw20_ValueExact.j3 : Nat → Int → Int → Bool → ByteArray → Int → ByteArray → Int → Bool → Option (Bool)
 | 0, _, _, _, _, _, _, _, _ => none
 | k + 1, x0, x1, x2, x9, x10, x14, x15, x149 => if x149 = true then (if x15 = 19 then (if x14.toList = ([] : List UInt8) then (solsticelaw20_ValueExact.j4 k x0 x2 x9 x10) else (some false)) else (some false)) else (if x15 = 0 then ((solsticeref16_Offset.f k x1).bind fun t337 => (if x14.toList = t337.toList then (solsticelaw20_ValueExact.j4 k x0 x2 x9 x10) else (some false))) else (some false))
def solsticelaw20_ValueExact.j4 : Nat → Int → Bool → ByteArray → Int → Option (Bool)
 | 0, _, _, _, _ => none
 | k + 1, x0, x2, x9, x10 => (solsticeref16_Years.f k x0).bind fun bt338 => (if bt338.2.2.2 = true then (if x10 = 0 then ((solsticeref16_Time.f k x0 x2).bind fun t343 => (if x9.toList = t343.toList then ((solsticelaw20_wakes.f k).bind fun t344 => (some t344)) else (some false))) else (some false)) else (if x10 = 23 then (if x9.toList = ([] : List UInt8) then ((solsticelaw20_wakes.f k).bind fun t345 => (some t345)) else (some false)) else (some false)))
end
def solsticelaw20_ValueExact.f (k : Nat) (a0 : Int) (a1 : Int) (a2 : Bool) (a3 : ByteArray) : Option (Bool) := if (a3.size : Int) > 500 then (some true) else ((value_Time.f k a0 a2).bind fun bt311 => ((value_ParseTime.f k a3).bind fun bt313 => ((value_Offset.f k a1).bind fun bt316 => ((value_ParseOffset.f k a3).bind fun bt318 => ((value_Times.f k a3).bind fun bt320 => ((solsticeref16_ParseTime.f k a3).bind fun bt325 => (if (bt325.2.2 != (bt313.2.2 == 0)) = true then (solsticelaw20_ValueExact.j0 k a0 a1 a2 a3 bt311.1 bt311.2 bt316.1 bt316.2 bt318.1 bt318.2 bt320.1 bt320.2.1 bt320.2.2 true) else (if bt325.2.2 = true then (if bt313.1 = bt325.1 then (if bt325.2.1 = true then (solsticelaw20_ValueExact.j0 k a0 a1 a2 a3 bt311.1 bt311.2 bt316.1 bt316.2 bt318.1 bt318.2 bt320.1 bt320.2.1 bt320.2.2 (bt313.2.1 != bt325.2.2)) else (solsticelaw20_ValueExact.j0 k a0 a1 a2 a3 bt311.1 bt311.2 bt316.1 bt316.2 bt318.1 bt318.2 bt320.1 bt320.2.1 bt320.2.2 (bt313.2.1 != false))) else (solsticelaw20_ValueExact.j0 k a0 a1 a2 a3 bt311.1 bt311.2 bt316.1 bt316.2 bt318.1 bt318.2 bt320.1 bt320.2.1 bt320.2.2 true)) else (if bt313.2.2 = 19 then (if bt313.1 = bt325.1 then (if bt325.2.1 = true then (solsticelaw20_ValueExact.j0 k a0 a1 a2 a3 bt311.1 bt311.2 bt316.1 bt316.2 bt318.1 bt318.2 bt320.1 bt320.2.1 bt320.2.2 (bt313.2.1 != bt325.2.2)) else (solsticelaw20_ValueExact.j0 k a0 a1 a2 a3 bt311.1 bt311.2 bt316.1 bt316.2 bt318.1 bt318.2 bt320.1 bt320.2.1 bt320.2.2 (bt313.2.1 != false))) else (solsticelaw20_ValueExact.j0 k a0 a1 a2 a3 bt311.1 bt311.2 bt316.1 bt316.2 bt318.1 bt318.2 bt320.1 bt320.2.1 bt320.2.2 true)) else (solsticelaw20_ValueExact.j0 k a0 a1 a2 a3 bt311.1 bt311.2 bt316.1 bt316.2 bt318.1 bt318.2 bt320.1 bt320.2.1 bt320.2.2 true))))))))))
theorem solsticelaw20_ValueExact.mono_l : ∀ k, (∀ y0 y1 y2 y3 y4 y5 y6 y7 y8 y9 y10 y11 y12 y13, LeO (solsticelaw20_ValueExact.j0 k y0 y1 y2 y3 y4 y5 y6 y7 y8 y9 y10 y11 y12 y13) (solsticelaw20_ValueExact.j0 (k + 1) y0 y1 y2 y3 y4 y5 y6 y7 y8 y9 y10 y11 y12 y13)) ∧ (∀ y0 y1 y2 y3 y4 y5 y6 y7 y8 y9 y10 y11, LeO (solsticelaw20_ValueExact.j1 k y0 y1 y2 y3 y4 y5 y6 y7 y8 y9 y10 y11) (solsticelaw20_ValueExact.j1 (k + 1) y0 y1 y2 y3 y4 y5 y6 y7 y8 y9 y10 y11)) ∧ (∀ y0 y1 y2 y3 y4 y5 y6 y7, LeO (solsticelaw20_ValueExact.j2 k y0 y1 y2 y3 y4 y5 y6 y7) (solsticelaw20_ValueExact.j2 (k + 1) y0 y1 y2 y3 y4 y5 y6 y7)) ∧ (∀ y0 y1 y2 y3 y4 y5 y6 y7, LeO (solsticelaw20_ValueExact.j3 k y0 y1 y2 y3 y4 y5 y6 y7) (solsticelaw20_ValueExact.j3 (k + 1) y0 y1 y2 y3 y4 y5 y6 y7)) ∧ (∀ y0 y1 y2 y3, LeO (solsticelaw20_ValueExact.j4 k y0 y1 y2 y3) (solsticelaw20_ValueExact.j4 (k + 1) y0 y1 y2 y3))
 | 0 => ⟨fun _ _ _ _ _ _ _ _ _ _ _ _ _ _ r h => by simp [solsticelaw20_ValueExact.j0] at h, fun _ _ _ _ _ _ _ _ _ _ _ _ r h => by simp [solsticelaw20_ValueExact.j1] at h, fun _ _ _ _ _ _ _ _ r h => by simp [solsticelaw20_ValueExact.j2] at h, fun _ _ _ _ _ _ _ _ r h => by simp [solsticelaw20_ValueExact.j3] at h, fun _ _ _ _ r h => by simp [solsticelaw20_ValueExact.j4] at h⟩
 | k + 1 => by
  obtain ⟨ih0, ih1, ih2, ih3, ih4⟩ := solsticelaw20_ValueExact.mono_l k
  refine ⟨?_, ?_, ?_, ?_, ?_⟩
  ·intro y0 y1 y2 y3 y4 y5 y6 y7 y8 y9 y10 y11 y12 y13
   unfold solsticelaw20_ValueExact.j0
   repeat' first
   | (with_reducible exact ih0 _ _ _ _ _ _ _ _ _ _ _ _ _ _)
   | (with_reducible exact ih1 _ _ _ _ _ _ _ _ _ _ _ _)
   | (with_reducible exact ih2 _ _ _ _ _ _ _ _)
   | (with_reducible exact ih3 _ _ _ _ _ _ _ _)
   | (with_reducible exact ih4 _ _ _ _)
   | (with_reducible exact solsticekeep_Ints.mono _ _ _)
   | (with_reducible exact solsticelaw20_wakes.mono _)
   | (with_reducible exact solsticeref16_Offset.mono _ _)
   | (with_reducible exact solsticeref16_ParseOffset.mono _ _)
   | (with_reducible exact solsticeref16_ParseTime.mono _ _)
   | (with_reducible exact solsticeref16_Time.mono _ _ _)
   | (with_reducible exact solsticeref16_Times.mono _ _)
   | (with_reducible exact solsticeref16_Years.mono _ _)
   | (with_reducible exact value_Offset.mono _ _)
   | (with_reducible exact value_ParseOffset.mono _ _)
   | (with_reducible exact value_ParseTime.mono _ _)
   | (with_reducible exact value_Time.mono _ _ _)
   | (with_reducible exact value_Times.mono _ _)
   | (with_reducible exact LeO.refl _)
   | (with_reducible exact LeO.none _)
   | (with_reducible refine LeO.ite ?_ ?_)
   | (with_reducible refine LeO.bind ?_ (fun _ => ?_))
   | exact ih0 _ _ _ _ _ _ _ _ _ _ _ _ _ _
   | exact ih1 _ _ _ _ _ _ _ _ _ _ _ _
   | exact ih2 _ _ _ _ _ _ _ _
   | exact ih3 _ _ _ _ _ _ _ _
   | exact ih4 _ _ _ _
   | exact solsticekeep_Ints.mono _ _ _
   | exact solsticelaw20_wakes.mono _
   | exact solsticeref16_Offset.mono _ _
   | exact solsticeref16_ParseOffset.mono _ _
   | exact solsticeref16_ParseTime.mono _ _
   | exact solsticeref16_Time.mono _ _ _
   | exact solsticeref16_Times.mono _ _
   | exact solsticeref16_Years.mono _ _
   | exact value_Offset.mono _ _
   | exact value_ParseOffset.mono _ _
   | exact value_ParseTime.mono _ _
   | exact value_Time.mono _ _ _
   | exact value_Times.mono _ _
   | exact LeO.none _
   | refine LeO.ite ?_ ?_
   | refine LeO.bind ?_ (fun _ => ?_)
  ·intro y0 y1 y2 y3 y4 y5 y6 y7 y8 y9 y10 y11
   unfold solsticelaw20_ValueExact.j1
   repeat' first
   | (with_reducible exact ih0 _ _ _ _ _ _ _ _ _ _ _ _ _ _)
   | (with_reducible exact ih1 _ _ _ _ _ _ _ _ _ _ _ _)
   | (with_reducible exact ih2 _ _ _ _ _ _ _ _)
   | (with_reducible exact ih3 _ _ _ _ _ _ _ _)
   | (with_reducible exact ih4 _ _ _ _)
   | (with_reducible exact solsticekeep_Ints.mono _ _ _)
   | (with_reducible exact solsticelaw20_wakes.mono _)
   | (with_reducible exact solsticeref16_Offset.mono _ _)
   | (with_reducible exact solsticeref16_ParseOffset.mono _ _)
   | (with_reducible exact solsticeref16_ParseTime.mono _ _)
   | (with_reducible exact solsticeref16_Time.mono _ _ _)
   | (with_reducible exact solsticeref16_Times.mono _ _)
   | (with_reducible exact solsticeref16_Years.mono _ _)
   | (with_reducible exact value_Offset.mono _ _)
   | (with_reducible exact value_ParseOffset.mono _ _)
   | (with_reducible exact value_ParseTime.mono _ _)
   | (with_reducible exact value_Time.mono _ _ _)
   | (with_reducible exact value_Times.mono _ _)
   | (with_reducible exact LeO.refl _)
   | (with_reducible exact LeO.none _)
   | (with_reducible refine LeO.ite ?_ ?_)
   | (with_reducible refine LeO.bind ?_ (fun _ => ?_))
   | exact ih0 _ _ _ _ _ _ _ _ _ _ _ _ _ _
   | exact ih1 _ _ _ _ _ _ _ _ _ _ _ _
   | exact ih2 _ _ _ _ _ _ _ _
   | exact ih3 _ _ _ _ _ _ _ _
   | exact ih4 _ _ _ _
   | exact solsticekeep_Ints.mono _ _ _
   | exact solsticelaw20_wakes.mono _
   | exact solsticeref16_Offset.mono _ _
   | exact solsticeref16_ParseOffset.mono _ _
   | exact solsticeref16_ParseTime.mono _ _
   | exact solsticeref16_Time.mono _ _ _
   | exact solsticeref16_Times.mono _ _
   | exact solsticeref16_Years.mono _ _
   | exact value_Offset.mono _ _
   | exact value_ParseOffset.mono _ _
   | exact value_ParseTime.mono _ _
   | exact value_Time.mono _ _ _
   | exact value_Times.mono _ _
   | exact LeO.none _
   | refine LeO.ite ?_ ?_
   | refine LeO.bind ?_ (fun _ => ?_)
  ·intro y0 y1 y2 y3 y4 y5 y6 y7
   unfold solsticelaw20_ValueExact.j2
   repeat' first
   | (with_reducible exact ih0 _ _ _ _ _ _ _ _ _ _ _ _ _ _)
   | (with_reducible exact ih1 _ _ _ _ _ _ _ _ _ _ _ _)
   | (with_reducible exact ih2 _ _ _ _ _ _ _ _)
   | (with_reducible exact ih3 _ _ _ _ _ _ _ _)
   | (with_reducible exact ih4 _ _ _ _)
   | (with_reducible exact solsticekeep_Ints.mono _ _ _)
   | (with_reducible exact solsticelaw20_wakes.mono _)
   | (with_reducible exact solsticeref16_Offset.mono _ _)
   | (with_reducible exact solsticeref16_ParseOffset.mono _ _)
   | (with_reducible exact solsticeref16_ParseTime.mono _ _)
   | (with_reducible exact solsticeref16_Time.mono _ _ _)
   | (with_reducible exact solsticeref16_Times.mono _ _)
   | (with_reducible exact solsticeref16_Years.mono _ _)
   | (with_reducible exact value_Offset.mono _ _)
   | (with_reducible exact value_ParseOffset.mono _ _)
   | (with_reducible exact value_ParseTime.mono _ _)
   | (with_reducible exact value_Time.mono _ _ _)
   | (with_reducible exact value_Times.mono _ _)
   | (with_reducible exact LeO.refl _)
   | (with_reducible exact LeO.none _)
   | (with_reducible refine LeO.ite ?_ ?_)
   | (with_reducible refine LeO.bind ?_ (fun _ => ?_))
   | exact ih0 _ _ _ _ _ _ _ _ _ _ _ _ _ _
   | exact ih1 _ _ _ _ _ _ _ _ _ _ _ _
   | exact ih2 _ _ _ _ _ _ _ _
   | exact ih3 _ _ _ _ _ _ _ _
   | exact ih4 _ _ _ _
   | exact solsticekeep_Ints.mono _ _ _
   | exact solsticelaw20_wakes.mono _
   | exact solsticeref16_Offset.mono _ _
   | exact solsticeref16_ParseOffset.mono _ _
   | exact solsticeref16_ParseTime.mono _ _
   | exact solsticeref16_Time.mono _ _ _
   | exact solsticeref16_Times.mono _ _
   | exact solsticeref16_Years.mono _ _
   | exact value_Offset.mono _ _
   | exact value_ParseOffset.mono _ _
   | exact value_ParseTime.mono _ _
   | exact value_Time.mono _ _ _
   | exact value_Times.mono _ _
   | exact LeO.none _
   | refine LeO.ite ?_ ?_
   | refine LeO.bind ?_ (fun _ => ?_)
  ·intro y0 y1 y2 y3 y4 y5 y6 y7
   unfold solsticelaw20_ValueExact.j3
   repeat' first
   | (with_reducible exact ih0 _ _ _ _ _ _ _ _ _ _ _ _ _ _)
   | (with_reducible exact ih1 _ _ _ _ _ _ _ _ _ _ _ _)
   | (with_reducible exact ih2 _ _ _ _ _ _ _ _)
   | (with_reducible exact ih3 _ _ _ _ _ _ _ _)
   | (with_reducible exact ih4 _ _ _ _)
   | (with_reducible exact solsticekeep_Ints.mono _ _ _)
   | (with_reducible exact solsticelaw20_wakes.mono _)
   | (with_reducible exact solsticeref16_Offset.mono _ _)
   | (with_reducible exact solsticeref16_ParseOffset.mono _ _)
   | (with_reducible exact solsticeref16_ParseTime.mono _ _)
   | (with_reducible exact solsticeref16_Time.mono _ _ _)
   | (with_reducible exact solsticeref16_Times.mono _ _)
   | (with_reducible exact solsticeref16_Years.mono _ _)
   | (with_reducible exact value_Offset.mono _ _)
   | (with_reducible exact value_ParseOffset.mono _ _)
   | (with_reducible exact value_ParseTime.mono _ _)
   | (with_reducible exact value_Time.mono _ _ _)
   | (with_reducible exact value_Times.mono _ _)
   | (with_reducible exact LeO.refl _)
   | (with_reducible exact LeO.none _)
   | (with_reducible refine LeO.ite ?_ ?_)
   | (with_reducible refine LeO.bind ?_ (fun _ => ?_))
   | exact ih0 _ _ _ _ _ _ _ _ _ _ _ _ _ _
   | exact ih1 _ _ _ _ _ _ _ _ _ _ _ _
   | exact ih2 _ _ _ _ _ _ _ _
   | exact ih3 _ _ _ _ _ _ _ _
   | exact ih4 _ _ _ _
   | exact solsticekeep_Ints.mono _ _ _
   | exact solsticelaw20_wakes.mono _
   | exact solsticeref16_Offset.mono _ _
   | exact solsticeref16_ParseOffset.mono _ _
   | exact solsticeref16_ParseTime.mono _ _
   | exact solsticeref16_Time.mono _ _ _
   | exact solsticeref16_Times.mono _ _
   | exact solsticeref16_Years.mono _ _
   | exact value_Offset.mono _ _
   | exact value_ParseOffset.mono _ _
   | exact value_ParseTime.mono _ _
   | exact value_Time.mono _ _ _
   | exact value_Times.mono _ _
   | exact LeO.none _
   | refine LeO.ite ?_ ?_
   | refine LeO.bind ?_ (fun _ => ?_)
  ·intro y0 y1 y2 y3
   unfold solsticelaw20_ValueExact.j4
   repeat' first
   | (with_reducible exact ih0 _ _ _ _ _ _ _ _ _ _ _ _ _ _)
   | (with_reducible exact ih1 _ _ _ _ _ _ _ _ _ _ _ _)
   | (with_reducible exact ih2 _ _ _ _ _ _ _ _)
   | (with_reducible exact ih3 _ _ _ _ _ _ _ _)
   | (with_reducible exact ih4 _ _ _ _)
   | (with_reducible exact solsticekeep_Ints.mono _ _ _)
   | (with_reducible exact solsticelaw20_wakes.mono _)
   | (with_reducible exact solsticeref16_Offset.mono _ _)
   | (with_reducible exact solsticeref16_ParseOffset.mono _ _)
   | (with_reducible exact solsticeref16_ParseTime.mono _ _)
   | (with_reducible exact solsticeref16_Time.mono _ _ _)
   | (with_reducible exact solsticeref16_Times.mono _ _)
   | (with_reducible exact solsticeref16_Years.mono _ _)
   | (with_reducible exact value_Offset.mono _ _)
   | (with_reducible exact value_ParseOffset.mono _ _)
   | (with_reducible exact value_ParseTime.mono _ _)
   | (with_reducible exact value_Time.mono _ _ _)
   | (with_reducible exact value_Times.mono _ _)
   | (with_reducible exact LeO.refl _)
   | (with_reducible exact LeO.none _)
   | (with_reducible refine LeO.ite ?_ ?_)
   | (with_reducible refine LeO.bind ?_ (fun _ => ?_))
   | exact ih0 _ _ _ _ _ _ _ _ _ _ _ _ _ _
   | exact ih1 _ _ _ _ _ _ _ _ _ _ _ _
   | exact ih2 _ _ _ _ _ _ _ _
   | exact ih3 _ _ _ _ _ _ _ _
   | exact ih4 _ _ _ _
   | exact solsticekeep_Ints.mono _ _ _
   | exact solsticelaw20_wakes.mono _
   | exact solsticeref16_Offset.mono _ _
   | exact solsticeref16_ParseOffset.mono _ _
   | exact solsticeref16_ParseTime.mono _ _
   | exact solsticeref16_Time.mono _ _ _
   | exact solsticeref16_Times.mono _ _
   | exact solsticeref16_Years.mono _ _
   | exact value_Offset.mono _ _
   | exact value_ParseOffset.mono _ _
   | exact value_ParseTime.mono _ _
   | exact value_Time.mono _ _ _
   | exact value_Times.mono _ _
   | exact LeO.none _
   | refine LeO.ite ?_ ?_
   | refine LeO.bind ?_ (fun _ => ?_)
theorem solsticelaw20_ValueExact.mono : ∀ a0 a1 a2 a3 k, LeO (solsticelaw20_ValueExact.f k a0 a1 a2 a3) (solsticelaw20_ValueExact.f (k + 1) a0 a1 a2 a3) := by
 (intro a0 a1 a2 a3 k); (obtain ⟨ih0, ih1, ih2, ih3, ih4⟩ := solsticelaw20_ValueExact.mono_l k); (unfold solsticelaw20_ValueExact.f)
 repeat' first
   | (with_reducible exact ih0 _ _ _ _ _ _ _ _ _ _ _ _ _ _)
   | (with_reducible exact ih1 _ _ _ _ _ _ _ _ _ _ _ _)
   | (with_reducible exact ih2 _ _ _ _ _ _ _ _)
   | (with_reducible exact ih3 _ _ _ _ _ _ _ _)
   | (with_reducible exact ih4 _ _ _ _)
   | (with_reducible exact solsticekeep_Ints.mono _ _ _)
   | (with_reducible exact solsticelaw20_wakes.mono _)
   | (with_reducible exact solsticeref16_Offset.mono _ _)
   | (with_reducible exact solsticeref16_ParseOffset.mono _ _)
   | (with_reducible exact solsticeref16_ParseTime.mono _ _)
   | (with_reducible exact solsticeref16_Time.mono _ _ _)
   | (with_reducible exact solsticeref16_Times.mono _ _)
   | (with_reducible exact solsticeref16_Years.mono _ _)
   | (with_reducible exact value_Offset.mono _ _)
   | (with_reducible exact value_ParseOffset.mono _ _)
   | (with_reducible exact value_ParseTime.mono _ _)
   | (with_reducible exact value_Time.mono _ _ _)
   | (with_reducible exact value_Times.mono _ _)
   | (with_reducible exact LeO.refl _)
   | (with_reducible exact LeO.none _)
   | (with_reducible refine LeO.ite ?_ ?_)
   | (with_reducible refine LeO.bind ?_ (fun _ => ?_))
   | exact ih0 _ _ _ _ _ _ _ _ _ _ _ _ _ _
   | exact ih1 _ _ _ _ _ _ _ _ _ _ _ _
   | exact ih2 _ _ _ _ _ _ _ _
   | exact ih3 _ _ _ _ _ _ _ _
   | exact ih4 _ _ _ _
   | exact solsticekeep_Ints.mono _ _ _
   | exact solsticelaw20_wakes.mono _
   | exact solsticeref16_Offset.mono _ _
   | exact solsticeref16_ParseOffset.mono _ _
   | exact solsticeref16_ParseTime.mono _ _
   | exact solsticeref16_Time.mono _ _ _
   | exact solsticeref16_Times.mono _ _
   | exact solsticeref16_Years.mono _ _
   | exact value_Offset.mono _ _
   | exact value_ParseOffset.mono _ _
   | exact value_ParseTime.mono _ _
   | exact value_Time.mono _ _ _
   | exact value_Times.mono _ _
   | exact LeO.none _
   | refine LeO.ite ?_ ?_
   | refine LeO.bind ?_ (fun _ => ?_)
set_option maxHeartbeats 8000000 in
set_option maxRecDepth 100000 in
theorem solsticelaw20_ValueExact.calls (k : Nat) (a0 : Int) (a1 : Int) (a2 : Bool) (a3 : ByteArray) (r : Bool) (htrue : r = true) (w : World) (hG : GP w) (h : solsticelaw20_ValueExact.f k a0 a1 a2 a3 = some r) :
  Calls Tryd.prog 3 #[.int .i64 a0, .int .i64 a1, .bool a2, .string a3] w fun e w' => e = .returned (.bool r) ∧ Below w.heap.size w w' := by
 (have HG := aM hG); clear hG; (have hu42 := Tryd.underlying42); (have HB := aM (Below.refl w.heap.size w)); (have H : (if (a3.size : Int) > 500 then (some true) else ((value_Time.f k a0 a2).bind fun bt311 => ((value_ParseTime.f k a3).bind fun bt313 => ((value_Offset.f k a1).bind fun bt316 => ((value_ParseOffset.f k a3).bind fun bt318 => ((value_Times.f k a3).bind fun bt320 => ((solsticeref16_ParseTime.f k a3).bind fun bt325 => (if (bt325.2.2 != (bt313.2.2 == 0)) = true then (solsticelaw20_ValueExact.j0 k a0 a1 a2 a3 bt311.1 bt311.2 bt316.1 bt316.2 bt318.1 bt318.2 bt320.1 bt320.2.1 bt320.2.2 true) else (if bt325.2.2 = true then (if bt313.1 = bt325.1 then (if bt325.2.1 = true then (solsticelaw20_ValueExact.j0 k a0 a1 a2 a3 bt311.1 bt311.2 bt316.1 bt316.2 bt318.1 bt318.2 bt320.1 bt320.2.1 bt320.2.2 (bt313.2.1 != bt325.2.2)) else (solsticelaw20_ValueExact.j0 k a0 a1 a2 a3 bt311.1 bt311.2 bt316.1 bt316.2 bt318.1 bt318.2 bt320.1 bt320.2.1 bt320.2.2 (bt313.2.1 != false))) else (solsticelaw20_ValueExact.j0 k a0 a1 a2 a3 bt311.1 bt311.2 bt316.1 bt316.2 bt318.1 bt318.2 bt320.1 bt320.2.1 bt320.2.2 true)) else (if bt313.2.2 = 19 then (if bt313.1 = bt325.1 then (if bt325.2.1 = true then (solsticelaw20_ValueExact.j0 k a0 a1 a2 a3 bt311.1 bt311.2 bt316.1 bt316.2 bt318.1 bt318.2 bt320.1 bt320.2.1 bt320.2.2 (bt313.2.1 != bt325.2.2)) else (solsticelaw20_ValueExact.j0 k a0 a1 a2 a3 bt311.1 bt311.2 bt316.1 bt316.2 bt318.1 bt318.2 bt320.1 bt320.2.1 bt320.2.2 (bt313.2.1 != false))) else (solsticelaw20_ValueExact.j0 k a0 a1 a2 a3 bt311.1 bt311.2 bt316.1 bt316.2 bt318.1 bt318.2 bt320.1 bt320.2.1 bt320.2.2 true)) else (solsticelaw20_ValueExact.j0 k a0 a1 a2 a3 bt311.1 bt311.2 bt316.1 bt316.2 bt318.1 bt318.2 bt320.1 bt320.2.1 bt320.2.2 true))))))))))) = some r := h); clear h; (by_cases c5 : (a3.size : Int) > 500)
 ·(rw [if_pos c5] at H); (have c5b0 : decide (500 < (a3.size : Int)) = true := dE c5); (have c5b1 : decide (500 < a3.size) = true := dE (by omega)); clear c5; (obtain rfl := Option.some.inj H); (go_enter Tryd.func3, Tryd.ntmps3); (go_wp2); (go_ret); (exact ⟨by first | rfl | (simp [errW_none, errW_some] <;> rfl) | (simp [*, errW_none, errW_some] <;> rfl), by repeat (first | (with_reducible first | exact HB.out | apply lA | apply lN | apply lW) | exact HB.out)⟩)
 ·(rw [if_neg c5] at H); (have c5b0 : decide (500 < (a3.size : Int)) = false := decide_eq_false c5); (have c5b1 : decide (500 < a3.size) = false := decide_eq_false (by omega)); clear c5; (replace H := Option.bind_eq_some_iff.mp H); (obtain ⟨⟨t311, t312⟩, A60, H⟩ := H); (replace H : ((value_ParseTime.f k a3).bind fun bt313 => ((value_Offset.f k a1).bind fun bt316 => ((value_ParseOffset.f k a3).bind fun bt318 => ((value_Times.f k a3).bind fun bt320 => ((solsticeref16_ParseTime.f k a3).bind fun bt325 => (if (bt325.2.2 != (bt313.2.2 == 0)) = true then (solsticelaw20_ValueExact.j0 k a0 a1 a2 a3 t311 t312 bt316.1 bt316.2 bt318.1 bt318.2 bt320.1 bt320.2.1 bt320.2.2 true) else (if bt325.2.2 = true then (if bt313.1 = bt325.1 then (if bt325.2.1 = true then (solsticelaw20_ValueExact.j0 k a0 a1 a2 a3 t311 t312 bt316.1 bt316.2 bt318.1 bt318.2 bt320.1 bt320.2.1 bt320.2.2 (bt313.2.1 != bt325.2.2)) else (solsticelaw20_ValueExact.j0 k a0 a1 a2 a3 t311 t312 bt316.1 bt316.2 bt318.1 bt318.2 bt320.1 bt320.2.1 bt320.2.2 (bt313.2.1 != false))) else (solsticelaw20_ValueExact.j0 k a0 a1 a2 a3 t311 t312 bt316.1 bt316.2 bt318.1 bt318.2 bt320.1 bt320.2.1 bt320.2.2 true)) else (if bt313.2.2 = 19 then (if bt313.1 = bt325.1 then (if bt325.2.1 = true then (solsticelaw20_ValueExact.j0 k a0 a1 a2 a3 t311 t312 bt316.1 bt316.2 bt318.1 bt318.2 bt320.1 bt320.2.1 bt320.2.2 (bt313.2.1 != bt325.2.2)) else (solsticelaw20_ValueExact.j0 k a0 a1 a2 a3 t311 t312 bt316.1 bt316.2 bt318.1 bt318.2 bt320.1 bt320.2.1 bt320.2.2 (bt313.2.1 != false))) else (solsticelaw20_ValueExact.j0 k a0 a1 a2 a3 t311 t312 bt316.1 bt316.2 bt318.1 bt318.2 bt320.1 bt320.2.1 bt320.2.2 true)) else (solsticelaw20_ValueExact.j0 k a0 a1 a2 a3 t311 t312 bt316.1 bt316.2 bt318.1 bt318.2 bt320.1 bt320.2.1 bt320.2.2 true))))))))) = some r := H); (have A6 := aM A60); clear A60; (replace H := Option.bind_eq_some_iff.mp H); (obtain ⟨⟨t313, t314, t315⟩, A70, H⟩ := H); (replace H : ((value_Offset.f k a1).bind fun bt316 => ((value_ParseOffset.f k a3).bind fun bt318 => ((value_Times.f k a3).bind fun bt320 => ((solsticeref16_ParseTime.f k a3).bind fun bt325 => (if (bt325.2.2 != (t315 == 0)) = true then (solsticelaw20_ValueExact.j0 k a0 a1 a2 a3 t311 t312 bt316.1 bt316.2 bt318.1 bt318.2 bt320.1 bt320.2.1 bt320.2.2 true) else (if bt325.2.2 = true then (if t313 = bt325.1 then (if bt325.2.1 = true then (solsticelaw20_ValueExact.j0 k a0 a1 a2 a3 t311 t312 bt316.1 bt316.2 bt318.1 bt318.2 bt320.1 bt320.2.1 bt320.2.2 (t314 != bt325.2.2)) else (solsticelaw20_ValueExact.j0 k a0 a1 a2 a3 t311 t312 bt316.1 bt316.2 bt318.1 bt318.2 bt320.1 bt320.2.1 bt320.2.2 (t314 != false))) else (solsticelaw20_ValueExact.j0 k a0 a1 a2 a3 t311 t312 bt316.1 bt316.2 bt318.1 bt318.2 bt320.1 bt320.2.1 bt320.2.2 true)) else (if t315 = 19 then (if t313 = bt325.1 then (if bt325.2.1 = true then (solsticelaw20_ValueExact.j0 k a0 a1 a2 a3 t311 t312 bt316.1 bt316.2 bt318.1 bt318.2 bt320.1 bt320.2.1 bt320.2.2 (t314 != bt325.2.2)) else (solsticelaw20_ValueExact.j0 k a0 a1 a2 a3 t311 t312 bt316.1 bt316.2 bt318.1 bt318.2 bt320.1 bt320.2.1 bt320.2.2 (t314 != false))) else (solsticelaw20_ValueExact.j0 k a0 a1 a2 a3 t311 t312 bt316.1 bt316.2 bt318.1 bt318.2 bt320.1 bt320.2.1 bt320.2.2 true)) else (solsticelaw20_ValueExact.j0 k a0 a1 a2 a3 t311 t312 bt316.1 bt316.2 bt318.1 bt318.2 bt320.1 bt320.2.1 bt320.2.2 true)))))))) = some r := H); (have A7 := aM A70); clear A70; (replace H := Option.bind_eq_some_iff.mp H); (obtain ⟨⟨t316, t317⟩, A80, H⟩ := H); (replace H : ((value_ParseOffset.f k a3).bind fun bt318 => ((value_Times.f k a3).bind fun bt320 => ((solsticeref16_ParseTime.f k a3).bind fun bt325 => (if (bt325.2.2 != (t315 == 0)) = true then (solsticelaw20_ValueExact.j0 k a0 a1 a2 a3 t311 t312 t316 t317 bt318.1 bt318.2 bt320.1 bt320.2.1 bt320.2.2 true) else (if bt325.2.2 = true then (if t313 = bt325.1 then (if bt325.2.1 = true then (solsticelaw20_ValueExact.j0 k a0 a1 a2 a3 t311 t312 t316 t317 bt318.1 bt318.2 bt320.1 bt320.2.1 bt320.2.2 (t314 != bt325.2.2)) else (solsticelaw20_ValueExact.j0 k a0 a1 a2 a3 t311 t312 t316 t317 bt318.1 bt318.2 bt320.1 bt320.2.1 bt320.2.2 (t314 != false))) else (solsticelaw20_ValueExact.j0 k a0 a1 a2 a3 t311 t312 t316 t317 bt318.1 bt318.2 bt320.1 bt320.2.1 bt320.2.2 true)) else (if t315 = 19 then (if t313 = bt325.1 then (if bt325.2.1 = true then (solsticelaw20_ValueExact.j0 k a0 a1 a2 a3 t311 t312 t316 t317 bt318.1 bt318.2 bt320.1 bt320.2.1 bt320.2.2 (t314 != bt325.2.2)) else (solsticelaw20_ValueExact.j0 k a0 a1 a2 a3 t311 t312 t316 t317 bt318.1 bt318.2 bt320.1 bt320.2.1 bt320.2.2 (t314 != false))) else (solsticelaw20_ValueExact.j0 k a0 a1 a2 a3 t311 t312 t316 t317 bt318.1 bt318.2 bt320.1 bt320.2.1 bt320.2.2 true)) else (solsticelaw20_ValueExact.j0 k a0 a1 a2 a3 t311 t312 t316 t317 bt318.1 bt318.2 bt320.1 bt320.2.1 bt320.2.2 true))))))) = some r := H); (have A8 := aM A80); clear A80; (replace H := Option.bind_eq_some_iff.mp H); (obtain ⟨⟨t318, t319⟩, A90, H⟩ := H); (replace H : ((value_Times.f k a3).bind fun bt320 => ((solsticeref16_ParseTime.f k a3).bind fun bt325 => (if (bt325.2.2 != (t315 == 0)) = true then (solsticelaw20_ValueExact.j0 k a0 a1 a2 a3 t311 t312 t316 t317 t318 t319 bt320.1 bt320.2.1 bt320.2.2 true) else (if bt325.2.2 = true then (if t313 = bt325.1 then (if bt325.2.1 = true then (solsticelaw20_ValueExact.j0 k a0 a1 a2 a3 t311 t312 t316 t317 t318 t319 bt320.1 bt320.2.1 bt320.2.2 (t314 != bt325.2.2)) else (solsticelaw20_ValueExact.j0 k a0 a1 a2 a3 t311 t312 t316 t317 t318 t319 bt320.1 bt320.2.1 bt320.2.2 (t314 != false))) else (solsticelaw20_ValueExact.j0 k a0 a1 a2 a3 t311 t312 t316 t317 t318 t319 bt320.1 bt320.2.1 bt320.2.2 true)) else (if t315 = 19 then (if t313 = bt325.1 then (if bt325.2.1 = true then (solsticelaw20_ValueExact.j0 k a0 a1 a2 a3 t311 t312 t316 t317 t318 t319 bt320.1 bt320.2.1 bt320.2.2 (t314 != bt325.2.2)) else (solsticelaw20_ValueExact.j0 k a0 a1 a2 a3 t311 t312 t316 t317 t318 t319 bt320.1 bt320.2.1 bt320.2.2 (t314 != false))) else (solsticelaw20_ValueExact.j0 k a0 a1 a2 a3 t311 t312 t316 t317 t318 t319 bt320.1 bt320.2.1 bt320.2.2 true)) else (solsticelaw20_ValueExact.j0 k a0 a1 a2 a3 t311 t312 t316 t317 t318 t319 bt320.1 bt320.2.1 bt320.2.2 true)))))) = some r := H); (have A9 := aM A90); clear A90; (replace H := Option.bind_eq_some_iff.mp H); (obtain ⟨⟨t320, t321, t322⟩, A100, H⟩ := H); (replace H : ((solsticeref16_ParseTime.f k a3).bind fun bt325 => (if (bt325.2.2 != (t315 == 0)) = true then (solsticelaw20_ValueExact.j0 k a0 a1 a2 a3 t311 t312 t316 t317 t318 t319 t320 t321 t322 true) else (if bt325.2.2 = true then (if t313 = bt325.1 then (if bt325.2.1 = true then (solsticelaw20_ValueExact.j0 k a0 a1 a2 a3 t311 t312 t316 t317 t318 t319 t320 t321 t322 (t314 != bt325.2.2)) else (solsticelaw20_ValueExact.j0 k a0 a1 a2 a3 t311 t312 t316 t317 t318 t319 t320 t321 t322 (t314 != false))) else (solsticelaw20_ValueExact.j0 k a0 a1 a2 a3 t311 t312 t316 t317 t318 t319 t320 t321 t322 true)) else (if t315 = 19 then (if t313 = bt325.1 then (if bt325.2.1 = true then (solsticelaw20_ValueExact.j0 k a0 a1 a2 a3 t311 t312 t316 t317 t318 t319 t320 t321 t322 (t314 != bt325.2.2)) else (solsticelaw20_ValueExact.j0 k a0 a1 a2 a3 t311 t312 t316 t317 t318 t319 t320 t321 t322 (t314 != false))) else (solsticelaw20_ValueExact.j0 k a0 a1 a2 a3 t311 t312 t316 t317 t318 t319 t320 t321 t322 true)) else (solsticelaw20_ValueExact.j0 k a0 a1 a2 a3 t311 t312 t316 t317 t318 t319 t320 t321 t322 true))))) = some r := H); (have A10 := aM A100); clear A100; (replace H := Option.bind_eq_some_iff.mp H); (obtain ⟨⟨t325, t326, t327⟩, A110, H⟩ := H); (replace H : (if (t327 != (t315 == 0)) = true then (solsticelaw20_ValueExact.j0 k a0 a1 a2 a3 t311 t312 t316 t317 t318 t319 t320 t321 t322 true) else (if t327 = true then (if t313 = t325 then (if t326 = true then (solsticelaw20_ValueExact.j0 k a0 a1 a2 a3 t311 t312 t316 t317 t318 t319 t320 t321 t322 (t314 != t327)) else (solsticelaw20_ValueExact.j0 k a0 a1 a2 a3 t311 t312 t316 t317 t318 t319 t320 t321 t322 (t314 != false))) else (solsticelaw20_ValueExact.j0 k a0 a1 a2 a3 t311 t312 t316 t317 t318 t319 t320 t321 t322 true)) else (if t315 = 19 then (if t313 = t325 then (if t326 = true then (solsticelaw20_ValueExact.j0 k a0 a1 a2 a3 t311 t312 t316 t317 t318 t319 t320 t321 t322 (t314 != t327)) else (solsticelaw20_ValueExact.j0 k a0 a1 a2 a3 t311 t312 t316 t317 t318 t319 t320 t321 t322 (t314 != false))) else (solsticelaw20_ValueExact.j0 k a0 a1 a2 a3 t311 t312 t316 t317 t318 t319 t320 t321 t322 true)) else (solsticelaw20_ValueExact.j0 k a0 a1 a2 a3 t311 t312 t316 t317 t318 t319 t320 t321 t322 true)))) = some r := H); (have A11 := aM A110); clear A110; (have HC12 := aM H); clear H; (go_enter Tryd.func3, Tryd.ntmps3); (go_upto_region 9 with (first | ((with_reducible refine gate_callee (f := 7) rfl ?_); refine goesL_ (some 37) rfl rfl Tryd.func7 (by kernel_rfl) rfl #[.int .i64 a0, .bool a2] rfl (by (try simp only [List.map_toArray, List.map_cons, List.map_nil]); first | done | rfl | (simp only [List.length_drop, List.length_take]; rfl)) ?_; (with_reducible refine (value_Time.calls k a0 a2 t311 t312 _ ?sideG A6.out).mono ?_); (case sideG => first | exact GP_below HG.out (by repeat (first | (with_reducible first | exact HB.out | apply lA | apply lN | apply lW | refine lS ?_ GE342.out) | exact HB.out)) | repeat (first | exact HG.out | refine GP_alloc ?_ _ | refine GP_drewN ?_ _ | refine GP_drew ?_)); rintro e w13 ⟨rfl, hb⟩; refine ⟨_, rfl, ?_⟩; have n0_ := aM (below_step (by repeat (first | (with_reducible first | exact HB.out | apply lA | apply lN | apply lW) | exact HB.out)) hb); clear HB; have HB := n0_; clear n0_; (try clear hb); (try clear hb2); (try clear hk); (try clear hi)) | ((with_reducible refine gate_callee (f := 8) rfl ?_); refine goesL_ (some 42) rfl rfl Tryd.func8 (by kernel_rfl) rfl #[.string a3] rfl (by (try simp only [List.map_toArray, List.map_cons, List.map_nil]); first | done | rfl | (simp only [List.length_drop, List.length_take]; rfl)) ?_; (with_reducible refine (value_ParseTime.calls k a3 t313 t314 t315 _ A7.out).mono ?_); rintro e w14 ⟨rfl, hb⟩; refine ⟨_, rfl, ?_⟩; have n0_ := aM (below_step (by repeat (first | (with_reducible first | exact HB.out | apply lA | apply lN | apply lW) | exact HB.out)) hb); clear HB; have HB := n0_; clear n0_; (try clear hb); (try clear hb2); (try clear hk); (try clear hi)) | ((with_reducible refine gate_callee (f := 9) rfl ?_); refine goesL_ (some 48) rfl rfl Tryd.func9 (by kernel_rfl) rfl #[.int .i64 a1] rfl (by (try simp only [List.map_toArray, List.map_cons, List.map_nil]); first | done | rfl | (simp only [List.length_drop, List.length_take]; rfl)) ?_; (with_reducible refine (value_Offset.calls k a1 t316 t317 _ ?sideG A8.out).mono ?_); (case sideG => first | exact GP_below HG.out (by repeat (first | (with_reducible first | exact HB.out | apply lA | apply lN | apply lW | refine lS ?_ GE342.out) | exact HB.out)) | repeat (first | exact HG.out | refine GP_alloc ?_ _ | refine GP_drewN ?_ _ | refine GP_drew ?_)); rintro e w15 ⟨rfl, hb⟩; refine ⟨_, rfl, ?_⟩; have n0_ := aM (below_step (by repeat (first | (with_reducible first | exact HB.out | apply lA | apply lN | apply lW) | exact HB.out)) hb); clear HB; have HB := n0_; clear n0_; (try clear hb); (try clear hb2); (try clear hk); (try clear hi)) | ((with_reducible refine gate_callee (f := 10) rfl ?_); refine goesL_ (some 53) rfl rfl Tryd.func10 (by kernel_rfl) rfl #[.string a3] rfl (by (try simp only [List.map_toArray, List.map_cons, List.map_nil]); first | done | rfl | (simp only [List.length_drop, List.length_take]; rfl)) ?_; (with_reducible refine (value_ParseOffset.calls k a3 t318 t319 _ A9.out).mono ?_); rintro e w16 ⟨rfl, hb⟩; refine ⟨_, rfl, ?_⟩; have n0_ := aM (below_step (by repeat (first | (with_reducible first | exact HB.out | apply lA | apply lN | apply lW) | exact HB.out)) hb); clear HB; have HB := n0_; clear n0_; (try clear hb); (try clear hb2); (try clear hk); (try clear hi)) | ((with_reducible refine gate_callee (f := 11) rfl ?_); refine goesL_ (some 58) rfl rfl Tryd.func11 (by kernel_rfl) rfl #[.string a3] rfl (by (try simp only [List.map_toArray, List.map_cons, List.map_nil]); first | done | rfl | (simp only [List.length_drop, List.length_take]; rfl)) ?_; (with_reducible refine (value_Times.calls k a3 t320 t321 t322 _ ?sideG A10.out).mono ?_); (case sideG => first | exact GP_below HG.out (by repeat (first | (with_reducible first | exact HB.out | apply lA | apply lN | apply lW | refine lS ?_ GE342.out) | exact HB.out)) | repeat (first | exact HG.out | refine GP_alloc ?_ _ | refine GP_drewN ?_ _ | refine GP_drew ?_)); rintro e w17 ⟨v323, rfl, ho0, hb⟩; refine ⟨_, rfl, ?_⟩; have n0_ := aM (Kd.R_lower ho0 (below_size (by repeat (first | (with_reducible first | exact HB.out | apply lA | apply lN | apply lW) | exact HB.out)))); have n1_ := aM (below_step (by repeat (first | (with_reducible first | exact HB.out | apply lA | apply lN | apply lW) | exact HB.out)) hb); clear HB; have HO324 := n0_; have HB := n1_; clear n0_ n1_; (try clear hb); (try clear hb2); (try clear hk); (try clear hi); (try clear ho0)) | ((with_reducible refine gate_callee (f := 12) rfl ?_); refine goesL_ (some 64) rfl rfl Tryd.func12 (by kernel_rfl) rfl #[.string a3] rfl (by (try simp only [List.map_toArray, List.map_cons, List.map_nil]); first | done | rfl | (simp only [List.length_drop, List.length_take]; rfl)) ?_; (with_reducible refine (solsticeref16_ParseTime.calls k a3 t325 t326 t327 _ A11.out).mono ?_); rintro e w18 ⟨rfl, hb⟩; refine ⟨_, rfl, ?_⟩; have n0_ := aM (Kd.R_below (by (with_reducible repeat (first | apply Kd.R_alloc | apply Kd.R_drewN | apply Kd.R_drew)); exact HO324.out) hb); have n1_ := aM (below_step (by repeat (first | (with_reducible first | exact HB.out | apply lA | apply lN | apply lW) | exact HB.out)) hb); clear HO324; clear HB; have HO324 := n0_; have HB := n1_; clear n0_ n1_; (try clear hb); (try clear hb2); (try clear hk); (try clear hi)))); ((try simp only [Act.put, List.setIfInBounds_toArray, List.set_cons_zero, List.set_cons_succ])); (go_cut [92] (fun v92 wc => ∃ (kq : Nat) (x92_11 : Bool), v92 = .bool x92_11 ∧ Aside0 (solsticelaw20_ValueExact.j0 kq a0 a1 a2 a3 t311 t312 t316 t317 t318 t319 t320 t321 t322 x92_11 = some r) ∧ Aside0 (kq ≤ k) ∧ Aside0 (Kd.R (Kd.int .i64) 3 wc w.heap.size (fun _ => True) v323 t320) ∧ Aside0 (Below w.heap.size w wc)))
  case first =>
   as_aux_lemma =>
    (have H := HC12.out); clear HC12; (by_cases c19 : (t327 != (t315 == 0)) = true)
    ·(rw [if_pos c19] at H); (have c19b0 : (t327 != (t315 == 0)) = true := c19); ((try (have c19b1 : decide (t327 = (t315 == 0)) = false := by simpa using c19))); ((try (have c19b2 : (t327 == (t315 == 0)) = false := by simpa using c19))); ((try (have c19b3 : ¬ (t327 = (t315 == 0)) := by simpa using c19))); clear c19; ((first | rw [c19b0] | (simp only [i64_w, i32_w]; rw [c19b0]) | skip)); (have H' := aM H); clear H; (go_wp2); (go_meet)
     case rel => exact ⟨_, (true), (by first | rfl | (simp; done) | (simp [*]; done)), H', ⟨by first | omega | exact Nat.le_refl _⟩, ⟨by (with_reducible repeat (first | apply Kd.R_alloc | apply Kd.R_drewN | apply Kd.R_drew)); exact HO324.out⟩, ⟨by repeat (first | (with_reducible first | exact HB.out | apply lA | apply lN | apply lW) | exact HB.out)⟩⟩
    ·(rw [if_neg c19] at H); (have c19b0 : (t327 != (t315 == 0)) = false := by simpa using c19); ((try (have c19b1 : decide (t327 = (t315 == 0)) = true := by simpa using c19))); ((try (have c19b2 : (t327 == (t315 == 0)) = true := by simpa using c19))); clear c19; ((first | rw [c19b0] | (simp only [i64_w, i32_w]; rw [c19b0]) | skip)); (by_cases c20 : t327 = true)
     ·subst c20; (have H1 : (if t313 = t325 then (if t326 = true then (solsticelaw20_ValueExact.j0 k a0 a1 a2 a3 t311 t312 t316 t317 t318 t319 t320 t321 t322 (t314 != true)) else (solsticelaw20_ValueExact.j0 k a0 a1 a2 a3 t311 t312 t316 t317 t318 t319 t320 t321 t322 (t314 != false))) else (solsticelaw20_ValueExact.j0 k a0 a1 a2 a3 t311 t312 t316 t317 t318 t319 t320 t321 t322 true)) = some r := by rw [if_pos rfl] at H; exact H); clear H; (have H := H1); clear H1; (by_cases c21 : t313 = t325)
      ·(rw [if_pos c21] at H); (have c21b0 : (t313 == t325) = true := beq_iff_eq.mpr c21); (have c21b1 : (t313 != t325) = false := bne_eq_false_iff_eq.mpr c21); clear c21; (by_cases c22 : t326 = true)
       ·subst c22; (have H1 : (solsticelaw20_ValueExact.j0 k a0 a1 a2 a3 t311 t312 t316 t317 t318 t319 t320 t321 t322 (t314 != true)) = some r := by rw [if_pos rfl] at H; exact H); clear H; (have H := H1); clear H1; (have H' := aM H); clear H; (go_wp2); (go_meet)
        case rel => exact ⟨_, ((t314 != true)), (by first | rfl | (simp; done) | (simp [*]; done)), H', ⟨by first | omega | exact Nat.le_refl _⟩, ⟨by (with_reducible repeat (first | apply Kd.R_alloc | apply Kd.R_drewN | apply Kd.R_drew)); exact HO324.out⟩, ⟨by repeat (first | (with_reducible first | exact HB.out | apply lA | apply lN | apply lW) | exact HB.out)⟩⟩
       ·(replace c22 := Bool.eq_false_iff.mpr c22); subst c22; (have H1 : (solsticelaw20_ValueExact.j0 k a0 a1 a2 a3 t311 t312 t316 t317 t318 t319 t320 t321 t322 (t314 != false)) = some r := by rw [if_neg (show ¬ (false = true) by decide)] at H; exact H); clear H; (have H := H1); clear H1; (have H' := aM H); clear H; (go_wp2); (go_meet)
        case rel => exact ⟨_, ((t314 != false)), (by first | rfl | (simp; done) | (simp [*]; done)), H', ⟨by first | omega | exact Nat.le_refl _⟩, ⟨by (with_reducible repeat (first | apply Kd.R_alloc | apply Kd.R_drewN | apply Kd.R_drew)); exact HO324.out⟩, ⟨by repeat (first | (with_reducible first | exact HB.out | apply lA | apply lN | apply lW) | exact HB.out)⟩⟩
      ·(rw [if_neg c21] at H); (have c21b0 : (t313 == t325) = false := beq_eq_false_iff_ne.mpr c21); (have c21b1 : (t313 != t325) = true := bne_iff_ne.mpr c21); (have H' := aM H); clear H; (go_wp2); (go_meet)
       case rel => exact ⟨_, (true), (by first | rfl | (simp; done) | (simp [*]; done)), H', ⟨by first | omega | exact Nat.le_refl _⟩, ⟨by (with_reducible repeat (first | apply Kd.R_alloc | apply Kd.R_drewN | apply Kd.R_drew)); exact HO324.out⟩, ⟨by repeat (first | (with_reducible first | exact HB.out | apply lA | apply lN | apply lW) | exact HB.out)⟩⟩
     ·(replace c20 := Bool.eq_false_iff.mpr c20); subst c20; (have H1 : (if t315 = 19 then (if t313 = t325 then (if t326 = true then (solsticelaw20_ValueExact.j0 k a0 a1 a2 a3 t311 t312 t316 t317 t318 t319 t320 t321 t322 (t314 != false)) else (solsticelaw20_ValueExact.j0 k a0 a1 a2 a3 t311 t312 t316 t317 t318 t319 t320 t321 t322 (t314 != false))) else (solsticelaw20_ValueExact.j0 k a0 a1 a2 a3 t311 t312 t316 t317 t318 t319 t320 t321 t322 true)) else (solsticelaw20_ValueExact.j0 k a0 a1 a2 a3 t311 t312 t316 t317 t318 t319 t320 t321 t322 true)) = some r := by rw [if_neg (show ¬ (false = true) by decide)] at H; exact H); clear H; (have H := H1); clear H1; (by_cases c23 : t315 = 19)
      ·(rw [if_pos c23] at H); (have c23b0 : (t315 == 19) = true := beq_iff_eq.mpr c23); (have c23b1 : (t315 != 19) = false := bne_eq_false_iff_eq.mpr c23); clear c23; (by_cases c24 : t313 = t325)
       ·(rw [if_pos c24] at H); (have c24b0 : (t313 == t325) = true := beq_iff_eq.mpr c24); (have c24b1 : (t313 != t325) = false := bne_eq_false_iff_eq.mpr c24); clear c24; (by_cases c25 : t326 = true)
        ·subst c25; (have H1 : (solsticelaw20_ValueExact.j0 k a0 a1 a2 a3 t311 t312 t316 t317 t318 t319 t320 t321 t322 (t314 != false)) = some r := by rw [if_pos rfl] at H; exact H); clear H; (have H := H1); clear H1; (have H' := aM H); clear H; (go_wp2); (go_meet)
         case rel => exact ⟨_, ((t314 != false)), (by first | rfl | (simp; done) | (simp [*]; done)), H', ⟨by first | omega | exact Nat.le_refl _⟩, ⟨by (with_reducible repeat (first | apply Kd.R_alloc | apply Kd.R_drewN | apply Kd.R_drew)); exact HO324.out⟩, ⟨by repeat (first | (with_reducible first | exact HB.out | apply lA | apply lN | apply lW) | exact HB.out)⟩⟩
        ·(replace c25 := Bool.eq_false_iff.mpr c25); subst c25; (have H1 : (solsticelaw20_ValueExact.j0 k a0 a1 a2 a3 t311 t312 t316 t317 t318 t319 t320 t321 t322 (t314 != false)) = some r := by rw [if_neg (show ¬ (false = true) by decide)] at H; exact H); clear H; (have H := H1); clear H1; (have H' := aM H); clear H; (go_wp2); (go_meet)
         case rel => exact ⟨_, ((t314 != false)), (by first | rfl | (simp; done) | (simp [*]; done)), H', ⟨by first | omega | exact Nat.le_refl _⟩, ⟨by (with_reducible repeat (first | apply Kd.R_alloc | apply Kd.R_drewN | apply Kd.R_drew)); exact HO324.out⟩, ⟨by repeat (first | (with_reducible first | exact HB.out | apply lA | apply lN | apply lW) | exact HB.out)⟩⟩
       ·(rw [if_neg c24] at H); (have c24b0 : (t313 == t325) = false := beq_eq_false_iff_ne.mpr c24); (have c24b1 : (t313 != t325) = true := bne_iff_ne.mpr c24); (have H' := aM H); clear H; (go_wp2); (go_meet)
        case rel => exact ⟨_, (true), (by first | rfl | (simp; done) | (simp [*]; done)), H', ⟨by first | omega | exact Nat.le_refl _⟩, ⟨by (with_reducible repeat (first | apply Kd.R_alloc | apply Kd.R_drewN | apply Kd.R_drew)); exact HO324.out⟩, ⟨by repeat (first | (with_reducible first | exact HB.out | apply lA | apply lN | apply lW) | exact HB.out)⟩⟩
      ·(rw [if_neg c23] at H); (have c23b0 : (t315 == 19) = false := beq_eq_false_iff_ne.mpr c23); (have c23b1 : (t315 != 19) = true := bne_iff_ne.mpr c23); (have H' := aM H); clear H; (go_wp2); (go_meet)
       case rel => exact ⟨_, (true), (by first | rfl | (simp; done) | (simp [*]; done)), H', ⟨by first | omega | exact Nat.le_refl _⟩, ⟨by (with_reducible repeat (first | apply Kd.R_alloc | apply Kd.R_drewN | apply Kd.R_drew)); exact HO324.out⟩, ⟨by repeat (first | (with_reducible first | exact HB.out | apply lA | apply lN | apply lW) | exact HB.out)⟩⟩
  case rest =>
   as_aux_lemma =>
    clear HC12; (try clear c1); (try clear c2); (try clear p2); (try clear c3); (try clear c5); (try clear c5b0); (try clear c5b1); (try clear c7); (try clear c8); (try clear c9); (try clear c10); (try clear c11); (try clear c12); (try clear c19); (try clear c19b0); (try clear c19b1); (try clear c19b2); (try clear c20); (try clear c21); (try clear c21b0); (try clear c21b1); (try clear c22); (try clear c23); (try clear c23b0); (try clear c23b1); (try clear c24); (try clear c24b0); (try clear c24b1); (try clear c25); (obtain ⟨kq, x92_11, rfl, HA, HJ11, HO_18, HB⟩ := hcut)
    cases kq with
    | zero => exact absurd HA.out (by simp [solsticelaw20_ValueExact.j0])
    | succ kj11 =>
     (have H := HA.out); clear HA; (simp only [solsticelaw20_ValueExact.j0] at H); (by_cases c26 : x92_11 = true)
     ·subst c26; (have H1 : (some false) = some r := by rw [if_pos rfl] at H; exact H); clear H; (have H := H1); clear H1; (obtain rfl := Option.some.inj H)
      cases htrue
     ·(replace c26 := Bool.eq_false_iff.mpr c26); subst c26; (have H1 : ((solsticeref16_ParseOffset.f kj11 a3).bind fun bt328 => (if (bt328.2 != (t319 == 0)) = true then (solsticelaw20_ValueExact.j1 kj11 a0 a1 a2 a3 t311 t312 t316 t317 t320 t321 t322 true) else (if bt328.2 = true then (solsticelaw20_ValueExact.j1 kj11 a0 a1 a2 a3 t311 t312 t316 t317 t320 t321 t322 (t318 != bt328.1)) else (if t319 = 19 then (solsticelaw20_ValueExact.j1 kj11 a0 a1 a2 a3 t311 t312 t316 t317 t320 t321 t322 (t318 != bt328.1)) else (solsticelaw20_ValueExact.j1 kj11 a0 a1 a2 a3 t311 t312 t316 t317 t320 t321 t322 true))))) = some r := by rw [if_neg (show ¬ (false = true) by decide)] at H; exact H); clear H; (have H := H1); clear H1; (replace H := Option.bind_eq_some_iff.mp H); (obtain ⟨⟨t328, t329⟩, A270, H⟩ := H); (replace H : (if (t329 != (t319 == 0)) = true then (solsticelaw20_ValueExact.j1 kj11 a0 a1 a2 a3 t311 t312 t316 t317 t320 t321 t322 true) else (if t329 = true then (solsticelaw20_ValueExact.j1 kj11 a0 a1 a2 a3 t311 t312 t316 t317 t320 t321 t322 (t318 != t328)) else (if t319 = 19 then (solsticelaw20_ValueExact.j1 kj11 a0 a1 a2 a3 t311 t312 t316 t317 t320 t321 t322 (t318 != t328)) else (solsticelaw20_ValueExact.j1 kj11 a0 a1 a2 a3 t311 t312 t316 t317 t320 t321 t322 true)))) = some r := H); (have A27 := aM A270); clear A270; (have HC28 := aM H); clear H; (go_upto_region 12 with (first | ((with_reducible refine gate_callee (f := 13) rfl ?_); refine goesL_ (some 95) rfl rfl Tryd.func13 (by kernel_rfl) rfl #[.string a3] rfl (by (try simp only [List.map_toArray, List.map_cons, List.map_nil]); first | done | rfl | (simp only [List.length_drop, List.length_take]; rfl)) ?_; (with_reducible refine (solsticeref16_ParseOffset.calls kj11 a3 t328 t329 _ A27.out).mono ?_); rintro e w' ⟨rfl, ⟨nd, rfl⟩⟩; refine ⟨_, rfl, ?_⟩))); ((try simp only [Act.put, List.setIfInBounds_toArray, List.set_cons_zero, List.set_cons_succ])); (go_cut [114] (fun v114 wc => ∃ (kq : Nat) (x114_27 : Bool), v114 = .bool x114_27 ∧ Aside0 (solsticelaw20_ValueExact.j1 kq a0 a1 a2 a3 t311 t312 t316 t317 t320 t321 t322 x114_27 = some r) ∧ Aside0 (kq ≤ kj11) ∧ Aside0 (Kd.R (Kd.int .i64) 3 wc w.heap.size (fun _ => True) v323 t320) ∧ Aside0 (Below w.heap.size w wc)))
      case first =>
       (have H := HC28.out); clear HC28; (by_cases c29 : (t329 != (t319 == 0)) = true)
       ·(rw [if_pos c29] at H); (have c29b0 : (t329 != (t319 == 0)) = true := c29); ((try (have c29b1 : decide (t329 = (t319 == 0)) = false := by simpa using c29))); ((try (have c29b2 : (t329 == (t319 == 0)) = false := by simpa using c29))); ((try (have c29b3 : ¬ (t329 = (t319 == 0)) := by simpa using c29))); clear c29; ((first | rw [c29b0] | (simp only [i64_w, i32_w]; rw [c29b0]) | skip)); (have H' := aM H); clear H; (go_wp2); (go_meet)
        case rel => exact ⟨_, (true), (by first | rfl | (simp; done) | (simp [*]; done)), H', ⟨by have := HJ11.out; first | omega | exact Nat.le_refl _⟩, ⟨by (with_reducible repeat (first | apply Kd.R_alloc | apply Kd.R_drewN | apply Kd.R_drew)); exact HO_18.out⟩, ⟨by repeat (first | (with_reducible first | exact HB.out | apply lA | apply lN | apply lW) | exact HB.out)⟩⟩
       ·(rw [if_neg c29] at H); (have c29b0 : (t329 != (t319 == 0)) = false := by simpa using c29); ((try (have c29b1 : decide (t329 = (t319 == 0)) = true := by simpa using c29))); ((try (have c29b2 : (t329 == (t319 == 0)) = true := by simpa using c29))); clear c29; ((first | rw [c29b0] | (simp only [i64_w, i32_w]; rw [c29b0]) | skip)); (by_cases c30 : t329 = true)
        ·subst c30; (have H1 : (solsticelaw20_ValueExact.j1 kj11 a0 a1 a2 a3 t311 t312 t316 t317 t320 t321 t322 (t318 != t328)) = some r := by rw [if_pos rfl] at H; exact H); clear H; (have H := H1); clear H1; (have H' := aM H); clear H; (go_wp2); (go_meet)
         case rel => exact ⟨_, ((t318 != t328)), (by first | rfl | (simp; done) | (simp [*]; done)), H', ⟨by have := HJ11.out; first | omega | exact Nat.le_refl _⟩, ⟨by (with_reducible repeat (first | apply Kd.R_alloc | apply Kd.R_drewN | apply Kd.R_drew)); exact HO_18.out⟩, ⟨by repeat (first | (with_reducible first | exact HB.out | apply lA | apply lN | apply lW) | exact HB.out)⟩⟩
        ·(replace c30 := Bool.eq_false_iff.mpr c30); subst c30; (have H1 : (if t319 = 19 then (solsticelaw20_ValueExact.j1 kj11 a0 a1 a2 a3 t311 t312 t316 t317 t320 t321 t322 (t318 != t328)) else (solsticelaw20_ValueExact.j1 kj11 a0 a1 a2 a3 t311 t312 t316 t317 t320 t321 t322 true)) = some r := by rw [if_neg (show ¬ (false = true) by decide)] at H; exact H); clear H; (have H := H1); clear H1; (by_cases c31 : t319 = 19)
         ·(rw [if_pos c31] at H); (have c31b0 : (t319 == 19) = true := beq_iff_eq.mpr c31); (have c31b1 : (t319 != 19) = false := bne_eq_false_iff_eq.mpr c31); clear c31; (have H' := aM H); clear H; (go_wp2); (go_meet)
          case rel => exact ⟨_, ((t318 != t328)), (by first | rfl | (simp; done) | (simp [*]; done)), H', ⟨by have := HJ11.out; first | omega | exact Nat.le_refl _⟩, ⟨by (with_reducible repeat (first | apply Kd.R_alloc | apply Kd.R_drewN | apply Kd.R_drew)); exact HO_18.out⟩, ⟨by repeat (first | (with_reducible first | exact HB.out | apply lA | apply lN | apply lW) | exact HB.out)⟩⟩
         ·(rw [if_neg c31] at H); (have c31b0 : (t319 == 19) = false := beq_eq_false_iff_ne.mpr c31); (have c31b1 : (t319 != 19) = true := bne_iff_ne.mpr c31); (have H' := aM H); clear H; (go_wp2); (go_meet)
          case rel => exact ⟨_, (true), (by first | rfl | (simp; done) | (simp [*]; done)), H', ⟨by have := HJ11.out; first | omega | exact Nat.le_refl _⟩, ⟨by (with_reducible repeat (first | apply Kd.R_alloc | apply Kd.R_drewN | apply Kd.R_drew)); exact HO_18.out⟩, ⟨by repeat (first | (with_reducible first | exact HB.out | apply lA | apply lN | apply lW) | exact HB.out)⟩⟩
      case rest =>
       as_aux_lemma =>
        clear HC28; (try clear c1); (try clear c2); (try clear p2); (try clear c3); (try clear c5); (try clear c5b0); (try clear c5b1); (try clear c7); (try clear c8); (try clear c9); (try clear c10); (try clear c11); (try clear c12); (try clear c13); (try clear c19); (try clear c19b0); (try clear c19b1); (try clear c19b2); (try clear c20); (try clear c21); (try clear c21b0); (try clear c21b1); (try clear c22); (try clear c23); (try clear c23b0); (try clear c23b1); (try clear c24); (try clear c24b0); (try clear c24b1); (try clear c25); (try clear c26); (try clear c29); (try clear c29b0); (try clear c29b1); (try clear c29b2); (try clear c30); (try clear c31); (try clear c31b0); (try clear c31b1); (try clear p2); (obtain ⟨kq, x114_27, rfl, HA, HJ27, HO_18, HB⟩ := hcut)
        cases kq with
        | zero => exact absurd HA.out (by simp [solsticelaw20_ValueExact.j1])
        | succ kj27 =>
         (have H := HA.out); clear HA; (simp only [solsticelaw20_ValueExact.j1] at H); (by_cases c32 : x114_27 = true)
         ·subst c32; (have H1 : (some false) = some r := by rw [if_pos rfl] at H; exact H); clear H; (have H := H1); clear H1; (obtain rfl := Option.some.inj H)
          cases htrue
         ·(replace c32 := Bool.eq_false_iff.mpr c32); subst c32; (have H1 : ((solsticeref16_Times.f kj27 a3).bind fun bt330 => (if (bt330.2.2 != (t322 == 0)) = true then (solsticelaw20_ValueExact.j2 kj27 a0 a1 a2 t311 t312 t316 t317 true) else (if bt330.2.2 = true then ((solsticekeep_Ints.f kj27 t320 bt330.1).bind fun t335 => (if t335 = true then (solsticelaw20_ValueExact.j2 kj27 a0 a1 a2 t311 t312 t316 t317 (t321 != bt330.2.1)) else (solsticelaw20_ValueExact.j2 kj27 a0 a1 a2 t311 t312 t316 t317 true))) else (if t322 = 19 then ((solsticekeep_Ints.f kj27 t320 bt330.1).bind fun t336 => (if t336 = true then (solsticelaw20_ValueExact.j2 kj27 a0 a1 a2 t311 t312 t316 t317 (t321 != bt330.2.1)) else (solsticelaw20_ValueExact.j2 kj27 a0 a1 a2 t311 t312 t316 t317 true))) else (solsticelaw20_ValueExact.j2 kj27 a0 a1 a2 t311 t312 t316 t317 true))))) = some r := by rw [if_neg (show ¬ (false = true) by decide)] at H; exact H); clear H; (have H := H1); clear H1; (replace H := Option.bind_eq_some_iff.mp H); (obtain ⟨⟨t330, t331, t332⟩, A330, H⟩ := H); (replace H : (if (t332 != (t322 == 0)) = true then (solsticelaw20_ValueExact.j2 kj27 a0 a1 a2 t311 t312 t316 t317 true) else (if t332 = true then ((solsticekeep_Ints.f kj27 t320 t330).bind fun t335 => (if t335 = true then (solsticelaw20_ValueExact.j2 kj27 a0 a1 a2 t311 t312 t316 t317 (t321 != t331)) else (solsticelaw20_ValueExact.j2 kj27 a0 a1 a2 t311 t312 t316 t317 true))) else (if t322 = 19 then ((solsticekeep_Ints.f kj27 t320 t330).bind fun t336 => (if t336 = true then (solsticelaw20_ValueExact.j2 kj27 a0 a1 a2 t311 t312 t316 t317 (t321 != t331)) else (solsticelaw20_ValueExact.j2 kj27 a0 a1 a2 t311 t312 t316 t317 true))) else (solsticelaw20_ValueExact.j2 kj27 a0 a1 a2 t311 t312 t316 t317 true)))) = some r := H); (have A33 := aM A330); clear A330; (have HC34 := aM H); clear H; (go_upto_region 15 with (first | ((with_reducible refine gate_callee (f := 14) rfl ?_); refine goesL_ (some 117) rfl rfl Tryd.func14 (by kernel_rfl) rfl #[.string a3] rfl (by (try simp only [List.map_toArray, List.map_cons, List.map_nil]); first | done | rfl | (simp only [List.length_drop, List.length_take]; rfl)) ?_; (with_reducible refine (solsticeref16_Times.calls kj27 a3 t330 t331 t332 _ A33.out).mono ?_); rintro e w35 ⟨v333, rfl, ho0, hb⟩; refine ⟨_, rfl, ?_⟩; have n0_ := aM (Kd.R_elder' (by (with_reducible repeat (first | apply Kd.R_alloc | apply Kd.R_drewN | apply Kd.R_drew)); exact HO_18.out) (Kd.R_base ho0) hb); have n1_ := aM (Kd.R_lower (Kd.R_new' ho0 (Kd.R_lt (by (with_reducible repeat (first | apply Kd.R_alloc | apply Kd.R_drewN | apply Kd.R_drew)); exact HO_18.out))) (below_size (by repeat (first | (with_reducible first | exact HB.out | apply lA | apply lN | apply lW) | exact HB.out)))); have n2_ := aM (below_step (by repeat (first | (with_reducible first | exact HB.out | apply lA | apply lN | apply lW) | exact HB.out)) hb); clear HO_18; clear HB; have HO_18 := n0_; have HO334 := n1_; have HB := n2_; clear n0_ n1_ n2_; (try clear hb); (try clear hb2); (try clear hk); (try clear hi); (try clear ho0)))); ((try simp only [Act.put, List.setIfInBounds_toArray, List.set_cons_zero, List.set_cons_succ])); (go_cut [143] (fun v143 wc => ∃ (kq : Nat) (x143_33 : Bool), v143 = .bool x143_33 ∧ Aside0 (solsticelaw20_ValueExact.j2 kq a0 a1 a2 t311 t312 t316 t317 x143_33 = some r) ∧ Aside0 (kq ≤ kj27) ∧ Aside0 (Below w.heap.size w wc)))
          case first =>
           as_aux_lemma =>
            (have H := HC34.out); clear HC34; (by_cases c36 : (t332 != (t322 == 0)) = true)
            ·(rw [if_pos c36] at H); (have c36b0 : (t332 != (t322 == 0)) = true := c36); ((try (have c36b1 : decide (t332 = (t322 == 0)) = false := by simpa using c36))); ((try (have c36b2 : (t332 == (t322 == 0)) = false := by simpa using c36))); ((try (have c36b3 : ¬ (t332 = (t322 == 0)) := by simpa using c36))); clear c36; ((first | rw [c36b0] | (simp only [i64_w, i32_w]; rw [c36b0]) | skip)); (have H' := aM H); clear H; (go_wp2); (go_meet)
             case rel => exact ⟨_, (true), (by first | rfl | (simp; done) | (simp [*]; done)), H', ⟨by have := HJ11.out; have := HJ27.out; first | omega | exact Nat.le_refl _⟩, ⟨by repeat (first | (with_reducible first | exact HB.out | apply lA | apply lN | apply lW) | exact HB.out)⟩⟩
            ·(rw [if_neg c36] at H); (have c36b0 : (t332 != (t322 == 0)) = false := by simpa using c36); ((try (have c36b1 : decide (t332 = (t322 == 0)) = true := by simpa using c36))); ((try (have c36b2 : (t332 == (t322 == 0)) = true := by simpa using c36))); clear c36; ((first | rw [c36b0] | (simp only [i64_w, i32_w]; rw [c36b0]) | skip)); (by_cases c37 : t332 = true)
             ·subst c37; (have H1 : ((solsticekeep_Ints.f kj27 t320 t330).bind fun t335 => (if t335 = true then (solsticelaw20_ValueExact.j2 kj27 a0 a1 a2 t311 t312 t316 t317 (t321 != t331)) else (solsticelaw20_ValueExact.j2 kj27 a0 a1 a2 t311 t312 t316 t317 true))) = some r := by rw [if_pos rfl] at H; exact H); clear H; (have H := H1); clear H1; (replace H := Option.bind_eq_some_iff.mp H); (obtain ⟨t335, A380, H⟩ := H); (replace H : (if t335 = true then (solsticelaw20_ValueExact.j2 kj27 a0 a1 a2 t311 t312 t316 t317 (t321 != t331)) else (solsticelaw20_ValueExact.j2 kj27 a0 a1 a2 t311 t312 t316 t317 true)) = some r := H); (have A38 := aM A380); clear A380; (by_cases c39 : t335 = true)
              ·subst c39; (have H1 : (solsticelaw20_ValueExact.j2 kj27 a0 a1 a2 t311 t312 t316 t317 (t321 != t331)) = some r := by rw [if_pos rfl] at H; exact H); clear H; (have H := H1); clear H1; (have H' := aM H); clear H; (obtain ⟨Ao40, co40, eo40⟩ := Kd.R_slice HO_18.out); subst eo40; (obtain ⟨Ao41, co41, eo41⟩ := Kd.R_slice HO334.out); subst eo41; (go_wp2_with (first | (go_at_call 15; (with_reducible refine (solsticekeep_Ints.calls kj27 _ _ t320 _ _ t330 true _ ?side1 ?side2 ?side3 ?side4 A38.out).mono ?_); (case side1 => repeat (first | exact (Kd.R_reads' HO_18.out).2.2 | (with_reducible refine Kd.C_alloc ?_ _) | (with_reducible refine Kd.C_drewN ?_ _) | (with_reducible refine Kd.C_drew ?_))); (case side2 => exact (Kd.R_reads' HO_18.out).2.1); (case side3 => repeat (first | exact (Kd.R_reads' HO334.out).2.2 | (with_reducible refine Kd.C_alloc ?_ _) | (with_reducible refine Kd.C_drewN ?_ _) | (with_reducible refine Kd.C_drew ?_))); (case side4 => exact (Kd.R_reads' HO334.out).2.1); rintro e w' ⟨rfl, ⟨nd, rfl⟩⟩))); (go_meet)
               case rel => exact ⟨_, ((t321 != t331)), (by first | rfl | (simp; done) | (simp [*]; done)), H', ⟨by have := HJ11.out; have := HJ27.out; first | omega | exact Nat.le_refl _⟩, ⟨by repeat (first | (with_reducible first | exact HB.out | apply lA | apply lN | apply lW) | exact HB.out)⟩⟩
              ·(replace c39 := Bool.eq_false_iff.mpr c39); subst c39; (have H1 : (solsticelaw20_ValueExact.j2 kj27 a0 a1 a2 t311 t312 t316 t317 true) = some r := by rw [if_neg (show ¬ (false = true) by decide)] at H; exact H); clear H; (have H := H1); clear H1; (have H' := aM H); clear H; (obtain ⟨Ao42, co42, eo42⟩ := Kd.R_slice HO_18.out); subst eo42; (obtain ⟨Ao43, co43, eo43⟩ := Kd.R_slice HO334.out); subst eo43; (go_wp2_with (first | (go_at_call 15; (with_reducible refine (solsticekeep_Ints.calls kj27 _ _ t320 _ _ t330 false _ ?side1 ?side2 ?side3 ?side4 A38.out).mono ?_); (case side1 => repeat (first | exact (Kd.R_reads' HO_18.out).2.2 | (with_reducible refine Kd.C_alloc ?_ _) | (with_reducible refine Kd.C_drewN ?_ _) | (with_reducible refine Kd.C_drew ?_))); (case side2 => exact (Kd.R_reads' HO_18.out).2.1); (case side3 => repeat (first | exact (Kd.R_reads' HO334.out).2.2 | (with_reducible refine Kd.C_alloc ?_ _) | (with_reducible refine Kd.C_drewN ?_ _) | (with_reducible refine Kd.C_drew ?_))); (case side4 => exact (Kd.R_reads' HO334.out).2.1); rintro e w' ⟨rfl, ⟨nd, rfl⟩⟩))); (go_meet)
               case rel => exact ⟨_, (true), (by first | rfl | (simp; done) | (simp [*]; done)), H', ⟨by have := HJ11.out; have := HJ27.out; first | omega | exact Nat.le_refl _⟩, ⟨by repeat (first | (with_reducible first | exact HB.out | apply lA | apply lN | apply lW) | exact HB.out)⟩⟩
             ·(replace c37 := Bool.eq_false_iff.mpr c37); subst c37; (have H1 : (if t322 = 19 then ((solsticekeep_Ints.f kj27 t320 t330).bind fun t336 => (if t336 = true then (solsticelaw20_ValueExact.j2 kj27 a0 a1 a2 t311 t312 t316 t317 (t321 != t331)) else (solsticelaw20_ValueExact.j2 kj27 a0 a1 a2 t311 t312 t316 t317 true))) else (solsticelaw20_ValueExact.j2 kj27 a0 a1 a2 t311 t312 t316 t317 true)) = some r := by rw [if_neg (show ¬ (false = true) by decide)] at H; exact H); clear H; (have H := H1); clear H1; (by_cases c44 : t322 = 19)
              ·(rw [if_pos c44] at H); (have c44b0 : (t322 == 19) = true := beq_iff_eq.mpr c44); (have c44b1 : (t322 != 19) = false := bne_eq_false_iff_eq.mpr c44); clear c44; (replace H := Option.bind_eq_some_iff.mp H); (obtain ⟨t336, A450, H⟩ := H); (replace H : (if t336 = true then (solsticelaw20_ValueExact.j2 kj27 a0 a1 a2 t311 t312 t316 t317 (t321 != t331)) else (solsticelaw20_ValueExact.j2 kj27 a0 a1 a2 t311 t312 t316 t317 true)) = some r := H); (have A45 := aM A450); clear A450; (by_cases c46 : t336 = true)
               ·subst c46; (have H1 : (solsticelaw20_ValueExact.j2 kj27 a0 a1 a2 t311 t312 t316 t317 (t321 != t331)) = some r := by rw [if_pos rfl] at H; exact H); clear H; (have H := H1); clear H1; (have H' := aM H); clear H; (obtain ⟨Ao47, co47, eo47⟩ := Kd.R_slice HO_18.out); subst eo47; (obtain ⟨Ao48, co48, eo48⟩ := Kd.R_slice HO334.out); subst eo48; (go_wp2_with (first | (go_at_call 15; (with_reducible refine (solsticekeep_Ints.calls kj27 _ _ t320 _ _ t330 true _ ?side1 ?side2 ?side3 ?side4 A45.out).mono ?_); (case side1 => repeat (first | exact (Kd.R_reads' HO_18.out).2.2 | (with_reducible refine Kd.C_alloc ?_ _) | (with_reducible refine Kd.C_drewN ?_ _) | (with_reducible refine Kd.C_drew ?_))); (case side2 => exact (Kd.R_reads' HO_18.out).2.1); (case side3 => repeat (first | exact (Kd.R_reads' HO334.out).2.2 | (with_reducible refine Kd.C_alloc ?_ _) | (with_reducible refine Kd.C_drewN ?_ _) | (with_reducible refine Kd.C_drew ?_))); (case side4 => exact (Kd.R_reads' HO334.out).2.1); rintro e w' ⟨rfl, ⟨nd, rfl⟩⟩))); (go_meet)
                case rel => exact ⟨_, ((t321 != t331)), (by first | rfl | (simp; done) | (simp [*]; done)), H', ⟨by have := HJ11.out; have := HJ27.out; first | omega | exact Nat.le_refl _⟩, ⟨by repeat (first | (with_reducible first | exact HB.out | apply lA | apply lN | apply lW) | exact HB.out)⟩⟩
               ·(replace c46 := Bool.eq_false_iff.mpr c46); subst c46; (have H1 : (solsticelaw20_ValueExact.j2 kj27 a0 a1 a2 t311 t312 t316 t317 true) = some r := by rw [if_neg (show ¬ (false = true) by decide)] at H; exact H); clear H; (have H := H1); clear H1; (have H' := aM H); clear H; (obtain ⟨Ao49, co49, eo49⟩ := Kd.R_slice HO_18.out); subst eo49; (obtain ⟨Ao50, co50, eo50⟩ := Kd.R_slice HO334.out); subst eo50; (go_wp2_with (first | (go_at_call 15; (with_reducible refine (solsticekeep_Ints.calls kj27 _ _ t320 _ _ t330 false _ ?side1 ?side2 ?side3 ?side4 A45.out).mono ?_); (case side1 => repeat (first | exact (Kd.R_reads' HO_18.out).2.2 | (with_reducible refine Kd.C_alloc ?_ _) | (with_reducible refine Kd.C_drewN ?_ _) | (with_reducible refine Kd.C_drew ?_))); (case side2 => exact (Kd.R_reads' HO_18.out).2.1); (case side3 => repeat (first | exact (Kd.R_reads' HO334.out).2.2 | (with_reducible refine Kd.C_alloc ?_ _) | (with_reducible refine Kd.C_drewN ?_ _) | (with_reducible refine Kd.C_drew ?_))); (case side4 => exact (Kd.R_reads' HO334.out).2.1); rintro e w' ⟨rfl, ⟨nd, rfl⟩⟩))); (go_meet)
                case rel => exact ⟨_, (true), (by first | rfl | (simp; done) | (simp [*]; done)), H', ⟨by have := HJ11.out; have := HJ27.out; first | omega | exact Nat.le_refl _⟩, ⟨by repeat (first | (with_reducible first | exact HB.out | apply lA | apply lN | apply lW) | exact HB.out)⟩⟩
              ·(rw [if_neg c44] at H); (have c44b0 : (t322 == 19) = false := beq_eq_false_iff_ne.mpr c44); (have c44b1 : (t322 != 19) = true := bne_iff_ne.mpr c44); (have H' := aM H); clear H; (go_wp2); (go_meet)
               case rel => exact ⟨_, (true), (by first | rfl | (simp; done) | (simp [*]; done)), H', ⟨by have := HJ11.out; have := HJ27.out; first | omega | exact Nat.le_refl _⟩, ⟨by repeat (first | (with_reducible first | exact HB.out | apply lA | apply lN | apply lW) | exact HB.out)⟩⟩
          case rest =>
           as_aux_lemma =>
            clear HC34; (try clear c1); (try clear c2); (try clear p2); (try clear c3); (try clear c4); (try clear c5); (try clear c5b0); (try clear c5b1); (try clear c7); (try clear c8); (try clear c9); (try clear c10); (try clear c11); (try clear c12); (try clear c13); (try clear c14); (try clear c19); (try clear c19b0); (try clear c19b1); (try clear c19b2); (try clear c20); (try clear c21); (try clear c21b0); (try clear c21b1); (try clear c22); (try clear c23); (try clear c23b0); (try clear c23b1); (try clear c24); (try clear c24b0); (try clear c24b1); (try clear c25); (try clear c26); (try clear c29); (try clear c29b0); (try clear c29b1); (try clear c29b2); (try clear c30); (try clear c31); (try clear c31b0); (try clear c31b1); (try clear c32); (try clear c36); (try clear c36b0); (try clear c36b1); (try clear c36b2); (try clear c37); (try clear c39); (try clear c44); (try clear c44b0); (try clear c44b1); (try clear c46); (try clear p2); (obtain ⟨kq, x143_33, rfl, HA, HJ33, HB⟩ := hcut)
            cases kq with
            | zero => exact absurd HA.out (by simp [solsticelaw20_ValueExact.j2])
            | succ kj33 =>
             (have H := HA.out); clear HA; (simp only [solsticelaw20_ValueExact.j2] at H); (by_cases c51 : x143_33 = true)
             ·subst c51; (have H1 : (some false) = some r := by rw [if_pos rfl] at H; exact H); clear H; (have H := H1); clear H1; (obtain rfl := Option.some.inj H)
              cases htrue
             ·(replace c51 := Bool.eq_false_iff.mpr c51); subst c51; (have H1 : (if a1 ≤ (-86400) then (solsticelaw20_ValueExact.j3 kj33 a0 a1 a2 t311 t312 t316 t317 true) else (solsticelaw20_ValueExact.j3 kj33 a0 a1 a2 t311 t312 t316 t317 (decide (a1 ≥ 86400)))) = some r := by rw [if_neg (show ¬ (false = true) by decide)] at H; exact H); clear H; (have H := H1); clear H1; (have HC52 := aM H); clear H; (go_upto_region 17 with (fail)); (go_cut [149] (fun v149 wc => ∃ (kq : Nat) (x149_51 : Bool), v149 = .bool x149_51 ∧ Aside0 (solsticelaw20_ValueExact.j3 kq a0 a1 a2 t311 t312 t316 t317 x149_51 = some r) ∧ Aside0 (kq ≤ kj33) ∧ Aside0 (Below w.heap.size w wc)))
              case first =>
               (have H := HC52.out); clear HC52; (by_cases c53 : a1 ≤ (-86400))
               ·(rw [if_pos c53] at H); (have c53b0 : decide (a1 ≤ (-86400)) = true := dE c53); clear c53; ((first | rw [c53b0] | (simp only [i64_w, i32_w]; rw [c53b0]) | skip)); (have H' := aM H); clear H; (go_wp2); (go_meet)
                case rel => exact ⟨_, (true), (by first | rfl | (simp; done) | (simp [*]; done)), H', ⟨by have := HJ11.out; have := HJ27.out; have := HJ33.out; first | omega | exact Nat.le_refl _⟩, ⟨by repeat (first | (with_reducible first | exact HB.out | apply lA | apply lN | apply lW) | exact HB.out)⟩⟩
               ·(rw [if_neg c53] at H); (have c53b0 : decide (a1 ≤ (-86400)) = false := decide_eq_false c53); clear c53; ((first | rw [c53b0] | (simp only [i64_w, i32_w]; rw [c53b0]) | skip)); (have H' := aM H); clear H; (go_wp2); (go_meet)
                case rel => exact ⟨_, (decide (a1 ≥ 86400)), (by first | rfl | (simp; done) | (simp [*]; done)), H', ⟨by have := HJ11.out; have := HJ27.out; have := HJ33.out; first | omega | exact Nat.le_refl _⟩, ⟨by repeat (first | (with_reducible first | exact HB.out | apply lA | apply lN | apply lW) | exact HB.out)⟩⟩
              case rest =>
               as_aux_lemma =>
                clear HC52; (try clear c1); (try clear c2); (try clear p2); (try clear c3); (try clear c4); (try clear c5); (try clear c5b0); (try clear c5b1); (try clear c7); (try clear c8); (try clear c9); (try clear c10); (try clear c11); (try clear c12); (try clear c13); (try clear c14); (try clear c19); (try clear c19b0); (try clear c19b1); (try clear c19b2); (try clear c20); (try clear c21); (try clear c21b0); (try clear c21b1); (try clear c22); (try clear c23); (try clear c23b0); (try clear c23b1); (try clear c24); (try clear c24b0); (try clear c24b1); (try clear c25); (try clear c26); (try clear c29); (try clear c29b0); (try clear c29b1); (try clear c29b2); (try clear c30); (try clear c31); (try clear c31b0); (try clear c31b1); (try clear c32); (try clear c36); (try clear c36b0); (try clear c36b1); (try clear c36b2); (try clear c37); (try clear c39); (try clear c44); (try clear c44b0); (try clear c44b1); (try clear c46); (try clear c51); (try clear c53); (try clear c53b0); (try clear p2); (obtain ⟨kq, x149_51, rfl, HA, HJ51, HB⟩ := hcut)
                cases kq with
                | zero => exact absurd HA.out (by simp [solsticelaw20_ValueExact.j3])
                | succ kj51 =>
                 (have H := HA.out); clear HA; (simp only [solsticelaw20_ValueExact.j3] at H); (have HC54 := aM H); clear H; (go_upto_if 149 with (fail)); (go_cut [] (fun wc => ∃ (kq : Nat), Aside0 (solsticelaw20_ValueExact.j4 kq a0 a2 t311 t312 = some r) ∧ Aside0 (kq ≤ kj51) ∧ Aside0 (Below w.heap.size w wc)))
                 case first =>
                  (have H := HC54.out); clear HC54; (by_cases c55 : x149_51 = true)
                  ·subst c55; (have H1 : (if t317 = 19 then (if t316.toList = ([] : List UInt8) then (solsticelaw20_ValueExact.j4 kj51 a0 a2 t311 t312) else (some false)) else (some false)) = some r := by rw [if_pos rfl] at H; exact H); clear H; (have H := H1); clear H1; (by_cases c56 : t317 = 19)
                   ·(rw [if_pos c56] at H); (have c56b0 : (t317 == 19) = true := beq_iff_eq.mpr c56); (have c56b1 : (t317 != 19) = false := bne_eq_false_iff_eq.mpr c56); clear c56; ((first | rw [c56b0] | (simp only [i64_w, i32_w]; rw [c56b0]) | skip)); (by_cases c57 : t316.toList = ([] : List UInt8))
                    ·(rw [if_pos c57] at H); (have c57b0 : (t316.toList == ([] : List UInt8)) = true := beq_iff_eq.mpr c57); (have c57b1 : (t316.toList != ([] : List UInt8)) = false := bne_eq_false_iff_eq.mpr c57); clear c57; (have H' := aM H); clear H; (go_wp2); (go_meet)
                     case rel => exact ⟨_, H', ⟨by have := HJ11.out; have := HJ27.out; have := HJ33.out; have := HJ51.out; first | omega | exact Nat.le_refl _⟩, ⟨by repeat (first | (with_reducible first | exact HB.out | apply lA | apply lN | apply lW) | exact HB.out)⟩⟩
                    ·(rw [if_neg c57] at H); (have c57b0 : (t316.toList == ([] : List UInt8)) = false := beq_eq_false_iff_ne.mpr c57); (have c57b1 : (t316.toList != ([] : List UInt8)) = true := bne_iff_ne.mpr c57); (obtain rfl := Option.some.inj H)
                     cases htrue
                   ·(rw [if_neg c56] at H); (have c56b0 : (t317 == 19) = false := beq_eq_false_iff_ne.mpr c56); (have c56b1 : (t317 != 19) = true := bne_iff_ne.mpr c56); ((first | rw [c56b0] | (simp only [i64_w, i32_w]; rw [c56b0]) | skip)); (obtain rfl := Option.some.inj H)
                    cases htrue
                  ·(replace c55 := Bool.eq_false_iff.mpr c55); subst c55; (have H1 : (if t317 = 0 then ((solsticeref16_Offset.f kj51 a1).bind fun t337 => (if t316.toList = t337.toList then (solsticelaw20_ValueExact.j4 kj51 a0 a2 t311 t312) else (some false))) else (some false)) = some r := by rw [if_neg (show ¬ (false = true) by decide)] at H; exact H); clear H; (have H := H1); clear H1; (by_cases c58 : t317 = 0)
                   ·(rw [if_pos c58] at H); (have c58b0 : (t317 == 0) = true := beq_iff_eq.mpr c58); (have c58b1 : (t317 != 0) = false := bne_eq_false_iff_eq.mpr c58); clear c58; (replace H := Option.bind_eq_some_iff.mp H); (obtain ⟨t337, A590, H⟩ := H); (replace H : (if t316.toList = t337.toList then (solsticelaw20_ValueExact.j4 kj51 a0 a2 t311 t312) else (some false)) = some r := H); (have A59 := aM A590); clear A590; (by_cases c60 : t316.toList = t337.toList)
                    ·(rw [if_pos c60] at H); (have c60b0 : (t316.toList == t337.toList) = true := beq_iff_eq.mpr c60); (have c60b1 : (t316.toList != t337.toList) = false := bne_eq_false_iff_eq.mpr c60); clear c60; (have H' := aM H); clear H; (go_wp2_with (first | (go_at_call 16; (with_reducible refine (solsticeref16_Offset.calls kj51 a1 t337 _ A59.out).mono ?_); rintro e w61 ⟨rfl, hb⟩; have n0_ := aM (below_step (by repeat (first | (with_reducible first | exact HB.out | apply lA | apply lN | apply lW) | exact HB.out)) hb); clear HB; have HB := n0_; clear n0_; (try clear hb); (try clear hb2); (try clear hk); (try clear hi)))); (go_meet)
                     case rel => exact ⟨_, H', ⟨by have := HJ11.out; have := HJ27.out; have := HJ33.out; have := HJ51.out; first | omega | exact Nat.le_refl _⟩, ⟨by repeat (first | (with_reducible first | exact HB.out | apply lA | apply lN | apply lW) | exact HB.out)⟩⟩
                    ·(rw [if_neg c60] at H); (have c60b0 : (t316.toList == t337.toList) = false := beq_eq_false_iff_ne.mpr c60); (have c60b1 : (t316.toList != t337.toList) = true := bne_iff_ne.mpr c60); (obtain rfl := Option.some.inj H)
                     cases htrue
                   ·(rw [if_neg c58] at H); (have c58b0 : (t317 == 0) = false := beq_eq_false_iff_ne.mpr c58); (have c58b1 : (t317 != 0) = true := bne_iff_ne.mpr c58); (obtain rfl := Option.some.inj H)
                    cases htrue
                 case rest =>
                  as_aux_lemma =>
                   clear HC54; (try clear c1); (try clear c2); (try clear p2); (try clear c3); (try clear c4); (try clear c5); (try clear c5b0); (try clear c5b1); (try clear c6); (try clear c7); (try clear c8); (try clear c9); (try clear c10); (try clear c11); (try clear c12); (try clear c13); (try clear c14); (try clear c19); (try clear c19b0); (try clear c19b1); (try clear c19b2); (try clear c20); (try clear c21); (try clear c21b0); (try clear c21b1); (try clear c22); (try clear c23); (try clear c23b0); (try clear c23b1); (try clear c24); (try clear c24b0); (try clear c24b1); (try clear c25); (try clear c26); (try clear c29); (try clear c29b0); (try clear c29b1); (try clear c29b2); (try clear c30); (try clear c31); (try clear c31b0); (try clear c31b1); (try clear c32); (try clear c36); (try clear c36b0); (try clear c36b1); (try clear c36b2); (try clear c37); (try clear c39); (try clear c44); (try clear c44b0); (try clear c44b1); (try clear c46); (try clear c51); (try clear c53); (try clear c53b0); (try clear c55); (try clear c56); (try clear c56b0); (try clear c56b1); (try clear c57); (try clear c57b0); (try clear c57b1); (try clear c58); (try clear c58b0); (try clear c58b1); (try clear c60); (try clear c60b0); (try clear c60b1); (try clear p2); (obtain ⟨kq, HA, HJ53, HB⟩ := hcut)
                   cases kq with
                   | zero => exact absurd HA.out (by simp [solsticelaw20_ValueExact.j4])
                   | succ kj53 =>
                    (have H := HA.out); clear HA; (simp only [solsticelaw20_ValueExact.j4] at H); (replace H := Option.bind_eq_some_iff.mp H); (obtain ⟨⟨t338, t339, t340, t341⟩, A620, H⟩ := H); (replace H : (if t341 = true then (if t312 = 0 then ((solsticeref16_Time.f kj53 a0 a2).bind fun t343 => (if t311.toList = t343.toList then ((solsticelaw20_wakes.f kj53).bind fun t344 => (some t344)) else (some false))) else (some false)) else (if t312 = 23 then (if t311.toList = ([] : List UInt8) then ((solsticelaw20_wakes.f kj53).bind fun t345 => (some t345)) else (some false)) else (some false))) = some r := H); (have A62 := aM A620); clear A620; (by_cases c63 : t341 = true)
                    ·subst c63; (have H1 : (if t312 = 0 then ((solsticeref16_Time.f kj53 a0 a2).bind fun t343 => (if t311.toList = t343.toList then ((solsticelaw20_wakes.f kj53).bind fun t344 => (some t344)) else (some false))) else (some false)) = some r := by rw [if_pos rfl] at H; exact H); clear H; (have H := H1); clear H1; (by_cases c64 : t312 = 0)
                     ·(rw [if_pos c64] at H); (have c64b0 : (t312 == 0) = true := beq_iff_eq.mpr c64); (have c64b1 : (t312 != 0) = false := bne_eq_false_iff_eq.mpr c64); clear c64; (replace H := Option.bind_eq_some_iff.mp H); (obtain ⟨t343, A650, H⟩ := H); (replace H : (if t311.toList = t343.toList then ((solsticelaw20_wakes.f kj53).bind fun t344 => (some t344)) else (some false)) = some r := H); (have A65 := aM A650); clear A650; (by_cases c66 : t311.toList = t343.toList)
                      ·(rw [if_pos c66] at H); (have c66b0 : (t311.toList == t343.toList) = true := beq_iff_eq.mpr c66); (have c66b1 : (t311.toList != t343.toList) = false := bne_eq_false_iff_eq.mpr c66); clear c66; (replace H := Option.bind_eq_some_iff.mp H); (obtain ⟨t344, A670, H⟩ := H); (replace H : (some t344) = some r := H); (have A67 := aM A670); clear A670; (obtain rfl := Option.some.inj H); (go_wp2_with (first | ((with_reducible refine gate_callee (f := 17) rfl ?_); refine goesL_ (some 166) rfl rfl Tryd.func17 (by kernel_rfl) rfl #[.int .i64 a0] rfl (by (try simp only [List.map_toArray, List.map_cons, List.map_nil]); first | done | rfl | (simp only [List.length_drop, List.length_take]; rfl)) ?_; (with_reducible refine (solsticeref16_Years.calls kj53 a0 t338 t339 t340 true _ A62.out).mono ?_); rintro e w68 ⟨rfl, hb⟩; refine ⟨_, rfl, ?_⟩; have n0_ := aM (below_step (by repeat (first | (with_reducible first | exact HB.out | apply lA | apply lN | apply lW) | exact HB.out)) hb); clear HB; have HB := n0_; clear n0_; (try clear hb); (try clear hb2); (try clear hk); (try clear hi)) | ((with_reducible refine gate_dst (N := 29) rfl ?_); refine box_event ?hg (N := 29) ?hd (cs := #[.int .i64 0, .int .i64 0, .int .i64 0]) (t := 42) ?hr ?_; (case hd => rfl); (case hg => rfl); (case hr => first | (go_simp; done) | (go_simp; rfl)); intro gb342 hg w69 hbox hb; have n0_ := aM (below_step (by repeat (first | (with_reducible first | exact HB.out | apply lA | apply lN | apply lW) | exact HB.out)) hb); have n1_ := aM (hbox); have n2_ := aM ((by rw [hg]; exact (below_size (by repeat (first | (with_reducible first | exact HB.out | apply lA | apply lN | apply lW) | exact HB.out))) : w.heap.size ≤ gb342)); have n3_ := aM ((by rw [hg]; exact (below_size (by repeat (first | (with_reducible first | exact HB.out | apply lA | apply lN | apply lW) | exact HB.out))) : w.heap.size ≤ gb342)); clear HB; have HB := n0_; have BK342 := n1_; have GW342 := n2_; have GE342 := n3_; clear n0_ n1_ n2_ n3_; clear hb hbox hg; have hcz70_0 : w69.cell? ⟨gb342, 0, none⟩ = some (.int .i64 0) := (qC BK342.out 0).trans rfl; have hcz70_1 : w69.cell? ⟨gb342, 1, none⟩ = some (.int .i64 0) := (qC BK342.out 1).trans rfl; have hcz70_2 : w69.cell? ⟨gb342, 2, none⟩ = some (.int .i64 0) := (qC BK342.out 2).trans rfl; have hfz70_0 := qF BK342.out 0; have hfz70_1 := qF BK342.out 1; have hfz70_2 := qF BK342.out 2) | (go_at_call 19; (with_reducible refine (solsticeref16_Time.calls kj53 a0 a2 t343 _ A65.out).mono ?_); rintro e w71 ⟨rfl, hb⟩; have n0_ := aM (blk_below (g := gb342) (o := .cells #[.int .i64 t338, .int .i64 t339, .int .i64 t340] 42 (0, 0)) (by (with_reducible repeat (first | refine qN ?_ _ | refine qW ?_ | refine qA ?_ _)); refine blk_put (cs := #[.int .i64 t338, .int .i64 t339, .int .i64 0]) ?_ 2 _ rfl; (with_reducible repeat (first | refine qN ?_ _ | refine qW ?_ | refine qA ?_ _)); refine blk_put (cs := #[.int .i64 t338, .int .i64 0, .int .i64 0]) ?_ 1 _ rfl; (with_reducible repeat (first | refine qN ?_ _ | refine qW ?_ | refine qA ?_ _)); refine blk_put (cs := #[.int .i64 0, .int .i64 0, .int .i64 0]) ?_ 0 _ rfl; (with_reducible repeat (first | refine qN ?_ _ | refine qW ?_ | refine qA ?_ _)); exact BK342.out) hb); have n1_ := aM (below_step (by repeat (first | (with_reducible first | exact HB.out | apply lA | apply lN | apply lW | refine lS ?_ GE342.out) | exact HB.out)) hb); clear BK342; clear HB; have BK342 := n0_; have HB := n1_; clear n0_ n1_; (try clear hb); (try clear hb2); (try clear hk); (try clear hi)) | (go_at_call 18; (with_reducible refine (solsticelaw20_wakes.calls kj53  t344 htrue _ ?sideG A67.out).mono ?_); (case sideG => first | exact GP_below HG.out (by repeat (first | (with_reducible first | exact HB.out | apply lA | apply lN | apply lW | refine lS ?_ GE342.out) | exact HB.out)) | repeat (first | exact HG.out | refine GP_alloc ?_ _ | refine GP_drewN ?_ _ | refine GP_drew ?_)); rintro e w72 ⟨rfl, hb⟩; have n0_ := aM (blk_below (g := gb342) (o := .cells #[.int .i64 t338, .int .i64 t339, .int .i64 t340] 42 (0, 0)) (by (with_reducible repeat (first | refine qN ?_ _ | refine qW ?_ | refine qA ?_ _)); exact BK342.out) hb); have n1_ := aM (below_step (by repeat (first | (with_reducible first | exact HB.out | apply lA | apply lN | apply lW | refine lS ?_ GE342.out) | exact HB.out)) hb); clear BK342; clear HB; have BK342 := n0_; have HB := n1_; clear n0_ n1_; (try clear hb); (try clear hb2); (try clear hk); (try clear hi)))); (go_ret); (exact ⟨by first | rfl | (simp [errW_none, errW_some] <;> rfl) | (simp [*, errW_none, errW_some] <;> rfl), by repeat (first | (with_reducible first | exact HB.out | apply lA | apply lN | apply lW | refine lS ?_ GE342.out) | exact HB.out)⟩)
                      ·(rw [if_neg c66] at H); (have c66b0 : (t311.toList == t343.toList) = false := beq_eq_false_iff_ne.mpr c66); (have c66b1 : (t311.toList != t343.toList) = true := bne_iff_ne.mpr c66); (obtain rfl := Option.some.inj H)
                       cases htrue
                     ·(rw [if_neg c64] at H); (have c64b0 : (t312 == 0) = false := beq_eq_false_iff_ne.mpr c64); (have c64b1 : (t312 != 0) = true := bne_iff_ne.mpr c64); (obtain rfl := Option.some.inj H)
                      cases htrue
                    ·(replace c63 := Bool.eq_false_iff.mpr c63); subst c63; (have H1 : (if t312 = 23 then (if t311.toList = ([] : List UInt8) then ((solsticelaw20_wakes.f kj53).bind fun t345 => (some t345)) else (some false)) else (some false)) = some r := by rw [if_neg (show ¬ (false = true) by decide)] at H; exact H); clear H; (have H := H1); clear H1; (by_cases c73 : t312 = 23)
                     ·(rw [if_pos c73] at H); (have c73b0 : (t312 == 23) = true := beq_iff_eq.mpr c73); (have c73b1 : (t312 != 23) = false := bne_eq_false_iff_eq.mpr c73); clear c73; (by_cases c74 : t311.toList = ([] : List UInt8))
                      ·(rw [if_pos c74] at H); (have c74b0 : (t311.toList == ([] : List UInt8)) = true := beq_iff_eq.mpr c74); (have c74b1 : (t311.toList != ([] : List UInt8)) = false := bne_eq_false_iff_eq.mpr c74); clear c74; (replace H := Option.bind_eq_some_iff.mp H); (obtain ⟨t345, A750, H⟩ := H); (replace H : (some t345) = some r := H); (have A75 := aM A750); clear A750; (obtain rfl := Option.some.inj H); (go_wp2_with (first | ((with_reducible refine gate_callee (f := 17) rfl ?_); refine goesL_ (some 166) rfl rfl Tryd.func17 (by kernel_rfl) rfl #[.int .i64 a0] rfl (by (try simp only [List.map_toArray, List.map_cons, List.map_nil]); first | done | rfl | (simp only [List.length_drop, List.length_take]; rfl)) ?_; (with_reducible refine (solsticeref16_Years.calls kj53 a0 t338 t339 t340 false _ A62.out).mono ?_); rintro e w76 ⟨rfl, hb⟩; refine ⟨_, rfl, ?_⟩; have n0_ := aM (below_step (by repeat (first | (with_reducible first | exact HB.out | apply lA | apply lN | apply lW) | exact HB.out)) hb); clear HB; have HB := n0_; clear n0_; (try clear hb); (try clear hb2); (try clear hk); (try clear hi)) | ((with_reducible refine gate_dst (N := 29) rfl ?_); refine box_event ?hg (N := 29) ?hd (cs := #[.int .i64 0, .int .i64 0, .int .i64 0]) (t := 42) ?hr ?_; (case hd => rfl); (case hg => rfl); (case hr => first | (go_simp; done) | (go_simp; rfl)); intro gb342 hg w77 hbox hb; have n0_ := aM (below_step (by repeat (first | (with_reducible first | exact HB.out | apply lA | apply lN | apply lW) | exact HB.out)) hb); have n1_ := aM (hbox); have n2_ := aM ((by rw [hg]; exact (below_size (by repeat (first | (with_reducible first | exact HB.out | apply lA | apply lN | apply lW) | exact HB.out))) : w.heap.size ≤ gb342)); have n3_ := aM ((by rw [hg]; exact (below_size (by repeat (first | (with_reducible first | exact HB.out | apply lA | apply lN | apply lW) | exact HB.out))) : w.heap.size ≤ gb342)); clear HB; have HB := n0_; have BK342 := n1_; have GW342 := n2_; have GE342 := n3_; clear n0_ n1_ n2_ n3_; clear hb hbox hg; have hcz78_0 : w77.cell? ⟨gb342, 0, none⟩ = some (.int .i64 0) := (qC BK342.out 0).trans rfl; have hcz78_1 : w77.cell? ⟨gb342, 1, none⟩ = some (.int .i64 0) := (qC BK342.out 1).trans rfl; have hcz78_2 : w77.cell? ⟨gb342, 2, none⟩ = some (.int .i64 0) := (qC BK342.out 2).trans rfl; have hfz78_0 := qF BK342.out 0; have hfz78_1 := qF BK342.out 1; have hfz78_2 := qF BK342.out 2) | (go_at_call 18; (with_reducible refine (solsticelaw20_wakes.calls kj53  t345 htrue _ ?sideG A75.out).mono ?_); (case sideG => first | exact GP_below HG.out (by repeat (first | (with_reducible first | exact HB.out | apply lA | apply lN | apply lW | refine lS ?_ GE342.out) | exact HB.out)) | repeat (first | exact HG.out | refine GP_alloc ?_ _ | refine GP_drewN ?_ _ | refine GP_drew ?_)); rintro e w79 ⟨rfl, hb⟩; have n0_ := aM (blk_below (g := gb342) (o := .cells #[.int .i64 t338, .int .i64 t339, .int .i64 t340] 42 (0, 0)) (by (with_reducible repeat (first | refine qN ?_ _ | refine qW ?_ | refine qA ?_ _)); refine blk_put (cs := #[.int .i64 t338, .int .i64 t339, .int .i64 0]) ?_ 2 _ rfl; (with_reducible repeat (first | refine qN ?_ _ | refine qW ?_ | refine qA ?_ _)); refine blk_put (cs := #[.int .i64 t338, .int .i64 0, .int .i64 0]) ?_ 1 _ rfl; (with_reducible repeat (first | refine qN ?_ _ | refine qW ?_ | refine qA ?_ _)); refine blk_put (cs := #[.int .i64 0, .int .i64 0, .int .i64 0]) ?_ 0 _ rfl; (with_reducible repeat (first | refine qN ?_ _ | refine qW ?_ | refine qA ?_ _)); exact BK342.out) hb); have n1_ := aM (below_step (by repeat (first | (with_reducible first | exact HB.out | apply lA | apply lN | apply lW | refine lS ?_ GE342.out) | exact HB.out)) hb); clear BK342; clear HB; have BK342 := n0_; have HB := n1_; clear n0_ n1_; (try clear hb); (try clear hb2); (try clear hk); (try clear hi)))); (go_ret); (exact ⟨by first | rfl | (simp [errW_none, errW_some] <;> rfl) | (simp [*, errW_none, errW_some] <;> rfl), by repeat (first | (with_reducible first | exact HB.out | apply lA | apply lN | apply lW | refine lS ?_ GE342.out) | exact HB.out)⟩)
                      ·(rw [if_neg c74] at H); (have c74b0 : (t311.toList == ([] : List UInt8)) = false := beq_eq_false_iff_ne.mpr c74); (have c74b1 : (t311.toList != ([] : List UInt8)) = true := bne_iff_ne.mpr c74); (obtain rfl := Option.some.inj H)
                       cases htrue
                     ·(rw [if_neg c73] at H); (have c73b0 : (t312 == 23) = false := beq_eq_false_iff_ne.mpr c73); (have c73b1 : (t312 != 23) = true := bne_iff_ne.mpr c73); (obtain rfl := Option.some.inj H)
                      cases htrue
def solsticelaw20_ValueExact.Pure : Prop := ∀ (a0 : Int) (a1 : Int) (a2 : Bool) (a3 : ByteArray), (Lit.int .i64 a0).wf = true → (Lit.int .i64 a1).wf = true → a3.size ≤ 140737488351232 → ∃ k, solsticelaw20_ValueExact.f k a0 a1 a2 a3 = some true
end Go.Proofs.YtligbecmbefclaaDoor.PVex