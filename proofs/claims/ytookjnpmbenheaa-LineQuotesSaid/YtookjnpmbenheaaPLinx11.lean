-- Printed by a program of this session's over the kit's printer; library functions by contracts off the shelf.
import Derived.Test.YtookjnpmbenheaaPLinx0
import Derived.Test.YtookjnpmbenheaaPLinx1
import Derived.Test.YtookjnpmbenheaaPLinx5
import Derived.Test.YtookjnpmbenheaaPLinx6
import Derived.Test.YtookjnpmbenheaaPLinx8
import Derived.Test.YtookjnpmbenheaaPLinx10
namespace Go.Proofs.Ytookjnpmbenheaa.PLin
open Go.RowKit Go.Proofs.YtookjnpmbenheaaW.PrintWords Go.Proofs.YtookjnpmbenheaaW.PrintLast Go.Proofs.YtookjnpmbenheaaW.PrintMore
attribute [local go_sem] max2_int min2_int max_two min_two max_three min_three max_four min_four   -- for this text's walks alone
set_option linter.unusedVariables false
set_option linter.unusedSimpArgs false
mutual
def solsticelaw18_LineQuotes.j0 : Nat → Int → Int → Bool → ByteArray → List (S54) → ByteArray → Option (Bool)
 | 0, _, _, _, _, _, _ => none
 | k + 1, x1, x2, x27, x226000, x226001, x226002 => if x27 = true then (some true) else (if (IntKind.u64.wrap ((x226001.length : Int))) = 0 then (none) else (if 0 ≤ (wrap64 (Int.tmod (IntKind.u64.wrap (x1)) (IntKind.u64.wrap ((x226001.length : Int))))) then (if (wrap64 (Int.tmod (IntKind.u64.wrap (x1)) (IntKind.u64.wrap ((x226001.length : Int))))) < (x226001.length : Int) then (if (IntKind.u64.wrap ((((rd_T54 x226001 (wrap64 (Int.tmod (IntKind.u64.wrap (x1)) (IntKind.u64.wrap ((x226001.length : Int)))))).f1).length : Int))) = 0 then (none) else (solsticelaw18_LineQuotes.l0 k (wrap64 (Int.tmod (IntKind.u64.wrap (x1)) (IntKind.u64.wrap ((x226001.length : Int))))) (wrap64 (Int.tmod (IntKind.u64.wrap (x2)) (IntKind.u64.wrap ((((rd_T54 x226001 (wrap64 (Int.tmod (IntKind.u64.wrap (x1)) (IntKind.u64.wrap ((x226001.length : Int)))))).f1).length : Int))))) x226000 0 x226000 x226001 x226002)) else (none)) else (none)))
def solsticelaw18_LineQuotes.l0 : Nat → Int → Int → ByteArray → Int → ByteArray → List (S54) → ByteArray → Option (Bool)
 | 0, _, _, _, _, _, _, _ => none
 | k + 1, x1, x2, x7, x8, x226000, x226001, x226002 => if x8 < (x226001.length : Int) then (if x7.size + 1 ≤ 9223372036854775807 then (if 0 ≤ x8 then (if (x7 ++ (⟨#[59]⟩ : ByteArray)).size + ((rd_T54 x226001 x8).f0).size ≤ 9223372036854775807 then (if ((x7 ++ (⟨#[59]⟩ : ByteArray)) ++ ((rd_T54 x226001 x8).f0)).size + 1 ≤ 9223372036854775807 then (solsticelaw18_LineQuotes.l1 k x1 x2 (((x7 ++ (⟨#[59]⟩ : ByteArray)) ++ ((rd_T54 x226001 x8).f0)) ++ (⟨#[61]⟩ : ByteArray)) x8 0 x226000 x226001 x226002) else (none)) else (none)) else (none)) else (none)) else (if x7.size + 1 ≤ 9223372036854775807 then (if (x7 ++ (⟨#[58]⟩ : ByteArray)).size + x226002.size ≤ 9223372036854775807 then ((line_Parse.f k ((x7 ++ (⟨#[58]⟩ : ByteArray)) ++ x226002)).bind fun bt229 => (if bt229.2.2.2 = 0 then ((solsticekeep_Line.f k bt229.1 bt229.2.1 bt229.2.2.1 x226000 x226001 x226002).bind fun t236 => (if t236 = true then ((solsticelaw18_wakes.f k).bind fun t237 => (some t237)) else (some false))) else (some false))) else (none)) else (none))
def solsticelaw18_LineQuotes.l1 : Nat → Int → Int → ByteArray → Int → Int → ByteArray → List (S54) → ByteArray → Option (Bool)
 | 0, _, _, _, _, _, _, _, _ => none
 | k + 1, x1, x2, x7, x8, x9, x226000, x226001, x226002 => if 0 ≤ x8 then (if x8 < (x226001.length : Int) then (if x9 < (((rd_T54 x226001 x8).f1).length : Int) then (if 0 ≤ x9 then (if x8 = x1 then (solsticelaw18_LineQuotes.j3 k x1 x2 x7 x8 x9 (rdOf ByteArray.empty ((rd_T54 x226001 x8).f1) x9) (x9 == x2) x226000 x226001 x226002) else (solsticelaw18_LineQuotes.j3 k x1 x2 x7 x8 x9 (rdOf ByteArray.empty ((rd_T54 x226001 x8).f1) x9) false x226000 x226001 x226002)) else (none)) else (solsticelaw18_LineQuotes.l0 k x1 x2 x7 (wrap64 (x8 + 1)) x226000 x226001 x226002)) else (none)) else (none)
def solsticelaw18_LineQuotes.j3 : Nat → Int → Int → ByteArray → Int → Int → ByteArray → Bool → ByteArray → List (S54) → ByteArray → Option (Bool)
 | 0, _, _, _, _, _, _, _, _, _, _ => none
 | k + 1, x1, x2, x7, x8, x9, x10, x11, x226000, x226001, x226002 => solsticelaw18_LineQuotes.l2 k x1 x2 x7 x8 x9 x10 x11 0 x226000 x226001 x226002
def solsticelaw18_LineQuotes.l2 : Nat → Int → Int → ByteArray → Int → Int → ByteArray → Bool → Int → ByteArray → List (S54) → ByteArray → Option (Bool)
 | 0, _, _, _, _, _, _, _, _, _, _, _ => none
 | k + 1, x1, x2, x7, x8, x9, x10, x11, x12, x226000, x226001, x226002 => if x12 < (x10.size : Int) then (if x11 = true then (solsticelaw18_LineQuotes.l2 k x1 x2 x7 x8 x9 x10 true (wrap64 (x12 + 1)) x226000 x226001 x226002) else (if 0 ≤ x12 then (if (bt x10 x12) = 58 then (solsticelaw18_LineQuotes.l2 k x1 x2 x7 x8 x9 x10 true (wrap64 (x12 + 1)) x226000 x226001 x226002) else (if (bt x10 x12) = 59 then (solsticelaw18_LineQuotes.l2 k x1 x2 x7 x8 x9 x10 true (wrap64 (x12 + 1)) x226000 x226001 x226002) else (solsticelaw18_LineQuotes.l2 k x1 x2 x7 x8 x9 x10 ((bt x10 x12) == 44) (wrap64 (x12 + 1)) x226000 x226001 x226002))) else (none))) else (if x9 > 0 then (if x7.size + 1 ≤ 9223372036854775807 then (if x11 = true then (if 1 + x10.size ≤ 9223372036854775807 then (if ((⟨#[34]⟩ : ByteArray) ++ x10).size + 1 ≤ 9223372036854775807 then (if (x7 ++ (⟨#[44]⟩ : ByteArray)).size + (((⟨#[34]⟩ : ByteArray) ++ x10) ++ (⟨#[34]⟩ : ByteArray)).size ≤ 9223372036854775807 then (solsticelaw18_LineQuotes.l1 k x1 x2 ((x7 ++ (⟨#[44]⟩ : ByteArray)) ++ (((⟨#[34]⟩ : ByteArray) ++ x10) ++ (⟨#[34]⟩ : ByteArray))) x8 (wrap64 (x9 + 1)) x226000 x226001 x226002) else (none)) else (none)) else (none)) else (if (x7 ++ (⟨#[44]⟩ : ByteArray)).size + x10.size ≤ 9223372036854775807 then (solsticelaw18_LineQuotes.l1 k x1 x2 ((x7 ++ (⟨#[44]⟩ : ByteArray)) ++ x10) x8 (wrap64 (x9 + 1)) x226000 x226001 x226002) else (none))) else (none)) else (if x11 = true then (if 1 + x10.size ≤ 9223372036854775807 then (if ((⟨#[34]⟩ : ByteArray) ++ x10).size + 1 ≤ 9223372036854775807 then (if x7.size + (((⟨#[34]⟩ : ByteArray) ++ x10) ++ (⟨#[34]⟩ : ByteArray)).size ≤ 9223372036854775807 then (solsticelaw18_LineQuotes.l1 k x1 x2 (x7 ++ (((⟨#[34]⟩ : ByteArray) ++ x10) ++ (⟨#[34]⟩ : ByteArray))) x8 (wrap64 (x9 + 1)) x226000 x226001 x226002) else (none)) else (none)) else (none)) else (if x7.size + x10.size ≤ 9223372036854775807 then (solsticelaw18_LineQuotes.l1 k x1 x2 (x7 ++ x10) x8 (wrap64 (x9 + 1)) x226000 x226001 x226002) else (none))))
end
def solsticelaw18_LineQuotes.f (k : Nat) (a0_0 : ByteArray) (l0_1 : List (S54)) (a0_2 : ByteArray) (a1 : Int) (a2 : Int) : Option (Bool) := (solsticelaw18_Heavy.f k a0_0 l0_1 a0_2).bind fun t226 => (if t226 = true then (solsticelaw18_LineQuotes.j0 k a1 a2 true a0_0 l0_1 a0_2) else ((solsticeref16_Line.f k a0_0 l0_1 a0_2).bind fun t227 => (if t227 = true then (solsticelaw18_LineQuotes.j0 k a1 a2 ((l0_1.length : Int) == 0) a0_0 l0_1 a0_2) else (solsticelaw18_LineQuotes.j0 k a1 a2 true a0_0 l0_1 a0_2))))
theorem solsticelaw18_LineQuotes.mono_l : ∀ k, (∀ y0 y1 y2 y3 y4 y5, LeO (solsticelaw18_LineQuotes.j0 k y0 y1 y2 y3 y4 y5) (solsticelaw18_LineQuotes.j0 (k + 1) y0 y1 y2 y3 y4 y5)) ∧ (∀ y0 y1 y2 y3 y4 y5 y6, LeO (solsticelaw18_LineQuotes.l0 k y0 y1 y2 y3 y4 y5 y6) (solsticelaw18_LineQuotes.l0 (k + 1) y0 y1 y2 y3 y4 y5 y6)) ∧ (∀ y0 y1 y2 y3 y4 y5 y6 y7, LeO (solsticelaw18_LineQuotes.l1 k y0 y1 y2 y3 y4 y5 y6 y7) (solsticelaw18_LineQuotes.l1 (k + 1) y0 y1 y2 y3 y4 y5 y6 y7)) ∧ (∀ y0 y1 y2 y3 y4 y5 y6 y7 y8 y9, LeO (solsticelaw18_LineQuotes.j3 k y0 y1 y2 y3 y4 y5 y6 y7 y8 y9) (solsticelaw18_LineQuotes.j3 (k + 1) y0 y1 y2 y3 y4 y5 y6 y7 y8 y9)) ∧ (∀ y0 y1 y2 y3 y4 y5 y6 y7 y8 y9 y10, LeO (solsticelaw18_LineQuotes.l2 k y0 y1 y2 y3 y4 y5 y6 y7 y8 y9 y10) (solsticelaw18_LineQuotes.l2 (k + 1) y0 y1 y2 y3 y4 y5 y6 y7 y8 y9 y10))
 | 0 => ⟨fun _ _ _ _ _ _ r h => by simp [solsticelaw18_LineQuotes.j0] at h, fun _ _ _ _ _ _ _ r h => by simp [solsticelaw18_LineQuotes.l0] at h, fun _ _ _ _ _ _ _ _ r h => by simp [solsticelaw18_LineQuotes.l1] at h, fun _ _ _ _ _ _ _ _ _ _ r h => by simp [solsticelaw18_LineQuotes.j3] at h, fun _ _ _ _ _ _ _ _ _ _ _ r h => by simp [solsticelaw18_LineQuotes.l2] at h⟩
 | k + 1 => by
  obtain ⟨ih0, ih1, ih2, ih3, ih4⟩ := solsticelaw18_LineQuotes.mono_l k
  refine ⟨?_, ?_, ?_, ?_, ?_⟩
  ·intro y0 y1 y2 y3 y4 y5
   unfold solsticelaw18_LineQuotes.j0
   repeat' first
   | (with_reducible exact ih0 _ _ _ _ _ _)
   | (with_reducible exact ih1 _ _ _ _ _ _ _)
   | (with_reducible exact ih2 _ _ _ _ _ _ _ _)
   | (with_reducible exact ih3 _ _ _ _ _ _ _ _ _ _)
   | (with_reducible exact ih4 _ _ _ _ _ _ _ _ _ _ _)
   | (with_reducible exact line_Parse.mono _ _)
   | (with_reducible exact solsticekeep_Line.mono _ _ _ _ _ _ _)
   | (with_reducible exact solsticelaw18_Heavy.mono _ _ _ _)
   | (with_reducible exact solsticelaw18_wakes.mono _)
   | (with_reducible exact solsticeref16_Line.mono _ _ _ _)
   | (with_reducible exact LeO.refl _)
   | (with_reducible exact LeO.none _)
   | (with_reducible refine LeO.ite ?_ ?_)
   | (with_reducible refine LeO.bind ?_ (fun _ => ?_))
   | exact ih0 _ _ _ _ _ _
   | exact ih1 _ _ _ _ _ _ _
   | exact ih2 _ _ _ _ _ _ _ _
   | exact ih3 _ _ _ _ _ _ _ _ _ _
   | exact ih4 _ _ _ _ _ _ _ _ _ _ _
   | exact line_Parse.mono _ _
   | exact solsticekeep_Line.mono _ _ _ _ _ _ _
   | exact solsticelaw18_Heavy.mono _ _ _ _
   | exact solsticelaw18_wakes.mono _
   | exact solsticeref16_Line.mono _ _ _ _
   | exact LeO.none _
   | refine LeO.ite ?_ ?_
   | refine LeO.bind ?_ (fun _ => ?_)
  ·intro y0 y1 y2 y3 y4 y5 y6
   unfold solsticelaw18_LineQuotes.l0
   repeat' first
   | (with_reducible exact ih0 _ _ _ _ _ _)
   | (with_reducible exact ih1 _ _ _ _ _ _ _)
   | (with_reducible exact ih2 _ _ _ _ _ _ _ _)
   | (with_reducible exact ih3 _ _ _ _ _ _ _ _ _ _)
   | (with_reducible exact ih4 _ _ _ _ _ _ _ _ _ _ _)
   | (with_reducible exact line_Parse.mono _ _)
   | (with_reducible exact solsticekeep_Line.mono _ _ _ _ _ _ _)
   | (with_reducible exact solsticelaw18_Heavy.mono _ _ _ _)
   | (with_reducible exact solsticelaw18_wakes.mono _)
   | (with_reducible exact solsticeref16_Line.mono _ _ _ _)
   | (with_reducible exact LeO.refl _)
   | (with_reducible exact LeO.none _)
   | (with_reducible refine LeO.ite ?_ ?_)
   | (with_reducible refine LeO.bind ?_ (fun _ => ?_))
   | exact ih0 _ _ _ _ _ _
   | exact ih1 _ _ _ _ _ _ _
   | exact ih2 _ _ _ _ _ _ _ _
   | exact ih3 _ _ _ _ _ _ _ _ _ _
   | exact ih4 _ _ _ _ _ _ _ _ _ _ _
   | exact line_Parse.mono _ _
   | exact solsticekeep_Line.mono _ _ _ _ _ _ _
   | exact solsticelaw18_Heavy.mono _ _ _ _
   | exact solsticelaw18_wakes.mono _
   | exact solsticeref16_Line.mono _ _ _ _
   | exact LeO.none _
   | refine LeO.ite ?_ ?_
   | refine LeO.bind ?_ (fun _ => ?_)
  ·intro y0 y1 y2 y3 y4 y5 y6 y7
   unfold solsticelaw18_LineQuotes.l1
   repeat' first
   | (with_reducible exact ih0 _ _ _ _ _ _)
   | (with_reducible exact ih1 _ _ _ _ _ _ _)
   | (with_reducible exact ih2 _ _ _ _ _ _ _ _)
   | (with_reducible exact ih3 _ _ _ _ _ _ _ _ _ _)
   | (with_reducible exact ih4 _ _ _ _ _ _ _ _ _ _ _)
   | (with_reducible exact line_Parse.mono _ _)
   | (with_reducible exact solsticekeep_Line.mono _ _ _ _ _ _ _)
   | (with_reducible exact solsticelaw18_Heavy.mono _ _ _ _)
   | (with_reducible exact solsticelaw18_wakes.mono _)
   | (with_reducible exact solsticeref16_Line.mono _ _ _ _)
   | (with_reducible exact LeO.refl _)
   | (with_reducible exact LeO.none _)
   | (with_reducible refine LeO.ite ?_ ?_)
   | (with_reducible refine LeO.bind ?_ (fun _ => ?_))
   | exact ih0 _ _ _ _ _ _
   | exact ih1 _ _ _ _ _ _ _
   | exact ih2 _ _ _ _ _ _ _ _
   | exact ih3 _ _ _ _ _ _ _ _ _ _
   | exact ih4 _ _ _ _ _ _ _ _ _ _ _
   | exact line_Parse.mono _ _
   | exact solsticekeep_Line.mono _ _ _ _ _ _ _
   | exact solsticelaw18_Heavy.mono _ _ _ _
   | exact solsticelaw18_wakes.mono _
   | exact solsticeref16_Line.mono _ _ _ _
   | exact LeO.none _
   | refine LeO.ite ?_ ?_
   | refine LeO.bind ?_ (fun _ => ?_)
  ·intro y0 y1 y2 y3 y4 y5 y6 y7 y8 y9
   unfold solsticelaw18_LineQuotes.j3
   repeat' first
   | (with_reducible exact ih0 _ _ _ _ _ _)
   | (with_reducible exact ih1 _ _ _ _ _ _ _)
   | (with_reducible exact ih2 _ _ _ _ _ _ _ _)
   | (with_reducible exact ih3 _ _ _ _ _ _ _ _ _ _)
   | (with_reducible exact ih4 _ _ _ _ _ _ _ _ _ _ _)
   | (with_reducible exact line_Parse.mono _ _)
   | (with_reducible exact solsticekeep_Line.mono _ _ _ _ _ _ _)
   | (with_reducible exact solsticelaw18_Heavy.mono _ _ _ _)
   | (with_reducible exact solsticelaw18_wakes.mono _)
   | (with_reducible exact solsticeref16_Line.mono _ _ _ _)
   | (with_reducible exact LeO.refl _)
   | (with_reducible exact LeO.none _)
   | (with_reducible refine LeO.ite ?_ ?_)
   | (with_reducible refine LeO.bind ?_ (fun _ => ?_))
   | exact ih0 _ _ _ _ _ _
   | exact ih1 _ _ _ _ _ _ _
   | exact ih2 _ _ _ _ _ _ _ _
   | exact ih3 _ _ _ _ _ _ _ _ _ _
   | exact ih4 _ _ _ _ _ _ _ _ _ _ _
   | exact line_Parse.mono _ _
   | exact solsticekeep_Line.mono _ _ _ _ _ _ _
   | exact solsticelaw18_Heavy.mono _ _ _ _
   | exact solsticelaw18_wakes.mono _
   | exact solsticeref16_Line.mono _ _ _ _
   | exact LeO.none _
   | refine LeO.ite ?_ ?_
   | refine LeO.bind ?_ (fun _ => ?_)
  ·intro y0 y1 y2 y3 y4 y5 y6 y7 y8 y9 y10
   unfold solsticelaw18_LineQuotes.l2
   repeat' first
   | (with_reducible exact ih0 _ _ _ _ _ _)
   | (with_reducible exact ih1 _ _ _ _ _ _ _)
   | (with_reducible exact ih2 _ _ _ _ _ _ _ _)
   | (with_reducible exact ih3 _ _ _ _ _ _ _ _ _ _)
   | (with_reducible exact ih4 _ _ _ _ _ _ _ _ _ _ _)
   | (with_reducible exact line_Parse.mono _ _)
   | (with_reducible exact solsticekeep_Line.mono _ _ _ _ _ _ _)
   | (with_reducible exact solsticelaw18_Heavy.mono _ _ _ _)
   | (with_reducible exact solsticelaw18_wakes.mono _)
   | (with_reducible exact solsticeref16_Line.mono _ _ _ _)
   | (with_reducible exact LeO.refl _)
   | (with_reducible exact LeO.none _)
   | (with_reducible refine LeO.ite ?_ ?_)
   | (with_reducible refine LeO.bind ?_ (fun _ => ?_))
   | exact ih0 _ _ _ _ _ _
   | exact ih1 _ _ _ _ _ _ _
   | exact ih2 _ _ _ _ _ _ _ _
   | exact ih3 _ _ _ _ _ _ _ _ _ _
   | exact ih4 _ _ _ _ _ _ _ _ _ _ _
   | exact line_Parse.mono _ _
   | exact solsticekeep_Line.mono _ _ _ _ _ _ _
   | exact solsticelaw18_Heavy.mono _ _ _ _
   | exact solsticelaw18_wakes.mono _
   | exact solsticeref16_Line.mono _ _ _ _
   | exact LeO.none _
   | refine LeO.ite ?_ ?_
   | refine LeO.bind ?_ (fun _ => ?_)
theorem solsticelaw18_LineQuotes.mono : ∀ a0 a1 a2 a3 a4 k, LeO (solsticelaw18_LineQuotes.f k a0 a1 a2 a3 a4) (solsticelaw18_LineQuotes.f (k + 1) a0 a1 a2 a3 a4) := by
 intro a0 a1 a2 a3 a4 k
 obtain ⟨ih0, ih1, ih2, ih3, ih4⟩ := solsticelaw18_LineQuotes.mono_l k
 unfold solsticelaw18_LineQuotes.f
 repeat' first
   | (with_reducible exact ih0 _ _ _ _ _ _)
   | (with_reducible exact ih1 _ _ _ _ _ _ _)
   | (with_reducible exact ih2 _ _ _ _ _ _ _ _)
   | (with_reducible exact ih3 _ _ _ _ _ _ _ _ _ _)
   | (with_reducible exact ih4 _ _ _ _ _ _ _ _ _ _ _)
   | (with_reducible exact line_Parse.mono _ _)
   | (with_reducible exact solsticekeep_Line.mono _ _ _ _ _ _ _)
   | (with_reducible exact solsticelaw18_Heavy.mono _ _ _ _)
   | (with_reducible exact solsticelaw18_wakes.mono _)
   | (with_reducible exact solsticeref16_Line.mono _ _ _ _)
   | (with_reducible exact LeO.refl _)
   | (with_reducible exact LeO.none _)
   | (with_reducible refine LeO.ite ?_ ?_)
   | (with_reducible refine LeO.bind ?_ (fun _ => ?_))
   | exact ih0 _ _ _ _ _ _
   | exact ih1 _ _ _ _ _ _ _
   | exact ih2 _ _ _ _ _ _ _ _
   | exact ih3 _ _ _ _ _ _ _ _ _ _
   | exact ih4 _ _ _ _ _ _ _ _ _ _ _
   | exact line_Parse.mono _ _
   | exact solsticekeep_Line.mono _ _ _ _ _ _ _
   | exact solsticelaw18_Heavy.mono _ _ _ _
   | exact solsticelaw18_wakes.mono _
   | exact solsticeref16_Line.mono _ _ _ _
   | exact LeO.none _
   | refine LeO.ite ?_ ?_
   | refine LeO.bind ?_ (fun _ => ?_)
set_option maxHeartbeats 8000000 in
set_option maxRecDepth 100000 in
theorem solsticelaw18_LineQuotes.calls (k : Nat) (a0_0 : ByteArray) (A0_1 : Option Addr) (c0_1 : Nat) (l0_1 : List (S54)) (a0_2 : ByteArray) (a1 : Int) (a2 : Int) (r : Bool) (htrue : r = true) (w : World) (hr0_1 : Kd.C k54 w A0_1 l0_1.length l0_1) (hc0_1 : l0_1.length ≤ c0_1) (h : solsticelaw18_LineQuotes.f k a0_0 l0_1 a0_2 a1 a2 = some r) :
  Calls Try.prog 8 #[.agg #[.string a0_0, .slice A0_1 l0_1.length c0_1, .string a0_2], .int .i64 a1, .int .i64 a2] w fun e w' => e = .returned (.bool r) ∧ Below w.heap.size w w' := by
 have hu38 := Try.underlying38
 have HR0_1 := Aside0.mk hr0_1
 have HC0_1 := Aside0.mk hc0_1
 clear hr0_1 hc0_1
 have HB := Aside0.mk (Below.refl w.heap.size w)
 have H : ((solsticelaw18_Heavy.f k a0_0 l0_1 a0_2).bind fun t226 => (if t226 = true then (solsticelaw18_LineQuotes.j0 k a1 a2 true a0_0 l0_1 a0_2) else ((solsticeref16_Line.f k a0_0 l0_1 a0_2).bind fun t227 => (if t227 = true then (solsticelaw18_LineQuotes.j0 k a1 a2 ((l0_1.length : Int) == 0) a0_0 l0_1 a0_2) else (solsticelaw18_LineQuotes.j0 k a1 a2 true a0_0 l0_1 a0_2))))) = some r := h
 clear h
 have HC4 := Aside0.mk H
 clear H
 go_enter Try.func8, Try.ntmps8
 go_upto_region 1 with (first | ((with_reducible refine gate_dst (N := 3) rfl ?_); (try (refine gate_guard (by rfl) ?_; dsimp only)); refine box_event ?hg (N := 3) ?hd (cs := #[.string a0_0, .slice A0_1 l0_1.length c0_1, .string a0_2]) (t := 38) ?hr ?_; (case hd => rfl); (case hg => rfl); (case hr => first | (go_simp; done) | (go_simp; rfl)); intro gb225 hg w5 hbox hb; have n0_ := Aside0.mk (below_step (by repeat (first | (with_reducible first | exact HB.out | apply below_alloc | apply pw_below_drewN | apply below_drew1) | exact HB.out)) hb); have n1_ := Aside0.mk (hbox); have n2_ := Aside0.mk ((by rw [hg]; exact (below_size (by repeat (first | (with_reducible first | exact HB.out | apply below_alloc | apply pw_below_drewN | apply below_drew1) | exact HB.out))) : w.heap.size ≤ gb225)); have n3_ := Aside0.mk ((by rw [hg]; exact (below_size (by repeat (first | (with_reducible first | exact HB.out | apply below_alloc | apply pw_below_drewN | apply below_drew1) | exact HB.out))) : w.heap.size ≤ gb225)); clear HB; have HB := n0_; have BK225 := n1_; have GW225 := n2_; have GE225 := n3_; clear n0_ n1_ n2_ n3_; clear hb hbox hg))
 (try simp only [Act.put, List.setIfInBounds_toArray, List.set_cons_zero, List.set_cons_succ])
 go_cut [27] (fun v27 wc => ∃ (kq : Nat) (x27_3 : Bool), v27 = .bool x27_3 ∧ Aside0 (solsticelaw18_LineQuotes.j0 kq a1 a2 x27_3 a0_0 l0_1 a0_2 = some r) ∧ Aside0 (kq ≤ k) ∧ Aside0 (wc.heap[gb225]? = some (.cells #[.string a0_0, (.slice A0_1 l0_1.length c0_1), .string a0_2] 38 (0, 0))) ∧ Aside0 (Below w.heap.size w wc))
 case first =>
  have H := HC4.out
  clear HC4
  replace H := Option.bind_eq_some_iff.mp H
  obtain ⟨t226, A60, H⟩ := H
  replace H : (if t226 = true then (solsticelaw18_LineQuotes.j0 k a1 a2 true a0_0 l0_1 a0_2) else ((solsticeref16_Line.f k a0_0 l0_1 a0_2).bind fun t227 => (if t227 = true then (solsticelaw18_LineQuotes.j0 k a1 a2 ((l0_1.length : Int) == 0) a0_0 l0_1 a0_2) else (solsticelaw18_LineQuotes.j0 k a1 a2 true a0_0 l0_1 a0_2)))) = some r := H
  have A6 := Aside0.mk A60
  clear A60
  by_cases c7 : t226 = true
  ·subst c7
   have H1 : (solsticelaw18_LineQuotes.j0 k a1 a2 true a0_0 l0_1 a0_2) = some r := by rw [if_pos rfl] at H; exact H
   clear H
   have H := H1
   clear H1
   have H' := Aside0.mk H
   clear H
   have hcz8_0 : w5.cell? ⟨gb225, 0, none⟩ = some (.string a0_0) := (blk_cell BK225.out 0).trans rfl
   have hcz8_1 : w5.cell? ⟨gb225, 1, none⟩ = some (.slice A0_1 l0_1.length c0_1) := (blk_cell BK225.out 1).trans rfl
   have hcz8_2 : w5.cell? ⟨gb225, 2, none⟩ = some (.string a0_2) := (blk_cell BK225.out 2).trans rfl
   have hfz8_0 := blk_frozen BK225.out 0
   have hfz8_1 := blk_frozen BK225.out 1
   have hfz8_2 := blk_frozen BK225.out 2
   go_wp2_with (first | ((with_reducible refine gate_callee (f := 22) rfl ?_); refine goesL_ (some 16) rfl rfl Try.func22 (by kernel_rfl) rfl #[.agg #[.string a0_0, .slice A0_1 l0_1.length c0_1, .string a0_2]] rfl (by (try simp only [List.map_toArray, List.map_cons, List.map_nil]); first | done | rfl | (simp only [List.length_drop, List.length_take]; rfl)) ?_; (with_reducible refine (solsticelaw18_Heavy.calls k a0_0 _ _ l0_1 a0_2 true _ ?side1 ?side2 A6.out).mono ?_); (case side1 => repeat (first | exact (Kd.C_below HR0_1.out HB.out) | (with_reducible refine Kd.C_alloc ?_ _) | (with_reducible refine Kd.C_drewN ?_ _) | (with_reducible refine Kd.C_drew ?_))); (case side2 => exact HC0_1.out); rintro e w9 ⟨rfl, hb⟩; refine ⟨_, rfl, ?_⟩; have n0_ := Aside0.mk (blk_below (g := gb225) (o := .cells #[.string a0_0, .slice A0_1 l0_1.length c0_1, .string a0_2] 38 (0, 0)) (by (with_reducible repeat (first | refine blk_drewN ?_ _ | refine blk_drew ?_ | refine blk_alloc ?_ _)); exact BK225.out) hb); have n1_ := Aside0.mk (below_step (by repeat (first | (with_reducible first | exact HB.out | apply below_alloc | apply pw_below_drewN | apply below_drew1 | refine below_set ?_ GE225.out) | exact HB.out)) hb); clear BK225; clear HB; have BK225 := n0_; have HB := n1_; clear n0_ n1_; (try clear hb); (try clear hb2); (try clear hk); (try clear hi)))
   go_meet
   case rel => exact ⟨_, (true), (by first | rfl | (simp; done) | (simp [*]; done)), H', ⟨by first | omega | exact Nat.le_refl _⟩, ⟨by (with_reducible repeat (first | refine blk_drewN ?_ _ | refine blk_drew ?_ | refine blk_alloc ?_ _)); exact BK225.out⟩, ⟨by repeat (first | (with_reducible first | exact HB.out | apply below_alloc | apply pw_below_drewN | apply below_drew1 | refine below_set ?_ GE225.out) | exact HB.out)⟩⟩
  ·replace c7 := Bool.eq_false_iff.mpr c7
   subst c7
   have H1 : ((solsticeref16_Line.f k a0_0 l0_1 a0_2).bind fun t227 => (if t227 = true then (solsticelaw18_LineQuotes.j0 k a1 a2 ((l0_1.length : Int) == 0) a0_0 l0_1 a0_2) else (solsticelaw18_LineQuotes.j0 k a1 a2 true a0_0 l0_1 a0_2))) = some r := by rw [if_neg (show ¬ (false = true) by decide)] at H; exact H
   clear H
   have H := H1
   clear H1
   replace H := Option.bind_eq_some_iff.mp H
   obtain ⟨t227, A100, H⟩ := H
   replace H : (if t227 = true then (solsticelaw18_LineQuotes.j0 k a1 a2 ((l0_1.length : Int) == 0) a0_0 l0_1 a0_2) else (solsticelaw18_LineQuotes.j0 k a1 a2 true a0_0 l0_1 a0_2)) = some r := H
   have A10 := Aside0.mk A100
   clear A100
   by_cases c11 : t227 = true
   ·subst c11
    have H1 : (solsticelaw18_LineQuotes.j0 k a1 a2 ((l0_1.length : Int) == 0) a0_0 l0_1 a0_2) = some r := by rw [if_pos rfl] at H; exact H
    clear H
    have H := H1
    clear H1
    have H' := Aside0.mk H
    clear H
    have hcz12_0 : w5.cell? ⟨gb225, 0, none⟩ = some (.string a0_0) := (blk_cell BK225.out 0).trans rfl
    have hcz12_1 : w5.cell? ⟨gb225, 1, none⟩ = some (.slice A0_1 l0_1.length c0_1) := (blk_cell BK225.out 1).trans rfl
    have hcz12_2 : w5.cell? ⟨gb225, 2, none⟩ = some (.string a0_2) := (blk_cell BK225.out 2).trans rfl
    have hfz12_0 := blk_frozen BK225.out 0
    have hfz12_1 := blk_frozen BK225.out 1
    have hfz12_2 := blk_frozen BK225.out 2
    go_wp2_with (first | ((with_reducible refine gate_callee (f := 22) rfl ?_); refine goesL_ (some 16) rfl rfl Try.func22 (by kernel_rfl) rfl #[.agg #[.string a0_0, .slice A0_1 l0_1.length c0_1, .string a0_2]] rfl (by (try simp only [List.map_toArray, List.map_cons, List.map_nil]); first | done | rfl | (simp only [List.length_drop, List.length_take]; rfl)) ?_; (with_reducible refine (solsticelaw18_Heavy.calls k a0_0 _ _ l0_1 a0_2 false _ ?side1 ?side2 A6.out).mono ?_); (case side1 => repeat (first | exact (Kd.C_below HR0_1.out HB.out) | (with_reducible refine Kd.C_alloc ?_ _) | (with_reducible refine Kd.C_drewN ?_ _) | (with_reducible refine Kd.C_drew ?_))); (case side2 => exact HC0_1.out); rintro e w13 ⟨rfl, hb⟩; refine ⟨_, rfl, ?_⟩; have n0_ := Aside0.mk (blk_below (g := gb225) (o := .cells #[.string a0_0, .slice A0_1 l0_1.length c0_1, .string a0_2] 38 (0, 0)) (by (with_reducible repeat (first | refine blk_drewN ?_ _ | refine blk_drew ?_ | refine blk_alloc ?_ _)); exact BK225.out) hb); have n1_ := Aside0.mk (below_step (by repeat (first | (with_reducible first | exact HB.out | apply below_alloc | apply pw_below_drewN | apply below_drew1 | refine below_set ?_ GE225.out) | exact HB.out)) hb); clear BK225; clear HB; have BK225 := n0_; have HB := n1_; clear n0_ n1_; (try clear hb); (try clear hb2); (try clear hk); (try clear hi); have hcz14_0 : w13.cell? ⟨gb225, 0, none⟩ = some (.string a0_0) := (blk_cell BK225.out 0).trans rfl; have hcz14_1 : w13.cell? ⟨gb225, 1, none⟩ = some (.slice A0_1 l0_1.length c0_1) := (blk_cell BK225.out 1).trans rfl; have hcz14_2 : w13.cell? ⟨gb225, 2, none⟩ = some (.string a0_2) := (blk_cell BK225.out 2).trans rfl; have hfz14_0 := blk_frozen BK225.out 0; have hfz14_1 := blk_frozen BK225.out 1; have hfz14_2 := blk_frozen BK225.out 2) | (go_at_call 30; (with_reducible refine (solsticeref16_Line.calls k a0_0 _ _ l0_1 a0_2 true _ ?side1 ?side2 A10.out).mono ?_); (case side1 => repeat (first | exact (Kd.C_below HR0_1.out HB.out) | (with_reducible refine Kd.C_alloc ?_ _) | (with_reducible refine Kd.C_drewN ?_ _) | (with_reducible refine Kd.C_drew ?_))); (case side2 => exact HC0_1.out); rintro e w15 ⟨rfl, hb⟩; have n0_ := Aside0.mk (blk_below (g := gb225) (o := .cells #[.string a0_0, .slice A0_1 l0_1.length c0_1, .string a0_2] 38 (0, 0)) (by (with_reducible repeat (first | refine blk_drewN ?_ _ | refine blk_drew ?_ | refine blk_alloc ?_ _)); exact BK225.out) hb); have n1_ := Aside0.mk (below_step (by repeat (first | (with_reducible first | exact HB.out | apply below_alloc | apply pw_below_drewN | apply below_drew1 | refine below_set ?_ GE225.out) | exact HB.out)) hb); clear BK225; clear HB; have BK225 := n0_; have HB := n1_; clear n0_ n1_; (try clear hb); (try clear hb2); (try clear hk); (try clear hi); have hcz16_0 : w15.cell? ⟨gb225, 0, none⟩ = some (.string a0_0) := (blk_cell BK225.out 0).trans rfl; have hcz16_1 : w15.cell? ⟨gb225, 1, none⟩ = some (.slice A0_1 l0_1.length c0_1) := (blk_cell BK225.out 1).trans rfl; have hcz16_2 : w15.cell? ⟨gb225, 2, none⟩ = some (.string a0_2) := (blk_cell BK225.out 2).trans rfl; have hfz16_0 := blk_frozen BK225.out 0; have hfz16_1 := blk_frozen BK225.out 1; have hfz16_2 := blk_frozen BK225.out 2))
    go_meet
    case rel => exact ⟨_, (((l0_1.length : Int) == 0)), (by first | rfl | (simp; done) | (simp [*]; done)), H', ⟨by first | omega | exact Nat.le_refl _⟩, ⟨by (with_reducible repeat (first | refine blk_drewN ?_ _ | refine blk_drew ?_ | refine blk_alloc ?_ _)); exact BK225.out⟩, ⟨by repeat (first | (with_reducible first | exact HB.out | apply below_alloc | apply pw_below_drewN | apply below_drew1 | refine below_set ?_ GE225.out) | exact HB.out)⟩⟩
   ·replace c11 := Bool.eq_false_iff.mpr c11
    subst c11
    have H1 : (solsticelaw18_LineQuotes.j0 k a1 a2 true a0_0 l0_1 a0_2) = some r := by rw [if_neg (show ¬ (false = true) by decide)] at H; exact H
    clear H
    have H := H1
    clear H1
    have H' := Aside0.mk H
    clear H
    have hcz17_0 : w5.cell? ⟨gb225, 0, none⟩ = some (.string a0_0) := (blk_cell BK225.out 0).trans rfl
    have hcz17_1 : w5.cell? ⟨gb225, 1, none⟩ = some (.slice A0_1 l0_1.length c0_1) := (blk_cell BK225.out 1).trans rfl
    have hcz17_2 : w5.cell? ⟨gb225, 2, none⟩ = some (.string a0_2) := (blk_cell BK225.out 2).trans rfl
    have hfz17_0 := blk_frozen BK225.out 0
    have hfz17_1 := blk_frozen BK225.out 1
    have hfz17_2 := blk_frozen BK225.out 2
    go_wp2_with (first | ((with_reducible refine gate_callee (f := 22) rfl ?_); refine goesL_ (some 16) rfl rfl Try.func22 (by kernel_rfl) rfl #[.agg #[.string a0_0, .slice A0_1 l0_1.length c0_1, .string a0_2]] rfl (by (try simp only [List.map_toArray, List.map_cons, List.map_nil]); first | done | rfl | (simp only [List.length_drop, List.length_take]; rfl)) ?_; (with_reducible refine (solsticelaw18_Heavy.calls k a0_0 _ _ l0_1 a0_2 false _ ?side1 ?side2 A6.out).mono ?_); (case side1 => repeat (first | exact (Kd.C_below HR0_1.out HB.out) | (with_reducible refine Kd.C_alloc ?_ _) | (with_reducible refine Kd.C_drewN ?_ _) | (with_reducible refine Kd.C_drew ?_))); (case side2 => exact HC0_1.out); rintro e w18 ⟨rfl, hb⟩; refine ⟨_, rfl, ?_⟩; have n0_ := Aside0.mk (blk_below (g := gb225) (o := .cells #[.string a0_0, .slice A0_1 l0_1.length c0_1, .string a0_2] 38 (0, 0)) (by (with_reducible repeat (first | refine blk_drewN ?_ _ | refine blk_drew ?_ | refine blk_alloc ?_ _)); exact BK225.out) hb); have n1_ := Aside0.mk (below_step (by repeat (first | (with_reducible first | exact HB.out | apply below_alloc | apply pw_below_drewN | apply below_drew1 | refine below_set ?_ GE225.out) | exact HB.out)) hb); clear BK225; clear HB; have BK225 := n0_; have HB := n1_; clear n0_ n1_; (try clear hb); (try clear hb2); (try clear hk); (try clear hi); have hcz19_0 : w18.cell? ⟨gb225, 0, none⟩ = some (.string a0_0) := (blk_cell BK225.out 0).trans rfl; have hcz19_1 : w18.cell? ⟨gb225, 1, none⟩ = some (.slice A0_1 l0_1.length c0_1) := (blk_cell BK225.out 1).trans rfl; have hcz19_2 : w18.cell? ⟨gb225, 2, none⟩ = some (.string a0_2) := (blk_cell BK225.out 2).trans rfl; have hfz19_0 := blk_frozen BK225.out 0; have hfz19_1 := blk_frozen BK225.out 1; have hfz19_2 := blk_frozen BK225.out 2) | (go_at_call 30; (with_reducible refine (solsticeref16_Line.calls k a0_0 _ _ l0_1 a0_2 false _ ?side1 ?side2 A10.out).mono ?_); (case side1 => repeat (first | exact (Kd.C_below HR0_1.out HB.out) | (with_reducible refine Kd.C_alloc ?_ _) | (with_reducible refine Kd.C_drewN ?_ _) | (with_reducible refine Kd.C_drew ?_))); (case side2 => exact HC0_1.out); rintro e w20 ⟨rfl, hb⟩; have n0_ := Aside0.mk (blk_below (g := gb225) (o := .cells #[.string a0_0, .slice A0_1 l0_1.length c0_1, .string a0_2] 38 (0, 0)) (by (with_reducible repeat (first | refine blk_drewN ?_ _ | refine blk_drew ?_ | refine blk_alloc ?_ _)); exact BK225.out) hb); have n1_ := Aside0.mk (below_step (by repeat (first | (with_reducible first | exact HB.out | apply below_alloc | apply pw_below_drewN | apply below_drew1 | refine below_set ?_ GE225.out) | exact HB.out)) hb); clear BK225; clear HB; have BK225 := n0_; have HB := n1_; clear n0_ n1_; (try clear hb); (try clear hb2); (try clear hk); (try clear hi)))
    go_meet
    case rel => exact ⟨_, (true), (by first | rfl | (simp; done) | (simp [*]; done)), H', ⟨by first | omega | exact Nat.le_refl _⟩, ⟨by (with_reducible repeat (first | refine blk_drewN ?_ _ | refine blk_drew ?_ | refine blk_alloc ?_ _)); exact BK225.out⟩, ⟨by repeat (first | (with_reducible first | exact HB.out | apply below_alloc | apply pw_below_drewN | apply below_drew1 | refine below_set ?_ GE225.out) | exact HB.out)⟩⟩
 case rest =>
  as_aux_lemma =>
   clear HC4
   try clear c1
   try clear c2
   try clear p2
   try clear c7
   try clear c8
   try clear c11
   try clear hcz12_0
   try clear hcz12_1
   try clear hcz12_2
   try clear hcz14_0
   try clear hcz14_1
   try clear hcz14_2
   try clear hcz16_0
   try clear hcz16_1
   try clear hcz16_2
   try clear hcz17_0
   try clear hcz17_1
   try clear hcz17_2
   try clear hcz19_0
   try clear hcz19_1
   try clear hcz19_2
   try clear hcz8_0
   try clear hcz8_1
   try clear hcz8_2
   try clear hfz12_0
   try clear hfz12_1
   try clear hfz12_2
   try clear hfz14_0
   try clear hfz14_1
   try clear hfz14_2
   try clear hfz16_0
   try clear hfz16_1
   try clear hfz16_2
   try clear hfz17_0
   try clear hfz17_1
   try clear hfz17_2
   try clear hfz19_0
   try clear hfz19_1
   try clear hfz19_2
   try clear hfz8_0
   try clear hfz8_1
   try clear hfz8_2
   obtain ⟨kq, x27_3, rfl, HA, HJ3, BK225, HB⟩ := hcut
   cases kq with
   | zero => exact absurd HA.out (by simp [solsticelaw18_LineQuotes.j0])
   | succ kj3 =>
    have H := HA.out
    clear HA
    simp only [solsticelaw18_LineQuotes.j0] at H
    by_cases c21 : x27_3 = true
    ·subst c21
     have H1 : (some true) = some r := by rw [if_pos rfl] at H; exact H
     clear H
     have H := H1
     clear H1
     obtain rfl := Option.some.inj H
     go_wp2
     go_ret
     exact ⟨by first | rfl | (simp [errW_none, errW_some] <;> rfl) | (simp [*, errW_none, errW_some] <;> rfl), by repeat (first | (with_reducible first | exact HB.out | apply below_alloc | apply pw_below_drewN | apply below_drew1 | refine below_set ?_ GE225.out) | exact HB.out)⟩
    ·replace c21 := Bool.eq_false_iff.mpr c21
     subst c21
     have H1 : (if (IntKind.u64.wrap ((l0_1.length : Int))) = 0 then (none) else (if 0 ≤ (wrap64 (Int.tmod (IntKind.u64.wrap (a1)) (IntKind.u64.wrap ((l0_1.length : Int))))) then (if (wrap64 (Int.tmod (IntKind.u64.wrap (a1)) (IntKind.u64.wrap ((l0_1.length : Int))))) < (l0_1.length : Int) then (if (IntKind.u64.wrap ((((rd_T54 l0_1 (wrap64 (Int.tmod (IntKind.u64.wrap (a1)) (IntKind.u64.wrap ((l0_1.length : Int)))))).f1).length : Int))) = 0 then (none) else (solsticelaw18_LineQuotes.l0 kj3 (wrap64 (Int.tmod (IntKind.u64.wrap (a1)) (IntKind.u64.wrap ((l0_1.length : Int))))) (wrap64 (Int.tmod (IntKind.u64.wrap (a2)) (IntKind.u64.wrap ((((rd_T54 l0_1 (wrap64 (Int.tmod (IntKind.u64.wrap (a1)) (IntKind.u64.wrap ((l0_1.length : Int)))))).f1).length : Int))))) a0_0 0 a0_0 l0_1 a0_2)) else (none)) else (none))) = some r := by rw [if_neg (show ¬ (false = true) by decide)] at H; exact H
     clear H
     have H := H1
     clear H1
     by_cases c22 : (IntKind.u64.wrap ((l0_1.length : Int))) = 0
     ·rw [if_pos c22] at H
      exact absurd H (by simp)
     ·rw [if_neg c22] at H
      have c22b0 : ((IntKind.u64.wrap ((l0_1.length : Int))) == 0) = false := beq_eq_false_iff_ne.mpr c22
      have c22b1 : ((IntKind.u64.wrap ((l0_1.length : Int))) != 0) = true := bne_iff_ne.mpr c22
      obtain ⟨ji23, hji23⟩ : ∃ j_ : Int, (wrap64 (Int.tmod (IntKind.u64.wrap (a1)) (IntKind.u64.wrap ((l0_1.length : Int))))) = j_ := ⟨_, rfl⟩
      replace H : (if 0 ≤ (ji23) then (if (ji23) < (l0_1.length : Int) then (if (IntKind.u64.wrap ((((rd_T54 l0_1 (ji23)).f1).length : Int))) = 0 then (none) else (solsticelaw18_LineQuotes.l0 kj3 ji23 (wrap64 (Int.tmod (IntKind.u64.wrap (a2)) (IntKind.u64.wrap ((((rd_T54 l0_1 (ji23)).f1).length : Int))))) a0_0 0 a0_0 l0_1 a0_2)) else (none)) else (none)) = some r := by first | (rw [hji23] at H; exact H) | (simp only [hji23] at H ⊢; exact H)
      have hji23w : (IntKind.i64.wrap (Int.tmod (IntKind.u64.wrap (a1)) (IntKind.u64.wrap ((l0_1.length : Int))))) = ji23 := (i64_w _).trans hji23
      by_cases c24 : 0 ≤ (ji23)
      ·rw [if_pos c24] at H
       have c24b0 : decide (0 ≤ (ji23)) = true := decide_eq_true c24
       clear c24
       by_cases c25 : (ji23) < (l0_1.length : Int)
       ·rw [if_pos c25] at H
        have c25b0 : decide ((ji23) < (l0_1.length : Int)) = true := decide_eq_true c25
        clear c25
        by_cases c26 : (IntKind.u64.wrap ((((rd_T54 l0_1 (ji23)).f1).length : Int))) = 0
        ·rw [if_pos c26] at H
         exact absurd H (by simp)
        ·rw [if_neg c26] at H
         have c26b0 : ((IntKind.u64.wrap ((((rd_T54 l0_1 (ji23)).f1).length : Int))) == 0) = false := beq_eq_false_iff_ne.mpr c26
         have c26b1 : ((IntKind.u64.wrap ((((rd_T54 l0_1 (ji23)).f1).length : Int))) != 0) = true := bne_iff_ne.mpr c26
         have H' := Aside0.mk H
         clear H
         have hcz27_0 : wc.cell? ⟨gb225, 0, none⟩ = some (.string a0_0) := (blk_cell BK225.out 0).trans rfl
         have hcz27_1 : wc.cell? ⟨gb225, 1, none⟩ = some (.slice A0_1 l0_1.length c0_1) := (blk_cell BK225.out 1).trans rfl
         have hcz27_2 : wc.cell? ⟨gb225, 2, none⟩ = some (.string a0_2) := (blk_cell BK225.out 2).trans rfl
         have hfz27_0 := blk_frozen BK225.out 0
         have hfz27_1 := blk_frozen BK225.out 1
         have hfz27_2 := blk_frozen BK225.out 2
         have p228 : 0 ≤ ((ji23) : Int) := of_decide_eq_true (by first | (with_reducible assumption) | assumption)
         have q228 : (ji23) < (l0_1.length : Int) := of_decide_eq_true (by first | (with_reducible assumption) | assumption)
         obtain ⟨ad228, A228_1, c228_1, e228, hx228_0, hx228_1, hl228_1, hi228_1⟩ := at_T54 HR0_1.out (ji23) p228 q228
         cases e228
         replace hx228_0 := (HB.out.cell (World.block_lt_of_cell? w _ hx228_0)).trans hx228_0
         replace hx228_1 := (HB.out.cell (World.block_lt_of_cell? w _ hx228_1)).trans hx228_1
         have HR228_1 := Aside0.mk hi228_1
         have HC228_1 := Aside0.mk hl228_1
         clear hi228_1 hl228_1
         replace p228 := eq_true p228
         replace q228 := eq_true q228
         go_wp2
         go_loopg [7, 8] kj3 (fun kq v7 v8 w' => ∃ (x7_2 : ByteArray) (x8_2 : Int), v7 = .string x7_2 ∧ v8 = .int .i64 x8_2 ∧ Aside0 (solsticelaw18_LineQuotes.l0 kq ji23 (wrap64 (Int.tmod (IntKind.u64.wrap (a2)) (IntKind.u64.wrap ((((rd_T54 l0_1 (ji23)).f1).length : Int))))) x7_2 x8_2 a0_0 l0_1 a0_2 = some r) ∧ Aside0 (kq ≤ kj3) ∧ Aside0 (w'.heap[gb225]? = some (.cells #[.string a0_0, (.slice (some ad228) l0_1.length c0_1), .string a0_2] 38 (0, 0))) ∧ Aside0 (Below w.heap.size w w'))
         case atStart => exact ⟨(a0_0), (0), (by first | rfl | (simp; done) | (simp [*]; done)), (by first | rfl | (simp; done) | (simp [*]; done)), H', ⟨Nat.le_refl _⟩, ⟨by (with_reducible repeat (first | refine blk_drewN ?_ _ | refine blk_drew ?_ | refine blk_alloc ?_ _)); exact BK225.out⟩, ⟨by repeat (first | (with_reducible first | exact HB.out | apply below_alloc | apply pw_below_drewN | apply below_drew1 | refine below_set ?_ GE225.out) | exact HB.out)⟩⟩
         case round =>
          as_aux_lemma =>
           clear H'
           try clear c1
           try clear c2
           try clear p2
           try clear q2
           try clear hx2
           try clear p6
           try clear c7
           try clear c8
           try clear c11
           try clear c21
           try clear c22
           try clear c22b0
           try clear c22b1
           try clear p22
           try clear q22
           try clear hx22
           try clear c24
           try clear c24b0
           try clear c25
           try clear c25b0
           try clear c26
           try clear c26b0
           try clear c26b1
           try clear hcz12_0
           try clear hcz12_1
           try clear hcz12_2
           try clear hcz14_0
           try clear hcz14_1
           try clear hcz14_2
           try clear hcz16_0
           try clear hcz16_1
           try clear hcz16_2
           try clear hcz17_0
           try clear hcz17_1
           try clear hcz17_2
           try clear hcz19_0
           try clear hcz19_1
           try clear hcz19_2
           try clear hcz27_0
           try clear hcz27_1
           try clear hcz27_2
           try clear hcz8_0
           try clear hcz8_1
           try clear hcz8_2
           try clear hfz12_0
           try clear hfz12_1
           try clear hfz12_2
           try clear hfz14_0
           try clear hfz14_1
           try clear hfz14_2
           try clear hfz16_0
           try clear hfz16_1
           try clear hfz16_2
           try clear hfz17_0
           try clear hfz17_1
           try clear hfz17_2
           try clear hfz19_0
           try clear hfz19_1
           try clear hfz19_2
           try clear hfz27_0
           try clear hfz27_1
           try clear hfz27_2
           try clear hfz8_0
           try clear hfz8_1
           try clear hfz8_2
           try clear hx228_0
           try clear hx228_1
           try clear p2
           try clear p228
           try clear q228
           obtain ⟨x7_2, x8_2, rfl, rfl, HA, HK2, BK225, HB⟩ := hrel
           cases gk with
           | zero => exact absurd HA.out (by simp [solsticelaw18_LineQuotes.l0])
           | succ k2 =>
            have H := HA.out
            clear HA
            simp only [solsticelaw18_LineQuotes.l0] at H
            by_cases c28 : x8_2 < (l0_1.length : Int)
            ·rw [if_pos c28] at H
             have c28b0 : decide (x8_2 < (l0_1.length : Int)) = true := decide_eq_true c28
             clear c28
             by_cases c29 : x7_2.size + 1 ≤ 9223372036854775807
             ·rw [if_pos c29] at H
              have c29b0 := eq_true c29
              have c29b1 : decide (x7_2.size + 1 ≤ 9223372036854775807) = true := decide_eq_true c29
              try have c29b2 : (9223372036854775807 < x7_2.size + 1) = False := eq_false (Nat.not_lt.2 c29)
              by_cases c30 : 0 ≤ x8_2
              ·rw [if_pos c30] at H
               have c30b0 : decide (0 ≤ x8_2) = true := decide_eq_true c30
               clear c30
               by_cases c31 : (x7_2 ++ (⟨#[59]⟩ : ByteArray)).size + ((rd_T54 l0_1 x8_2).f0).size ≤ 9223372036854775807
               ·rw [if_pos c31] at H
                have c31b0 := eq_true c31
                have c31b1 : decide ((x7_2 ++ (⟨#[59]⟩ : ByteArray)).size + ((rd_T54 l0_1 x8_2).f0).size ≤ 9223372036854775807) = true := decide_eq_true c31
                try have c31b3 : (9223372036854775807 < (x7_2.size + 1) + ((rd_T54 l0_1 x8_2).f0).size) = False := eq_false (Nat.not_lt.2 (by have h_ := c31; simp only [ByteArray.size_append, show (⟨#[59]⟩ : ByteArray).size = 1 from rfl] at h_; omega))
                try have c31b2 : (9223372036854775807 < (x7_2 ++ (⟨#[59]⟩ : ByteArray)).size + ((rd_T54 l0_1 x8_2).f0).size) = False := eq_false (Nat.not_lt.2 c31)
                by_cases c32 : ((x7_2 ++ (⟨#[59]⟩ : ByteArray)) ++ ((rd_T54 l0_1 x8_2).f0)).size + 1 ≤ 9223372036854775807
                ·rw [if_pos c32] at H
                 have c32b0 := eq_true c32
                 have c32b1 : decide (((x7_2 ++ (⟨#[59]⟩ : ByteArray)) ++ ((rd_T54 l0_1 x8_2).f0)).size + 1 ≤ 9223372036854775807) = true := decide_eq_true c32
                 try have c32b3 : (9223372036854775807 < ((x7_2.size + 1) + ((rd_T54 l0_1 x8_2).f0).size) + 1) = False := eq_false (Nat.not_lt.2 (by have h_ := c32; simp only [ByteArray.size_append, show (⟨#[59]⟩ : ByteArray).size = 1 from rfl] at h_; omega))
                 try have c32b2 : (9223372036854775807 < ((x7_2 ++ (⟨#[59]⟩ : ByteArray)) ++ ((rd_T54 l0_1 x8_2).f0)).size + 1) = False := eq_false (Nat.not_lt.2 c32)
                 have H' := Aside0.mk H
                 clear H
                 have hcz33_0 : wr.cell? ⟨gb225, 0, none⟩ = some (.string a0_0) := (blk_cell BK225.out 0).trans rfl
                 have hcz33_1 : wr.cell? ⟨gb225, 1, none⟩ = some (.slice (some ad228) l0_1.length c0_1) := (blk_cell BK225.out 1).trans rfl
                 have hcz33_2 : wr.cell? ⟨gb225, 2, none⟩ = some (.string a0_2) := (blk_cell BK225.out 2).trans rfl
                 have hfz33_0 := blk_frozen BK225.out 0
                 have hfz33_1 := blk_frozen BK225.out 1
                 have hfz33_2 := blk_frozen BK225.out 2
                 have p238 : 0 ≤ (x8_2 : Int) := of_decide_eq_true (by first | (with_reducible assumption) | assumption)
                 have q238 : x8_2 < (l0_1.length : Int) := of_decide_eq_true (by first | (with_reducible assumption) | assumption)
                 obtain ⟨ad238, A238_1, c238_1, e238, hx238_0, hx238_1, hl238_1, hi238_1⟩ := at_T54 HR0_1.out x8_2 p238 q238
                 obtain rfl : ad228 = ad238 := (by injection e238)
                 replace hx238_0 := (HB.out.cell (World.block_lt_of_cell? w _ hx238_0)).trans hx238_0
                 replace hx238_1 := (HB.out.cell (World.block_lt_of_cell? w _ hx238_1)).trans hx238_1
                 have HR238_1 := Aside0.mk hi238_1
                 have HC238_1 := Aside0.mk hl238_1
                 clear hi238_1 hl238_1
                 replace p238 := eq_true p238
                 replace q238 := eq_true q238
                 go_wp2
                 go_loopg [7, 9] k2 (fun kq v7 v9 w' => ∃ (x7_3 : ByteArray) (x9_3 : Int), v7 = .string x7_3 ∧ v9 = .int .i64 x9_3 ∧ Aside0 (solsticelaw18_LineQuotes.l1 kq ji23 (wrap64 (Int.tmod (IntKind.u64.wrap (a2)) (IntKind.u64.wrap ((((rd_T54 l0_1 (ji23)).f1).length : Int))))) x7_3 x8_2 x9_3 a0_0 l0_1 a0_2 = some r) ∧ Aside0 (kq ≤ k2) ∧ Aside0 (w'.heap[gb225]? = some (.cells #[.string a0_0, (.slice (some ad228) l0_1.length c0_1), .string a0_2] 38 (0, 0))) ∧ Aside0 (Below w.heap.size w w'))
                 case atStart => exact ⟨(((x7_2 ++ (⟨#[59]⟩ : ByteArray)) ++ ((rd_T54 l0_1 x8_2).f0)) ++ (⟨#[61]⟩ : ByteArray)), (0), (by first | rfl | (simp; done) | (simp [*]; done)), (by first | rfl | (simp; done) | (simp [*]; done)), H', ⟨Nat.le_refl _⟩, ⟨by (with_reducible repeat (first | refine blk_drewN ?_ _ | refine blk_drew ?_ | refine blk_alloc ?_ _)); exact BK225.out⟩, ⟨by repeat (first | (with_reducible first | exact HB.out | apply below_alloc | apply pw_below_drewN | apply below_drew1 | refine below_set ?_ GE225.out) | exact HB.out)⟩⟩
                 case round =>
                  as_aux_lemma =>
                   clear H'
                   try clear c1
                   try clear c2
                   try clear p2
                   try clear q2
                   try clear hx2
                   try clear c3
                   try clear p6
                   try clear c7
                   try clear c8
                   try clear c11
                   try clear c21
                   try clear c22
                   try clear c22b0
                   try clear c22b1
                   try clear p22
                   try clear q22
                   try clear hx22
                   try clear c23
                   try clear p23
                   try clear q23
                   try clear hx23
                   try clear c24
                   try clear c24b0
                   try clear c25
                   try clear c25b0
                   try clear c26
                   try clear c26b0
                   try clear c26b1
                   try clear c28
                   try clear c28b0
                   try clear c29
                   try clear c29b0
                   try clear c29b1
                   try clear c29b2
                   try clear c30
                   try clear c30b0
                   try clear c31
                   try clear c31b0
                   try clear c31b1
                   try clear c31b2
                   try clear c32
                   try clear c32b0
                   try clear c32b1
                   try clear c32b2
                   try clear hcz12_0
                   try clear hcz12_1
                   try clear hcz12_2
                   try clear hcz14_0
                   try clear hcz14_1
                   try clear hcz14_2
                   try clear hcz16_0
                   try clear hcz16_1
                   try clear hcz16_2
                   try clear hcz17_0
                   try clear hcz17_1
                   try clear hcz17_2
                   try clear hcz19_0
                   try clear hcz19_1
                   try clear hcz19_2
                   try clear hcz27_0
                   try clear hcz27_1
                   try clear hcz27_2
                   try clear hcz33_0
                   try clear hcz33_1
                   try clear hcz33_2
                   try clear hcz8_0
                   try clear hcz8_1
                   try clear hcz8_2
                   try clear hfz12_0
                   try clear hfz12_1
                   try clear hfz12_2
                   try clear hfz14_0
                   try clear hfz14_1
                   try clear hfz14_2
                   try clear hfz16_0
                   try clear hfz16_1
                   try clear hfz16_2
                   try clear hfz17_0
                   try clear hfz17_1
                   try clear hfz17_2
                   try clear hfz19_0
                   try clear hfz19_1
                   try clear hfz19_2
                   try clear hfz27_0
                   try clear hfz27_1
                   try clear hfz27_2
                   try clear hfz33_0
                   try clear hfz33_1
                   try clear hfz33_2
                   try clear hfz8_0
                   try clear hfz8_1
                   try clear hfz8_2
                   try clear hx228_0
                   try clear hx228_1
                   try clear hx238_0
                   try clear hx238_1
                   try clear p2
                   try clear p22
                   try clear p228
                   try clear p238
                   try clear p6
                   try clear q2
                   try clear q22
                   try clear q228
                   try clear q238
                   obtain ⟨x7_3, x9_3, rfl, rfl, HA, HK3, BK225, HB⟩ := hrel
                   cases gk with
                   | zero => exact absurd HA.out (by simp [solsticelaw18_LineQuotes.l1])
                   | succ k3 =>
                    have H := HA.out
                    clear HA
                    simp only [solsticelaw18_LineQuotes.l1] at H
                    by_cases c34 : 0 ≤ x8_2
                    ·rw [if_pos c34] at H
                     have c34b0 : decide (0 ≤ x8_2) = true := decide_eq_true c34
                     clear c34
                     by_cases c35 : x8_2 < (l0_1.length : Int)
                     ·rw [if_pos c35] at H
                      have c35b0 : decide (x8_2 < (l0_1.length : Int)) = true := decide_eq_true c35
                      clear c35
                      by_cases c36 : x9_3 < (((rd_T54 l0_1 x8_2).f1).length : Int)
                      ·rw [if_pos c36] at H
                       have c36b0 : decide (x9_3 < (((rd_T54 l0_1 x8_2).f1).length : Int)) = true := decide_eq_true c36
                       clear c36
                       by_cases c37 : 0 ≤ x9_3
                       ·rw [if_pos c37] at H
                        have c37b0 : decide (0 ≤ x9_3) = true := decide_eq_true c37
                        clear c37
                        have HC38 := Aside0.mk H
                        clear H
                        have hcz39_0 : wr.cell? ⟨gb225, 0, none⟩ = some (.string a0_0) := (blk_cell BK225.out 0).trans rfl
                        have hcz39_1 : wr.cell? ⟨gb225, 1, none⟩ = some (.slice (some ad228) l0_1.length c0_1) := (blk_cell BK225.out 1).trans rfl
                        have hcz39_2 : wr.cell? ⟨gb225, 2, none⟩ = some (.string a0_2) := (blk_cell BK225.out 2).trans rfl
                        have hfz39_0 := blk_frozen BK225.out 0
                        have hfz39_1 := blk_frozen BK225.out 1
                        have hfz39_2 := blk_frozen BK225.out 2
                        have p239 : 0 ≤ (x8_2 : Int) := of_decide_eq_true (by first | (with_reducible assumption) | assumption)
                        have q239 : x8_2 < (l0_1.length : Int) := of_decide_eq_true (by first | (with_reducible assumption) | assumption)
                        obtain ⟨ad239, A239_1, c239_1, e239, hx239_0, hx239_1, hl239_1, hi239_1⟩ := at_T54 HR0_1.out x8_2 p239 q239
                        obtain rfl : ad228 = ad239 := (by injection e239)
                        replace hx239_0 := (HB.out.cell (World.block_lt_of_cell? w _ hx239_0)).trans hx239_0
                        replace hx239_1 := (HB.out.cell (World.block_lt_of_cell? w _ hx239_1)).trans hx239_1
                        have HR239_1 := Aside0.mk hi239_1
                        have HC239_1 := Aside0.mk hl239_1
                        clear hi239_1 hl239_1
                        replace p239 := eq_true p239
                        replace q239 := eq_true q239
                        have p240 : 0 ≤ (x8_2 : Int) := of_decide_eq_true (by first | (with_reducible assumption) | assumption)
                        have q240 : x8_2 < (l0_1.length : Int) := of_decide_eq_true (by first | (with_reducible assumption) | assumption)
                        obtain ⟨ad240, A240_1, c240_1, e240, hx240_0, hx240_1, hl240_1, hi240_1⟩ := at_T54 HR0_1.out x8_2 p240 q240
                        obtain rfl : ad228 = ad240 := (by injection e240)
                        replace hx240_0 := (HB.out.cell (World.block_lt_of_cell? w _ hx240_0)).trans hx240_0
                        replace hx240_1 := (HB.out.cell (World.block_lt_of_cell? w _ hx240_1)).trans hx240_1
                        have HR240_1 := Aside0.mk hi240_1
                        have HC240_1 := Aside0.mk hl240_1
                        clear hi240_1 hl240_1
                        replace p240 := eq_true p240
                        replace q240 := eq_true q240
                        have ea_ := Option.some.inj (hx239_1.symm.trans hx240_1)
                        injection ea_ with ea_ en_ ec_
                        subst ea_
                        subst ec_
                        clear en_
                        have p241 : 0 ≤ (x9_3 : Int) := of_decide_eq_true (by first | (with_reducible assumption) | assumption)
                        have q241 : x9_3 < (((rd_T54 l0_1 x8_2).f1).length : Int) := of_decide_eq_true (by first | (with_reducible assumption) | assumption)
                        obtain ⟨ad241, e241, hx241_0⟩ := Kd.at_string HR240_1.out x9_3 p241 q241
                        cases e241
                        replace hx241_0 := (HB.out.cell (World.block_lt_of_cell? w _ hx241_0)).trans hx241_0
                        replace p241 := eq_true p241
                        replace q241 := eq_true q241
                        go_upto_region 14 with (fail)
                        go_cut [11] (fun v11 wc => ∃ (kq : Nat) (x11_37 : Bool), v11 = .bool x11_37 ∧ Aside0 (solsticelaw18_LineQuotes.j3 kq ji23 (wrap64 (Int.tmod (IntKind.u64.wrap (a2)) (IntKind.u64.wrap ((((rd_T54 l0_1 (ji23)).f1).length : Int))))) x7_3 x8_2 x9_3 (rdOf ByteArray.empty ((rd_T54 l0_1 x8_2).f1) x9_3) x11_37 a0_0 l0_1 a0_2 = some r) ∧ Aside0 (kq ≤ k3) ∧ Aside0 (wc.heap[gb225]? = some (.cells #[.string a0_0, (.slice (some ad228) l0_1.length c0_1), .string a0_2] 38 (0, 0))) ∧ Aside0 (Below w.heap.size w wc))
                        case first =>
                         have H := HC38.out
                         clear HC38
                         by_cases c40 : x8_2 = ji23
                         ·rw [if_pos c40] at H
                          have c40b0 : (x8_2 == ji23) = true := beq_iff_eq.mpr c40
                          have c40b1 : (x8_2 != ji23) = false := bne_eq_false_iff_eq.mpr c40
                          clear c40
                          (first | rw [c40b0] | (simp only [i64_w, i32_w]; rw [c40b0]) | skip)
                          have H' := Aside0.mk H
                          clear H
                          go_wp2
                          go_meet
                          case rel => exact ⟨_, ((x9_3 == (wrap64 (Int.tmod (IntKind.u64.wrap (a2)) (IntKind.u64.wrap ((((rd_T54 l0_1 (ji23)).f1).length : Int))))))), (by first | rfl | (simp; done) | (simp only [← hji23] <;> (first | rfl | (simp; done))) | (simp [*]; done)), H', ⟨by have := HJ3.out; have := HK2.out; have := HK3.out; first | omega | exact Nat.le_refl _⟩, ⟨by (with_reducible repeat (first | refine blk_drewN ?_ _ | refine blk_drew ?_ | refine blk_alloc ?_ _)); exact BK225.out⟩, ⟨by repeat (first | (with_reducible first | exact HB.out | apply below_alloc | apply pw_below_drewN | apply below_drew1 | refine below_set ?_ GE225.out) | exact HB.out)⟩⟩
                         ·rw [if_neg c40] at H
                          have c40b0 : (x8_2 == ji23) = false := beq_eq_false_iff_ne.mpr c40
                          have c40b1 : (x8_2 != ji23) = true := bne_iff_ne.mpr c40
                          (first | rw [c40b0] | (simp only [i64_w, i32_w]; rw [c40b0]) | skip)
                          have H' := Aside0.mk H
                          clear H
                          go_wp2
                          go_meet
                          case rel => exact ⟨_, (false), (by first | rfl | (simp; done) | (simp [*]; done)), H', ⟨by have := HJ3.out; have := HK2.out; have := HK3.out; first | omega | exact Nat.le_refl _⟩, ⟨by (with_reducible repeat (first | refine blk_drewN ?_ _ | refine blk_drew ?_ | refine blk_alloc ?_ _)); exact BK225.out⟩, ⟨by repeat (first | (with_reducible first | exact HB.out | apply below_alloc | apply pw_below_drewN | apply below_drew1 | refine below_set ?_ GE225.out) | exact HB.out)⟩⟩
                        case rest =>
                         as_aux_lemma =>
                          clear HC38
                          try clear c1
                          try clear c2
                          try clear p2
                          try clear q2
                          try clear hx2
                          try clear c3
                          try clear c4
                          try clear p6
                          try clear c7
                          try clear c8
                          try clear c11
                          try clear c21
                          try clear c22
                          try clear c22b0
                          try clear c22b1
                          try clear p22
                          try clear q22
                          try clear hx22
                          try clear c23
                          try clear p23
                          try clear q23
                          try clear hx23
                          try clear c24
                          try clear c24b0
                          try clear p24
                          try clear q24
                          try clear hx24
                          try clear c25
                          try clear c25b0
                          try clear c26
                          try clear c26b0
                          try clear c26b1
                          try clear c28
                          try clear c28b0
                          try clear c29
                          try clear c29b0
                          try clear c29b1
                          try clear c29b2
                          try clear c30
                          try clear c30b0
                          try clear c31
                          try clear c31b0
                          try clear c31b1
                          try clear c31b2
                          try clear c32
                          try clear c32b0
                          try clear c32b1
                          try clear c32b2
                          try clear c34
                          try clear c34b0
                          try clear c35
                          try clear c35b0
                          try clear c36
                          try clear c36b0
                          try clear c37
                          try clear c37b0
                          try clear c40
                          try clear c40b0
                          try clear c40b1
                          try clear hcz12_0
                          try clear hcz12_1
                          try clear hcz12_2
                          try clear hcz14_0
                          try clear hcz14_1
                          try clear hcz14_2
                          try clear hcz16_0
                          try clear hcz16_1
                          try clear hcz16_2
                          try clear hcz17_0
                          try clear hcz17_1
                          try clear hcz17_2
                          try clear hcz19_0
                          try clear hcz19_1
                          try clear hcz19_2
                          try clear hcz27_0
                          try clear hcz27_1
                          try clear hcz27_2
                          try clear hcz33_0
                          try clear hcz33_1
                          try clear hcz33_2
                          try clear hcz39_0
                          try clear hcz39_1
                          try clear hcz39_2
                          try clear hcz8_0
                          try clear hcz8_1
                          try clear hcz8_2
                          try clear hfz12_0
                          try clear hfz12_1
                          try clear hfz12_2
                          try clear hfz14_0
                          try clear hfz14_1
                          try clear hfz14_2
                          try clear hfz16_0
                          try clear hfz16_1
                          try clear hfz16_2
                          try clear hfz17_0
                          try clear hfz17_1
                          try clear hfz17_2
                          try clear hfz19_0
                          try clear hfz19_1
                          try clear hfz19_2
                          try clear hfz27_0
                          try clear hfz27_1
                          try clear hfz27_2
                          try clear hfz33_0
                          try clear hfz33_1
                          try clear hfz33_2
                          try clear hfz39_0
                          try clear hfz39_1
                          try clear hfz39_2
                          try clear hfz8_0
                          try clear hfz8_1
                          try clear hfz8_2
                          try clear hx228_0
                          try clear hx228_1
                          try clear hx238_0
                          try clear hx238_1
                          try clear hx239_0
                          try clear hx239_1
                          try clear hx240_0
                          try clear hx240_1
                          try clear hx241_0
                          try clear p2
                          try clear p22
                          try clear p228
                          try clear p23
                          try clear p238
                          try clear p239
                          try clear p240
                          try clear p241
                          try clear p6
                          try clear q2
                          try clear q22
                          try clear q228
                          try clear q23
                          try clear q238
                          try clear q239
                          try clear q240
                          try clear q241
                          obtain ⟨kq, x11_37, rfl, HA, HJ37, BK225, HB⟩ := hcut
                          cases kq with
                          | zero => exact absurd HA.out (by simp [solsticelaw18_LineQuotes.j3])
                          | succ kj37 =>
                           have H := HA.out
                           clear HA
                           simp only [solsticelaw18_LineQuotes.j3] at H
                           have H' := Aside0.mk H
                           clear H
                           go_wp2
                           go_loopg [11, 12] kj37 (fun kq v11 v12 w' => ∃ (x11_5 : Bool) (x12_5 : Int), v11 = .bool x11_5 ∧ v12 = .int .i64 x12_5 ∧ Aside0 (solsticelaw18_LineQuotes.l2 kq ji23 (wrap64 (Int.tmod (IntKind.u64.wrap (a2)) (IntKind.u64.wrap ((((rd_T54 l0_1 (ji23)).f1).length : Int))))) x7_3 x8_2 x9_3 (rdOf ByteArray.empty ((rd_T54 l0_1 x8_2).f1) x9_3) x11_5 x12_5 a0_0 l0_1 a0_2 = some r) ∧ Aside0 (kq ≤ kj37) ∧ Aside0 (w'.heap[gb225]? = some (.cells #[.string a0_0, (.slice (some ad228) l0_1.length c0_1), .string a0_2] 38 (0, 0))) ∧ Aside0 (Below w.heap.size w w'))
                           case atStart => exact ⟨(x11_37), (0), (by first | rfl | (simp; done) | (simp [*]; done)), (by first | rfl | (simp; done) | (simp [*]; done)), H', ⟨Nat.le_refl _⟩, ⟨by (with_reducible repeat (first | refine blk_drewN ?_ _ | refine blk_drew ?_ | refine blk_alloc ?_ _)); exact BK225.out⟩, ⟨by repeat (first | (with_reducible first | exact HB.out | apply below_alloc | apply pw_below_drewN | apply below_drew1 | refine below_set ?_ GE225.out) | exact HB.out)⟩⟩
                           case round =>
                            as_aux_lemma =>
                             clear H'
                             try clear c1
                             try clear c2
                             try clear p2
                             try clear q2
                             try clear hx2
                             try clear c3
                             try clear c4
                             try clear p6
                             try clear c7
                             try clear c8
                             try clear c11
                             try clear c21
                             try clear c22
                             try clear c22b0
                             try clear c22b1
                             try clear p22
                             try clear q22
                             try clear hx22
                             try clear c23
                             try clear p23
                             try clear q23
                             try clear hx23
                             try clear c24
                             try clear c24b0
                             try clear p24
                             try clear q24
                             try clear hx24
                             try clear c25
                             try clear c25b0
                             try clear c26
                             try clear c26b0
                             try clear c26b1
                             try clear c28
                             try clear c28b0
                             try clear c29
                             try clear c29b0
                             try clear c29b1
                             try clear c29b2
                             try clear c30
                             try clear c30b0
                             try clear c31
                             try clear c31b0
                             try clear c31b1
                             try clear c31b2
                             try clear c32
                             try clear c32b0
                             try clear c32b1
                             try clear c32b2
                             try clear c34
                             try clear c34b0
                             try clear c35
                             try clear c35b0
                             try clear c36
                             try clear c36b0
                             try clear c37
                             try clear c37b0
                             try clear c40
                             try clear c40b0
                             try clear c40b1
                             try clear hcz12_0
                             try clear hcz12_1
                             try clear hcz12_2
                             try clear hcz14_0
                             try clear hcz14_1
                             try clear hcz14_2
                             try clear hcz16_0
                             try clear hcz16_1
                             try clear hcz16_2
                             try clear hcz17_0
                             try clear hcz17_1
                             try clear hcz17_2
                             try clear hcz19_0
                             try clear hcz19_1
                             try clear hcz19_2
                             try clear hcz27_0
                             try clear hcz27_1
                             try clear hcz27_2
                             try clear hcz33_0
                             try clear hcz33_1
                             try clear hcz33_2
                             try clear hcz39_0
                             try clear hcz39_1
                             try clear hcz39_2
                             try clear hcz8_0
                             try clear hcz8_1
                             try clear hcz8_2
                             try clear hfz12_0
                             try clear hfz12_1
                             try clear hfz12_2
                             try clear hfz14_0
                             try clear hfz14_1
                             try clear hfz14_2
                             try clear hfz16_0
                             try clear hfz16_1
                             try clear hfz16_2
                             try clear hfz17_0
                             try clear hfz17_1
                             try clear hfz17_2
                             try clear hfz19_0
                             try clear hfz19_1
                             try clear hfz19_2
                             try clear hfz27_0
                             try clear hfz27_1
                             try clear hfz27_2
                             try clear hfz33_0
                             try clear hfz33_1
                             try clear hfz33_2
                             try clear hfz39_0
                             try clear hfz39_1
                             try clear hfz39_2
                             try clear hfz8_0
                             try clear hfz8_1
                             try clear hfz8_2
                             try clear hx228_0
                             try clear hx228_1
                             try clear hx238_0
                             try clear hx238_1
                             try clear hx239_0
                             try clear hx239_1
                             try clear hx240_0
                             try clear hx240_1
                             try clear hx241_0
                             try clear p2
                             try clear p22
                             try clear p228
                             try clear p23
                             try clear p238
                             try clear p239
                             try clear p24
                             try clear p240
                             try clear p241
                             try clear p6
                             try clear q2
                             try clear q22
                             try clear q228
                             try clear q23
                             try clear q238
                             try clear q239
                             try clear q24
                             try clear q240
                             try clear q241
                             obtain ⟨x11_5, x12_5, rfl, rfl, HA, HK5, BK225, HB⟩ := hrel
                             cases gk with
                             | zero => exact absurd HA.out (by simp [solsticelaw18_LineQuotes.l2])
                             | succ k5 =>
                              have H := HA.out
                              clear HA
                              simp only [solsticelaw18_LineQuotes.l2] at H
                              by_cases c41 : x12_5 < ((rdOf ByteArray.empty ((rd_T54 l0_1 x8_2).f1) x9_3).size : Int)
                              ·rw [if_pos c41] at H
                               have c41b0 : decide (x12_5 < ((rdOf ByteArray.empty ((rd_T54 l0_1 x8_2).f1) x9_3).size : Int)) = true := decide_eq_true c41
                               clear c41
                               by_cases c42 : x11_5 = true
                               ·subst c42
                                have H1 : (solsticelaw18_LineQuotes.l2 k5 ji23 (wrap64 (Int.tmod (IntKind.u64.wrap (a2)) (IntKind.u64.wrap ((((rd_T54 l0_1 (ji23)).f1).length : Int))))) x7_3 x8_2 x9_3 (rdOf ByteArray.empty ((rd_T54 l0_1 x8_2).f1) x9_3) true (wrap64 (x12_5 + 1)) a0_0 l0_1 a0_2) = some r := by rw [if_pos rfl] at H; exact H
                                clear H
                                have H := H1
                                clear H1
                                have H' := Aside0.mk H
                                clear H
                                go_wp2
                                go_roundg k5
                                case measure => have := HJ3.out; have := HK2.out; have := HK3.out; have := HJ37.out; have := HK5.out; omega
                                case rel => exact ⟨(true), (wrap64 (x12_5 + 1)), (by first | rfl | (simp; done) | (simp [*]; done)), (by first | rfl | (simp; done) | (simp [*]; done)), H', ⟨by have := HJ3.out; have := HK2.out; have := HK3.out; have := HJ37.out; have := HK5.out; omega⟩, ⟨by (with_reducible repeat (first | refine blk_drewN ?_ _ | refine blk_drew ?_ | refine blk_alloc ?_ _)); exact BK225.out⟩, ⟨by repeat (first | (with_reducible first | exact HB.out | apply below_alloc | apply pw_below_drewN | apply below_drew1 | refine below_set ?_ GE225.out) | exact HB.out)⟩⟩
                               ·replace c42 := Bool.eq_false_iff.mpr c42
                                subst c42
                                have H1 : (if 0 ≤ x12_5 then (if (bt (rdOf ByteArray.empty ((rd_T54 l0_1 x8_2).f1) x9_3) x12_5) = 58 then (solsticelaw18_LineQuotes.l2 k5 ji23 (wrap64 (Int.tmod (IntKind.u64.wrap (a2)) (IntKind.u64.wrap ((((rd_T54 l0_1 (ji23)).f1).length : Int))))) x7_3 x8_2 x9_3 (rdOf ByteArray.empty ((rd_T54 l0_1 x8_2).f1) x9_3) true (wrap64 (x12_5 + 1)) a0_0 l0_1 a0_2) else (if (bt (rdOf ByteArray.empty ((rd_T54 l0_1 x8_2).f1) x9_3) x12_5) = 59 then (solsticelaw18_LineQuotes.l2 k5 ji23 (wrap64 (Int.tmod (IntKind.u64.wrap (a2)) (IntKind.u64.wrap ((((rd_T54 l0_1 (ji23)).f1).length : Int))))) x7_3 x8_2 x9_3 (rdOf ByteArray.empty ((rd_T54 l0_1 x8_2).f1) x9_3) true (wrap64 (x12_5 + 1)) a0_0 l0_1 a0_2) else (solsticelaw18_LineQuotes.l2 k5 ji23 (wrap64 (Int.tmod (IntKind.u64.wrap (a2)) (IntKind.u64.wrap ((((rd_T54 l0_1 (ji23)).f1).length : Int))))) x7_3 x8_2 x9_3 (rdOf ByteArray.empty ((rd_T54 l0_1 x8_2).f1) x9_3) ((bt (rdOf ByteArray.empty ((rd_T54 l0_1 x8_2).f1) x9_3) x12_5) == 44) (wrap64 (x12_5 + 1)) a0_0 l0_1 a0_2))) else (none)) = some r := by rw [if_neg (show ¬ (false = true) by decide)] at H; exact H
                                clear H
                                have H := H1
                                clear H1
                                by_cases c43 : 0 ≤ x12_5
                                ·rw [if_pos c43] at H
                                 have c43b0 : decide (0 ≤ x12_5) = true := decide_eq_true c43
                                 clear c43
                                 by_cases c45 : (bt (rdOf ByteArray.empty ((rd_T54 l0_1 x8_2).f1) x9_3) x12_5) = 58
                                 ·rw [if_pos c45] at H
                                  have c45b0 : ((bt (rdOf ByteArray.empty ((rd_T54 l0_1 x8_2).f1) x9_3) x12_5) == 58) = true := beq_iff_eq.mpr c45
                                  have c45b1 : ((bt (rdOf ByteArray.empty ((rd_T54 l0_1 x8_2).f1) x9_3) x12_5) != 58) = false := bne_eq_false_iff_eq.mpr c45
                                  clear c45
                                  have H' := Aside0.mk H
                                  clear H
                                  have p44 : 0 ≤ (x12_5 : Int) := of_decide_eq_true (by first | (with_reducible assumption) | assumption)
                                  have q44 : x12_5 < ((rdOf ByteArray.empty ((rd_T54 l0_1 x8_2).f1) x9_3).size : Int) := of_decide_eq_true (by first | (with_reducible assumption) | assumption)
                                  have hx44 := bt_at (rdOf ByteArray.empty ((rd_T54 l0_1 x8_2).f1) x9_3) x12_5
                                  replace p44 := eq_true p44
                                  replace q44 := eq_true q44
                                  go_wp2
                                  go_roundg k5
                                  case measure => have := HJ3.out; have := HK2.out; have := HK3.out; have := HJ37.out; have := HK5.out; omega
                                  case rel => exact ⟨(true), (wrap64 (x12_5 + 1)), (by first | rfl | (simp; done) | (simp [*]; done)), (by first | rfl | (simp; done) | (simp [*]; done)), H', ⟨by have := HJ3.out; have := HK2.out; have := HK3.out; have := HJ37.out; have := HK5.out; omega⟩, ⟨by (with_reducible repeat (first | refine blk_drewN ?_ _ | refine blk_drew ?_ | refine blk_alloc ?_ _)); exact BK225.out⟩, ⟨by repeat (first | (with_reducible first | exact HB.out | apply below_alloc | apply pw_below_drewN | apply below_drew1 | refine below_set ?_ GE225.out) | exact HB.out)⟩⟩
                                 ·rw [if_neg c45] at H
                                  have c45b0 : ((bt (rdOf ByteArray.empty ((rd_T54 l0_1 x8_2).f1) x9_3) x12_5) == 58) = false := beq_eq_false_iff_ne.mpr c45
                                  have c45b1 : ((bt (rdOf ByteArray.empty ((rd_T54 l0_1 x8_2).f1) x9_3) x12_5) != 58) = true := bne_iff_ne.mpr c45
                                  by_cases c47 : (bt (rdOf ByteArray.empty ((rd_T54 l0_1 x8_2).f1) x9_3) x12_5) = 59
                                  ·rw [if_pos c47] at H
                                   have c47b0 : ((bt (rdOf ByteArray.empty ((rd_T54 l0_1 x8_2).f1) x9_3) x12_5) == 59) = true := beq_iff_eq.mpr c47
                                   have c47b1 : ((bt (rdOf ByteArray.empty ((rd_T54 l0_1 x8_2).f1) x9_3) x12_5) != 59) = false := bne_eq_false_iff_eq.mpr c47
                                   clear c47
                                   have H' := Aside0.mk H
                                   clear H
                                   have p44 : 0 ≤ (x12_5 : Int) := of_decide_eq_true (by first | (with_reducible assumption) | assumption)
                                   have q44 : x12_5 < ((rdOf ByteArray.empty ((rd_T54 l0_1 x8_2).f1) x9_3).size : Int) := of_decide_eq_true (by first | (with_reducible assumption) | assumption)
                                   have hx44 := bt_at (rdOf ByteArray.empty ((rd_T54 l0_1 x8_2).f1) x9_3) x12_5
                                   replace p44 := eq_true p44
                                   replace q44 := eq_true q44
                                   have p46 : 0 ≤ (x12_5 : Int) := of_decide_eq_true (by first | (with_reducible assumption) | assumption)
                                   have q46 : x12_5 < ((rdOf ByteArray.empty ((rd_T54 l0_1 x8_2).f1) x9_3).size : Int) := of_decide_eq_true (by first | (with_reducible assumption) | assumption)
                                   have hx46 := bt_at (rdOf ByteArray.empty ((rd_T54 l0_1 x8_2).f1) x9_3) x12_5
                                   replace p46 := eq_true p46
                                   replace q46 := eq_true q46
                                   go_wp2
                                   go_roundg k5
                                   case measure => have := HJ3.out; have := HK2.out; have := HK3.out; have := HJ37.out; have := HK5.out; omega
                                   case rel => exact ⟨(true), (wrap64 (x12_5 + 1)), (by first | rfl | (simp; done) | (simp [*]; done)), (by first | rfl | (simp; done) | (simp [*]; done)), H', ⟨by have := HJ3.out; have := HK2.out; have := HK3.out; have := HJ37.out; have := HK5.out; omega⟩, ⟨by (with_reducible repeat (first | refine blk_drewN ?_ _ | refine blk_drew ?_ | refine blk_alloc ?_ _)); exact BK225.out⟩, ⟨by repeat (first | (with_reducible first | exact HB.out | apply below_alloc | apply pw_below_drewN | apply below_drew1 | refine below_set ?_ GE225.out) | exact HB.out)⟩⟩
                                  ·rw [if_neg c47] at H
                                   have c47b0 : ((bt (rdOf ByteArray.empty ((rd_T54 l0_1 x8_2).f1) x9_3) x12_5) == 59) = false := beq_eq_false_iff_ne.mpr c47
                                   have c47b1 : ((bt (rdOf ByteArray.empty ((rd_T54 l0_1 x8_2).f1) x9_3) x12_5) != 59) = true := bne_iff_ne.mpr c47
                                   have H' := Aside0.mk H
                                   clear H
                                   have p44 : 0 ≤ (x12_5 : Int) := of_decide_eq_true (by first | (with_reducible assumption) | assumption)
                                   have q44 : x12_5 < ((rdOf ByteArray.empty ((rd_T54 l0_1 x8_2).f1) x9_3).size : Int) := of_decide_eq_true (by first | (with_reducible assumption) | assumption)
                                   have hx44 := bt_at (rdOf ByteArray.empty ((rd_T54 l0_1 x8_2).f1) x9_3) x12_5
                                   replace p44 := eq_true p44
                                   replace q44 := eq_true q44
                                   have p46 : 0 ≤ (x12_5 : Int) := of_decide_eq_true (by first | (with_reducible assumption) | assumption)
                                   have q46 : x12_5 < ((rdOf ByteArray.empty ((rd_T54 l0_1 x8_2).f1) x9_3).size : Int) := of_decide_eq_true (by first | (with_reducible assumption) | assumption)
                                   have hx46 := bt_at (rdOf ByteArray.empty ((rd_T54 l0_1 x8_2).f1) x9_3) x12_5
                                   replace p46 := eq_true p46
                                   replace q46 := eq_true q46
                                   have p48 : 0 ≤ (x12_5 : Int) := of_decide_eq_true (by first | (with_reducible assumption) | assumption)
                                   have q48 : x12_5 < ((rdOf ByteArray.empty ((rd_T54 l0_1 x8_2).f1) x9_3).size : Int) := of_decide_eq_true (by first | (with_reducible assumption) | assumption)
                                   have hx48 := bt_at (rdOf ByteArray.empty ((rd_T54 l0_1 x8_2).f1) x9_3) x12_5
                                   replace p48 := eq_true p48
                                   replace q48 := eq_true q48
                                   go_wp2
                                   go_roundg k5
                                   case measure => have := HJ3.out; have := HK2.out; have := HK3.out; have := HJ37.out; have := HK5.out; omega
                                   case rel => exact ⟨(((bt (rdOf ByteArray.empty ((rd_T54 l0_1 x8_2).f1) x9_3) x12_5) == 44)), (wrap64 (x12_5 + 1)), (by first | rfl | (simp; done) | (simp [*]; done)), (by first | rfl | (simp; done) | (simp [*]; done)), H', ⟨by have := HJ3.out; have := HK2.out; have := HK3.out; have := HJ37.out; have := HK5.out; omega⟩, ⟨by (with_reducible repeat (first | refine blk_drewN ?_ _ | refine blk_drew ?_ | refine blk_alloc ?_ _)); exact BK225.out⟩, ⟨by repeat (first | (with_reducible first | exact HB.out | apply below_alloc | apply pw_below_drewN | apply below_drew1 | refine below_set ?_ GE225.out) | exact HB.out)⟩⟩
                                ·rw [if_neg c43] at H
                                 exact absurd H (by simp)
                              ·rw [if_neg c41] at H
                               have c41b0 : decide (x12_5 < ((rdOf ByteArray.empty ((rd_T54 l0_1 x8_2).f1) x9_3).size : Int)) = false := decide_eq_false c41
                               clear c41
                               by_cases c49 : x9_3 > 0
                               ·rw [if_pos c49] at H
                                have c49b0 : decide (0 < x9_3) = true := decide_eq_true c49
                                clear c49
                                by_cases c50 : x7_3.size + 1 ≤ 9223372036854775807
                                ·rw [if_pos c50] at H
                                 have c50b0 := eq_true c50
                                 have c50b1 : decide (x7_3.size + 1 ≤ 9223372036854775807) = true := decide_eq_true c50
                                 try have c50b2 : (9223372036854775807 < x7_3.size + 1) = False := eq_false (Nat.not_lt.2 c50)
                                 by_cases c51 : x11_5 = true
                                 ·subst c51
                                  have H1 : (if 1 + (rdOf ByteArray.empty ((rd_T54 l0_1 x8_2).f1) x9_3).size ≤ 9223372036854775807 then (if ((⟨#[34]⟩ : ByteArray) ++ (rdOf ByteArray.empty ((rd_T54 l0_1 x8_2).f1) x9_3)).size + 1 ≤ 9223372036854775807 then (if (x7_3 ++ (⟨#[44]⟩ : ByteArray)).size + (((⟨#[34]⟩ : ByteArray) ++ (rdOf ByteArray.empty ((rd_T54 l0_1 x8_2).f1) x9_3)) ++ (⟨#[34]⟩ : ByteArray)).size ≤ 9223372036854775807 then (solsticelaw18_LineQuotes.l1 k5 ji23 (wrap64 (Int.tmod (IntKind.u64.wrap (a2)) (IntKind.u64.wrap ((((rd_T54 l0_1 (ji23)).f1).length : Int))))) ((x7_3 ++ (⟨#[44]⟩ : ByteArray)) ++ (((⟨#[34]⟩ : ByteArray) ++ (rdOf ByteArray.empty ((rd_T54 l0_1 x8_2).f1) x9_3)) ++ (⟨#[34]⟩ : ByteArray))) x8_2 (wrap64 (x9_3 + 1)) a0_0 l0_1 a0_2) else (none)) else (none)) else (none)) = some r := by rw [if_pos rfl] at H; exact H
                                  clear H
                                  have H := H1
                                  clear H1
                                  by_cases c52 : 1 + (rdOf ByteArray.empty ((rd_T54 l0_1 x8_2).f1) x9_3).size ≤ 9223372036854775807
                                  ·rw [if_pos c52] at H
                                   have c52b0 := eq_true c52
                                   have c52b1 : decide (1 + (rdOf ByteArray.empty ((rd_T54 l0_1 x8_2).f1) x9_3).size ≤ 9223372036854775807) = true := decide_eq_true c52
                                   try have c52b2 : (9223372036854775807 < 1 + (rdOf ByteArray.empty ((rd_T54 l0_1 x8_2).f1) x9_3).size) = False := eq_false (Nat.not_lt.2 c52)
                                   by_cases c53 : ((⟨#[34]⟩ : ByteArray) ++ (rdOf ByteArray.empty ((rd_T54 l0_1 x8_2).f1) x9_3)).size + 1 ≤ 9223372036854775807
                                   ·rw [if_pos c53] at H
                                    have c53b0 := eq_true c53
                                    have c53b1 : decide (((⟨#[34]⟩ : ByteArray) ++ (rdOf ByteArray.empty ((rd_T54 l0_1 x8_2).f1) x9_3)).size + 1 ≤ 9223372036854775807) = true := decide_eq_true c53
                                    try have c53b3 : (9223372036854775807 < (1 + (rdOf ByteArray.empty ((rd_T54 l0_1 x8_2).f1) x9_3).size) + 1) = False := eq_false (Nat.not_lt.2 (by have h_ := c53; simp only [ByteArray.size_append, show (⟨#[34]⟩ : ByteArray).size = 1 from rfl] at h_; omega))
                                    try have c53b2 : (9223372036854775807 < ((⟨#[34]⟩ : ByteArray) ++ (rdOf ByteArray.empty ((rd_T54 l0_1 x8_2).f1) x9_3)).size + 1) = False := eq_false (Nat.not_lt.2 c53)
                                    by_cases c54 : (x7_3 ++ (⟨#[44]⟩ : ByteArray)).size + (((⟨#[34]⟩ : ByteArray) ++ (rdOf ByteArray.empty ((rd_T54 l0_1 x8_2).f1) x9_3)) ++ (⟨#[34]⟩ : ByteArray)).size ≤ 9223372036854775807
                                    ·rw [if_pos c54] at H
                                     have c54b0 := eq_true c54
                                     have c54b1 : decide ((x7_3 ++ (⟨#[44]⟩ : ByteArray)).size + (((⟨#[34]⟩ : ByteArray) ++ (rdOf ByteArray.empty ((rd_T54 l0_1 x8_2).f1) x9_3)) ++ (⟨#[34]⟩ : ByteArray)).size ≤ 9223372036854775807) = true := decide_eq_true c54
                                     try have c54b3 : (9223372036854775807 < (x7_3.size + 1) + ((1 + (rdOf ByteArray.empty ((rd_T54 l0_1 x8_2).f1) x9_3).size) + 1)) = False := eq_false (Nat.not_lt.2 (by have h_ := c54; simp only [ByteArray.size_append, show (⟨#[34]⟩ : ByteArray).size = 1 from rfl, show (⟨#[44]⟩ : ByteArray).size = 1 from rfl] at h_; omega))
                                     try have c54b2 : (9223372036854775807 < (x7_3 ++ (⟨#[44]⟩ : ByteArray)).size + (((⟨#[34]⟩ : ByteArray) ++ (rdOf ByteArray.empty ((rd_T54 l0_1 x8_2).f1) x9_3)) ++ (⟨#[34]⟩ : ByteArray)).size) = False := eq_false (Nat.not_lt.2 c54)
                                     have H' := Aside0.mk H
                                     clear H
                                     go_wp2
                                     go_roundg k5
                                     case measure => have := HJ3.out; have := HK2.out; have := HK3.out; have := HJ37.out; have := HK5.out; omega
                                     case rel => exact ⟨((x7_3 ++ (⟨#[44]⟩ : ByteArray)) ++ (((⟨#[34]⟩ : ByteArray) ++ (rdOf ByteArray.empty ((rd_T54 l0_1 x8_2).f1) x9_3)) ++ (⟨#[34]⟩ : ByteArray))), (wrap64 (x9_3 + 1)), (by first | rfl | (simp; done) | (simp [*]; done)), (by first | rfl | (simp; done) | (simp [*]; done)), H', ⟨by have := HJ3.out; have := HK2.out; have := HK3.out; have := HJ37.out; have := HK5.out; omega⟩, ⟨by (with_reducible repeat (first | refine blk_drewN ?_ _ | refine blk_drew ?_ | refine blk_alloc ?_ _)); exact BK225.out⟩, ⟨by repeat (first | (with_reducible first | exact HB.out | apply below_alloc | apply pw_below_drewN | apply below_drew1 | refine below_set ?_ GE225.out) | exact HB.out)⟩⟩
                                    ·rw [if_neg c54] at H
                                     exact absurd H (by simp)
                                   ·rw [if_neg c53] at H
                                    exact absurd H (by simp)
                                  ·rw [if_neg c52] at H
                                   exact absurd H (by simp)
                                 ·replace c51 := Bool.eq_false_iff.mpr c51
                                  subst c51
                                  have H1 : (if (x7_3 ++ (⟨#[44]⟩ : ByteArray)).size + (rdOf ByteArray.empty ((rd_T54 l0_1 x8_2).f1) x9_3).size ≤ 9223372036854775807 then (solsticelaw18_LineQuotes.l1 k5 ji23 (wrap64 (Int.tmod (IntKind.u64.wrap (a2)) (IntKind.u64.wrap ((((rd_T54 l0_1 (ji23)).f1).length : Int))))) ((x7_3 ++ (⟨#[44]⟩ : ByteArray)) ++ (rdOf ByteArray.empty ((rd_T54 l0_1 x8_2).f1) x9_3)) x8_2 (wrap64 (x9_3 + 1)) a0_0 l0_1 a0_2) else (none)) = some r := by rw [if_neg (show ¬ (false = true) by decide)] at H; exact H
                                  clear H
                                  have H := H1
                                  clear H1
                                  by_cases c55 : (x7_3 ++ (⟨#[44]⟩ : ByteArray)).size + (rdOf ByteArray.empty ((rd_T54 l0_1 x8_2).f1) x9_3).size ≤ 9223372036854775807
                                  ·rw [if_pos c55] at H
                                   have c55b0 := eq_true c55
                                   have c55b1 : decide ((x7_3 ++ (⟨#[44]⟩ : ByteArray)).size + (rdOf ByteArray.empty ((rd_T54 l0_1 x8_2).f1) x9_3).size ≤ 9223372036854775807) = true := decide_eq_true c55
                                   try have c55b3 : (9223372036854775807 < (x7_3.size + 1) + (rdOf ByteArray.empty ((rd_T54 l0_1 x8_2).f1) x9_3).size) = False := eq_false (Nat.not_lt.2 (by have h_ := c55; simp only [ByteArray.size_append, show (⟨#[44]⟩ : ByteArray).size = 1 from rfl] at h_; omega))
                                   try have c55b2 : (9223372036854775807 < (x7_3 ++ (⟨#[44]⟩ : ByteArray)).size + (rdOf ByteArray.empty ((rd_T54 l0_1 x8_2).f1) x9_3).size) = False := eq_false (Nat.not_lt.2 c55)
                                   have H' := Aside0.mk H
                                   clear H
                                   go_wp2
                                   go_roundg k5
                                   case measure => have := HJ3.out; have := HK2.out; have := HK3.out; have := HJ37.out; have := HK5.out; omega
                                   case rel => exact ⟨((x7_3 ++ (⟨#[44]⟩ : ByteArray)) ++ (rdOf ByteArray.empty ((rd_T54 l0_1 x8_2).f1) x9_3)), (wrap64 (x9_3 + 1)), (by first | rfl | (simp; done) | (simp [*]; done)), (by first | rfl | (simp; done) | (simp [*]; done)), H', ⟨by have := HJ3.out; have := HK2.out; have := HK3.out; have := HJ37.out; have := HK5.out; omega⟩, ⟨by (with_reducible repeat (first | refine blk_drewN ?_ _ | refine blk_drew ?_ | refine blk_alloc ?_ _)); exact BK225.out⟩, ⟨by repeat (first | (with_reducible first | exact HB.out | apply below_alloc | apply pw_below_drewN | apply below_drew1 | refine below_set ?_ GE225.out) | exact HB.out)⟩⟩
                                  ·rw [if_neg c55] at H
                                   exact absurd H (by simp)
                                ·rw [if_neg c50] at H
                                 exact absurd H (by simp)
                               ·rw [if_neg c49] at H
                                have c49b0 : decide (0 < x9_3) = false := decide_eq_false c49
                                clear c49
                                by_cases c56 : x11_5 = true
                                ·subst c56
                                 have H1 : (if 1 + (rdOf ByteArray.empty ((rd_T54 l0_1 x8_2).f1) x9_3).size ≤ 9223372036854775807 then (if ((⟨#[34]⟩ : ByteArray) ++ (rdOf ByteArray.empty ((rd_T54 l0_1 x8_2).f1) x9_3)).size + 1 ≤ 9223372036854775807 then (if x7_3.size + (((⟨#[34]⟩ : ByteArray) ++ (rdOf ByteArray.empty ((rd_T54 l0_1 x8_2).f1) x9_3)) ++ (⟨#[34]⟩ : ByteArray)).size ≤ 9223372036854775807 then (solsticelaw18_LineQuotes.l1 k5 ji23 (wrap64 (Int.tmod (IntKind.u64.wrap (a2)) (IntKind.u64.wrap ((((rd_T54 l0_1 (ji23)).f1).length : Int))))) (x7_3 ++ (((⟨#[34]⟩ : ByteArray) ++ (rdOf ByteArray.empty ((rd_T54 l0_1 x8_2).f1) x9_3)) ++ (⟨#[34]⟩ : ByteArray))) x8_2 (wrap64 (x9_3 + 1)) a0_0 l0_1 a0_2) else (none)) else (none)) else (none)) = some r := by rw [if_pos rfl] at H; exact H
                                 clear H
                                 have H := H1
                                 clear H1
                                 by_cases c57 : 1 + (rdOf ByteArray.empty ((rd_T54 l0_1 x8_2).f1) x9_3).size ≤ 9223372036854775807
                                 ·rw [if_pos c57] at H
                                  have c57b0 := eq_true c57
                                  have c57b1 : decide (1 + (rdOf ByteArray.empty ((rd_T54 l0_1 x8_2).f1) x9_3).size ≤ 9223372036854775807) = true := decide_eq_true c57
                                  try have c57b2 : (9223372036854775807 < 1 + (rdOf ByteArray.empty ((rd_T54 l0_1 x8_2).f1) x9_3).size) = False := eq_false (Nat.not_lt.2 c57)
                                  by_cases c58 : ((⟨#[34]⟩ : ByteArray) ++ (rdOf ByteArray.empty ((rd_T54 l0_1 x8_2).f1) x9_3)).size + 1 ≤ 9223372036854775807
                                  ·rw [if_pos c58] at H
                                   have c58b0 := eq_true c58
                                   have c58b1 : decide (((⟨#[34]⟩ : ByteArray) ++ (rdOf ByteArray.empty ((rd_T54 l0_1 x8_2).f1) x9_3)).size + 1 ≤ 9223372036854775807) = true := decide_eq_true c58
                                   try have c58b3 : (9223372036854775807 < (1 + (rdOf ByteArray.empty ((rd_T54 l0_1 x8_2).f1) x9_3).size) + 1) = False := eq_false (Nat.not_lt.2 (by have h_ := c58; simp only [ByteArray.size_append, show (⟨#[34]⟩ : ByteArray).size = 1 from rfl] at h_; omega))
                                   try have c58b2 : (9223372036854775807 < ((⟨#[34]⟩ : ByteArray) ++ (rdOf ByteArray.empty ((rd_T54 l0_1 x8_2).f1) x9_3)).size + 1) = False := eq_false (Nat.not_lt.2 c58)
                                   by_cases c59 : x7_3.size + (((⟨#[34]⟩ : ByteArray) ++ (rdOf ByteArray.empty ((rd_T54 l0_1 x8_2).f1) x9_3)) ++ (⟨#[34]⟩ : ByteArray)).size ≤ 9223372036854775807
                                   ·rw [if_pos c59] at H
                                    have c59b0 := eq_true c59
                                    have c59b1 : decide (x7_3.size + (((⟨#[34]⟩ : ByteArray) ++ (rdOf ByteArray.empty ((rd_T54 l0_1 x8_2).f1) x9_3)) ++ (⟨#[34]⟩ : ByteArray)).size ≤ 9223372036854775807) = true := decide_eq_true c59
                                    try have c59b3 : (9223372036854775807 < x7_3.size + ((1 + (rdOf ByteArray.empty ((rd_T54 l0_1 x8_2).f1) x9_3).size) + 1)) = False := eq_false (Nat.not_lt.2 (by have h_ := c59; simp only [ByteArray.size_append, show (⟨#[34]⟩ : ByteArray).size = 1 from rfl] at h_; omega))
                                    try have c59b2 : (9223372036854775807 < x7_3.size + (((⟨#[34]⟩ : ByteArray) ++ (rdOf ByteArray.empty ((rd_T54 l0_1 x8_2).f1) x9_3)) ++ (⟨#[34]⟩ : ByteArray)).size) = False := eq_false (Nat.not_lt.2 c59)
                                    have H' := Aside0.mk H
                                    clear H
                                    go_wp2
                                    go_roundg k5
                                    case measure => have := HJ3.out; have := HK2.out; have := HK3.out; have := HJ37.out; have := HK5.out; omega
                                    case rel => exact ⟨(x7_3 ++ (((⟨#[34]⟩ : ByteArray) ++ (rdOf ByteArray.empty ((rd_T54 l0_1 x8_2).f1) x9_3)) ++ (⟨#[34]⟩ : ByteArray))), (wrap64 (x9_3 + 1)), (by first | rfl | (simp; done) | (simp [*]; done)), (by first | rfl | (simp; done) | (simp [*]; done)), H', ⟨by have := HJ3.out; have := HK2.out; have := HK3.out; have := HJ37.out; have := HK5.out; omega⟩, ⟨by (with_reducible repeat (first | refine blk_drewN ?_ _ | refine blk_drew ?_ | refine blk_alloc ?_ _)); exact BK225.out⟩, ⟨by repeat (first | (with_reducible first | exact HB.out | apply below_alloc | apply pw_below_drewN | apply below_drew1 | refine below_set ?_ GE225.out) | exact HB.out)⟩⟩
                                   ·rw [if_neg c59] at H
                                    exact absurd H (by simp)
                                  ·rw [if_neg c58] at H
                                   exact absurd H (by simp)
                                 ·rw [if_neg c57] at H
                                  exact absurd H (by simp)
                                ·replace c56 := Bool.eq_false_iff.mpr c56
                                 subst c56
                                 have H1 : (if x7_3.size + (rdOf ByteArray.empty ((rd_T54 l0_1 x8_2).f1) x9_3).size ≤ 9223372036854775807 then (solsticelaw18_LineQuotes.l1 k5 ji23 (wrap64 (Int.tmod (IntKind.u64.wrap (a2)) (IntKind.u64.wrap ((((rd_T54 l0_1 (ji23)).f1).length : Int))))) (x7_3 ++ (rdOf ByteArray.empty ((rd_T54 l0_1 x8_2).f1) x9_3)) x8_2 (wrap64 (x9_3 + 1)) a0_0 l0_1 a0_2) else (none)) = some r := by rw [if_neg (show ¬ (false = true) by decide)] at H; exact H
                                 clear H
                                 have H := H1
                                 clear H1
                                 by_cases c60 : x7_3.size + (rdOf ByteArray.empty ((rd_T54 l0_1 x8_2).f1) x9_3).size ≤ 9223372036854775807
                                 ·rw [if_pos c60] at H
                                  have c60b0 := eq_true c60
                                  have c60b1 : decide (x7_3.size + (rdOf ByteArray.empty ((rd_T54 l0_1 x8_2).f1) x9_3).size ≤ 9223372036854775807) = true := decide_eq_true c60
                                  try have c60b2 : (9223372036854775807 < x7_3.size + (rdOf ByteArray.empty ((rd_T54 l0_1 x8_2).f1) x9_3).size) = False := eq_false (Nat.not_lt.2 c60)
                                  have H' := Aside0.mk H
                                  clear H
                                  go_wp2
                                  go_roundg k5
                                  case measure => have := HJ3.out; have := HK2.out; have := HK3.out; have := HJ37.out; have := HK5.out; omega
                                  case rel => exact ⟨(x7_3 ++ (rdOf ByteArray.empty ((rd_T54 l0_1 x8_2).f1) x9_3)), (wrap64 (x9_3 + 1)), (by first | rfl | (simp; done) | (simp [*]; done)), (by first | rfl | (simp; done) | (simp [*]; done)), H', ⟨by have := HJ3.out; have := HK2.out; have := HK3.out; have := HJ37.out; have := HK5.out; omega⟩, ⟨by (with_reducible repeat (first | refine blk_drewN ?_ _ | refine blk_drew ?_ | refine blk_alloc ?_ _)); exact BK225.out⟩, ⟨by repeat (first | (with_reducible first | exact HB.out | apply below_alloc | apply pw_below_drewN | apply below_drew1 | refine below_set ?_ GE225.out) | exact HB.out)⟩⟩
                                 ·rw [if_neg c60] at H
                                  exact absurd H (by simp)
                       ·rw [if_neg c37] at H
                        exact absurd H (by simp)
                      ·rw [if_neg c36] at H
                       have c36b0 : decide (x9_3 < (((rd_T54 l0_1 x8_2).f1).length : Int)) = false := decide_eq_false c36
                       clear c36
                       have H' := Aside0.mk H
                       clear H
                       have hcz61_0 : wr.cell? ⟨gb225, 0, none⟩ = some (.string a0_0) := (blk_cell BK225.out 0).trans rfl
                       have hcz61_1 : wr.cell? ⟨gb225, 1, none⟩ = some (.slice (some ad228) l0_1.length c0_1) := (blk_cell BK225.out 1).trans rfl
                       have hcz61_2 : wr.cell? ⟨gb225, 2, none⟩ = some (.string a0_2) := (blk_cell BK225.out 2).trans rfl
                       have hfz61_0 := blk_frozen BK225.out 0
                       have hfz61_1 := blk_frozen BK225.out 1
                       have hfz61_2 := blk_frozen BK225.out 2
                       have p239 : 0 ≤ (x8_2 : Int) := of_decide_eq_true (by first | (with_reducible assumption) | assumption)
                       have q239 : x8_2 < (l0_1.length : Int) := of_decide_eq_true (by first | (with_reducible assumption) | assumption)
                       obtain ⟨ad239, A239_1, c239_1, e239, hx239_0, hx239_1, hl239_1, hi239_1⟩ := at_T54 HR0_1.out x8_2 p239 q239
                       obtain rfl : ad228 = ad239 := (by injection e239)
                       replace hx239_0 := (HB.out.cell (World.block_lt_of_cell? w _ hx239_0)).trans hx239_0
                       replace hx239_1 := (HB.out.cell (World.block_lt_of_cell? w _ hx239_1)).trans hx239_1
                       have HR239_1 := Aside0.mk hi239_1
                       have HC239_1 := Aside0.mk hl239_1
                       clear hi239_1 hl239_1
                       replace p239 := eq_true p239
                       replace q239 := eq_true q239
                       go_wp2
                       go_roundg k3
                       case measure => have := HJ3.out; have := HK2.out; have := HK3.out; omega
                       case rel => exact ⟨(x7_3), (wrap64 (x8_2 + 1)), (by first | rfl | (simp; done) | (simp [*]; done)), (by first | rfl | (simp; done) | (simp [*]; done)), H', ⟨by have := HJ3.out; have := HK2.out; have := HK3.out; omega⟩, ⟨by (with_reducible repeat (first | refine blk_drewN ?_ _ | refine blk_drew ?_ | refine blk_alloc ?_ _)); exact BK225.out⟩, ⟨by repeat (first | (with_reducible first | exact HB.out | apply below_alloc | apply pw_below_drewN | apply below_drew1 | refine below_set ?_ GE225.out) | exact HB.out)⟩⟩
                     ·rw [if_neg c35] at H
                      exact absurd H (by simp)
                    ·rw [if_neg c34] at H
                     exact absurd H (by simp)
                ·rw [if_neg c32] at H
                 exact absurd H (by simp)
               ·rw [if_neg c31] at H
                exact absurd H (by simp)
              ·rw [if_neg c30] at H
               exact absurd H (by simp)
             ·rw [if_neg c29] at H
              exact absurd H (by simp)
            ·rw [if_neg c28] at H
             have c28b0 : decide (x8_2 < (l0_1.length : Int)) = false := decide_eq_false c28
             clear c28
             by_cases c62 : x7_2.size + 1 ≤ 9223372036854775807
             ·rw [if_pos c62] at H
              have c62b0 := eq_true c62
              have c62b1 : decide (x7_2.size + 1 ≤ 9223372036854775807) = true := decide_eq_true c62
              try have c62b2 : (9223372036854775807 < x7_2.size + 1) = False := eq_false (Nat.not_lt.2 c62)
              by_cases c63 : (x7_2 ++ (⟨#[58]⟩ : ByteArray)).size + a0_2.size ≤ 9223372036854775807
              ·rw [if_pos c63] at H
               have c63b0 := eq_true c63
               have c63b1 : decide ((x7_2 ++ (⟨#[58]⟩ : ByteArray)).size + a0_2.size ≤ 9223372036854775807) = true := decide_eq_true c63
               try have c63b3 : (9223372036854775807 < (x7_2.size + 1) + a0_2.size) = False := eq_false (Nat.not_lt.2 (by have h_ := c63; simp only [ByteArray.size_append, show (⟨#[58]⟩ : ByteArray).size = 1 from rfl] at h_; omega))
               try have c63b2 : (9223372036854775807 < (x7_2 ++ (⟨#[58]⟩ : ByteArray)).size + a0_2.size) = False := eq_false (Nat.not_lt.2 c63)
               replace H := Option.bind_eq_some_iff.mp H
               obtain ⟨⟨t229, t230, t233, t234⟩, A640, H⟩ := H
               replace H : (if t234 = 0 then ((solsticekeep_Line.f k2 t229 t230 t233 a0_0 l0_1 a0_2).bind fun t236 => (if t236 = true then ((solsticelaw18_wakes.f k2).bind fun t237 => (some t237)) else (some false))) else (some false)) = some r := H
               have A64 := Aside0.mk A640
               clear A640
               by_cases c65 : t234 = 0
               ·rw [if_pos c65] at H
                have c65b0 : (t234 == 0) = true := beq_iff_eq.mpr c65
                have c65b1 : (t234 != 0) = false := bne_eq_false_iff_eq.mpr c65
                clear c65
                replace H := Option.bind_eq_some_iff.mp H
                obtain ⟨t236, A660, H⟩ := H
                replace H : (if t236 = true then ((solsticelaw18_wakes.f k2).bind fun t237 => (some t237)) else (some false)) = some r := H
                have A66 := Aside0.mk A660
                clear A660
                by_cases c67 : t236 = true
                ·subst c67
                 have H1 : ((solsticelaw18_wakes.f k2).bind fun t237 => (some t237)) = some r := by rw [if_pos rfl] at H; exact H
                 clear H
                 have H := H1
                 clear H1
                 replace H := Option.bind_eq_some_iff.mp H
                 obtain ⟨t237, A680, H⟩ := H
                 replace H : (some t237) = some r := H
                 have A68 := Aside0.mk A680
                 clear A680
                 obtain rfl := Option.some.inj H
                 have hcz69_0 : wr.cell? ⟨gb225, 0, none⟩ = some (.string a0_0) := (blk_cell BK225.out 0).trans rfl
                 have hcz69_1 : wr.cell? ⟨gb225, 1, none⟩ = some (.slice (some ad228) l0_1.length c0_1) := (blk_cell BK225.out 1).trans rfl
                 have hcz69_2 : wr.cell? ⟨gb225, 2, none⟩ = some (.string a0_2) := (blk_cell BK225.out 2).trans rfl
                 have hfz69_0 := blk_frozen BK225.out 0
                 have hfz69_1 := blk_frozen BK225.out 1
                 have hfz69_2 := blk_frozen BK225.out 2
                 go_wp2_with (first | ((with_reducible refine gate_callee (f := 25) rfl ?_); refine goesL_ (some 137) rfl rfl Try.func25 (by kernel_rfl) rfl #[.string ((x7_2 ++ (⟨#[58]⟩ : ByteArray)) ++ a0_2)] rfl (by (try simp only [List.map_toArray, List.map_cons, List.map_nil]); first | done | rfl | (simp only [List.length_drop, List.length_take]; rfl)) ?_; (with_reducible refine (line_Parse.calls k2 ((x7_2 ++ (⟨#[58]⟩ : ByteArray)) ++ a0_2) t229 t230 t233 t234 _ A64.out).mono ?_); rintro e w70 ⟨v231, rfl, ho0, hb⟩; refine ⟨_, rfl, ?_⟩; have n0_ := Aside0.mk (Kd.S_lower ho0 (below_size (by repeat (first | (with_reducible first | exact HB.out | apply below_alloc | apply pw_below_drewN | apply below_drew1 | refine below_set ?_ GE225.out) | exact HB.out)))); have n1_ := Aside0.mk (blk_below (g := gb225) (o := .cells #[.string a0_0, .slice (some ad228) l0_1.length c0_1, .string a0_2] 38 (0, 0)) (by (with_reducible repeat (first | refine blk_drewN ?_ _ | refine blk_drew ?_ | refine blk_alloc ?_ _)); exact BK225.out) hb); have n2_ := Aside0.mk (below_step (by repeat (first | (with_reducible first | exact HB.out | apply below_alloc | apply pw_below_drewN | apply below_drew1 | refine below_set ?_ GE225.out) | exact HB.out)) hb); clear BK225; clear HB; have HO232 := n0_; have BK225 := n1_; have HB := n2_; clear n0_ n1_ n2_; (try clear hb); (try clear hb2); (try clear hk); (try clear hi); (try clear ho0)) | ((with_reducible refine gate_dst (N := 13) rfl ?_); (try (refine gate_guard (by rfl) ?_; dsimp only)); refine box_event ?hg (N := 13) ?hd (cs := #[.string (⟨#[]⟩ : ByteArray), .slice none 0 0, .string (⟨#[]⟩ : ByteArray)]) (t := 38) ?hr ?_; (case hd => rfl); (case hg => rfl); (case hr => first | (go_simp; done) | (go_simp; rfl)); intro gb235 hg w71 hbox hb; have n0_ := Aside0.mk (Kd.S_below (by (with_reducible repeat (first | apply Kd.S_alloc | apply Kd.S_drewN | apply Kd.S_drew)); exact HO232.out) hb); have n1_ := Aside0.mk (blk_below (g := gb225) (o := .cells #[.string a0_0, .slice (some ad228) l0_1.length c0_1, .string a0_2] 38 (0, 0)) (by (with_reducible repeat (first | refine blk_drewN ?_ _ | refine blk_drew ?_ | refine blk_alloc ?_ _)); exact BK225.out) hb); have n2_ := Aside0.mk (below_step (by repeat (first | (with_reducible first | exact HB.out | apply below_alloc | apply pw_below_drewN | apply below_drew1 | refine below_set ?_ GE225.out) | exact HB.out)) hb); have n3_ := Aside0.mk (hbox); have n4_ := Aside0.mk ((by rw [hg]; exact (below_size (by repeat (first | (with_reducible first | exact HB.out | apply below_alloc | apply pw_below_drewN | apply below_drew1 | refine below_set ?_ GE225.out) | exact HB.out))) : w.heap.size ≤ gb235)); have n5_ := Aside0.mk ((by rw [hg]; exact (below_size (by repeat (first | (with_reducible first | exact HB.out | apply below_alloc | apply pw_below_drewN | apply below_drew1 | refine below_set ?_ GE225.out) | exact HB.out))) : w.heap.size ≤ gb235)); have n6_ := Aside0.mk ((by rw [hg]; exact Nat.ne_of_lt (blk_lt (g := gb225) (o := .cells #[.string a0_0, .slice (some ad228) l0_1.length c0_1, .string a0_2] 38 (0, 0)) (by (with_reducible repeat (first | refine blk_drewN ?_ _ | refine blk_drew ?_ | refine blk_alloc ?_ _)); exact BK225.out)) : gb225 ≠ gb235)); have n7_ := Aside0.mk ((by rw [hg]; exact Nat.ne_of_gt (blk_lt (g := gb225) (o := .cells #[.string a0_0, .slice (some ad228) l0_1.length c0_1, .string a0_2] 38 (0, 0)) (by (with_reducible repeat (first | refine blk_drewN ?_ _ | refine blk_drew ?_ | refine blk_alloc ?_ _)); exact BK225.out)) : gb235 ≠ gb225)); clear HO232; clear BK225; clear HB; have HO232 := n0_; have BK225 := n1_; have HB := n2_; have BK235 := n3_; have GW235 := n4_; have GE235 := n5_; have NB225_235 := n6_; have NB235_225 := n7_; clear n0_ n1_ n2_ n3_ n4_ n5_ n6_ n7_; clear hb hbox hg; have hnb72 := NB235_225.out; have hnc72 := NB225_235.out; have hcz73_0 : w71.cell? ⟨gb235, 0, none⟩ = some (.string (⟨#[]⟩ : ByteArray)) := (blk_cell BK235.out 0).trans rfl; have hcz73_1 : w71.cell? ⟨gb235, 1, none⟩ = some (.slice none 0 0) := (blk_cell BK235.out 1).trans rfl; have hcz73_2 : w71.cell? ⟨gb235, 2, none⟩ = some (.string (⟨#[]⟩ : ByteArray)) := (blk_cell BK235.out 2).trans rfl; have hfz73_0 := blk_frozen BK235.out 0; have hfz73_1 := blk_frozen BK235.out 1; have hfz73_2 := blk_frozen BK235.out 2; obtain ⟨Ao74, co74, eo74⟩ := Kd.S_slice HO232.out; subst eo74; have hcz75_0 : w71.cell? ⟨gb225, 0, none⟩ = some (.string a0_0) := (blk_cell BK225.out 0).trans rfl; have hcz75_1 : w71.cell? ⟨gb225, 1, none⟩ = some (.slice (some ad228) l0_1.length c0_1) := (blk_cell BK225.out 1).trans rfl; have hcz75_2 : w71.cell? ⟨gb225, 2, none⟩ = some (.string a0_2) := (blk_cell BK225.out 2).trans rfl; have hfz75_0 := blk_frozen BK225.out 0; have hfz75_1 := blk_frozen BK225.out 1; have hfz75_2 := blk_frozen BK225.out 2) | (go_at_call 29; (with_reducible refine (solsticekeep_Line.calls k2 t229 _ _ t230 t233 a0_0 _ _ l0_1 a0_2 true _ ?side1 ?side2 ?side3 ?side4 A66.out).mono ?_); (case side1 => refine (Kd.S_reads' (e := 54) (base := w.heap.size) (ok := fun k_ => True) (n := t230.length) (c := co74) ?_).2.2; exact (by (with_reducible repeat (first | apply Kd.S_alloc | apply Kd.S_drewN | apply Kd.S_drew)); exact (Kd.S_mono (Kd.S_far (p := ⟨gb235, 2, none⟩) (Kd.S_far (p := ⟨gb235, 1, none⟩) (Kd.S_far (p := ⟨gb235, 0, none⟩) (Kd.S_types HO232.out BK235.out (by decide)) (fun _ hk => hk.2) (.string t229)) (fun _ hk => hk.2) (.slice Ao74 t230.length co74)) (fun _ hk => hk.2) (.string t233)) (fun _ h_ => h_.1)))); (case side2 => exact (Kd.S_reads' HO232.out).2.1); (case side3 => exact Kd.C_below HR0_1.out (by repeat (first | (with_reducible first | exact HB.out | apply below_alloc | apply pw_below_drewN | apply below_drew1 | refine below_set ?_ GE225.out | refine below_set ?_ GE235.out) | exact HB.out))); (case side4 => exact HC0_1.out); rintro e w76 ⟨rfl, hb⟩; have n0_ := Aside0.mk (Kd.S_below (by (with_reducible repeat (first | apply Kd.S_alloc | apply Kd.S_drewN | apply Kd.S_drew)); exact (Kd.S_mono (Kd.S_far (p := ⟨gb235, 2, none⟩) (Kd.S_far (p := ⟨gb235, 1, none⟩) (Kd.S_far (p := ⟨gb235, 0, none⟩) (Kd.S_types HO232.out BK235.out (by decide)) (fun _ hk => hk.2) (.string t229)) (fun _ hk => hk.2) (.slice Ao74 t230.length co74)) (fun _ hk => hk.2) (.string t233)) (fun _ h_ => h_.1))) hb); have n1_ := Aside0.mk (blk_below (g := gb225) (o := .cells #[.string a0_0, .slice (some ad228) l0_1.length c0_1, .string a0_2] 38 (0, 0)) (by (with_reducible repeat (first | refine blk_drewN ?_ _ | refine blk_drew ?_ | refine blk_alloc ?_ _)); refine blk_far ?_ NB225_235.out _; (with_reducible repeat (first | refine blk_drewN ?_ _ | refine blk_drew ?_ | refine blk_alloc ?_ _)); refine blk_far ?_ NB225_235.out _; (with_reducible repeat (first | refine blk_drewN ?_ _ | refine blk_drew ?_ | refine blk_alloc ?_ _)); refine blk_far ?_ NB225_235.out _; (with_reducible repeat (first | refine blk_drewN ?_ _ | refine blk_drew ?_ | refine blk_alloc ?_ _)); exact BK225.out) hb); have n2_ := Aside0.mk (blk_below (g := gb235) (o := .cells #[.string t229, .slice Ao74 t230.length co74, .string t233] 38 (0, 0)) (by (with_reducible repeat (first | refine blk_drewN ?_ _ | refine blk_drew ?_ | refine blk_alloc ?_ _)); refine blk_put (cs := #[.string t229, .slice Ao74 t230.length co74, .string (⟨#[]⟩ : ByteArray)]) ?_ 2 _ rfl; (with_reducible repeat (first | refine blk_drewN ?_ _ | refine blk_drew ?_ | refine blk_alloc ?_ _)); refine blk_put (cs := #[.string t229, .slice none 0 0, .string (⟨#[]⟩ : ByteArray)]) ?_ 1 _ rfl; (with_reducible repeat (first | refine blk_drewN ?_ _ | refine blk_drew ?_ | refine blk_alloc ?_ _)); refine blk_put (cs := #[.string (⟨#[]⟩ : ByteArray), .slice none 0 0, .string (⟨#[]⟩ : ByteArray)]) ?_ 0 _ rfl; (with_reducible repeat (first | refine blk_drewN ?_ _ | refine blk_drew ?_ | refine blk_alloc ?_ _)); exact BK235.out) hb); have n3_ := Aside0.mk (below_step (by repeat (first | (with_reducible first | exact HB.out | apply below_alloc | apply pw_below_drewN | apply below_drew1 | refine below_set ?_ GE225.out | refine below_set ?_ GE235.out) | exact HB.out)) hb); clear HO232; clear BK225; clear BK235; clear HB; have HO232 := n0_; have BK225 := n1_; have BK235 := n2_; have HB := n3_; clear n0_ n1_ n2_ n3_; (try clear hb); (try clear hb2); (try clear hk); (try clear hi)) | (go_at_call 32; (with_reducible refine (solsticelaw18_wakes.calls k2  t237 htrue _ A68.out).mono ?_); rintro e w77 ⟨rfl, hb⟩; have n0_ := Aside0.mk (Kd.S_below (by (with_reducible repeat (first | apply Kd.S_alloc | apply Kd.S_drewN | apply Kd.S_drew)); exact HO232.out) hb); have n1_ := Aside0.mk (blk_below (g := gb225) (o := .cells #[.string a0_0, .slice (some ad228) l0_1.length c0_1, .string a0_2] 38 (0, 0)) (by (with_reducible repeat (first | refine blk_drewN ?_ _ | refine blk_drew ?_ | refine blk_alloc ?_ _)); exact BK225.out) hb); have n2_ := Aside0.mk (blk_below (g := gb235) (o := .cells #[.string t229, .slice Ao74 t230.length co74, .string t233] 38 (0, 0)) (by (with_reducible repeat (first | refine blk_drewN ?_ _ | refine blk_drew ?_ | refine blk_alloc ?_ _)); exact BK235.out) hb); have n3_ := Aside0.mk (below_step (by repeat (first | (with_reducible first | exact HB.out | apply below_alloc | apply pw_below_drewN | apply below_drew1 | refine below_set ?_ GE225.out | refine below_set ?_ GE235.out) | exact HB.out)) hb); clear HO232; clear BK225; clear BK235; clear HB; have HO232 := n0_; have BK225 := n1_; have BK235 := n2_; have HB := n3_; clear n0_ n1_ n2_ n3_; (try clear hb); (try clear hb2); (try clear hk); (try clear hi)))
                 go_ret
                 exact ⟨by first | rfl | (simp [errW_none, errW_some] <;> rfl) | (simp only [← hji23]; first | rfl | (simp [errW_none, errW_some] <;> rfl)) | (simp [*, errW_none, errW_some] <;> rfl), by repeat (first | (with_reducible first | exact HB.out | apply below_alloc | apply pw_below_drewN | apply below_drew1 | refine below_set ?_ GE225.out | refine below_set ?_ GE235.out) | exact HB.out)⟩
                ·replace c67 := Bool.eq_false_iff.mpr c67
                 subst c67
                 have H1 : (some false) = some r := by rw [if_neg (show ¬ (false = true) by decide)] at H; exact H
                 clear H
                 have H := H1
                 clear H1
                 obtain rfl := Option.some.inj H
                 cases htrue
               ·rw [if_neg c65] at H
                have c65b0 : (t234 == 0) = false := beq_eq_false_iff_ne.mpr c65
                have c65b1 : (t234 != 0) = true := bne_iff_ne.mpr c65
                obtain rfl := Option.some.inj H
                cases htrue
              ·rw [if_neg c63] at H
               exact absurd H (by simp)
             ·rw [if_neg c62] at H
              exact absurd H (by simp)
       ·rw [if_neg c25] at H
        exact absurd H (by simp)
      ·rw [if_neg c24] at H
       exact absurd H (by simp)
end Go.Proofs.Ytookjnpmbenheaa.PLin