-- Printed by a program of this session's over the kit's printer; library functions by contracts off the shelf.
import Derived.Test.YtookjnpmbenheaaPEscx0
import Derived.Test.YtookjnpmbenheaaPEscx1
import Derived.Test.YtookjnpmbenheaaPEscx2
import Derived.Test.YtookjnpmbenheaaPEscx3
import Derived.Test.YtookjnpmbenheaaPEscx4
import Derived.Test.YtookjnpmbenheaaPEscx5
namespace Go.Proofs.Ytookjnpmbenheaa.PEsc
open Go.RowKit Go.Proofs.YtookjnpmbenheaaW.PrintWords Go.Proofs.YtookjnpmbenheaaW.PrintLast Go.Proofs.YtookjnpmbenheaaW.PrintMore
attribute [local go_sem] max2_int min2_int max_two min_two max_three min_three max_four min_four   -- for this text's walks alone
set_option linter.unusedVariables false
set_option linter.unusedSimpArgs false

/-! ### solsticelaw17_EscapeExact: function 3 -/
mutual
def solsticelaw17_EscapeExact.j0 : Nat → ByteArray → List ByteArray → Bool → Option (Bool)
  | 0, _, _, _ => none
  | k + 1, x0, x1, x34 => if x34 = true then (some true) else ((solsticekeep_TwinTexts.f x1).bind fun t243 => ((escape_Put.f k x0).bind fun bt246 => ((escape_Get.f k x0).bind fun bt248 => ((escape_List.f k t243).bind fun bt250 => ((escape_Unlist.f k x0).bind fun bt252 => ((solsticeref16_Put.f k x0).bind fun bt256 => ((solsticeref16_Get.f k x0).bind fun bt258 => (if bt246.2 = bt256.2 then (if bt246.1.toList = bt256.1.toList then (if bt248.2 = bt258.2 then (if bt248.1.toList = bt258.1.toList then ((solsticekeep_Texts.f k t243 x1).bind fun t260 => (solsticelaw17_EscapeExact.j1 k x0 x1 bt250.1 bt250.2 bt252.1 bt252.2 (!t260))) else (solsticelaw17_EscapeExact.j1 k x0 x1 bt250.1 bt250.2 bt252.1 bt252.2 true)) else (solsticelaw17_EscapeExact.j1 k x0 x1 bt250.1 bt250.2 bt252.1 bt252.2 true)) else (solsticelaw17_EscapeExact.j1 k x0 x1 bt250.1 bt250.2 bt252.1 bt252.2 true)) else (solsticelaw17_EscapeExact.j1 k x0 x1 bt250.1 bt250.2 bt252.1 bt252.2 true)))))))))
def solsticelaw17_EscapeExact.j1 : Nat → ByteArray → List ByteArray → ByteArray → Int → List ByteArray → Int → Bool → Option (Bool)
  | 0, _, _, _, _, _, _, _ => none
  | k + 1, x0, x1, x10, x11, x12, x13, x90 => if x90 = true then (some false) else (solsticelaw17_EscapeExact.l0 k x0 x1 x10 x11 x12 x13 (⟨#[]⟩ : ByteArray) 0 0)
def solsticelaw17_EscapeExact.l0 : Nat → ByteArray → List ByteArray → ByteArray → Int → List ByteArray → Int → ByteArray → Int → Int → Option (Bool)
  | 0, _, _, _, _, _, _, _, _, _ => none
  | k + 1, x0, x1, x10, x11, x12, x13, x18, x19, x20 => if x20 < (x1.length : Int) then (if 0 ≤ x20 then ((solsticeref16_Put.f k (rdOf ByteArray.empty x1 x20)).bind fun bt262 => (if bt262.2 = 0 then (solsticelaw17_EscapeExact.j3 k x0 x1 x10 x11 x12 x13 x18 x19 x20 bt262.1 bt262.2 false) else (solsticelaw17_EscapeExact.j3 k x0 x1 x10 x11 x12 x13 x18 x19 x20 bt262.1 bt262.2 (x19 == 0)))) else (none)) else (if x19 = 0 then (solsticelaw17_EscapeExact.j4 k x0 x10 x11 x12 x13 x18 x19 ((x1.length : Int) == 0)) else (solsticelaw17_EscapeExact.j4 k x0 x10 x11 x12 x13 x18 x19 false))
def solsticelaw17_EscapeExact.j3 : Nat → ByteArray → List ByteArray → ByteArray → Int → List ByteArray → Int → ByteArray → Int → Int → ByteArray → Int → Bool → Option (Bool)
  | 0, _, _, _, _, _, _, _, _, _, _, _, _ => none
  | k + 1, x0, x1, x10, x11, x12, x13, x18, x19, x20, x21, x22, x110 => if x110 = true then (if x20 > 0 then (if x18.size + 1 ≤ 9223372036854775807 then (if (x18 ++ (⟨#[44]⟩ : ByteArray)).size + x21.size ≤ 9223372036854775807 then (solsticelaw17_EscapeExact.l0 k x0 x1 x10 x11 x12 x13 ((x18 ++ (⟨#[44]⟩ : ByteArray)) ++ x21) x22 (wrap64 (x20 + 1))) else (none)) else (none)) else (if x18.size + x21.size ≤ 9223372036854775807 then (solsticelaw17_EscapeExact.l0 k x0 x1 x10 x11 x12 x13 (x18 ++ x21) x22 (wrap64 (x20 + 1))) else (none))) else (if x20 > 0 then (if x18.size + 1 ≤ 9223372036854775807 then (if (x18 ++ (⟨#[44]⟩ : ByteArray)).size + x21.size ≤ 9223372036854775807 then (solsticelaw17_EscapeExact.l0 k x0 x1 x10 x11 x12 x13 ((x18 ++ (⟨#[44]⟩ : ByteArray)) ++ x21) x19 (wrap64 (x20 + 1))) else (none)) else (none)) else (if x18.size + x21.size ≤ 9223372036854775807 then (solsticelaw17_EscapeExact.l0 k x0 x1 x10 x11 x12 x13 (x18 ++ x21) x19 (wrap64 (x20 + 1))) else (none)))
def solsticelaw17_EscapeExact.j4 : Nat → ByteArray → ByteArray → Int → List ByteArray → Int → ByteArray → Int → Bool → Option (Bool)
  | 0, _, _, _, _, _, _, _, _ => none
  | k + 1, x0, x10, x11, x12, x13, x18, x19, x125 => if x125 = true then (solsticelaw17_EscapeExact.j5 k x0 x10 x11 x12 x13 x18 2) else (solsticelaw17_EscapeExact.j5 k x0 x10 x11 x12 x13 x18 x19)
def solsticelaw17_EscapeExact.j5 : Nat → ByteArray → ByteArray → Int → List ByteArray → Int → ByteArray → Int → Option (Bool)
  | 0, _, _, _, _, _, _, _ => none
  | k + 1, x0, x10, x11, x12, x13, x18, x19 => if x11 = x19 then (if x19 = 0 then (solsticelaw17_EscapeExact.j6 k x0 x12 x13 (x10.toList != x18.toList)) else (if x10.toList = ([] : List UInt8) then (solsticelaw17_EscapeExact.j6 k x0 x12 x13 false) else (solsticelaw17_EscapeExact.j6 k x0 x12 x13 true))) else (solsticelaw17_EscapeExact.j6 k x0 x12 x13 true)
def solsticelaw17_EscapeExact.j6 : Nat → ByteArray → List ByteArray → Int → Bool → Option (Bool)
  | 0, _, _, _, _ => none
  | k + 1, x0, x12, x13, x145 => if x145 = true then (some false) else ((solsticeref16_Pieces.f k x0).bind fun t264 => (solsticelaw17_EscapeExact.l1 k x12 x13 0 t264 ([] : List ByteArray) 0))
def solsticelaw17_EscapeExact.l1 : Nat → List ByteArray → Int → Int → List ByteArray → List ByteArray → Int → Option (Bool)
  | 0, _, _, _, _, _, _ => none
  | k + 1, x12, x13, x19, x23, x24, x25 => if x25 < (x23.length : Int) then (if 0 ≤ x25 then ((solsticeref16_Get.f k (rdOf ByteArray.empty x23 x25)).bind fun bt268 => (if bt268.2 = 0 then (if x24.length < 8796093022208 then (solsticelaw17_EscapeExact.l1 k x12 x13 x19 x23 (x24 ++ [bt268.1]) (wrap64 (x25 + 1))) else (none)) else (if x24.length < 8796093022208 then (solsticelaw17_EscapeExact.l1 k x12 x13 bt268.2 x23 (x24 ++ [bt268.1]) (wrap64 (x25 + 1))) else (none)))) else (none)) else (if x19 = 0 then (if x13 = 0 then ((solsticekeep_Texts.f k x12 x24).bind fun t276 => (if t276 = true then ((solsticelaw17_wakes.f k).bind fun t277 => (some t277)) else (some false))) else (some false)) else (if x13 = x19 then (if (x12.length : Int) = 0 then ((solsticelaw17_wakes.f k).bind fun t278 => (some t278)) else (some false)) else (some false)))
end
def solsticelaw17_EscapeExact.f (k : Nat) (a0 : ByteArray) (l1 : List ByteArray) : Option (Bool) := if (a0.size : Int) > 1000 then (solsticelaw17_EscapeExact.j0 k a0 l1 true) else ((solsticelaw05_Heavy.f k l1).bind fun t242 => (solsticelaw17_EscapeExact.j0 k a0 l1 t242))
theorem solsticelaw17_EscapeExact.mono_l : ∀ k, (∀ y0 y1 y2, LeO (solsticelaw17_EscapeExact.j0 k y0 y1 y2) (solsticelaw17_EscapeExact.j0 (k + 1) y0 y1 y2)) ∧ (∀ y0 y1 y2 y3 y4 y5 y6, LeO (solsticelaw17_EscapeExact.j1 k y0 y1 y2 y3 y4 y5 y6) (solsticelaw17_EscapeExact.j1 (k + 1) y0 y1 y2 y3 y4 y5 y6)) ∧ (∀ y0 y1 y2 y3 y4 y5 y6 y7 y8, LeO (solsticelaw17_EscapeExact.l0 k y0 y1 y2 y3 y4 y5 y6 y7 y8) (solsticelaw17_EscapeExact.l0 (k + 1) y0 y1 y2 y3 y4 y5 y6 y7 y8)) ∧ (∀ y0 y1 y2 y3 y4 y5 y6 y7 y8 y9 y10 y11, LeO (solsticelaw17_EscapeExact.j3 k y0 y1 y2 y3 y4 y5 y6 y7 y8 y9 y10 y11) (solsticelaw17_EscapeExact.j3 (k + 1) y0 y1 y2 y3 y4 y5 y6 y7 y8 y9 y10 y11)) ∧ (∀ y0 y1 y2 y3 y4 y5 y6 y7, LeO (solsticelaw17_EscapeExact.j4 k y0 y1 y2 y3 y4 y5 y6 y7) (solsticelaw17_EscapeExact.j4 (k + 1) y0 y1 y2 y3 y4 y5 y6 y7)) ∧ (∀ y0 y1 y2 y3 y4 y5 y6, LeO (solsticelaw17_EscapeExact.j5 k y0 y1 y2 y3 y4 y5 y6) (solsticelaw17_EscapeExact.j5 (k + 1) y0 y1 y2 y3 y4 y5 y6)) ∧ (∀ y0 y1 y2 y3, LeO (solsticelaw17_EscapeExact.j6 k y0 y1 y2 y3) (solsticelaw17_EscapeExact.j6 (k + 1) y0 y1 y2 y3)) ∧ (∀ y0 y1 y2 y3 y4 y5, LeO (solsticelaw17_EscapeExact.l1 k y0 y1 y2 y3 y4 y5) (solsticelaw17_EscapeExact.l1 (k + 1) y0 y1 y2 y3 y4 y5))
  | 0 => ⟨fun _ _ _ r h => by simp [solsticelaw17_EscapeExact.j0] at h, fun _ _ _ _ _ _ _ r h => by simp [solsticelaw17_EscapeExact.j1] at h, fun _ _ _ _ _ _ _ _ _ r h => by simp [solsticelaw17_EscapeExact.l0] at h, fun _ _ _ _ _ _ _ _ _ _ _ _ r h => by simp [solsticelaw17_EscapeExact.j3] at h, fun _ _ _ _ _ _ _ _ r h => by simp [solsticelaw17_EscapeExact.j4] at h, fun _ _ _ _ _ _ _ r h => by simp [solsticelaw17_EscapeExact.j5] at h, fun _ _ _ _ r h => by simp [solsticelaw17_EscapeExact.j6] at h, fun _ _ _ _ _ _ r h => by simp [solsticelaw17_EscapeExact.l1] at h⟩
  | k + 1 => by
    obtain ⟨ih0, ih1, ih2, ih3, ih4, ih5, ih6, ih7⟩ := solsticelaw17_EscapeExact.mono_l k
    refine ⟨?_, ?_, ?_, ?_, ?_, ?_, ?_, ?_⟩
    · intro y0 y1 y2
      unfold solsticelaw17_EscapeExact.j0
      repeat' first
      | (with_reducible exact ih0 _ _ _)
      | (with_reducible exact ih1 _ _ _ _ _ _ _)
      | (with_reducible exact ih2 _ _ _ _ _ _ _ _ _)
      | (with_reducible exact ih3 _ _ _ _ _ _ _ _ _ _ _ _)
      | (with_reducible exact ih4 _ _ _ _ _ _ _ _)
      | (with_reducible exact ih5 _ _ _ _ _ _ _)
      | (with_reducible exact ih6 _ _ _ _)
      | (with_reducible exact ih7 _ _ _ _ _ _)
      | (with_reducible exact escape_Get.mono _ _)
      | (with_reducible exact escape_List.mono _ _)
      | (with_reducible exact escape_Put.mono _ _)
      | (with_reducible exact escape_Unlist.mono _ _)
      | (with_reducible exact solsticekeep_Texts.mono _ _ _)
      | (with_reducible exact solsticelaw05_Heavy.mono _ _)
      | (with_reducible exact solsticelaw17_wakes.mono _)
      | (with_reducible exact solsticeref16_Get.mono _ _)
      | (with_reducible exact solsticeref16_Pieces.mono _ _)
      | (with_reducible exact solsticeref16_Put.mono _ _)
      | (with_reducible exact LeO.refl _)
      | (with_reducible exact LeO.none _)
      | (with_reducible refine LeO.ite ?_ ?_)
      | (with_reducible refine LeO.bind ?_ (fun _ => ?_))
      | exact ih0 _ _ _
      | exact ih1 _ _ _ _ _ _ _
      | exact ih2 _ _ _ _ _ _ _ _ _
      | exact ih3 _ _ _ _ _ _ _ _ _ _ _ _
      | exact ih4 _ _ _ _ _ _ _ _
      | exact ih5 _ _ _ _ _ _ _
      | exact ih6 _ _ _ _
      | exact ih7 _ _ _ _ _ _
      | exact escape_Get.mono _ _
      | exact escape_List.mono _ _
      | exact escape_Put.mono _ _
      | exact escape_Unlist.mono _ _
      | exact solsticekeep_Texts.mono _ _ _
      | exact solsticelaw05_Heavy.mono _ _
      | exact solsticelaw17_wakes.mono _
      | exact solsticeref16_Get.mono _ _
      | exact solsticeref16_Pieces.mono _ _
      | exact solsticeref16_Put.mono _ _
      | exact LeO.none _
      | refine LeO.ite ?_ ?_
      | refine LeO.bind ?_ (fun _ => ?_)
    · intro y0 y1 y2 y3 y4 y5 y6
      unfold solsticelaw17_EscapeExact.j1
      repeat' first
      | (with_reducible exact ih0 _ _ _)
      | (with_reducible exact ih1 _ _ _ _ _ _ _)
      | (with_reducible exact ih2 _ _ _ _ _ _ _ _ _)
      | (with_reducible exact ih3 _ _ _ _ _ _ _ _ _ _ _ _)
      | (with_reducible exact ih4 _ _ _ _ _ _ _ _)
      | (with_reducible exact ih5 _ _ _ _ _ _ _)
      | (with_reducible exact ih6 _ _ _ _)
      | (with_reducible exact ih7 _ _ _ _ _ _)
      | (with_reducible exact escape_Get.mono _ _)
      | (with_reducible exact escape_List.mono _ _)
      | (with_reducible exact escape_Put.mono _ _)
      | (with_reducible exact escape_Unlist.mono _ _)
      | (with_reducible exact solsticekeep_Texts.mono _ _ _)
      | (with_reducible exact solsticelaw05_Heavy.mono _ _)
      | (with_reducible exact solsticelaw17_wakes.mono _)
      | (with_reducible exact solsticeref16_Get.mono _ _)
      | (with_reducible exact solsticeref16_Pieces.mono _ _)
      | (with_reducible exact solsticeref16_Put.mono _ _)
      | (with_reducible exact LeO.refl _)
      | (with_reducible exact LeO.none _)
      | (with_reducible refine LeO.ite ?_ ?_)
      | (with_reducible refine LeO.bind ?_ (fun _ => ?_))
      | exact ih0 _ _ _
      | exact ih1 _ _ _ _ _ _ _
      | exact ih2 _ _ _ _ _ _ _ _ _
      | exact ih3 _ _ _ _ _ _ _ _ _ _ _ _
      | exact ih4 _ _ _ _ _ _ _ _
      | exact ih5 _ _ _ _ _ _ _
      | exact ih6 _ _ _ _
      | exact ih7 _ _ _ _ _ _
      | exact escape_Get.mono _ _
      | exact escape_List.mono _ _
      | exact escape_Put.mono _ _
      | exact escape_Unlist.mono _ _
      | exact solsticekeep_Texts.mono _ _ _
      | exact solsticelaw05_Heavy.mono _ _
      | exact solsticelaw17_wakes.mono _
      | exact solsticeref16_Get.mono _ _
      | exact solsticeref16_Pieces.mono _ _
      | exact solsticeref16_Put.mono _ _
      | exact LeO.none _
      | refine LeO.ite ?_ ?_
      | refine LeO.bind ?_ (fun _ => ?_)
    · intro y0 y1 y2 y3 y4 y5 y6 y7 y8
      unfold solsticelaw17_EscapeExact.l0
      repeat' first
      | (with_reducible exact ih0 _ _ _)
      | (with_reducible exact ih1 _ _ _ _ _ _ _)
      | (with_reducible exact ih2 _ _ _ _ _ _ _ _ _)
      | (with_reducible exact ih3 _ _ _ _ _ _ _ _ _ _ _ _)
      | (with_reducible exact ih4 _ _ _ _ _ _ _ _)
      | (with_reducible exact ih5 _ _ _ _ _ _ _)
      | (with_reducible exact ih6 _ _ _ _)
      | (with_reducible exact ih7 _ _ _ _ _ _)
      | (with_reducible exact escape_Get.mono _ _)
      | (with_reducible exact escape_List.mono _ _)
      | (with_reducible exact escape_Put.mono _ _)
      | (with_reducible exact escape_Unlist.mono _ _)
      | (with_reducible exact solsticekeep_Texts.mono _ _ _)
      | (with_reducible exact solsticelaw05_Heavy.mono _ _)
      | (with_reducible exact solsticelaw17_wakes.mono _)
      | (with_reducible exact solsticeref16_Get.mono _ _)
      | (with_reducible exact solsticeref16_Pieces.mono _ _)
      | (with_reducible exact solsticeref16_Put.mono _ _)
      | (with_reducible exact LeO.refl _)
      | (with_reducible exact LeO.none _)
      | (with_reducible refine LeO.ite ?_ ?_)
      | (with_reducible refine LeO.bind ?_ (fun _ => ?_))
      | exact ih0 _ _ _
      | exact ih1 _ _ _ _ _ _ _
      | exact ih2 _ _ _ _ _ _ _ _ _
      | exact ih3 _ _ _ _ _ _ _ _ _ _ _ _
      | exact ih4 _ _ _ _ _ _ _ _
      | exact ih5 _ _ _ _ _ _ _
      | exact ih6 _ _ _ _
      | exact ih7 _ _ _ _ _ _
      | exact escape_Get.mono _ _
      | exact escape_List.mono _ _
      | exact escape_Put.mono _ _
      | exact escape_Unlist.mono _ _
      | exact solsticekeep_Texts.mono _ _ _
      | exact solsticelaw05_Heavy.mono _ _
      | exact solsticelaw17_wakes.mono _
      | exact solsticeref16_Get.mono _ _
      | exact solsticeref16_Pieces.mono _ _
      | exact solsticeref16_Put.mono _ _
      | exact LeO.none _
      | refine LeO.ite ?_ ?_
      | refine LeO.bind ?_ (fun _ => ?_)
    · intro y0 y1 y2 y3 y4 y5 y6 y7 y8 y9 y10 y11
      unfold solsticelaw17_EscapeExact.j3
      repeat' first
      | (with_reducible exact ih0 _ _ _)
      | (with_reducible exact ih1 _ _ _ _ _ _ _)
      | (with_reducible exact ih2 _ _ _ _ _ _ _ _ _)
      | (with_reducible exact ih3 _ _ _ _ _ _ _ _ _ _ _ _)
      | (with_reducible exact ih4 _ _ _ _ _ _ _ _)
      | (with_reducible exact ih5 _ _ _ _ _ _ _)
      | (with_reducible exact ih6 _ _ _ _)
      | (with_reducible exact ih7 _ _ _ _ _ _)
      | (with_reducible exact escape_Get.mono _ _)
      | (with_reducible exact escape_List.mono _ _)
      | (with_reducible exact escape_Put.mono _ _)
      | (with_reducible exact escape_Unlist.mono _ _)
      | (with_reducible exact solsticekeep_Texts.mono _ _ _)
      | (with_reducible exact solsticelaw05_Heavy.mono _ _)
      | (with_reducible exact solsticelaw17_wakes.mono _)
      | (with_reducible exact solsticeref16_Get.mono _ _)
      | (with_reducible exact solsticeref16_Pieces.mono _ _)
      | (with_reducible exact solsticeref16_Put.mono _ _)
      | (with_reducible exact LeO.refl _)
      | (with_reducible exact LeO.none _)
      | (with_reducible refine LeO.ite ?_ ?_)
      | (with_reducible refine LeO.bind ?_ (fun _ => ?_))
      | exact ih0 _ _ _
      | exact ih1 _ _ _ _ _ _ _
      | exact ih2 _ _ _ _ _ _ _ _ _
      | exact ih3 _ _ _ _ _ _ _ _ _ _ _ _
      | exact ih4 _ _ _ _ _ _ _ _
      | exact ih5 _ _ _ _ _ _ _
      | exact ih6 _ _ _ _
      | exact ih7 _ _ _ _ _ _
      | exact escape_Get.mono _ _
      | exact escape_List.mono _ _
      | exact escape_Put.mono _ _
      | exact escape_Unlist.mono _ _
      | exact solsticekeep_Texts.mono _ _ _
      | exact solsticelaw05_Heavy.mono _ _
      | exact solsticelaw17_wakes.mono _
      | exact solsticeref16_Get.mono _ _
      | exact solsticeref16_Pieces.mono _ _
      | exact solsticeref16_Put.mono _ _
      | exact LeO.none _
      | refine LeO.ite ?_ ?_
      | refine LeO.bind ?_ (fun _ => ?_)
    · intro y0 y1 y2 y3 y4 y5 y6 y7
      unfold solsticelaw17_EscapeExact.j4
      repeat' first
      | (with_reducible exact ih0 _ _ _)
      | (with_reducible exact ih1 _ _ _ _ _ _ _)
      | (with_reducible exact ih2 _ _ _ _ _ _ _ _ _)
      | (with_reducible exact ih3 _ _ _ _ _ _ _ _ _ _ _ _)
      | (with_reducible exact ih4 _ _ _ _ _ _ _ _)
      | (with_reducible exact ih5 _ _ _ _ _ _ _)
      | (with_reducible exact ih6 _ _ _ _)
      | (with_reducible exact ih7 _ _ _ _ _ _)
      | (with_reducible exact escape_Get.mono _ _)
      | (with_reducible exact escape_List.mono _ _)
      | (with_reducible exact escape_Put.mono _ _)
      | (with_reducible exact escape_Unlist.mono _ _)
      | (with_reducible exact solsticekeep_Texts.mono _ _ _)
      | (with_reducible exact solsticelaw05_Heavy.mono _ _)
      | (with_reducible exact solsticelaw17_wakes.mono _)
      | (with_reducible exact solsticeref16_Get.mono _ _)
      | (with_reducible exact solsticeref16_Pieces.mono _ _)
      | (with_reducible exact solsticeref16_Put.mono _ _)
      | (with_reducible exact LeO.refl _)
      | (with_reducible exact LeO.none _)
      | (with_reducible refine LeO.ite ?_ ?_)
      | (with_reducible refine LeO.bind ?_ (fun _ => ?_))
      | exact ih0 _ _ _
      | exact ih1 _ _ _ _ _ _ _
      | exact ih2 _ _ _ _ _ _ _ _ _
      | exact ih3 _ _ _ _ _ _ _ _ _ _ _ _
      | exact ih4 _ _ _ _ _ _ _ _
      | exact ih5 _ _ _ _ _ _ _
      | exact ih6 _ _ _ _
      | exact ih7 _ _ _ _ _ _
      | exact escape_Get.mono _ _
      | exact escape_List.mono _ _
      | exact escape_Put.mono _ _
      | exact escape_Unlist.mono _ _
      | exact solsticekeep_Texts.mono _ _ _
      | exact solsticelaw05_Heavy.mono _ _
      | exact solsticelaw17_wakes.mono _
      | exact solsticeref16_Get.mono _ _
      | exact solsticeref16_Pieces.mono _ _
      | exact solsticeref16_Put.mono _ _
      | exact LeO.none _
      | refine LeO.ite ?_ ?_
      | refine LeO.bind ?_ (fun _ => ?_)
    · intro y0 y1 y2 y3 y4 y5 y6
      unfold solsticelaw17_EscapeExact.j5
      repeat' first
      | (with_reducible exact ih0 _ _ _)
      | (with_reducible exact ih1 _ _ _ _ _ _ _)
      | (with_reducible exact ih2 _ _ _ _ _ _ _ _ _)
      | (with_reducible exact ih3 _ _ _ _ _ _ _ _ _ _ _ _)
      | (with_reducible exact ih4 _ _ _ _ _ _ _ _)
      | (with_reducible exact ih5 _ _ _ _ _ _ _)
      | (with_reducible exact ih6 _ _ _ _)
      | (with_reducible exact ih7 _ _ _ _ _ _)
      | (with_reducible exact escape_Get.mono _ _)
      | (with_reducible exact escape_List.mono _ _)
      | (with_reducible exact escape_Put.mono _ _)
      | (with_reducible exact escape_Unlist.mono _ _)
      | (with_reducible exact solsticekeep_Texts.mono _ _ _)
      | (with_reducible exact solsticelaw05_Heavy.mono _ _)
      | (with_reducible exact solsticelaw17_wakes.mono _)
      | (with_reducible exact solsticeref16_Get.mono _ _)
      | (with_reducible exact solsticeref16_Pieces.mono _ _)
      | (with_reducible exact solsticeref16_Put.mono _ _)
      | (with_reducible exact LeO.refl _)
      | (with_reducible exact LeO.none _)
      | (with_reducible refine LeO.ite ?_ ?_)
      | (with_reducible refine LeO.bind ?_ (fun _ => ?_))
      | exact ih0 _ _ _
      | exact ih1 _ _ _ _ _ _ _
      | exact ih2 _ _ _ _ _ _ _ _ _
      | exact ih3 _ _ _ _ _ _ _ _ _ _ _ _
      | exact ih4 _ _ _ _ _ _ _ _
      | exact ih5 _ _ _ _ _ _ _
      | exact ih6 _ _ _ _
      | exact ih7 _ _ _ _ _ _
      | exact escape_Get.mono _ _
      | exact escape_List.mono _ _
      | exact escape_Put.mono _ _
      | exact escape_Unlist.mono _ _
      | exact solsticekeep_Texts.mono _ _ _
      | exact solsticelaw05_Heavy.mono _ _
      | exact solsticelaw17_wakes.mono _
      | exact solsticeref16_Get.mono _ _
      | exact solsticeref16_Pieces.mono _ _
      | exact solsticeref16_Put.mono _ _
      | exact LeO.none _
      | refine LeO.ite ?_ ?_
      | refine LeO.bind ?_ (fun _ => ?_)
    · intro y0 y1 y2 y3
      unfold solsticelaw17_EscapeExact.j6
      repeat' first
      | (with_reducible exact ih0 _ _ _)
      | (with_reducible exact ih1 _ _ _ _ _ _ _)
      | (with_reducible exact ih2 _ _ _ _ _ _ _ _ _)
      | (with_reducible exact ih3 _ _ _ _ _ _ _ _ _ _ _ _)
      | (with_reducible exact ih4 _ _ _ _ _ _ _ _)
      | (with_reducible exact ih5 _ _ _ _ _ _ _)
      | (with_reducible exact ih6 _ _ _ _)
      | (with_reducible exact ih7 _ _ _ _ _ _)
      | (with_reducible exact escape_Get.mono _ _)
      | (with_reducible exact escape_List.mono _ _)
      | (with_reducible exact escape_Put.mono _ _)
      | (with_reducible exact escape_Unlist.mono _ _)
      | (with_reducible exact solsticekeep_Texts.mono _ _ _)
      | (with_reducible exact solsticelaw05_Heavy.mono _ _)
      | (with_reducible exact solsticelaw17_wakes.mono _)
      | (with_reducible exact solsticeref16_Get.mono _ _)
      | (with_reducible exact solsticeref16_Pieces.mono _ _)
      | (with_reducible exact solsticeref16_Put.mono _ _)
      | (with_reducible exact LeO.refl _)
      | (with_reducible exact LeO.none _)
      | (with_reducible refine LeO.ite ?_ ?_)
      | (with_reducible refine LeO.bind ?_ (fun _ => ?_))
      | exact ih0 _ _ _
      | exact ih1 _ _ _ _ _ _ _
      | exact ih2 _ _ _ _ _ _ _ _ _
      | exact ih3 _ _ _ _ _ _ _ _ _ _ _ _
      | exact ih4 _ _ _ _ _ _ _ _
      | exact ih5 _ _ _ _ _ _ _
      | exact ih6 _ _ _ _
      | exact ih7 _ _ _ _ _ _
      | exact escape_Get.mono _ _
      | exact escape_List.mono _ _
      | exact escape_Put.mono _ _
      | exact escape_Unlist.mono _ _
      | exact solsticekeep_Texts.mono _ _ _
      | exact solsticelaw05_Heavy.mono _ _
      | exact solsticelaw17_wakes.mono _
      | exact solsticeref16_Get.mono _ _
      | exact solsticeref16_Pieces.mono _ _
      | exact solsticeref16_Put.mono _ _
      | exact LeO.none _
      | refine LeO.ite ?_ ?_
      | refine LeO.bind ?_ (fun _ => ?_)
    · intro y0 y1 y2 y3 y4 y5
      unfold solsticelaw17_EscapeExact.l1
      repeat' first
      | (with_reducible exact ih0 _ _ _)
      | (with_reducible exact ih1 _ _ _ _ _ _ _)
      | (with_reducible exact ih2 _ _ _ _ _ _ _ _ _)
      | (with_reducible exact ih3 _ _ _ _ _ _ _ _ _ _ _ _)
      | (with_reducible exact ih4 _ _ _ _ _ _ _ _)
      | (with_reducible exact ih5 _ _ _ _ _ _ _)
      | (with_reducible exact ih6 _ _ _ _)
      | (with_reducible exact ih7 _ _ _ _ _ _)
      | (with_reducible exact escape_Get.mono _ _)
      | (with_reducible exact escape_List.mono _ _)
      | (with_reducible exact escape_Put.mono _ _)
      | (with_reducible exact escape_Unlist.mono _ _)
      | (with_reducible exact solsticekeep_Texts.mono _ _ _)
      | (with_reducible exact solsticelaw05_Heavy.mono _ _)
      | (with_reducible exact solsticelaw17_wakes.mono _)
      | (with_reducible exact solsticeref16_Get.mono _ _)
      | (with_reducible exact solsticeref16_Pieces.mono _ _)
      | (with_reducible exact solsticeref16_Put.mono _ _)
      | (with_reducible exact LeO.refl _)
      | (with_reducible exact LeO.none _)
      | (with_reducible refine LeO.ite ?_ ?_)
      | (with_reducible refine LeO.bind ?_ (fun _ => ?_))
      | exact ih0 _ _ _
      | exact ih1 _ _ _ _ _ _ _
      | exact ih2 _ _ _ _ _ _ _ _ _
      | exact ih3 _ _ _ _ _ _ _ _ _ _ _ _
      | exact ih4 _ _ _ _ _ _ _ _
      | exact ih5 _ _ _ _ _ _ _
      | exact ih6 _ _ _ _
      | exact ih7 _ _ _ _ _ _
      | exact escape_Get.mono _ _
      | exact escape_List.mono _ _
      | exact escape_Put.mono _ _
      | exact escape_Unlist.mono _ _
      | exact solsticekeep_Texts.mono _ _ _
      | exact solsticelaw05_Heavy.mono _ _
      | exact solsticelaw17_wakes.mono _
      | exact solsticeref16_Get.mono _ _
      | exact solsticeref16_Pieces.mono _ _
      | exact solsticeref16_Put.mono _ _
      | exact LeO.none _
      | refine LeO.ite ?_ ?_
      | refine LeO.bind ?_ (fun _ => ?_)
theorem solsticelaw17_EscapeExact.mono : ∀ a0 a1 k, LeO (solsticelaw17_EscapeExact.f k a0 a1) (solsticelaw17_EscapeExact.f (k + 1) a0 a1) := by
  intro a0 a1 k
  obtain ⟨ih0, ih1, ih2, ih3, ih4, ih5, ih6, ih7⟩ := solsticelaw17_EscapeExact.mono_l k
  unfold solsticelaw17_EscapeExact.f
  repeat' first
      | (with_reducible exact ih0 _ _ _)
      | (with_reducible exact ih1 _ _ _ _ _ _ _)
      | (with_reducible exact ih2 _ _ _ _ _ _ _ _ _)
      | (with_reducible exact ih3 _ _ _ _ _ _ _ _ _ _ _ _)
      | (with_reducible exact ih4 _ _ _ _ _ _ _ _)
      | (with_reducible exact ih5 _ _ _ _ _ _ _)
      | (with_reducible exact ih6 _ _ _ _)
      | (with_reducible exact ih7 _ _ _ _ _ _)
      | (with_reducible exact escape_Get.mono _ _)
      | (with_reducible exact escape_List.mono _ _)
      | (with_reducible exact escape_Put.mono _ _)
      | (with_reducible exact escape_Unlist.mono _ _)
      | (with_reducible exact solsticekeep_Texts.mono _ _ _)
      | (with_reducible exact solsticelaw05_Heavy.mono _ _)
      | (with_reducible exact solsticelaw17_wakes.mono _)
      | (with_reducible exact solsticeref16_Get.mono _ _)
      | (with_reducible exact solsticeref16_Pieces.mono _ _)
      | (with_reducible exact solsticeref16_Put.mono _ _)
      | (with_reducible exact LeO.refl _)
      | (with_reducible exact LeO.none _)
      | (with_reducible refine LeO.ite ?_ ?_)
      | (with_reducible refine LeO.bind ?_ (fun _ => ?_))
      | exact ih0 _ _ _
      | exact ih1 _ _ _ _ _ _ _
      | exact ih2 _ _ _ _ _ _ _ _ _
      | exact ih3 _ _ _ _ _ _ _ _ _ _ _ _
      | exact ih4 _ _ _ _ _ _ _ _
      | exact ih5 _ _ _ _ _ _ _
      | exact ih6 _ _ _ _
      | exact ih7 _ _ _ _ _ _
      | exact escape_Get.mono _ _
      | exact escape_List.mono _ _
      | exact escape_Put.mono _ _
      | exact escape_Unlist.mono _ _
      | exact solsticekeep_Texts.mono _ _ _
      | exact solsticelaw05_Heavy.mono _ _
      | exact solsticelaw17_wakes.mono _
      | exact solsticeref16_Get.mono _ _
      | exact solsticeref16_Pieces.mono _ _
      | exact solsticeref16_Put.mono _ _
      | exact LeO.none _
      | refine LeO.ite ?_ ?_
      | refine LeO.bind ?_ (fun _ => ?_)
set_option maxHeartbeats 8000000 in
set_option maxRecDepth 100000 in
theorem solsticelaw17_EscapeExact.calls (k : Nat) (a0 : ByteArray) (A1 : Option Addr) (c1 : Nat) (l1 : List ByteArray) (r : Bool) (w : World) (hr1 : Kd.C Kd.string w A1 l1.length l1) (hc1 : l1.length ≤ c1) (h : solsticelaw17_EscapeExact.f k a0 l1 = some r) :
    Calls Try.prog 3 #[.string a0, .slice A1 l1.length c1] w fun e w' => e = .returned (.bool r) ∧ Below w.heap.size w w' := by
  have HR1 := Aside0.mk hr1
  have HC1 := Aside0.mk hc1
  clear hr1 hc1
  have HB := Aside0.mk (Below.refl w.heap.size w)
  have H : (if (a0.size : Int) > 1000 then (solsticelaw17_EscapeExact.j0 k a0 l1 true) else ((solsticelaw05_Heavy.f k l1).bind fun t242 => (solsticelaw17_EscapeExact.j0 k a0 l1 t242))) = some r := h
  clear h
  have HC3 := Aside0.mk H
  clear H
  go_enter Try.func3, Try.ntmps3
  go_upto_region 1 with (fail)
  go_cut [34] (fun v34 wc => ∃ (kq : Nat) (x34_2 : Bool), v34 = .bool x34_2 ∧ Aside0 (solsticelaw17_EscapeExact.j0 kq a0 l1 x34_2 = some r) ∧ Aside0 (kq ≤ k) ∧ Aside0 (Below w.heap.size w wc))
  case first =>
    have H := HC3.out
    clear HC3
    by_cases c4 : (a0.size : Int) > 1000
    · rw [if_pos c4] at H
      have c4b0 : decide (1000 < (a0.size : Int)) = true := decide_eq_true c4
      have c4b1 : decide (1000 < a0.size) = true := decide_eq_true (by omega)
      clear c4
      (first | rw [c4b0] | (simp only [i64_w, i32_w]; rw [c4b0]) | skip)
      have H' := Aside0.mk H
      clear H
      go_wp2
      go_meet
      case rel => exact ⟨_, (true), (by first | rfl | (simp; done) | (simp [*]; done)), H', ⟨by first | omega | exact Nat.le_refl _⟩, ⟨by repeat (first | (with_reducible first | exact HB.out | apply below_alloc | apply pw_below_drewN | apply below_drew1) | exact HB.out)⟩⟩
    · rw [if_neg c4] at H
      have c4b0 : decide (1000 < (a0.size : Int)) = false := decide_eq_false c4
      have c4b1 : decide (1000 < a0.size) = false := decide_eq_false (by omega)
      clear c4
      (first | rw [c4b0] | (simp only [i64_w, i32_w]; rw [c4b0]) | skip)
      replace H := Option.bind_eq_some_iff.mp H
      obtain ⟨t242, A50, H⟩ := H
      replace H : (solsticelaw17_EscapeExact.j0 k a0 l1 t242) = some r := H
      have A5 := Aside0.mk A50
      clear A50
      have H' := Aside0.mk H
      clear H
      go_wp2_with (first | (go_at_call 11; (with_reducible refine (solsticelaw05_Heavy.calls k _ _ l1 t242 _ ?side1 ?side2 A5.out).mono ?_); (case side1 => repeat (first | exact (Kd.C_below HR1.out HB.out) | (with_reducible refine Kd.C_alloc ?_ _) | (with_reducible refine Kd.C_drewN ?_ _) | (with_reducible refine Kd.C_drew ?_))); (case side2 => exact HC1.out); rintro e w' ⟨rfl, ⟨nd, rfl⟩⟩))
      go_meet
      case rel => exact ⟨_, (t242), (by first | rfl | (simp; done) | (simp [*]; done)), H', ⟨by first | omega | exact Nat.le_refl _⟩, ⟨by repeat (first | (with_reducible first | exact HB.out | apply below_alloc | apply pw_below_drewN | apply below_drew1) | exact HB.out)⟩⟩
  case rest =>
    as_aux_lemma =>
      clear HC3
      try clear c1
      try clear p2
      try clear c3
      try clear c4
      try clear c4b0
      try clear c4b1
      obtain ⟨kq, x34_2, rfl, HA, HJ2, HB⟩ := hcut
      cases kq with
      | zero => exact absurd HA.out (by simp [solsticelaw17_EscapeExact.j0])
      | succ kj2 =>
        have H := HA.out
        clear HA
        simp only [solsticelaw17_EscapeExact.j0] at H
        by_cases c6 : x34_2 = true
        · subst c6
          have H1 : (some true) = some r := by rw [if_pos rfl] at H; exact H
          clear H
          have H := H1
          clear H1
          obtain rfl := Option.some.inj H
          go_wp2
          go_ret
          exact ⟨by first | rfl | (simp [errW_none, errW_some] <;> rfl) | (simp [*, errW_none, errW_some] <;> rfl), by repeat (first | (with_reducible first | exact HB.out | apply below_alloc | apply pw_below_drewN | apply below_drew1) | exact HB.out)⟩
        · replace c6 := Bool.eq_false_iff.mpr c6
          subst c6
          have H1 : ((solsticekeep_TwinTexts.f l1).bind fun t243 => ((escape_Put.f kj2 a0).bind fun bt246 => ((escape_Get.f kj2 a0).bind fun bt248 => ((escape_List.f kj2 t243).bind fun bt250 => ((escape_Unlist.f kj2 a0).bind fun bt252 => ((solsticeref16_Put.f kj2 a0).bind fun bt256 => ((solsticeref16_Get.f kj2 a0).bind fun bt258 => (if bt246.2 = bt256.2 then (if bt246.1.toList = bt256.1.toList then (if bt248.2 = bt258.2 then (if bt248.1.toList = bt258.1.toList then ((solsticekeep_Texts.f kj2 t243 l1).bind fun t260 => (solsticelaw17_EscapeExact.j1 kj2 a0 l1 bt250.1 bt250.2 bt252.1 bt252.2 (!t260))) else (solsticelaw17_EscapeExact.j1 kj2 a0 l1 bt250.1 bt250.2 bt252.1 bt252.2 true)) else (solsticelaw17_EscapeExact.j1 kj2 a0 l1 bt250.1 bt250.2 bt252.1 bt252.2 true)) else (solsticelaw17_EscapeExact.j1 kj2 a0 l1 bt250.1 bt250.2 bt252.1 bt252.2 true)) else (solsticelaw17_EscapeExact.j1 kj2 a0 l1 bt250.1 bt250.2 bt252.1 bt252.2 true))))))))) = some r := by rw [if_neg (show ¬ (false = true) by decide)] at H; exact H
          clear H
          have H := H1
          clear H1
          replace H := Option.bind_eq_some_iff.mp H
          obtain ⟨t243, A70, H⟩ := H
          replace H : ((escape_Put.f kj2 a0).bind fun bt246 => ((escape_Get.f kj2 a0).bind fun bt248 => ((escape_List.f kj2 t243).bind fun bt250 => ((escape_Unlist.f kj2 a0).bind fun bt252 => ((solsticeref16_Put.f kj2 a0).bind fun bt256 => ((solsticeref16_Get.f kj2 a0).bind fun bt258 => (if bt246.2 = bt256.2 then (if bt246.1.toList = bt256.1.toList then (if bt248.2 = bt258.2 then (if bt248.1.toList = bt258.1.toList then ((solsticekeep_Texts.f kj2 t243 l1).bind fun t260 => (solsticelaw17_EscapeExact.j1 kj2 a0 l1 bt250.1 bt250.2 bt252.1 bt252.2 (!t260))) else (solsticelaw17_EscapeExact.j1 kj2 a0 l1 bt250.1 bt250.2 bt252.1 bt252.2 true)) else (solsticelaw17_EscapeExact.j1 kj2 a0 l1 bt250.1 bt250.2 bt252.1 bt252.2 true)) else (solsticelaw17_EscapeExact.j1 kj2 a0 l1 bt250.1 bt250.2 bt252.1 bt252.2 true)) else (solsticelaw17_EscapeExact.j1 kj2 a0 l1 bt250.1 bt250.2 bt252.1 bt252.2 true)))))))) = some r := H
          have A7 := Aside0.mk A70
          clear A70
          replace H := Option.bind_eq_some_iff.mp H
          obtain ⟨⟨t246, t247⟩, A80, H⟩ := H
          replace H : ((escape_Get.f kj2 a0).bind fun bt248 => ((escape_List.f kj2 t243).bind fun bt250 => ((escape_Unlist.f kj2 a0).bind fun bt252 => ((solsticeref16_Put.f kj2 a0).bind fun bt256 => ((solsticeref16_Get.f kj2 a0).bind fun bt258 => (if t247 = bt256.2 then (if t246.toList = bt256.1.toList then (if bt248.2 = bt258.2 then (if bt248.1.toList = bt258.1.toList then ((solsticekeep_Texts.f kj2 t243 l1).bind fun t260 => (solsticelaw17_EscapeExact.j1 kj2 a0 l1 bt250.1 bt250.2 bt252.1 bt252.2 (!t260))) else (solsticelaw17_EscapeExact.j1 kj2 a0 l1 bt250.1 bt250.2 bt252.1 bt252.2 true)) else (solsticelaw17_EscapeExact.j1 kj2 a0 l1 bt250.1 bt250.2 bt252.1 bt252.2 true)) else (solsticelaw17_EscapeExact.j1 kj2 a0 l1 bt250.1 bt250.2 bt252.1 bt252.2 true)) else (solsticelaw17_EscapeExact.j1 kj2 a0 l1 bt250.1 bt250.2 bt252.1 bt252.2 true))))))) = some r := H
          have A8 := Aside0.mk A80
          clear A80
          replace H := Option.bind_eq_some_iff.mp H
          obtain ⟨⟨t248, t249⟩, A90, H⟩ := H
          replace H : ((escape_List.f kj2 t243).bind fun bt250 => ((escape_Unlist.f kj2 a0).bind fun bt252 => ((solsticeref16_Put.f kj2 a0).bind fun bt256 => ((solsticeref16_Get.f kj2 a0).bind fun bt258 => (if t247 = bt256.2 then (if t246.toList = bt256.1.toList then (if t249 = bt258.2 then (if t248.toList = bt258.1.toList then ((solsticekeep_Texts.f kj2 t243 l1).bind fun t260 => (solsticelaw17_EscapeExact.j1 kj2 a0 l1 bt250.1 bt250.2 bt252.1 bt252.2 (!t260))) else (solsticelaw17_EscapeExact.j1 kj2 a0 l1 bt250.1 bt250.2 bt252.1 bt252.2 true)) else (solsticelaw17_EscapeExact.j1 kj2 a0 l1 bt250.1 bt250.2 bt252.1 bt252.2 true)) else (solsticelaw17_EscapeExact.j1 kj2 a0 l1 bt250.1 bt250.2 bt252.1 bt252.2 true)) else (solsticelaw17_EscapeExact.j1 kj2 a0 l1 bt250.1 bt250.2 bt252.1 bt252.2 true)))))) = some r := H
          have A9 := Aside0.mk A90
          clear A90
          replace H := Option.bind_eq_some_iff.mp H
          obtain ⟨⟨t250, t251⟩, A100, H⟩ := H
          replace H : ((escape_Unlist.f kj2 a0).bind fun bt252 => ((solsticeref16_Put.f kj2 a0).bind fun bt256 => ((solsticeref16_Get.f kj2 a0).bind fun bt258 => (if t247 = bt256.2 then (if t246.toList = bt256.1.toList then (if t249 = bt258.2 then (if t248.toList = bt258.1.toList then ((solsticekeep_Texts.f kj2 t243 l1).bind fun t260 => (solsticelaw17_EscapeExact.j1 kj2 a0 l1 t250 t251 bt252.1 bt252.2 (!t260))) else (solsticelaw17_EscapeExact.j1 kj2 a0 l1 t250 t251 bt252.1 bt252.2 true)) else (solsticelaw17_EscapeExact.j1 kj2 a0 l1 t250 t251 bt252.1 bt252.2 true)) else (solsticelaw17_EscapeExact.j1 kj2 a0 l1 t250 t251 bt252.1 bt252.2 true)) else (solsticelaw17_EscapeExact.j1 kj2 a0 l1 t250 t251 bt252.1 bt252.2 true))))) = some r := H
          have A10 := Aside0.mk A100
          clear A100
          replace H := Option.bind_eq_some_iff.mp H
          obtain ⟨⟨t252, t253⟩, A110, H⟩ := H
          replace H : ((solsticeref16_Put.f kj2 a0).bind fun bt256 => ((solsticeref16_Get.f kj2 a0).bind fun bt258 => (if t247 = bt256.2 then (if t246.toList = bt256.1.toList then (if t249 = bt258.2 then (if t248.toList = bt258.1.toList then ((solsticekeep_Texts.f kj2 t243 l1).bind fun t260 => (solsticelaw17_EscapeExact.j1 kj2 a0 l1 t250 t251 t252 t253 (!t260))) else (solsticelaw17_EscapeExact.j1 kj2 a0 l1 t250 t251 t252 t253 true)) else (solsticelaw17_EscapeExact.j1 kj2 a0 l1 t250 t251 t252 t253 true)) else (solsticelaw17_EscapeExact.j1 kj2 a0 l1 t250 t251 t252 t253 true)) else (solsticelaw17_EscapeExact.j1 kj2 a0 l1 t250 t251 t252 t253 true)))) = some r := H
          have A11 := Aside0.mk A110
          clear A110
          replace H := Option.bind_eq_some_iff.mp H
          obtain ⟨⟨t256, t257⟩, A120, H⟩ := H
          replace H : ((solsticeref16_Get.f kj2 a0).bind fun bt258 => (if t247 = t257 then (if t246.toList = t256.toList then (if t249 = bt258.2 then (if t248.toList = bt258.1.toList then ((solsticekeep_Texts.f kj2 t243 l1).bind fun t260 => (solsticelaw17_EscapeExact.j1 kj2 a0 l1 t250 t251 t252 t253 (!t260))) else (solsticelaw17_EscapeExact.j1 kj2 a0 l1 t250 t251 t252 t253 true)) else (solsticelaw17_EscapeExact.j1 kj2 a0 l1 t250 t251 t252 t253 true)) else (solsticelaw17_EscapeExact.j1 kj2 a0 l1 t250 t251 t252 t253 true)) else (solsticelaw17_EscapeExact.j1 kj2 a0 l1 t250 t251 t252 t253 true))) = some r := H
          have A12 := Aside0.mk A120
          clear A120
          replace H := Option.bind_eq_some_iff.mp H
          obtain ⟨⟨t258, t259⟩, A130, H⟩ := H
          replace H : (if t247 = t257 then (if t246.toList = t256.toList then (if t249 = t259 then (if t248.toList = t258.toList then ((solsticekeep_Texts.f kj2 t243 l1).bind fun t260 => (solsticelaw17_EscapeExact.j1 kj2 a0 l1 t250 t251 t252 t253 (!t260))) else (solsticelaw17_EscapeExact.j1 kj2 a0 l1 t250 t251 t252 t253 true)) else (solsticelaw17_EscapeExact.j1 kj2 a0 l1 t250 t251 t252 t253 true)) else (solsticelaw17_EscapeExact.j1 kj2 a0 l1 t250 t251 t252 t253 true)) else (solsticelaw17_EscapeExact.j1 kj2 a0 l1 t250 t251 t252 t253 true)) = some r := H
          have A13 := Aside0.mk A130
          clear A130
          have HC14 := Aside0.mk H
          clear H
          go_upto_region 10 with (first | ((with_reducible refine gate_callee (f := 12) rfl ?_); refine goesL_ (some 36) rfl rfl Try.func12 (by kernel_rfl) rfl #[.slice A1 l1.length c1] rfl (by (try simp only [List.map_toArray, List.map_cons, List.map_nil]); first | done | rfl | (simp only [List.length_drop, List.length_take]; rfl)) ?_; (with_reducible refine (solsticekeep_TwinTexts.calls _ _ l1 t243 _ ?side1 ?side2 A7.out).mono ?_); (case side1 => repeat (first | exact (Kd.C_below HR1.out HB.out) | (with_reducible refine Kd.C_alloc ?_ _) | (with_reducible refine Kd.C_drewN ?_ _) | (with_reducible refine Kd.C_drew ?_))); (case side2 => exact HC1.out); rintro e w15 ⟨v244, rfl, ho0, hb⟩; refine ⟨_, rfl, ?_⟩; have n0_ := Aside0.mk (Kd.R_lower ho0 (below_size (by repeat (first | (with_reducible first | exact HB.out | apply below_alloc | apply pw_below_drewN | apply below_drew1) | exact HB.out)))); have n1_ := Aside0.mk (below_step (by repeat (first | (with_reducible first | exact HB.out | apply below_alloc | apply pw_below_drewN | apply below_drew1) | exact HB.out)) hb); clear HB; have HO245 := n0_; have HB := n1_; clear n0_ n1_; (try clear hb); (try clear hb2); (try clear hk); (try clear hi); (try clear ho0)) | ((with_reducible refine gate_callee (f := 13) rfl ?_); refine goesL_ (some 39) rfl rfl Try.func13 (by kernel_rfl) rfl #[.string a0] rfl (by (try simp only [List.map_toArray, List.map_cons, List.map_nil]); first | done | rfl | (simp only [List.length_drop, List.length_take]; rfl)) ?_; (with_reducible refine (escape_Put.calls kj2 a0 t246 t247 _ A8.out).mono ?_); rintro e w16 ⟨rfl, hb⟩; refine ⟨_, rfl, ?_⟩; have n0_ := Aside0.mk (Kd.R_below (by (with_reducible repeat (first | apply Kd.R_alloc | apply Kd.R_drewN | apply Kd.R_drew)); exact HO245.out) hb); have n1_ := Aside0.mk (below_step (by repeat (first | (with_reducible first | exact HB.out | apply below_alloc | apply pw_below_drewN | apply below_drew1) | exact HB.out)) hb); clear HO245; clear HB; have HO245 := n0_; have HB := n1_; clear n0_ n1_; (try clear hb); (try clear hb2); (try clear hk); (try clear hi)) | ((with_reducible refine gate_callee (f := 14) rfl ?_); refine goesL_ (some 44) rfl rfl Try.func14 (by kernel_rfl) rfl #[.string a0] rfl (by (try simp only [List.map_toArray, List.map_cons, List.map_nil]); first | done | rfl | (simp only [List.length_drop, List.length_take]; rfl)) ?_; (with_reducible refine (escape_Get.calls kj2 a0 t248 t249 _ A9.out).mono ?_); rintro e w17 ⟨rfl, hb⟩; refine ⟨_, rfl, ?_⟩; have n0_ := Aside0.mk (Kd.R_below (by (with_reducible repeat (first | apply Kd.R_alloc | apply Kd.R_drewN | apply Kd.R_drew)); exact HO245.out) hb); have n1_ := Aside0.mk (below_step (by repeat (first | (with_reducible first | exact HB.out | apply below_alloc | apply pw_below_drewN | apply below_drew1) | exact HB.out)) hb); clear HO245; clear HB; have HO245 := n0_; have HB := n1_; clear n0_ n1_; (try clear hb); (try clear hb2); (try clear hk); (try clear hi); obtain ⟨Ao18, co18, eo18⟩ := Kd.R_slice HO245.out; subst eo18) | ((with_reducible refine gate_callee (f := 15) rfl ?_); refine goesL_ (some 49) rfl rfl Try.func15 (by kernel_rfl) rfl #[.slice Ao18 t243.length co18] rfl (by (try simp only [List.map_toArray, List.map_cons, List.map_nil]); first | done | rfl | (simp only [List.length_drop, List.length_take]; rfl)) ?_; (with_reducible refine (escape_List.calls kj2 _ _ t243 t250 t251 _ ?side1 ?side2 A10.out).mono ?_); (case side1 => repeat (first | exact (Kd.R_reads' HO245.out).2.2 | (with_reducible refine Kd.C_alloc ?_ _) | (with_reducible refine Kd.C_drewN ?_ _) | (with_reducible refine Kd.C_drew ?_))); (case side2 => exact (Kd.R_reads' HO245.out).2.1); rintro e w19 ⟨rfl, hb⟩; refine ⟨_, rfl, ?_⟩; have n0_ := Aside0.mk (Kd.R_below (by (with_reducible repeat (first | apply Kd.R_alloc | apply Kd.R_drewN | apply Kd.R_drew)); exact HO245.out) hb); have n1_ := Aside0.mk (below_step (by repeat (first | (with_reducible first | exact HB.out | apply below_alloc | apply pw_below_drewN | apply below_drew1) | exact HB.out)) hb); clear HO245; clear HB; have HO245 := n0_; have HB := n1_; clear n0_ n1_; (try clear hb); (try clear hb2); (try clear hk); (try clear hi)) | ((with_reducible refine gate_callee (f := 16) rfl ?_); refine goesL_ (some 54) rfl rfl Try.func16 (by kernel_rfl) rfl #[.string a0] rfl (by (try simp only [List.map_toArray, List.map_cons, List.map_nil]); first | done | rfl | (simp only [List.length_drop, List.length_take]; rfl)) ?_; (with_reducible refine (escape_Unlist.calls kj2 a0 t252 t253 _ A11.out).mono ?_); rintro e w20 ⟨v254, rfl, ho0, hb⟩; refine ⟨_, rfl, ?_⟩; have n0_ := Aside0.mk (Kd.R_elder' (by (with_reducible repeat (first | apply Kd.R_alloc | apply Kd.R_drewN | apply Kd.R_drew)); exact HO245.out) (Kd.R_base ho0) hb); have n1_ := Aside0.mk (Kd.R_lower (Kd.R_new' ho0 (Kd.R_lt (by (with_reducible repeat (first | apply Kd.R_alloc | apply Kd.R_drewN | apply Kd.R_drew)); exact HO245.out))) (below_size (by repeat (first | (with_reducible first | exact HB.out | apply below_alloc | apply pw_below_drewN | apply below_drew1) | exact HB.out)))); have n2_ := Aside0.mk (below_step (by repeat (first | (with_reducible first | exact HB.out | apply below_alloc | apply pw_below_drewN | apply below_drew1) | exact HB.out)) hb); clear HO245; clear HB; have HO245 := n0_; have HO255 := n1_; have HB := n2_; clear n0_ n1_ n2_; (try clear hb); (try clear hb2); (try clear hk); (try clear hi); (try clear ho0)) | ((with_reducible refine gate_callee (f := 17) rfl ?_); refine goesL_ (some 59) rfl rfl Try.func17 (by kernel_rfl) rfl #[.string a0] rfl (by (try simp only [List.map_toArray, List.map_cons, List.map_nil]); first | done | rfl | (simp only [List.length_drop, List.length_take]; rfl)) ?_; (with_reducible refine (solsticeref16_Put.calls kj2 a0 t256 t257 _ A12.out).mono ?_); rintro e w21 ⟨rfl, hb⟩; refine ⟨_, rfl, ?_⟩; have n0_ := Aside0.mk (Kd.R_below (by (with_reducible repeat (first | apply Kd.R_alloc | apply Kd.R_drewN | apply Kd.R_drew)); exact HO245.out) hb); have n1_ := Aside0.mk (Kd.R_below (by (with_reducible repeat (first | apply Kd.R_alloc | apply Kd.R_drewN | apply Kd.R_drew)); exact HO255.out) hb); have n2_ := Aside0.mk (below_step (by repeat (first | (with_reducible first | exact HB.out | apply below_alloc | apply pw_below_drewN | apply below_drew1) | exact HB.out)) hb); clear HO245; clear HO255; clear HB; have HO245 := n0_; have HO255 := n1_; have HB := n2_; clear n0_ n1_ n2_; (try clear hb); (try clear hb2); (try clear hk); (try clear hi)) | ((with_reducible refine gate_callee (f := 18) rfl ?_); refine goesL_ (some 64) rfl rfl Try.func18 (by kernel_rfl) rfl #[.string a0] rfl (by (try simp only [List.map_toArray, List.map_cons, List.map_nil]); first | done | rfl | (simp only [List.length_drop, List.length_take]; rfl)) ?_; (with_reducible refine (solsticeref16_Get.calls kj2 a0 t258 t259 _ A13.out).mono ?_); rintro e w22 ⟨rfl, hb⟩; refine ⟨_, rfl, ?_⟩; have n0_ := Aside0.mk (Kd.R_below (by (with_reducible repeat (first | apply Kd.R_alloc | apply Kd.R_drewN | apply Kd.R_drew)); exact HO245.out) hb); have n1_ := Aside0.mk (Kd.R_below (by (with_reducible repeat (first | apply Kd.R_alloc | apply Kd.R_drewN | apply Kd.R_drew)); exact HO255.out) hb); have n2_ := Aside0.mk (below_step (by repeat (first | (with_reducible first | exact HB.out | apply below_alloc | apply pw_below_drewN | apply below_drew1) | exact HB.out)) hb); clear HO245; clear HO255; clear HB; have HO245 := n0_; have HO255 := n1_; have HB := n2_; clear n0_ n1_ n2_; (try clear hb); (try clear hb2); (try clear hk); (try clear hi)))
          (try simp only [Act.put, List.setIfInBounds_toArray, List.set_cons_zero, List.set_cons_succ])
          go_cut [90] (fun v90 wc => ∃ (kq : Nat) (x90_13 : Bool), v90 = .bool x90_13 ∧ Aside0 (solsticelaw17_EscapeExact.j1 kq a0 l1 t250 t251 t252 t253 x90_13 = some r) ∧ Aside0 (kq ≤ kj2) ∧ Aside0 (Kd.R Kd.string 9 wc w.heap.size (fun _ => True) v254 t252) ∧ Aside0 (Below w.heap.size w wc))
          case first =>
            have H := HC14.out
            clear HC14
            by_cases c23 : t247 = t257
            · rw [if_pos c23] at H
              have c23b0 : (t247 == t257) = true := beq_iff_eq.mpr c23
              have c23b1 : (t247 != t257) = false := bne_eq_false_iff_eq.mpr c23
              clear c23
              (first | rw [c23b0] | (simp only [i64_w, i32_w]; rw [c23b0]) | skip)
              by_cases c24 : t246.toList = t256.toList
              · rw [if_pos c24] at H
                have c24b0 : (t246.toList == t256.toList) = true := beq_iff_eq.mpr c24
                have c24b1 : (t246.toList != t256.toList) = false := bne_eq_false_iff_eq.mpr c24
                clear c24
                by_cases c25 : t249 = t259
                · rw [if_pos c25] at H
                  have c25b0 : (t249 == t259) = true := beq_iff_eq.mpr c25
                  have c25b1 : (t249 != t259) = false := bne_eq_false_iff_eq.mpr c25
                  clear c25
                  by_cases c26 : t248.toList = t258.toList
                  · rw [if_pos c26] at H
                    have c26b0 : (t248.toList == t258.toList) = true := beq_iff_eq.mpr c26
                    have c26b1 : (t248.toList != t258.toList) = false := bne_eq_false_iff_eq.mpr c26
                    clear c26
                    replace H := Option.bind_eq_some_iff.mp H
                    obtain ⟨t260, A270, H⟩ := H
                    replace H : (solsticelaw17_EscapeExact.j1 kj2 a0 l1 t250 t251 t252 t253 (!t260)) = some r := H
                    have A27 := Aside0.mk A270
                    clear A270
                    have H' := Aside0.mk H
                    clear H
                    go_wp2_with (first | (go_at_call 19; (with_reducible refine (solsticekeep_Texts.calls kj2 _ _ t243 _ _ l1 t260 _ ?side1 ?side2 ?side3 ?side4 A27.out).mono ?_); (case side1 => repeat (first | exact (Kd.R_reads' HO245.out).2.2 | (with_reducible refine Kd.C_alloc ?_ _) | (with_reducible refine Kd.C_drewN ?_ _) | (with_reducible refine Kd.C_drew ?_))); (case side2 => exact (Kd.R_reads' HO245.out).2.1); (case side3 => repeat (first | exact (Kd.C_below HR1.out HB.out) | (with_reducible refine Kd.C_alloc ?_ _) | (with_reducible refine Kd.C_drewN ?_ _) | (with_reducible refine Kd.C_drew ?_))); (case side4 => exact HC1.out); rintro e w' ⟨rfl, ⟨nd, rfl⟩⟩))
                    go_meet
                    case rel => exact ⟨_, (!t260), (by first | rfl | (simp; done) | (simp [*]; done)), H', ⟨by have := HJ2.out; first | omega | exact Nat.le_refl _⟩, ⟨by (with_reducible repeat (first | apply Kd.R_alloc | apply Kd.R_drewN | apply Kd.R_drew)); exact Kd.R_mono HO255.out (fun _ hk => trivial)⟩, ⟨by repeat (first | (with_reducible first | exact HB.out | apply below_alloc | apply pw_below_drewN | apply below_drew1) | exact HB.out)⟩⟩
                  · rw [if_neg c26] at H
                    have c26b0 : (t248.toList == t258.toList) = false := beq_eq_false_iff_ne.mpr c26
                    have c26b1 : (t248.toList != t258.toList) = true := bne_iff_ne.mpr c26
                    have H' := Aside0.mk H
                    clear H
                    go_wp2
                    go_meet
                    case rel => exact ⟨_, (true), (by first | rfl | (simp; done) | (simp [*]; done)), H', ⟨by have := HJ2.out; first | omega | exact Nat.le_refl _⟩, ⟨by (with_reducible repeat (first | apply Kd.R_alloc | apply Kd.R_drewN | apply Kd.R_drew)); exact Kd.R_mono HO255.out (fun _ hk => trivial)⟩, ⟨by repeat (first | (with_reducible first | exact HB.out | apply below_alloc | apply pw_below_drewN | apply below_drew1) | exact HB.out)⟩⟩
                · rw [if_neg c25] at H
                  have c25b0 : (t249 == t259) = false := beq_eq_false_iff_ne.mpr c25
                  have c25b1 : (t249 != t259) = true := bne_iff_ne.mpr c25
                  have H' := Aside0.mk H
                  clear H
                  go_wp2
                  go_meet
                  case rel => exact ⟨_, (true), (by first | rfl | (simp; done) | (simp [*]; done)), H', ⟨by have := HJ2.out; first | omega | exact Nat.le_refl _⟩, ⟨by (with_reducible repeat (first | apply Kd.R_alloc | apply Kd.R_drewN | apply Kd.R_drew)); exact Kd.R_mono HO255.out (fun _ hk => trivial)⟩, ⟨by repeat (first | (with_reducible first | exact HB.out | apply below_alloc | apply pw_below_drewN | apply below_drew1) | exact HB.out)⟩⟩
              · rw [if_neg c24] at H
                have c24b0 : (t246.toList == t256.toList) = false := beq_eq_false_iff_ne.mpr c24
                have c24b1 : (t246.toList != t256.toList) = true := bne_iff_ne.mpr c24
                have H' := Aside0.mk H
                clear H
                go_wp2
                go_meet
                case rel => exact ⟨_, (true), (by first | rfl | (simp; done) | (simp [*]; done)), H', ⟨by have := HJ2.out; first | omega | exact Nat.le_refl _⟩, ⟨by (with_reducible repeat (first | apply Kd.R_alloc | apply Kd.R_drewN | apply Kd.R_drew)); exact Kd.R_mono HO255.out (fun _ hk => trivial)⟩, ⟨by repeat (first | (with_reducible first | exact HB.out | apply below_alloc | apply pw_below_drewN | apply below_drew1) | exact HB.out)⟩⟩
            · rw [if_neg c23] at H
              have c23b0 : (t247 == t257) = false := beq_eq_false_iff_ne.mpr c23
              have c23b1 : (t247 != t257) = true := bne_iff_ne.mpr c23
              (first | rw [c23b0] | (simp only [i64_w, i32_w]; rw [c23b0]) | skip)
              have H' := Aside0.mk H
              clear H
              go_wp2
              go_meet
              case rel => exact ⟨_, (true), (by first | rfl | (simp; done) | (simp [*]; done)), H', ⟨by have := HJ2.out; first | omega | exact Nat.le_refl _⟩, ⟨by (with_reducible repeat (first | apply Kd.R_alloc | apply Kd.R_drewN | apply Kd.R_drew)); exact Kd.R_mono HO255.out (fun _ hk => trivial)⟩, ⟨by repeat (first | (with_reducible first | exact HB.out | apply below_alloc | apply pw_below_drewN | apply below_drew1) | exact HB.out)⟩⟩
          case rest =>
            as_aux_lemma =>
              clear HC14
              try clear c1
              try clear c2
              try clear p2
              try clear c3
              try clear c4
              try clear c4b0
              try clear c4b1
              try clear c6
              try clear c12
              try clear c13
              try clear c14
              try clear c15
              try clear c16
              try clear c17
              try clear c18
              try clear c23
              try clear c23b0
              try clear c23b1
              try clear c24
              try clear c24b0
              try clear c24b1
              try clear c25
              try clear c25b0
              try clear c25b1
              try clear c26
              try clear c26b0
              try clear c26b1
              try clear p2
              obtain ⟨kq, x90_13, rfl, HA, HJ13, HO_12, HB⟩ := hcut
              cases kq with
              | zero => exact absurd HA.out (by simp [solsticelaw17_EscapeExact.j1])
              | succ kj13 =>
                have H := HA.out
                clear HA
                simp only [solsticelaw17_EscapeExact.j1] at H
                by_cases c28 : x90_13 = true
                · subst c28
                  have H1 : (some false) = some r := by rw [if_pos rfl] at H; exact H
                  clear H
                  have H := H1
                  clear H1
                  obtain rfl := Option.some.inj H
                  go_wp2
                  go_ret
                  exact ⟨by first | rfl | (simp [errW_none, errW_some] <;> rfl) | (simp [*, errW_none, errW_some] <;> rfl), by repeat (first | (with_reducible first | exact HB.out | apply below_alloc | apply pw_below_drewN | apply below_drew1) | exact HB.out)⟩
                · replace c28 := Bool.eq_false_iff.mpr c28
                  subst c28
                  have H1 : (solsticelaw17_EscapeExact.l0 kj13 a0 l1 t250 t251 t252 t253 (⟨#[]⟩ : ByteArray) 0 0) = some r := by rw [if_neg (show ¬ (false = true) by decide)] at H; exact H
                  clear H
                  have H := H1
                  clear H1
                  have H' := Aside0.mk H
                  clear H
                  go_wp2
                  go_loopg [18, 19, 20] kj13 (fun kq v18 v19 v20 w' => ∃ (x18_3 : ByteArray) (x19_3 : Int) (x20_3 : Int), v18 = .string x18_3 ∧ v19 = .int .i64 x19_3 ∧ v20 = .int .i64 x20_3 ∧ Aside0 (solsticelaw17_EscapeExact.l0 kq a0 l1 t250 t251 t252 t253 x18_3 x19_3 x20_3 = some r) ∧ Aside0 (kq ≤ kj13) ∧ Aside0 (Kd.R Kd.string 9 w' w.heap.size (fun _ => True) v254 t252) ∧ Aside0 (Below w.heap.size w w'))
                  case atStart => exact ⟨((⟨#[]⟩ : ByteArray)), (0), (0), (by first | rfl | (simp; done) | (simp [*]; done)), (by first | rfl | (simp; done) | (simp [*]; done)), (by first | rfl | (simp; done) | (simp [*]; done)), H', ⟨Nat.le_refl _⟩, ⟨by (with_reducible repeat (first | apply Kd.R_alloc | apply Kd.R_drewN | apply Kd.R_drew)); exact HO_12.out⟩, ⟨by repeat (first | (with_reducible first | exact HB.out | apply below_alloc | apply pw_below_drewN | apply below_drew1) | exact HB.out)⟩⟩
                  case round =>
                    as_aux_lemma =>
                      clear H'
                      try clear c1
                      try clear c2
                      try clear p2
                      try clear c3
                      try clear c4
                      try clear c4b0
                      try clear c4b1
                      try clear c6
                      try clear c12
                      try clear c13
                      try clear c14
                      try clear c15
                      try clear c16
                      try clear c17
                      try clear c18
                      try clear c23
                      try clear c23b0
                      try clear c23b1
                      try clear c24
                      try clear c24b0
                      try clear c24b1
                      try clear c25
                      try clear c25b0
                      try clear c25b1
                      try clear c26
                      try clear c26b0
                      try clear c26b1
                      try clear c28
                      try clear p2
                      obtain ⟨x18_3, x19_3, x20_3, rfl, rfl, rfl, HA, HK3, HO_12, HB⟩ := hrel
                      cases gk with
                      | zero => exact absurd HA.out (by simp [solsticelaw17_EscapeExact.l0])
                      | succ k3 =>
                        have H := HA.out
                        clear HA
                        simp only [solsticelaw17_EscapeExact.l0] at H
                        by_cases c29 : x20_3 < (l1.length : Int)
                        · rw [if_pos c29] at H
                          have c29b0 : decide (x20_3 < (l1.length : Int)) = true := decide_eq_true c29
                          clear c29
                          by_cases c30 : 0 ≤ x20_3
                          · rw [if_pos c30] at H
                            have c30b0 : decide (0 ≤ x20_3) = true := decide_eq_true c30
                            clear c30
                            replace H := Option.bind_eq_some_iff.mp H
                            obtain ⟨⟨t262, t263⟩, A310, H⟩ := H
                            replace H : (if t263 = 0 then (solsticelaw17_EscapeExact.j3 k3 a0 l1 t250 t251 t252 t253 x18_3 x19_3 x20_3 t262 t263 false) else (solsticelaw17_EscapeExact.j3 k3 a0 l1 t250 t251 t252 t253 x18_3 x19_3 x20_3 t262 t263 (x19_3 == 0))) = some r := H
                            have A31 := Aside0.mk A310
                            clear A310
                            have HC32 := Aside0.mk H
                            clear H
                            have p261 : 0 ≤ (x20_3 : Int) := of_decide_eq_true (by first | (with_reducible assumption) | assumption)
                            have q261 : x20_3 < (l1.length : Int) := of_decide_eq_true (by first | (with_reducible assumption) | assumption)
                            obtain ⟨ad261, e261, hx261_0⟩ := Kd.at_string HR1.out x20_3 p261 q261
                            cases e261
                            replace hx261_0 := (HB.out.cell (World.block_lt_of_cell? w _ hx261_0)).trans hx261_0
                            replace p261 := eq_true p261
                            replace q261 := eq_true q261
                            go_upto_region 17 with (first | ((with_reducible refine gate_callee (f := 17) rfl ?_); refine goesL_ (some 102) rfl rfl Try.func17 (by kernel_rfl) rfl #[.string (rdOf ByteArray.empty l1 x20_3)] rfl (by (try simp only [List.map_toArray, List.map_cons, List.map_nil]); first | done | rfl | (simp only [List.length_drop, List.length_take]; rfl)) ?_; (with_reducible refine (solsticeref16_Put.calls k3 (rdOf ByteArray.empty l1 x20_3) t262 t263 _ A31.out).mono ?_); rintro e w33 ⟨rfl, hb⟩; refine ⟨_, rfl, ?_⟩; have n0_ := Aside0.mk (Kd.R_below (by (with_reducible repeat (first | apply Kd.R_alloc | apply Kd.R_drewN | apply Kd.R_drew)); exact HO_12.out) hb); have n1_ := Aside0.mk (below_step (by repeat (first | (with_reducible first | exact HB.out | apply below_alloc | apply pw_below_drewN | apply below_drew1) | exact HB.out)) hb); clear HO_12; clear HB; have HO_12 := n0_; have HB := n1_; clear n0_ n1_; (try clear hb); (try clear hb2); (try clear hk); (try clear hi)))
                            (try simp only [Act.put, List.setIfInBounds_toArray, List.set_cons_zero, List.set_cons_succ])
                            go_cut [110] (fun v110 wc => ∃ (kq : Nat) (x110_31 : Bool), v110 = .bool x110_31 ∧ Aside0 (solsticelaw17_EscapeExact.j3 kq a0 l1 t250 t251 t252 t253 x18_3 x19_3 x20_3 t262 t263 x110_31 = some r) ∧ Aside0 (kq ≤ k3) ∧ Aside0 (Kd.R Kd.string 9 wc w.heap.size (fun _ => True) v254 t252) ∧ Aside0 (Below w.heap.size w wc))
                            case first =>
                              have H := HC32.out
                              clear HC32
                              by_cases c34 : t263 = 0
                              · rw [if_pos c34] at H
                                have c34b0 : (t263 == 0) = true := beq_iff_eq.mpr c34
                                have c34b1 : (t263 != 0) = false := bne_eq_false_iff_eq.mpr c34
                                clear c34
                                (first | rw [c34b0] | (simp only [i64_w, i32_w]; rw [c34b0]) | skip)
                                have H' := Aside0.mk H
                                clear H
                                go_wp2
                                go_meet
                                case rel => exact ⟨_, (false), (by first | rfl | (simp; done) | (simp [*]; done)), H', ⟨by have := HJ2.out; have := HJ13.out; have := HK3.out; first | omega | exact Nat.le_refl _⟩, ⟨by (with_reducible repeat (first | apply Kd.R_alloc | apply Kd.R_drewN | apply Kd.R_drew)); exact HO_12.out⟩, ⟨by repeat (first | (with_reducible first | exact HB.out | apply below_alloc | apply pw_below_drewN | apply below_drew1) | exact HB.out)⟩⟩
                              · rw [if_neg c34] at H
                                have c34b0 : (t263 == 0) = false := beq_eq_false_iff_ne.mpr c34
                                have c34b1 : (t263 != 0) = true := bne_iff_ne.mpr c34
                                (first | rw [c34b0] | (simp only [i64_w, i32_w]; rw [c34b0]) | skip)
                                have H' := Aside0.mk H
                                clear H
                                go_wp2
                                go_meet
                                case rel => exact ⟨_, ((x19_3 == 0)), (by first | rfl | (simp; done) | (simp [*]; done)), H', ⟨by have := HJ2.out; have := HJ13.out; have := HK3.out; first | omega | exact Nat.le_refl _⟩, ⟨by (with_reducible repeat (first | apply Kd.R_alloc | apply Kd.R_drewN | apply Kd.R_drew)); exact HO_12.out⟩, ⟨by repeat (first | (with_reducible first | exact HB.out | apply below_alloc | apply pw_below_drewN | apply below_drew1) | exact HB.out)⟩⟩
                            case rest =>
                              as_aux_lemma =>
                                clear HC32
                                try clear c1
                                try clear c2
                                try clear p2
                                try clear q2
                                try clear hx2
                                try clear c3
                                try clear c4
                                try clear c4b0
                                try clear c4b1
                                try clear c6
                                try clear c12
                                try clear c13
                                try clear c14
                                try clear c15
                                try clear c16
                                try clear c17
                                try clear c18
                                try clear c23
                                try clear c23b0
                                try clear c23b1
                                try clear c24
                                try clear c24b0
                                try clear c24b1
                                try clear c25
                                try clear c25b0
                                try clear c25b1
                                try clear c26
                                try clear c26b0
                                try clear c26b1
                                try clear p26
                                try clear q26
                                try clear hx26
                                try clear c28
                                try clear c29
                                try clear c29b0
                                try clear c30
                                try clear c30b0
                                try clear c34
                                try clear c34b0
                                try clear c34b1
                                try clear hx261_0
                                try clear p2
                                try clear p261
                                try clear q261
                                obtain ⟨kq, x110_31, rfl, HA, HJ31, HO_12, HB⟩ := hcut
                                cases kq with
                                | zero => exact absurd HA.out (by simp [solsticelaw17_EscapeExact.j3])
                                | succ kj31 =>
                                  have H := HA.out
                                  clear HA
                                  simp only [solsticelaw17_EscapeExact.j3] at H
                                  by_cases c35 : x110_31 = true
                                  · subst c35
                                    have H1 : (if x20_3 > 0 then (if x18_3.size + 1 ≤ 9223372036854775807 then (if (x18_3 ++ (⟨#[44]⟩ : ByteArray)).size + t262.size ≤ 9223372036854775807 then (solsticelaw17_EscapeExact.l0 kj31 a0 l1 t250 t251 t252 t253 ((x18_3 ++ (⟨#[44]⟩ : ByteArray)) ++ t262) t263 (wrap64 (x20_3 + 1))) else (none)) else (none)) else (if x18_3.size + t262.size ≤ 9223372036854775807 then (solsticelaw17_EscapeExact.l0 kj31 a0 l1 t250 t251 t252 t253 (x18_3 ++ t262) t263 (wrap64 (x20_3 + 1))) else (none))) = some r := by rw [if_pos rfl] at H; exact H
                                    clear H
                                    have H := H1
                                    clear H1
                                    by_cases c36 : x20_3 > 0
                                    · rw [if_pos c36] at H
                                      have c36b0 : decide (0 < x20_3) = true := decide_eq_true c36
                                      clear c36
                                      by_cases c37 : x18_3.size + 1 ≤ 9223372036854775807
                                      · rw [if_pos c37] at H
                                        have c37b0 := eq_true c37
                                        have c37b1 : decide (x18_3.size + 1 ≤ 9223372036854775807) = true := decide_eq_true c37
                                        try have c37b2 : (9223372036854775807 < x18_3.size + 1) = False := eq_false (Nat.not_lt.2 c37)
                                        by_cases c38 : (x18_3 ++ (⟨#[44]⟩ : ByteArray)).size + t262.size ≤ 9223372036854775807
                                        · rw [if_pos c38] at H
                                          have c38b0 := eq_true c38
                                          have c38b1 : decide ((x18_3 ++ (⟨#[44]⟩ : ByteArray)).size + t262.size ≤ 9223372036854775807) = true := decide_eq_true c38
                                          try have c38b2 : (9223372036854775807 < (x18_3 ++ (⟨#[44]⟩ : ByteArray)).size + t262.size) = False := eq_false (Nat.not_lt.2 c38)
                                          have H' := Aside0.mk H
                                          clear H
                                          go_wp2
                                          go_roundg kj31
                                          case measure => have := HJ2.out; have := HJ13.out; have := HK3.out; have := HJ31.out; omega
                                          case rel => exact ⟨((x18_3 ++ (⟨#[44]⟩ : ByteArray)) ++ t262), (t263), (wrap64 (x20_3 + 1)), (by first | rfl | (simp; done) | (simp [*]; done)), (by first | rfl | (simp; done) | (simp [*]; done)), (by first | rfl | (simp; done) | (simp [*]; done)), H', ⟨by have := HJ2.out; have := HJ13.out; have := HK3.out; have := HJ31.out; omega⟩, ⟨by (with_reducible repeat (first | apply Kd.R_alloc | apply Kd.R_drewN | apply Kd.R_drew)); exact HO_12.out⟩, ⟨by repeat (first | (with_reducible first | exact HB.out | apply below_alloc | apply pw_below_drewN | apply below_drew1) | exact HB.out)⟩⟩
                                        · rw [if_neg c38] at H
                                          exact absurd H (by simp)
                                      · rw [if_neg c37] at H
                                        exact absurd H (by simp)
                                    · rw [if_neg c36] at H
                                      have c36b0 : decide (0 < x20_3) = false := decide_eq_false c36
                                      clear c36
                                      by_cases c39 : x18_3.size + t262.size ≤ 9223372036854775807
                                      · rw [if_pos c39] at H
                                        have c39b0 := eq_true c39
                                        have c39b1 : decide (x18_3.size + t262.size ≤ 9223372036854775807) = true := decide_eq_true c39
                                        try have c39b2 : (9223372036854775807 < x18_3.size + t262.size) = False := eq_false (Nat.not_lt.2 c39)
                                        have H' := Aside0.mk H
                                        clear H
                                        go_wp2
                                        go_roundg kj31
                                        case measure => have := HJ2.out; have := HJ13.out; have := HK3.out; have := HJ31.out; omega
                                        case rel => exact ⟨(x18_3 ++ t262), (t263), (wrap64 (x20_3 + 1)), (by first | rfl | (simp; done) | (simp [*]; done)), (by first | rfl | (simp; done) | (simp [*]; done)), (by first | rfl | (simp; done) | (simp [*]; done)), H', ⟨by have := HJ2.out; have := HJ13.out; have := HK3.out; have := HJ31.out; omega⟩, ⟨by (with_reducible repeat (first | apply Kd.R_alloc | apply Kd.R_drewN | apply Kd.R_drew)); exact HO_12.out⟩, ⟨by repeat (first | (with_reducible first | exact HB.out | apply below_alloc | apply pw_below_drewN | apply below_drew1) | exact HB.out)⟩⟩
                                      · rw [if_neg c39] at H
                                        exact absurd H (by simp)
                                  · replace c35 := Bool.eq_false_iff.mpr c35
                                    subst c35
                                    have H1 : (if x20_3 > 0 then (if x18_3.size + 1 ≤ 9223372036854775807 then (if (x18_3 ++ (⟨#[44]⟩ : ByteArray)).size + t262.size ≤ 9223372036854775807 then (solsticelaw17_EscapeExact.l0 kj31 a0 l1 t250 t251 t252 t253 ((x18_3 ++ (⟨#[44]⟩ : ByteArray)) ++ t262) x19_3 (wrap64 (x20_3 + 1))) else (none)) else (none)) else (if x18_3.size + t262.size ≤ 9223372036854775807 then (solsticelaw17_EscapeExact.l0 kj31 a0 l1 t250 t251 t252 t253 (x18_3 ++ t262) x19_3 (wrap64 (x20_3 + 1))) else (none))) = some r := by rw [if_neg (show ¬ (false = true) by decide)] at H; exact H
                                    clear H
                                    have H := H1
                                    clear H1
                                    by_cases c40 : x20_3 > 0
                                    · rw [if_pos c40] at H
                                      have c40b0 : decide (0 < x20_3) = true := decide_eq_true c40
                                      clear c40
                                      by_cases c41 : x18_3.size + 1 ≤ 9223372036854775807
                                      · rw [if_pos c41] at H
                                        have c41b0 := eq_true c41
                                        have c41b1 : decide (x18_3.size + 1 ≤ 9223372036854775807) = true := decide_eq_true c41
                                        try have c41b2 : (9223372036854775807 < x18_3.size + 1) = False := eq_false (Nat.not_lt.2 c41)
                                        by_cases c42 : (x18_3 ++ (⟨#[44]⟩ : ByteArray)).size + t262.size ≤ 9223372036854775807
                                        · rw [if_pos c42] at H
                                          have c42b0 := eq_true c42
                                          have c42b1 : decide ((x18_3 ++ (⟨#[44]⟩ : ByteArray)).size + t262.size ≤ 9223372036854775807) = true := decide_eq_true c42
                                          try have c42b2 : (9223372036854775807 < (x18_3 ++ (⟨#[44]⟩ : ByteArray)).size + t262.size) = False := eq_false (Nat.not_lt.2 c42)
                                          have H' := Aside0.mk H
                                          clear H
                                          go_wp2
                                          go_roundg kj31
                                          case measure => have := HJ2.out; have := HJ13.out; have := HK3.out; have := HJ31.out; omega
                                          case rel => exact ⟨((x18_3 ++ (⟨#[44]⟩ : ByteArray)) ++ t262), (x19_3), (wrap64 (x20_3 + 1)), (by first | rfl | (simp; done) | (simp [*]; done)), (by first | rfl | (simp; done) | (simp [*]; done)), (by first | rfl | (simp; done) | (simp [*]; done)), H', ⟨by have := HJ2.out; have := HJ13.out; have := HK3.out; have := HJ31.out; omega⟩, ⟨by (with_reducible repeat (first | apply Kd.R_alloc | apply Kd.R_drewN | apply Kd.R_drew)); exact HO_12.out⟩, ⟨by repeat (first | (with_reducible first | exact HB.out | apply below_alloc | apply pw_below_drewN | apply below_drew1) | exact HB.out)⟩⟩
                                        · rw [if_neg c42] at H
                                          exact absurd H (by simp)
                                      · rw [if_neg c41] at H
                                        exact absurd H (by simp)
                                    · rw [if_neg c40] at H
                                      have c40b0 : decide (0 < x20_3) = false := decide_eq_false c40
                                      clear c40
                                      by_cases c43 : x18_3.size + t262.size ≤ 9223372036854775807
                                      · rw [if_pos c43] at H
                                        have c43b0 := eq_true c43
                                        have c43b1 : decide (x18_3.size + t262.size ≤ 9223372036854775807) = true := decide_eq_true c43
                                        try have c43b2 : (9223372036854775807 < x18_3.size + t262.size) = False := eq_false (Nat.not_lt.2 c43)
                                        have H' := Aside0.mk H
                                        clear H
                                        go_wp2
                                        go_roundg kj31
                                        case measure => have := HJ2.out; have := HJ13.out; have := HK3.out; have := HJ31.out; omega
                                        case rel => exact ⟨(x18_3 ++ t262), (x19_3), (wrap64 (x20_3 + 1)), (by first | rfl | (simp; done) | (simp [*]; done)), (by first | rfl | (simp; done) | (simp [*]; done)), (by first | rfl | (simp; done) | (simp [*]; done)), H', ⟨by have := HJ2.out; have := HJ13.out; have := HK3.out; have := HJ31.out; omega⟩, ⟨by (with_reducible repeat (first | apply Kd.R_alloc | apply Kd.R_drewN | apply Kd.R_drew)); exact HO_12.out⟩, ⟨by repeat (first | (with_reducible first | exact HB.out | apply below_alloc | apply pw_below_drewN | apply below_drew1) | exact HB.out)⟩⟩
                                      · rw [if_neg c43] at H
                                        exact absurd H (by simp)
                          · rw [if_neg c30] at H
                            exact absurd H (by simp)
                        · rw [if_neg c29] at H
                          have c29b0 : decide (x20_3 < (l1.length : Int)) = false := decide_eq_false c29
                          clear c29
                          have HC44 := Aside0.mk H
                          clear H
                          go_upto_region 22 with (fail)
                          go_cut [125] (fun v125 wc => ∃ (kq : Nat) (x125_43 : Bool), v125 = .bool x125_43 ∧ Aside0 (solsticelaw17_EscapeExact.j4 kq a0 t250 t251 t252 t253 x18_3 x19_3 x125_43 = some r) ∧ Aside0 (kq ≤ k3) ∧ Aside0 (Kd.R Kd.string 9 wc w.heap.size (fun _ => True) v254 t252) ∧ Aside0 (Below w.heap.size w wc))
                          case first =>
                            have H := HC44.out
                            clear HC44
                            by_cases c45 : x19_3 = 0
                            · rw [if_pos c45] at H
                              have c45b0 : (x19_3 == 0) = true := beq_iff_eq.mpr c45
                              have c45b1 : (x19_3 != 0) = false := bne_eq_false_iff_eq.mpr c45
                              clear c45
                              (first | rw [c45b0] | (simp only [i64_w, i32_w]; rw [c45b0]) | skip)
                              have H' := Aside0.mk H
                              clear H
                              go_wp2
                              go_meet
                              case rel => exact ⟨_, (((l1.length : Int) == 0)), (by first | rfl | (simp; done) | (simp [*]; done)), H', ⟨by have := HJ2.out; have := HJ13.out; have := HK3.out; first | omega | exact Nat.le_refl _⟩, ⟨by (with_reducible repeat (first | apply Kd.R_alloc | apply Kd.R_drewN | apply Kd.R_drew)); exact HO_12.out⟩, ⟨by repeat (first | (with_reducible first | exact HB.out | apply below_alloc | apply pw_below_drewN | apply below_drew1) | exact HB.out)⟩⟩
                            · rw [if_neg c45] at H
                              have c45b0 : (x19_3 == 0) = false := beq_eq_false_iff_ne.mpr c45
                              have c45b1 : (x19_3 != 0) = true := bne_iff_ne.mpr c45
                              (first | rw [c45b0] | (simp only [i64_w, i32_w]; rw [c45b0]) | skip)
                              have H' := Aside0.mk H
                              clear H
                              go_wp2
                              go_meet
                              case rel => exact ⟨_, (false), (by first | rfl | (simp; done) | (simp [*]; done)), H', ⟨by have := HJ2.out; have := HJ13.out; have := HK3.out; first | omega | exact Nat.le_refl _⟩, ⟨by (with_reducible repeat (first | apply Kd.R_alloc | apply Kd.R_drewN | apply Kd.R_drew)); exact HO_12.out⟩, ⟨by repeat (first | (with_reducible first | exact HB.out | apply below_alloc | apply pw_below_drewN | apply below_drew1) | exact HB.out)⟩⟩
                          case rest =>
                            as_aux_lemma =>
                              clear HC44
                              try clear c1
                              try clear c2
                              try clear p2
                              try clear q2
                              try clear hx2
                              try clear c3
                              try clear c4
                              try clear c4b0
                              try clear c4b1
                              try clear c6
                              try clear p6
                              try clear c12
                              try clear c13
                              try clear c14
                              try clear c15
                              try clear c16
                              try clear c17
                              try clear c18
                              try clear c23
                              try clear c23b0
                              try clear c23b1
                              try clear c24
                              try clear c24b0
                              try clear c24b1
                              try clear c25
                              try clear c25b0
                              try clear c25b1
                              try clear c26
                              try clear c26b0
                              try clear c26b1
                              try clear p26
                              try clear q26
                              try clear hx26
                              try clear c28
                              try clear c29
                              try clear c29b0
                              try clear c30
                              try clear c30b0
                              try clear c34
                              try clear c34b0
                              try clear c34b1
                              try clear c35
                              try clear c36
                              try clear c36b0
                              try clear c37
                              try clear c37b0
                              try clear c37b1
                              try clear c37b2
                              try clear c38
                              try clear c38b0
                              try clear c38b1
                              try clear c38b2
                              try clear c39
                              try clear c39b0
                              try clear c39b1
                              try clear c39b2
                              try clear c40
                              try clear c40b0
                              try clear c41
                              try clear c41b0
                              try clear c41b1
                              try clear c41b2
                              try clear c42
                              try clear c42b0
                              try clear c42b1
                              try clear c42b2
                              try clear c43
                              try clear c43b0
                              try clear c43b1
                              try clear c43b2
                              try clear c45
                              try clear c45b0
                              try clear c45b1
                              try clear hx261_0
                              try clear p2
                              try clear p26
                              try clear p261
                              try clear q2
                              try clear q26
                              try clear q261
                              obtain ⟨kq, x125_43, rfl, HA, HJ43, HO_12, HB⟩ := hcut
                              cases kq with
                              | zero => exact absurd HA.out (by simp [solsticelaw17_EscapeExact.j4])
                              | succ kj43 =>
                                have H := HA.out
                                clear HA
                                simp only [solsticelaw17_EscapeExact.j4] at H
                                have HC46 := Aside0.mk H
                                clear H
                                go_upto_if 125 with (fail)
                                go_cut [19] (fun v19 wc => ∃ (kq : Nat) (x19_45 : Int), v19 = .int .i64 x19_45 ∧ Aside0 (solsticelaw17_EscapeExact.j5 kq a0 t250 t251 t252 t253 x18_3 x19_45 = some r) ∧ Aside0 (kq ≤ kj43) ∧ Aside0 (Kd.R Kd.string 9 wc w.heap.size (fun _ => True) v254 t252) ∧ Aside0 (Below w.heap.size w wc))
                                case first =>
                                  have H := HC46.out
                                  clear HC46
                                  by_cases c47 : x125_43 = true
                                  · subst c47
                                    have H1 : (solsticelaw17_EscapeExact.j5 kj43 a0 t250 t251 t252 t253 x18_3 2) = some r := by rw [if_pos rfl] at H; exact H
                                    clear H
                                    have H := H1
                                    clear H1
                                    have H' := Aside0.mk H
                                    clear H
                                    go_wp2
                                    go_meet
                                    case rel => exact ⟨_, (2), (by first | rfl | (simp; done) | (simp [*]; done)), H', ⟨by have := HJ2.out; have := HJ13.out; have := HK3.out; have := HJ43.out; first | omega | exact Nat.le_refl _⟩, ⟨by (with_reducible repeat (first | apply Kd.R_alloc | apply Kd.R_drewN | apply Kd.R_drew)); exact HO_12.out⟩, ⟨by repeat (first | (with_reducible first | exact HB.out | apply below_alloc | apply pw_below_drewN | apply below_drew1) | exact HB.out)⟩⟩
                                  · replace c47 := Bool.eq_false_iff.mpr c47
                                    subst c47
                                    have H1 : (solsticelaw17_EscapeExact.j5 kj43 a0 t250 t251 t252 t253 x18_3 x19_3) = some r := by rw [if_neg (show ¬ (false = true) by decide)] at H; exact H
                                    clear H
                                    have H := H1
                                    clear H1
                                    have H' := Aside0.mk H
                                    clear H
                                    go_wp2
                                    go_meet
                                    case rel => exact ⟨_, (x19_3), (by first | rfl | (simp; done) | (simp [*]; done)), H', ⟨by have := HJ2.out; have := HJ13.out; have := HK3.out; have := HJ43.out; first | omega | exact Nat.le_refl _⟩, ⟨by (with_reducible repeat (first | apply Kd.R_alloc | apply Kd.R_drewN | apply Kd.R_drew)); exact HO_12.out⟩, ⟨by repeat (first | (with_reducible first | exact HB.out | apply below_alloc | apply pw_below_drewN | apply below_drew1) | exact HB.out)⟩⟩
                                case rest =>
                                  as_aux_lemma =>
                                    clear HC46
                                    try clear c1
                                    try clear c2
                                    try clear p2
                                    try clear q2
                                    try clear hx2
                                    try clear c3
                                    try clear c4
                                    try clear c4b0
                                    try clear c4b1
                                    try clear c6
                                    try clear p6
                                    try clear c12
                                    try clear c13
                                    try clear c14
                                    try clear c15
                                    try clear c16
                                    try clear c17
                                    try clear c18
                                    try clear c23
                                    try clear c23b0
                                    try clear c23b1
                                    try clear c24
                                    try clear c24b0
                                    try clear c24b1
                                    try clear c25
                                    try clear c25b0
                                    try clear c25b1
                                    try clear c26
                                    try clear c26b0
                                    try clear c26b1
                                    try clear p26
                                    try clear q26
                                    try clear hx26
                                    try clear c28
                                    try clear c29
                                    try clear c29b0
                                    try clear c30
                                    try clear c30b0
                                    try clear c34
                                    try clear c34b0
                                    try clear c34b1
                                    try clear c35
                                    try clear c36
                                    try clear c36b0
                                    try clear c37
                                    try clear c37b0
                                    try clear c37b1
                                    try clear c37b2
                                    try clear c38
                                    try clear c38b0
                                    try clear c38b1
                                    try clear c38b2
                                    try clear c39
                                    try clear c39b0
                                    try clear c39b1
                                    try clear c39b2
                                    try clear c40
                                    try clear c40b0
                                    try clear c41
                                    try clear c41b0
                                    try clear c41b1
                                    try clear c41b2
                                    try clear c42
                                    try clear c42b0
                                    try clear c42b1
                                    try clear c42b2
                                    try clear c43
                                    try clear c43b0
                                    try clear c43b1
                                    try clear c43b2
                                    try clear c45
                                    try clear c45b0
                                    try clear c45b1
                                    try clear c47
                                    try clear hx261_0
                                    try clear p2
                                    try clear p26
                                    try clear p261
                                    try clear p6
                                    try clear q2
                                    try clear q26
                                    try clear q261
                                    obtain ⟨kq, x19_45, rfl, HA, HJ45, HO_12, HB⟩ := hcut
                                    cases kq with
                                    | zero => exact absurd HA.out (by simp [solsticelaw17_EscapeExact.j5])
                                    | succ kj45 =>
                                      have H := HA.out
                                      clear HA
                                      simp only [solsticelaw17_EscapeExact.j5] at H
                                      have HC48 := Aside0.mk H
                                      clear H
                                      go_upto_region 24 with (fail)
                                      go_cut [145] (fun v145 wc => ∃ (kq : Nat) (x145_47 : Bool), v145 = .bool x145_47 ∧ Aside0 (solsticelaw17_EscapeExact.j6 kq a0 t252 t253 x145_47 = some r) ∧ Aside0 (kq ≤ kj45) ∧ Aside0 (Kd.R Kd.string 9 wc w.heap.size (fun _ => True) v254 t252) ∧ Aside0 (Below w.heap.size w wc))
                                      case first =>
                                        have H := HC48.out
                                        clear HC48
                                        by_cases c49 : t251 = x19_45
                                        · rw [if_pos c49] at H
                                          have c49b0 : (t251 == x19_45) = true := beq_iff_eq.mpr c49
                                          have c49b1 : (t251 != x19_45) = false := bne_eq_false_iff_eq.mpr c49
                                          clear c49
                                          (first | rw [c49b0] | (simp only [i64_w, i32_w]; rw [c49b0]) | skip)
                                          by_cases c50 : x19_45 = 0
                                          · rw [if_pos c50] at H
                                            have c50b0 : (x19_45 == 0) = true := beq_iff_eq.mpr c50
                                            have c50b1 : (x19_45 != 0) = false := bne_eq_false_iff_eq.mpr c50
                                            clear c50
                                            have H' := Aside0.mk H
                                            clear H
                                            go_wp2
                                            go_meet
                                            case rel => exact ⟨_, ((t250.toList != x18_3.toList)), (by first | rfl | (simp; done) | (simp [*]; done)), H', ⟨by have := HJ2.out; have := HJ13.out; have := HK3.out; have := HJ43.out; have := HJ45.out; first | omega | exact Nat.le_refl _⟩, ⟨by (with_reducible repeat (first | apply Kd.R_alloc | apply Kd.R_drewN | apply Kd.R_drew)); exact HO_12.out⟩, ⟨by repeat (first | (with_reducible first | exact HB.out | apply below_alloc | apply pw_below_drewN | apply below_drew1) | exact HB.out)⟩⟩
                                          · rw [if_neg c50] at H
                                            have c50b0 : (x19_45 == 0) = false := beq_eq_false_iff_ne.mpr c50
                                            have c50b1 : (x19_45 != 0) = true := bne_iff_ne.mpr c50
                                            by_cases c51 : t250.toList = ([] : List UInt8)
                                            · rw [if_pos c51] at H
                                              have c51b0 : (t250.toList == ([] : List UInt8)) = true := beq_iff_eq.mpr c51
                                              have c51b1 : (t250.toList != ([] : List UInt8)) = false := bne_eq_false_iff_eq.mpr c51
                                              clear c51
                                              have H' := Aside0.mk H
                                              clear H
                                              go_wp2
                                              go_meet
                                              case rel => exact ⟨_, (false), (by first | rfl | (simp; done) | (simp [*]; done)), H', ⟨by have := HJ2.out; have := HJ13.out; have := HK3.out; have := HJ43.out; have := HJ45.out; first | omega | exact Nat.le_refl _⟩, ⟨by (with_reducible repeat (first | apply Kd.R_alloc | apply Kd.R_drewN | apply Kd.R_drew)); exact HO_12.out⟩, ⟨by repeat (first | (with_reducible first | exact HB.out | apply below_alloc | apply pw_below_drewN | apply below_drew1) | exact HB.out)⟩⟩
                                            · rw [if_neg c51] at H
                                              have c51b0 : (t250.toList == ([] : List UInt8)) = false := beq_eq_false_iff_ne.mpr c51
                                              have c51b1 : (t250.toList != ([] : List UInt8)) = true := bne_iff_ne.mpr c51
                                              have H' := Aside0.mk H
                                              clear H
                                              go_wp2
                                              go_meet
                                              case rel => exact ⟨_, (true), (by first | rfl | (simp; done) | (simp [*]; done)), H', ⟨by have := HJ2.out; have := HJ13.out; have := HK3.out; have := HJ43.out; have := HJ45.out; first | omega | exact Nat.le_refl _⟩, ⟨by (with_reducible repeat (first | apply Kd.R_alloc | apply Kd.R_drewN | apply Kd.R_drew)); exact HO_12.out⟩, ⟨by repeat (first | (with_reducible first | exact HB.out | apply below_alloc | apply pw_below_drewN | apply below_drew1) | exact HB.out)⟩⟩
                                        · rw [if_neg c49] at H
                                          have c49b0 : (t251 == x19_45) = false := beq_eq_false_iff_ne.mpr c49
                                          have c49b1 : (t251 != x19_45) = true := bne_iff_ne.mpr c49
                                          (first | rw [c49b0] | (simp only [i64_w, i32_w]; rw [c49b0]) | skip)
                                          have H' := Aside0.mk H
                                          clear H
                                          go_wp2
                                          go_meet
                                          case rel => exact ⟨_, (true), (by first | rfl | (simp; done) | (simp [*]; done)), H', ⟨by have := HJ2.out; have := HJ13.out; have := HK3.out; have := HJ43.out; have := HJ45.out; first | omega | exact Nat.le_refl _⟩, ⟨by (with_reducible repeat (first | apply Kd.R_alloc | apply Kd.R_drewN | apply Kd.R_drew)); exact HO_12.out⟩, ⟨by repeat (first | (with_reducible first | exact HB.out | apply below_alloc | apply pw_below_drewN | apply below_drew1) | exact HB.out)⟩⟩
                                      case rest =>
                                        as_aux_lemma =>
                                          clear HC48
                                          try clear c1
                                          try clear c2
                                          try clear p2
                                          try clear q2
                                          try clear hx2
                                          try clear c3
                                          try clear c4
                                          try clear c4b0
                                          try clear c4b1
                                          try clear c5
                                          try clear c6
                                          try clear p6
                                          try clear c12
                                          try clear c13
                                          try clear c14
                                          try clear c15
                                          try clear c16
                                          try clear c17
                                          try clear c18
                                          try clear c23
                                          try clear c23b0
                                          try clear c23b1
                                          try clear c24
                                          try clear c24b0
                                          try clear c24b1
                                          try clear c25
                                          try clear c25b0
                                          try clear c25b1
                                          try clear c26
                                          try clear c26b0
                                          try clear c26b1
                                          try clear p26
                                          try clear q26
                                          try clear hx26
                                          try clear c28
                                          try clear c29
                                          try clear c29b0
                                          try clear c30
                                          try clear c30b0
                                          try clear c34
                                          try clear c34b0
                                          try clear c34b1
                                          try clear c35
                                          try clear c36
                                          try clear c36b0
                                          try clear c37
                                          try clear c37b0
                                          try clear c37b1
                                          try clear c37b2
                                          try clear c38
                                          try clear c38b0
                                          try clear c38b1
                                          try clear c38b2
                                          try clear c39
                                          try clear c39b0
                                          try clear c39b1
                                          try clear c39b2
                                          try clear c40
                                          try clear c40b0
                                          try clear c41
                                          try clear c41b0
                                          try clear c41b1
                                          try clear c41b2
                                          try clear c42
                                          try clear c42b0
                                          try clear c42b1
                                          try clear c42b2
                                          try clear c43
                                          try clear c43b0
                                          try clear c43b1
                                          try clear c43b2
                                          try clear c45
                                          try clear c45b0
                                          try clear c45b1
                                          try clear c47
                                          try clear c49
                                          try clear c49b0
                                          try clear c49b1
                                          try clear c50
                                          try clear c50b0
                                          try clear c50b1
                                          try clear c51
                                          try clear c51b0
                                          try clear c51b1
                                          try clear hx261_0
                                          try clear p2
                                          try clear p26
                                          try clear p261
                                          try clear p6
                                          try clear q2
                                          try clear q26
                                          try clear q261
                                          obtain ⟨kq, x145_47, rfl, HA, HJ47, HO_12, HB⟩ := hcut
                                          cases kq with
                                          | zero => exact absurd HA.out (by simp [solsticelaw17_EscapeExact.j6])
                                          | succ kj47 =>
                                            have H := HA.out
                                            clear HA
                                            simp only [solsticelaw17_EscapeExact.j6] at H
                                            by_cases c52 : x145_47 = true
                                            · subst c52
                                              have H1 : (some false) = some r := by rw [if_pos rfl] at H; exact H
                                              clear H
                                              have H := H1
                                              clear H1
                                              obtain rfl := Option.some.inj H
                                              go_wp2
                                              go_ret
                                              exact ⟨by first | rfl | (simp [errW_none, errW_some] <;> rfl) | (simp [*, errW_none, errW_some] <;> rfl), by repeat (first | (with_reducible first | exact HB.out | apply below_alloc | apply pw_below_drewN | apply below_drew1) | exact HB.out)⟩
                                            · replace c52 := Bool.eq_false_iff.mpr c52
                                              subst c52
                                              have H1 : ((solsticeref16_Pieces.f kj47 a0).bind fun t264 => (solsticelaw17_EscapeExact.l1 kj47 t252 t253 0 t264 ([] : List ByteArray) 0)) = some r := by rw [if_neg (show ¬ (false = true) by decide)] at H; exact H
                                              clear H
                                              have H := H1
                                              clear H1
                                              replace H := Option.bind_eq_some_iff.mp H
                                              obtain ⟨t264, A530, H⟩ := H
                                              replace H : (solsticelaw17_EscapeExact.l1 kj47 t252 t253 0 t264 ([] : List ByteArray) 0) = some r := H
                                              have A53 := Aside0.mk A530
                                              clear A530
                                              have H' := Aside0.mk H
                                              clear H
                                              go_wp2_with (first | ((with_reducible refine gate_callee (f := 20) rfl ?_); refine goesL_ (some 147) rfl rfl Try.func20 (by kernel_rfl) rfl #[.string a0] rfl (by (try simp only [List.map_toArray, List.map_cons, List.map_nil]); first | done | rfl | (simp only [List.length_drop, List.length_take]; rfl)) ?_; (with_reducible refine (solsticeref16_Pieces.calls kj47 a0 t264 _ A53.out).mono ?_); rintro e w54 ⟨v265, rfl, ho0, hb⟩; refine ⟨_, rfl, ?_⟩; have n0_ := Aside0.mk (Kd.R_elder' (by (with_reducible repeat (first | apply Kd.R_alloc | apply Kd.R_drewN | apply Kd.R_drew)); exact HO_12.out) (Kd.R_base ho0) hb); have n1_ := Aside0.mk (Kd.R_lower (Kd.R_new' ho0 (Kd.R_lt (by (with_reducible repeat (first | apply Kd.R_alloc | apply Kd.R_drewN | apply Kd.R_drew)); exact HO_12.out))) (below_size (by repeat (first | (with_reducible first | exact HB.out | apply below_alloc | apply pw_below_drewN | apply below_drew1) | exact HB.out)))); have n2_ := Aside0.mk (below_step (by repeat (first | (with_reducible first | exact HB.out | apply below_alloc | apply pw_below_drewN | apply below_drew1) | exact HB.out)) hb); clear HO_12; clear HB; have HO_12 := n0_; have HO266 := n1_; have HB := n2_; clear n0_ n1_ n2_; (try clear hb); (try clear hb2); (try clear hk); (try clear hi); (try clear ho0)))
                                              go_loopg [19, 24, 25] kj47 (fun kq v19 v24 v25 w' => ∃ (x19_7 : Int) (x24_7 : List ByteArray) (x25_7 : Int), v19 = .int .i64 x19_7 ∧ v25 = .int .i64 x25_7 ∧ Aside0 (solsticelaw17_EscapeExact.l1 kq t252 t253 x19_7 t264 x24_7 x25_7 = some r) ∧ Aside0 (kq ≤ kj47) ∧ Aside0 (Kd.R Kd.string 9 w' w.heap.size (fun k_ => some k_ ≠ (v265 : Value).ownBlock ∧ some k_ ≠ (v24 : Value).ownBlock) v254 t252) ∧ Aside0 (Kd.R Kd.string 9 w' w.heap.size (fun k_ => some k_ ≠ (v254 : Value).ownBlock ∧ some k_ ≠ (v24 : Value).ownBlock) v265 t264) ∧ Aside0 (Kd.R Kd.string 9 w' w.heap.size (fun k_ => some k_ ≠ (v254 : Value).ownBlock ∧ some k_ ≠ (v265 : Value).ownBlock) v24 x24_7) ∧ Aside0 (Below w.heap.size w w'))
                                              case atStart => exact ⟨(0), (([] : List ByteArray)), (0), (by first | rfl | (simp; done) | (simp [*]; done)), (by first | rfl | (simp; done) | (simp [*]; done)), H', ⟨Nat.le_refl _⟩, ⟨by (with_reducible repeat (first | apply Kd.R_alloc | apply Kd.R_drewN | apply Kd.R_drew)); exact Kd.R_mono HO_12.out (fun _ hk => ⟨hk.2, (by simp [Value.ownBlock])⟩)⟩, ⟨by (with_reducible repeat (first | apply Kd.R_alloc | apply Kd.R_drewN | apply Kd.R_drew)); exact Kd.R_mono HO266.out (fun _ hk => ⟨hk.2, (by simp [Value.ownBlock])⟩)⟩, ⟨by first | exact Kd.R_nil _ _ _ _ _ | exact Kd.N_nil _ _ _ _ _ | exact Kd.V_nil _ _ _ _ _ | exact Kd.Q_nil _ _ _ _ _ | exact Kd.S_nil _ _ _ _ _⟩, ⟨by repeat (first | (with_reducible first | exact HB.out | apply below_alloc | apply pw_below_drewN | apply below_drew1) | exact HB.out)⟩⟩
                                              case round =>
                                                as_aux_lemma =>
                                                  clear H'
                                                  try clear c1
                                                  try clear c2
                                                  try clear p2
                                                  try clear q2
                                                  try clear hx2
                                                  try clear c3
                                                  try clear c4
                                                  try clear c4b0
                                                  try clear c4b1
                                                  try clear c5
                                                  try clear c6
                                                  try clear p6
                                                  try clear c12
                                                  try clear c13
                                                  try clear c14
                                                  try clear c15
                                                  try clear c16
                                                  try clear c17
                                                  try clear c18
                                                  try clear c20
                                                  try clear c23
                                                  try clear c23b0
                                                  try clear c23b1
                                                  try clear c24
                                                  try clear c24b0
                                                  try clear c24b1
                                                  try clear c25
                                                  try clear c25b0
                                                  try clear c25b1
                                                  try clear c26
                                                  try clear c26b0
                                                  try clear c26b1
                                                  try clear p26
                                                  try clear q26
                                                  try clear hx26
                                                  try clear c28
                                                  try clear c29
                                                  try clear c29b0
                                                  try clear c30
                                                  try clear c30b0
                                                  try clear c34
                                                  try clear c34b0
                                                  try clear c34b1
                                                  try clear c35
                                                  try clear c36
                                                  try clear c36b0
                                                  try clear c37
                                                  try clear c37b0
                                                  try clear c37b1
                                                  try clear c37b2
                                                  try clear c38
                                                  try clear c38b0
                                                  try clear c38b1
                                                  try clear c38b2
                                                  try clear c39
                                                  try clear c39b0
                                                  try clear c39b1
                                                  try clear c39b2
                                                  try clear c40
                                                  try clear c40b0
                                                  try clear c41
                                                  try clear c41b0
                                                  try clear c41b1
                                                  try clear c41b2
                                                  try clear c42
                                                  try clear c42b0
                                                  try clear c42b1
                                                  try clear c42b2
                                                  try clear c43
                                                  try clear c43b0
                                                  try clear c43b1
                                                  try clear c43b2
                                                  try clear c45
                                                  try clear c45b0
                                                  try clear c45b1
                                                  try clear c47
                                                  try clear c49
                                                  try clear c49b0
                                                  try clear c49b1
                                                  try clear c50
                                                  try clear c50b0
                                                  try clear c50b1
                                                  try clear c51
                                                  try clear c51b0
                                                  try clear c51b1
                                                  try clear c52
                                                  try clear hx261_0
                                                  try clear p2
                                                  try clear p26
                                                  try clear p261
                                                  try clear p6
                                                  try clear q2
                                                  try clear q26
                                                  try clear q261
                                                  obtain ⟨x19_7, x24_7, x25_7, rfl, rfl, HA, HK7, HO_12, HO_23, HO_24, HB⟩ := hrel
                                                  cases gk with
                                                  | zero => exact absurd HA.out (by simp [solsticelaw17_EscapeExact.l1])
                                                  | succ k7 =>
                                                    have H := HA.out
                                                    clear HA
                                                    simp only [solsticelaw17_EscapeExact.l1] at H
                                                    by_cases c55 : x25_7 < (t264.length : Int)
                                                    · rw [if_pos c55] at H
                                                      have c55b0 : decide (x25_7 < (t264.length : Int)) = true := decide_eq_true c55
                                                      clear c55
                                                      by_cases c56 : 0 ≤ x25_7
                                                      · rw [if_pos c56] at H
                                                        have c56b0 : decide (0 ≤ x25_7) = true := decide_eq_true c56
                                                        clear c56
                                                        replace H := Option.bind_eq_some_iff.mp H
                                                        obtain ⟨⟨t268, t269⟩, A570, H⟩ := H
                                                        replace H : (if t269 = 0 then (if x24_7.length < 8796093022208 then (solsticelaw17_EscapeExact.l1 k7 t252 t253 x19_7 t264 (x24_7 ++ [t268]) (wrap64 (x25_7 + 1))) else (none)) else (if x24_7.length < 8796093022208 then (solsticelaw17_EscapeExact.l1 k7 t252 t253 t269 t264 (x24_7 ++ [t268]) (wrap64 (x25_7 + 1))) else (none))) = some r := H
                                                        have A57 := Aside0.mk A570
                                                        clear A570
                                                        by_cases c58 : t269 = 0
                                                        · rw [if_pos c58] at H
                                                          have c58b0 : (t269 == 0) = true := beq_iff_eq.mpr c58
                                                          have c58b1 : (t269 != 0) = false := bne_eq_false_iff_eq.mpr c58
                                                          clear c58
                                                          by_cases c59 : x24_7.length < 8796093022208
                                                          · rw [if_pos c59] at H
                                                            have LMc59 := Aside0.mk c59
                                                            clear c59
                                                            obtain ⟨y270, hy270⟩ : ∃ y_ : List ByteArray, y_ = (x24_7 ++ [t268]) := ⟨_, rfl⟩
                                                            replace H : (solsticelaw17_EscapeExact.l1 k7 t252 t253 x19_7 t264 y270 (wrap64 (x25_7 + 1))) = some r := by first | (rw [hy270]; with_reducible exact H) | (have H2_ := (Option.bind_some _ _).symm.trans H; rw [hy270]; with_reducible exact H2_) | (have H2_ := (Option.bind_some _ _).symm.trans H; with_reducible exact H2_) | with_reducible exact H | (rw [hy270]; exact H) | exact H
                                                            have Ny270 := Aside0.mk hy270
                                                            clear hy270
                                                            have H' := Aside0.mk H
                                                            clear H
                                                            obtain ⟨Ao60, co60, eo60⟩ := Kd.R_slice HO_23.out
                                                            subst eo60
                                                            have p267 : 0 ≤ (x25_7 : Int) := of_decide_eq_true (by first | (with_reducible assumption) | assumption)
                                                            have q267 : x25_7 < (t264.length : Int) := of_decide_eq_true (by first | (with_reducible assumption) | assumption)
                                                            obtain ⟨ad267, e267, hx267_0⟩ := Kd.at_string (Kd.R_reads' HO_23.out).2.2 x25_7 p267 q267
                                                            cases e267
                                                            replace p267 := eq_true p267
                                                            replace q267 := eq_true q267
                                                            go_wp2_with (first | ((with_reducible refine gate_callee (f := 18) rfl ?_); refine goesL_ (some 159) rfl rfl Try.func18 (by kernel_rfl) rfl #[.string (rdOf ByteArray.empty t264 x25_7)] rfl (by (try simp only [List.map_toArray, List.map_cons, List.map_nil]); first | done | rfl | (simp only [List.length_drop, List.length_take]; rfl)) ?_; (with_reducible refine (solsticeref16_Get.calls k7 (rdOf ByteArray.empty t264 x25_7) t268 t269 _ A57.out).mono ?_); rintro e w61 ⟨rfl, hb⟩; refine ⟨_, rfl, ?_⟩; have n0_ := Aside0.mk (Kd.R_below (by (with_reducible repeat (first | apply Kd.R_alloc | apply Kd.R_drewN | apply Kd.R_drew)); exact HO_12.out) hb); have n1_ := Aside0.mk (Kd.R_below (by (with_reducible repeat (first | apply Kd.R_alloc | apply Kd.R_drewN | apply Kd.R_drew)); exact HO_23.out) hb); have n2_ := Aside0.mk (Kd.R_below (by (with_reducible repeat (first | apply Kd.R_alloc | apply Kd.R_drewN | apply Kd.R_drew)); exact HO_24.out) hb); have n3_ := Aside0.mk (below_step (by repeat (first | (with_reducible first | exact HB.out | apply below_alloc | apply pw_below_drewN | apply below_drew1) | exact HB.out)) hb); clear HO_12; clear HO_23; clear HO_24; clear HB; have HO_12 := n0_; have HO_23 := n1_; have HO_24 := n2_; have HB := n3_; clear n0_ n1_ n2_ n3_; (try clear hb); (try clear hb2); (try clear hk); (try clear hi)) | ((with_reducible refine gate_builtin (b := .append) (xs := #[.tmp 165, .tmp 167]) rfl ?_); (try (refine gate_guard (by rfl) ?_; dsimp only)); at_builtin; refine Kd.R_append Kd.string (w0 := w) w.heap.size rfl (.tmp 165) (.tmp 167) 22 9 (.string ⟨#[]⟩) 16 rfl Try.underlying22 info9 rfl (by decide) (by omega) u24 x24_7 t268 [.string t268] (fun k_ => some k_ ≠ (v254 : Value).ownBlock ∧ some k_ ≠ (.slice (some ad267) t264.length co60 : Value).ownBlock) (fun _ => False) rfl rfl ?aP (fun _ hk => hk.elim) ?aF ?aO ?aB ?aS ?aL ?_; (case aP => exact rfl); (case aB => exact (by repeat (first | (with_reducible first | exact HB.out | apply below_alloc | apply pw_below_drewN | apply below_drew1) | exact HB.out))); (case aF => exact (fun k_ hk => ⟨Kd.fresh' (Kd.R_lt (by (with_reducible repeat (first | apply Kd.R_alloc | apply Kd.R_drewN | apply Kd.R_drew)); exact HO_12.out)) k_ hk, Kd.fresh' (Kd.R_lt (by (with_reducible repeat (first | apply Kd.R_alloc | apply Kd.R_drewN | apply Kd.R_drew)); exact HO_23.out)) k_ hk⟩)); (case aO => exact (by (with_reducible repeat (first | apply Kd.R_alloc | apply Kd.R_drewN | apply Kd.R_drew)); exact HO_24.out)); (case aS => exact (below_size (by repeat (first | (with_reducible first | exact HB.out | apply below_alloc | apply pw_below_drewN | apply below_drew1) | exact HB.out)))); (case aL => have := LMc59.out; omega); intro v271 w62 ho hb hg hat; rw [← Ny270.out] at ho; have n0_ := Aside0.mk (Kd.R_after (ok := (fun k_ => some k_ ≠ (.slice (some ad267) t264.length co60 : Value).ownBlock)) (by (with_reducible repeat (first | apply Kd.R_alloc | apply Kd.R_drewN | apply Kd.R_drew)); exact HO_12.out) hg hat); have n1_ := Aside0.mk (Kd.R_after (ok := (fun k_ => some k_ ≠ (v254 : Value).ownBlock)) (by (with_reducible repeat (first | apply Kd.R_alloc | apply Kd.R_drewN | apply Kd.R_drew)); exact HO_23.out) hg hat); have n2_ := Aside0.mk (hb); have n3_ := Aside0.mk (ho); clear HO_12; clear HO_23; clear HB; clear HO_24; have HO_12 := n0_; have HO_23 := n1_; have HB := n2_; have HO272 := n3_; clear n0_ n1_ n2_ n3_; clear ho hb hg hat))
                                                            go_roundg k7
                                                            case measure => have := HJ2.out; have := HJ13.out; have := HK3.out; have := HJ43.out; have := HJ45.out; have := HJ47.out; have := HK7.out; omega
                                                            case rel => exact ⟨(x19_7), (y270), (wrap64 (x25_7 + 1)), (by first | rfl | (simp; done) | (simp [*]; done)), (by first | rfl | (simp; done) | (simp [*]; done)), H', ⟨by have := HJ2.out; have := HJ13.out; have := HK3.out; have := HJ43.out; have := HJ45.out; have := HJ47.out; have := HK7.out; omega⟩, ⟨by (with_reducible repeat (first | apply Kd.R_alloc | apply Kd.R_drewN | apply Kd.R_drew)); exact HO_12.out⟩, ⟨by (with_reducible repeat (first | apply Kd.R_alloc | apply Kd.R_drewN | apply Kd.R_drew)); exact HO_23.out⟩, ⟨by (with_reducible repeat (first | apply Kd.R_alloc | apply Kd.R_drewN | apply Kd.R_drew)); exact HO272.out⟩, ⟨by repeat (first | (with_reducible first | exact HB.out | apply below_alloc | apply pw_below_drewN | apply below_drew1) | exact HB.out)⟩⟩
                                                          · rw [if_neg c59] at H
                                                            exact absurd H (by simp)
                                                        · rw [if_neg c58] at H
                                                          have c58b0 : (t269 == 0) = false := beq_eq_false_iff_ne.mpr c58
                                                          have c58b1 : (t269 != 0) = true := bne_iff_ne.mpr c58
                                                          by_cases c63 : x24_7.length < 8796093022208
                                                          · rw [if_pos c63] at H
                                                            have LMc63 := Aside0.mk c63
                                                            clear c63
                                                            obtain ⟨y273, hy273⟩ : ∃ y_ : List ByteArray, y_ = (x24_7 ++ [t268]) := ⟨_, rfl⟩
                                                            replace H : (solsticelaw17_EscapeExact.l1 k7 t252 t253 t269 t264 y273 (wrap64 (x25_7 + 1))) = some r := by first | (rw [hy273]; with_reducible exact H) | (have H2_ := (Option.bind_some _ _).symm.trans H; rw [hy273]; with_reducible exact H2_) | (have H2_ := (Option.bind_some _ _).symm.trans H; with_reducible exact H2_) | with_reducible exact H | (rw [hy273]; exact H) | exact H
                                                            have Ny273 := Aside0.mk hy273
                                                            clear hy273
                                                            have H' := Aside0.mk H
                                                            clear H
                                                            obtain ⟨Ao64, co64, eo64⟩ := Kd.R_slice HO_23.out
                                                            subst eo64
                                                            have p267 : 0 ≤ (x25_7 : Int) := of_decide_eq_true (by first | (with_reducible assumption) | assumption)
                                                            have q267 : x25_7 < (t264.length : Int) := of_decide_eq_true (by first | (with_reducible assumption) | assumption)
                                                            obtain ⟨ad267, e267, hx267_0⟩ := Kd.at_string (Kd.R_reads' HO_23.out).2.2 x25_7 p267 q267
                                                            cases e267
                                                            replace p267 := eq_true p267
                                                            replace q267 := eq_true q267
                                                            go_wp2_with (first | ((with_reducible refine gate_callee (f := 18) rfl ?_); refine goesL_ (some 159) rfl rfl Try.func18 (by kernel_rfl) rfl #[.string (rdOf ByteArray.empty t264 x25_7)] rfl (by (try simp only [List.map_toArray, List.map_cons, List.map_nil]); first | done | rfl | (simp only [List.length_drop, List.length_take]; rfl)) ?_; (with_reducible refine (solsticeref16_Get.calls k7 (rdOf ByteArray.empty t264 x25_7) t268 t269 _ A57.out).mono ?_); rintro e w65 ⟨rfl, hb⟩; refine ⟨_, rfl, ?_⟩; have n0_ := Aside0.mk (Kd.R_below (by (with_reducible repeat (first | apply Kd.R_alloc | apply Kd.R_drewN | apply Kd.R_drew)); exact HO_12.out) hb); have n1_ := Aside0.mk (Kd.R_below (by (with_reducible repeat (first | apply Kd.R_alloc | apply Kd.R_drewN | apply Kd.R_drew)); exact HO_23.out) hb); have n2_ := Aside0.mk (Kd.R_below (by (with_reducible repeat (first | apply Kd.R_alloc | apply Kd.R_drewN | apply Kd.R_drew)); exact HO_24.out) hb); have n3_ := Aside0.mk (below_step (by repeat (first | (with_reducible first | exact HB.out | apply below_alloc | apply pw_below_drewN | apply below_drew1) | exact HB.out)) hb); clear HO_12; clear HO_23; clear HO_24; clear HB; have HO_12 := n0_; have HO_23 := n1_; have HO_24 := n2_; have HB := n3_; clear n0_ n1_ n2_ n3_; (try clear hb); (try clear hb2); (try clear hk); (try clear hi)) | ((with_reducible refine gate_builtin (b := .append) (xs := #[.tmp 165, .tmp 167]) rfl ?_); (try (refine gate_guard (by rfl) ?_; dsimp only)); at_builtin; refine Kd.R_append Kd.string (w0 := w) w.heap.size rfl (.tmp 165) (.tmp 167) 22 9 (.string ⟨#[]⟩) 16 rfl Try.underlying22 info9 rfl (by decide) (by omega) u24 x24_7 t268 [.string t268] (fun k_ => some k_ ≠ (v254 : Value).ownBlock ∧ some k_ ≠ (.slice (some ad267) t264.length co64 : Value).ownBlock) (fun _ => False) rfl rfl ?aP (fun _ hk => hk.elim) ?aF ?aO ?aB ?aS ?aL ?_; (case aP => exact rfl); (case aB => exact (by repeat (first | (with_reducible first | exact HB.out | apply below_alloc | apply pw_below_drewN | apply below_drew1) | exact HB.out))); (case aF => exact (fun k_ hk => ⟨Kd.fresh' (Kd.R_lt (by (with_reducible repeat (first | apply Kd.R_alloc | apply Kd.R_drewN | apply Kd.R_drew)); exact HO_12.out)) k_ hk, Kd.fresh' (Kd.R_lt (by (with_reducible repeat (first | apply Kd.R_alloc | apply Kd.R_drewN | apply Kd.R_drew)); exact HO_23.out)) k_ hk⟩)); (case aO => exact (by (with_reducible repeat (first | apply Kd.R_alloc | apply Kd.R_drewN | apply Kd.R_drew)); exact HO_24.out)); (case aS => exact (below_size (by repeat (first | (with_reducible first | exact HB.out | apply below_alloc | apply pw_below_drewN | apply below_drew1) | exact HB.out)))); (case aL => have := LMc63.out; omega); intro v274 w66 ho hb hg hat; rw [← Ny273.out] at ho; have n0_ := Aside0.mk (Kd.R_after (ok := (fun k_ => some k_ ≠ (.slice (some ad267) t264.length co64 : Value).ownBlock)) (by (with_reducible repeat (first | apply Kd.R_alloc | apply Kd.R_drewN | apply Kd.R_drew)); exact HO_12.out) hg hat); have n1_ := Aside0.mk (Kd.R_after (ok := (fun k_ => some k_ ≠ (v254 : Value).ownBlock)) (by (with_reducible repeat (first | apply Kd.R_alloc | apply Kd.R_drewN | apply Kd.R_drew)); exact HO_23.out) hg hat); have n2_ := Aside0.mk (hb); have n3_ := Aside0.mk (ho); clear HO_12; clear HO_23; clear HB; clear HO_24; have HO_12 := n0_; have HO_23 := n1_; have HB := n2_; have HO275 := n3_; clear n0_ n1_ n2_ n3_; clear ho hb hg hat))
                                                            go_roundg k7
                                                            case measure => have := HJ2.out; have := HJ13.out; have := HK3.out; have := HJ43.out; have := HJ45.out; have := HJ47.out; have := HK7.out; omega
                                                            case rel => exact ⟨(t269), (y273), (wrap64 (x25_7 + 1)), (by first | rfl | (simp; done) | (simp [*]; done)), (by first | rfl | (simp; done) | (simp [*]; done)), H', ⟨by have := HJ2.out; have := HJ13.out; have := HK3.out; have := HJ43.out; have := HJ45.out; have := HJ47.out; have := HK7.out; omega⟩, ⟨by (with_reducible repeat (first | apply Kd.R_alloc | apply Kd.R_drewN | apply Kd.R_drew)); exact HO_12.out⟩, ⟨by (with_reducible repeat (first | apply Kd.R_alloc | apply Kd.R_drewN | apply Kd.R_drew)); exact HO_23.out⟩, ⟨by (with_reducible repeat (first | apply Kd.R_alloc | apply Kd.R_drewN | apply Kd.R_drew)); exact HO275.out⟩, ⟨by repeat (first | (with_reducible first | exact HB.out | apply below_alloc | apply pw_below_drewN | apply below_drew1) | exact HB.out)⟩⟩
                                                          · rw [if_neg c63] at H
                                                            exact absurd H (by simp)
                                                      · rw [if_neg c56] at H
                                                        exact absurd H (by simp)
                                                    · rw [if_neg c55] at H
                                                      have c55b0 : decide (x25_7 < (t264.length : Int)) = false := decide_eq_false c55
                                                      clear c55
                                                      by_cases c67 : x19_7 = 0
                                                      · rw [if_pos c67] at H
                                                        have c67b0 : (x19_7 == 0) = true := beq_iff_eq.mpr c67
                                                        have c67b1 : (x19_7 != 0) = false := bne_eq_false_iff_eq.mpr c67
                                                        clear c67
                                                        by_cases c68 : t253 = 0
                                                        · rw [if_pos c68] at H
                                                          have c68b0 : (t253 == 0) = true := beq_iff_eq.mpr c68
                                                          have c68b1 : (t253 != 0) = false := bne_eq_false_iff_eq.mpr c68
                                                          clear c68
                                                          replace H := Option.bind_eq_some_iff.mp H
                                                          obtain ⟨t276, A690, H⟩ := H
                                                          replace H : (if t276 = true then ((solsticelaw17_wakes.f k7).bind fun t277 => (some t277)) else (some false)) = some r := H
                                                          have A69 := Aside0.mk A690
                                                          clear A690
                                                          by_cases c70 : t276 = true
                                                          · subst c70
                                                            have H1 : ((solsticelaw17_wakes.f k7).bind fun t277 => (some t277)) = some r := by rw [if_pos rfl] at H; exact H
                                                            clear H
                                                            have H := H1
                                                            clear H1
                                                            replace H := Option.bind_eq_some_iff.mp H
                                                            obtain ⟨t277, A710, H⟩ := H
                                                            replace H : (some t277) = some r := H
                                                            have A71 := Aside0.mk A710
                                                            clear A710
                                                            obtain rfl := Option.some.inj H
                                                            obtain ⟨Ao72, co72, eo72⟩ := Kd.R_slice HO_23.out
                                                            subst eo72
                                                            obtain ⟨Ao73, co73, eo73⟩ := Kd.R_slice HO_12.out
                                                            subst eo73
                                                            obtain ⟨Ao74, co74, eo74⟩ := Kd.R_slice HO_24.out
                                                            subst eo74
                                                            go_wp2_with (first | (go_at_call 19; (with_reducible refine (solsticekeep_Texts.calls k7 _ _ t252 _ _ x24_7 true _ ?side1 ?side2 ?side3 ?side4 A69.out).mono ?_); (case side1 => repeat (first | exact (Kd.R_reads' HO_12.out).2.2 | (with_reducible refine Kd.C_alloc ?_ _) | (with_reducible refine Kd.C_drewN ?_ _) | (with_reducible refine Kd.C_drew ?_))); (case side2 => exact (Kd.R_reads' HO_12.out).2.1); (case side3 => repeat (first | exact (Kd.R_reads' HO_24.out).2.2 | (with_reducible refine Kd.C_alloc ?_ _) | (with_reducible refine Kd.C_drewN ?_ _) | (with_reducible refine Kd.C_drew ?_))); (case side4 => exact (Kd.R_reads' HO_24.out).2.1); rintro e w' ⟨rfl, ⟨nd, rfl⟩⟩) | (go_at_call 21; (with_reducible refine (solsticelaw17_wakes.calls k7  t277 _ A71.out).mono ?_); rintro e w75 ⟨rfl, hb⟩; have n0_ := Aside0.mk (Kd.R_below (by (with_reducible repeat (first | apply Kd.R_alloc | apply Kd.R_drewN | apply Kd.R_drew)); exact HO_12.out) hb); have n1_ := Aside0.mk (Kd.R_below (by (with_reducible repeat (first | apply Kd.R_alloc | apply Kd.R_drewN | apply Kd.R_drew)); exact HO_23.out) hb); have n2_ := Aside0.mk (Kd.R_below (by (with_reducible repeat (first | apply Kd.R_alloc | apply Kd.R_drewN | apply Kd.R_drew)); exact HO_24.out) hb); have n3_ := Aside0.mk (below_step (by repeat (first | (with_reducible first | exact HB.out | apply below_alloc | apply pw_below_drewN | apply below_drew1) | exact HB.out)) hb); clear HO_12; clear HO_23; clear HO_24; clear HB; have HO_12 := n0_; have HO_23 := n1_; have HO_24 := n2_; have HB := n3_; clear n0_ n1_ n2_ n3_; (try clear hb); (try clear hb2); (try clear hk); (try clear hi)))
                                                            go_ret
                                                            exact ⟨by first | rfl | (simp [errW_none, errW_some] <;> rfl) | (simp [*, errW_none, errW_some] <;> rfl), by repeat (first | (with_reducible first | exact HB.out | apply below_alloc | apply pw_below_drewN | apply below_drew1) | exact HB.out)⟩
                                                          · replace c70 := Bool.eq_false_iff.mpr c70
                                                            subst c70
                                                            have H1 : (some false) = some r := by rw [if_neg (show ¬ (false = true) by decide)] at H; exact H
                                                            clear H
                                                            have H := H1
                                                            clear H1
                                                            obtain rfl := Option.some.inj H
                                                            obtain ⟨Ao76, co76, eo76⟩ := Kd.R_slice HO_23.out
                                                            subst eo76
                                                            obtain ⟨Ao77, co77, eo77⟩ := Kd.R_slice HO_12.out
                                                            subst eo77
                                                            obtain ⟨Ao78, co78, eo78⟩ := Kd.R_slice HO_24.out
                                                            subst eo78
                                                            go_wp2_with (first | (go_at_call 19; (with_reducible refine (solsticekeep_Texts.calls k7 _ _ t252 _ _ x24_7 false _ ?side1 ?side2 ?side3 ?side4 A69.out).mono ?_); (case side1 => repeat (first | exact (Kd.R_reads' HO_12.out).2.2 | (with_reducible refine Kd.C_alloc ?_ _) | (with_reducible refine Kd.C_drewN ?_ _) | (with_reducible refine Kd.C_drew ?_))); (case side2 => exact (Kd.R_reads' HO_12.out).2.1); (case side3 => repeat (first | exact (Kd.R_reads' HO_24.out).2.2 | (with_reducible refine Kd.C_alloc ?_ _) | (with_reducible refine Kd.C_drewN ?_ _) | (with_reducible refine Kd.C_drew ?_))); (case side4 => exact (Kd.R_reads' HO_24.out).2.1); rintro e w' ⟨rfl, ⟨nd, rfl⟩⟩))
                                                            go_ret
                                                            exact ⟨by first | rfl | (simp [errW_none, errW_some] <;> rfl) | (simp [*, errW_none, errW_some] <;> rfl), by repeat (first | (with_reducible first | exact HB.out | apply below_alloc | apply pw_below_drewN | apply below_drew1) | exact HB.out)⟩
                                                        · rw [if_neg c68] at H
                                                          have c68b0 : (t253 == 0) = false := beq_eq_false_iff_ne.mpr c68
                                                          have c68b1 : (t253 != 0) = true := bne_iff_ne.mpr c68
                                                          obtain rfl := Option.some.inj H
                                                          obtain ⟨Ao79, co79, eo79⟩ := Kd.R_slice HO_23.out
                                                          subst eo79
                                                          go_wp2
                                                          go_ret
                                                          exact ⟨by first | rfl | (simp [errW_none, errW_some] <;> rfl) | (simp [*, errW_none, errW_some] <;> rfl), by repeat (first | (with_reducible first | exact HB.out | apply below_alloc | apply pw_below_drewN | apply below_drew1) | exact HB.out)⟩
                                                      · rw [if_neg c67] at H
                                                        have c67b0 : (x19_7 == 0) = false := beq_eq_false_iff_ne.mpr c67
                                                        have c67b1 : (x19_7 != 0) = true := bne_iff_ne.mpr c67
                                                        by_cases c80 : t253 = x19_7
                                                        · rw [if_pos c80] at H
                                                          have c80b0 : (t253 == x19_7) = true := beq_iff_eq.mpr c80
                                                          have c80b1 : (t253 != x19_7) = false := bne_eq_false_iff_eq.mpr c80
                                                          clear c80
                                                          by_cases c81 : (t252.length : Int) = 0
                                                          · rw [if_pos c81] at H
                                                            have c81b0 : ((t252.length : Int) == 0) = true := beq_iff_eq.mpr c81
                                                            have c81b1 : ((t252.length : Int) != 0) = false := bne_eq_false_iff_eq.mpr c81
                                                            clear c81
                                                            replace H := Option.bind_eq_some_iff.mp H
                                                            obtain ⟨t278, A820, H⟩ := H
                                                            replace H : (some t278) = some r := H
                                                            have A82 := Aside0.mk A820
                                                            clear A820
                                                            obtain rfl := Option.some.inj H
                                                            obtain ⟨Ao83, co83, eo83⟩ := Kd.R_slice HO_23.out
                                                            subst eo83
                                                            obtain ⟨Ao84, co84, eo84⟩ := Kd.R_slice HO_12.out
                                                            subst eo84
                                                            go_wp2_with (first | (go_at_call 21; (with_reducible refine (solsticelaw17_wakes.calls k7  t278 _ A82.out).mono ?_); rintro e w85 ⟨rfl, hb⟩; have n0_ := Aside0.mk (Kd.R_below (by (with_reducible repeat (first | apply Kd.R_alloc | apply Kd.R_drewN | apply Kd.R_drew)); exact HO_12.out) hb); have n1_ := Aside0.mk (Kd.R_below (by (with_reducible repeat (first | apply Kd.R_alloc | apply Kd.R_drewN | apply Kd.R_drew)); exact HO_23.out) hb); have n2_ := Aside0.mk (Kd.R_below (by (with_reducible repeat (first | apply Kd.R_alloc | apply Kd.R_drewN | apply Kd.R_drew)); exact HO_24.out) hb); have n3_ := Aside0.mk (below_step (by repeat (first | (with_reducible first | exact HB.out | apply below_alloc | apply pw_below_drewN | apply below_drew1) | exact HB.out)) hb); clear HO_12; clear HO_23; clear HO_24; clear HB; have HO_12 := n0_; have HO_23 := n1_; have HO_24 := n2_; have HB := n3_; clear n0_ n1_ n2_ n3_; (try clear hb); (try clear hb2); (try clear hk); (try clear hi)))
                                                            go_ret
                                                            exact ⟨by first | rfl | (simp [errW_none, errW_some] <;> rfl) | (simp [*, errW_none, errW_some] <;> rfl), by repeat (first | (with_reducible first | exact HB.out | apply below_alloc | apply pw_below_drewN | apply below_drew1) | exact HB.out)⟩
                                                          · rw [if_neg c81] at H
                                                            have c81b0 : ((t252.length : Int) == 0) = false := beq_eq_false_iff_ne.mpr c81
                                                            have c81b1 : ((t252.length : Int) != 0) = true := bne_iff_ne.mpr c81
                                                            have c81b2 : ¬ (t252 = []) := fun h_ => c81 (by rw [h_]; rfl)
                                                            obtain rfl := Option.some.inj H
                                                            obtain ⟨Ao86, co86, eo86⟩ := Kd.R_slice HO_23.out
                                                            subst eo86
                                                            obtain ⟨Ao87, co87, eo87⟩ := Kd.R_slice HO_12.out
                                                            subst eo87
                                                            go_wp2
                                                            go_ret
                                                            exact ⟨by first | rfl | (simp [errW_none, errW_some] <;> rfl) | (simp [*, errW_none, errW_some] <;> rfl), by repeat (first | (with_reducible first | exact HB.out | apply below_alloc | apply pw_below_drewN | apply below_drew1) | exact HB.out)⟩
                                                        · rw [if_neg c80] at H
                                                          have c80b0 : (t253 == x19_7) = false := beq_eq_false_iff_ne.mpr c80
                                                          have c80b1 : (t253 != x19_7) = true := bne_iff_ne.mpr c80
                                                          obtain rfl := Option.some.inj H
                                                          obtain ⟨Ao88, co88, eo88⟩ := Kd.R_slice HO_23.out
                                                          subst eo88
                                                          go_wp2
                                                          go_ret
                                                          exact ⟨by first | rfl | (simp [errW_none, errW_some] <;> rfl) | (simp [*, errW_none, errW_some] <;> rfl), by repeat (first | (with_reducible first | exact HB.out | apply below_alloc | apply pw_below_drewN | apply below_drew1) | exact HB.out)⟩

end Go.Proofs.Ytookjnpmbenheaa.PEsc
