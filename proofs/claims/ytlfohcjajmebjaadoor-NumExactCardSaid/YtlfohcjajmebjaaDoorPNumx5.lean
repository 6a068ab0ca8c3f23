-- Printed by a program of this session's over the kit's printer; library functions by contracts off the shelf.
import Derived.Test.YtlfohcjajmebjaaDoorGP
import Derived.Test.YtlfohcjajmebjaaDoorPNumx0
import Derived.Test.YtlfohcjajmebjaaDoorPNumx1
import Derived.Test.YtlfohcjajmebjaaDoorPNumx3
import Derived.Test.YtlfohcjajmebjaaDoorPNumx4
namespace Go.Proofs.YtlfohcjajmebjaaDoor.PNum
open Go.RowKit Go.Proofs.YtlfohcjajmebjaaDoorW.PrintWords Go.Proofs.YtlfohcjajmebjaaDoorW.PrintLast Go.Proofs.YtlfohcjajmebjaaDoorW.PrintMore Go.Proofs.YtlfohcjajmebjaaDoor.Base
attribute [local go_sem] max2_int min2_int max_two min_two max_three min_three max_four min_four   -- for this text's walks alone
set_option linter.unusedVariables false
set_option linter.unusedSimpArgs false

/-! ### solsticelaw01_NumExact: function 6 -/
mutual
def solsticelaw01_NumExact.j0 : Nat → Int → Int → ByteArray → Int → Int → Bool → Int → Bool → Bool → Option (Bool)
  | 0, _, _, _, _, _, _, _, _, _ => none
  | k + 1, x0, x1, x2, x13, x14, x15, x16, x17, x90 => if x90 = true then (some false) else (if x1 ≥ 1 then ((solsticeref01_Bound.f x0).bind fun t166 => (if t166 = true then ((solsticeref01_Bound.f x1).bind fun t167 => (solsticelaw01_NumExact.j1 k x0 x1 x2 x13 x14 x15 x16 x17 t167)) else (solsticelaw01_NumExact.j1 k x0 x1 x2 x13 x14 x15 x16 x17 false))) else (solsticelaw01_NumExact.j1 k x0 x1 x2 x13 x14 x15 x16 x17 false))
def solsticelaw01_NumExact.j1 : Nat → Int → Int → ByteArray → Int → Int → Bool → Int → Bool → Bool → Option (Bool)
  | 0, _, _, _, _, _, _, _, _, _ => none
  | k + 1, x0, x1, x2, x13, x14, x15, x16, x17, x22 => if (x15 != x22) = true then (solsticelaw01_NumExact.j2 k x0 x1 x2 x13 x14 x16 x17 x22 true) else (if x22 = true then (solsticelaw01_NumExact.j2 k x0 x1 x2 x13 x14 x16 x17 x22 false) else (if x13 = 0 then (solsticelaw01_NumExact.j2 k x0 x1 x2 x13 x14 x16 x17 x22 (x14 != 0)) else (solsticelaw01_NumExact.j2 k x0 x1 x2 x13 x14 x16 x17 x22 true)))
def solsticelaw01_NumExact.j2 : Nat → Int → Int → ByteArray → Int → Int → Int → Bool → Bool → Bool → Option (Bool)
  | 0, _, _, _, _, _, _, _, _, _ => none
  | k + 1, x0, x1, x2, x13, x14, x16, x17, x22, x115 => if x115 = true then (some false) else (if x22 = true then ((solsticeref01_Div.f x0 x1).bind fun bt168 => (if bt168.1 = x13 then (if bt168.2 = x14 then (solsticelaw01_NumExact.j3 k x2 x16 x17) else (some false)) else (some false))) else (solsticelaw01_NumExact.j3 k x2 x16 x17))
def solsticelaw01_NumExact.j3 : Nat → ByteArray → Int → Bool → Option (Bool)
  | 0, _, _, _ => none
  | k + 1, x2, x16, x17 => (solsticeref01_Digits.f k x2 1 18).bind fun t170 => (if t170 = true then (if x17 = true then ((solsticeref01_Value.f k x2).bind fun t171 => (if x16 = t171 then ((solsticelaw01_wakes.f k).bind fun t172 => (some t172)) else (some false))) else (some false)) else (if x17 = true then (some false) else (if x16 = 0 then ((solsticelaw01_wakes.f k).bind fun t173 => (some t173)) else (some false))))
end
def solsticelaw01_NumExact.f (k : Nat) (a0 : Int) (a1 : Int) (a2 : ByteArray) (a3 : Int) : Option (Bool) := if (a2.size : Int) > 100 then (some true) else ((num_Add.f a0 a1).bind fun bt151 => ((num_Mul.f k a0 a1).bind fun bt153 => ((num_Div.f k a0 a1).bind fun bt155 => ((num_Parse.f k a2).bind fun bt158 => ((solsticeref01_Add.f k a0 a1).bind fun bt160 => ((solsticeref01_Mul.f k a0 a1).bind fun bt162 => (if bt151.1 = bt160.1 then (if (bt151.2 != bt160.2) = true then (solsticelaw01_NumExact.j0 k a0 a1 a2 bt155.1 bt155.2.1 bt155.2.2 bt158.1 bt158.2 true) else (if bt153.1 = bt162.1 then (if (bt153.2 != bt162.2) = true then (solsticelaw01_NumExact.j0 k a0 a1 a2 bt155.1 bt155.2.1 bt155.2.2 bt158.1 bt158.2 true) else ((num_Text.f a0 a3).bind fun t164 => ((solsticeref01_Text.f k a0 a3).bind fun t165 => (solsticelaw01_NumExact.j0 k a0 a1 a2 bt155.1 bt155.2.1 bt155.2.2 bt158.1 bt158.2 (t164.toList != t165.toList))))) else (solsticelaw01_NumExact.j0 k a0 a1 a2 bt155.1 bt155.2.1 bt155.2.2 bt158.1 bt158.2 true))) else (solsticelaw01_NumExact.j0 k a0 a1 a2 bt155.1 bt155.2.1 bt155.2.2 bt158.1 bt158.2 true))))))))
theorem solsticelaw01_NumExact.mono_l : ∀ k, (∀ y0 y1 y2 y3 y4 y5 y6 y7 y8, LeO (solsticelaw01_NumExact.j0 k y0 y1 y2 y3 y4 y5 y6 y7 y8) (solsticelaw01_NumExact.j0 (k + 1) y0 y1 y2 y3 y4 y5 y6 y7 y8)) ∧ (∀ y0 y1 y2 y3 y4 y5 y6 y7 y8, LeO (solsticelaw01_NumExact.j1 k y0 y1 y2 y3 y4 y5 y6 y7 y8) (solsticelaw01_NumExact.j1 (k + 1) y0 y1 y2 y3 y4 y5 y6 y7 y8)) ∧ (∀ y0 y1 y2 y3 y4 y5 y6 y7 y8, LeO (solsticelaw01_NumExact.j2 k y0 y1 y2 y3 y4 y5 y6 y7 y8) (solsticelaw01_NumExact.j2 (k + 1) y0 y1 y2 y3 y4 y5 y6 y7 y8)) ∧ (∀ y0 y1 y2, LeO (solsticelaw01_NumExact.j3 k y0 y1 y2) (solsticelaw01_NumExact.j3 (k + 1) y0 y1 y2))
  | 0 => ⟨fun _ _ _ _ _ _ _ _ _ r h => by simp [solsticelaw01_NumExact.j0] at h, fun _ _ _ _ _ _ _ _ _ r h => by simp [solsticelaw01_NumExact.j1] at h, fun _ _ _ _ _ _ _ _ _ r h => by simp [solsticelaw01_NumExact.j2] at h, fun _ _ _ r h => by simp [solsticelaw01_NumExact.j3] at h⟩
  | k + 1 => by
    obtain ⟨ih0, ih1, ih2, ih3⟩ := solsticelaw01_NumExact.mono_l k
    refine ⟨?_, ?_, ?_, ?_⟩
    · intro y0 y1 y2 y3 y4 y5 y6 y7 y8
      unfold solsticelaw01_NumExact.j0
      repeat' first
      | (with_reducible exact ih0 _ _ _ _ _ _ _ _ _)
      | (with_reducible exact ih1 _ _ _ _ _ _ _ _ _)
      | (with_reducible exact ih2 _ _ _ _ _ _ _ _ _)
      | (with_reducible exact ih3 _ _ _)
      | (with_reducible exact num_Div.mono _ _ _)
      | (with_reducible exact num_Mul.mono _ _ _)
      | (with_reducible exact num_Parse.mono _ _)
      | (with_reducible exact solsticelaw01_wakes.mono _)
      | (with_reducible exact solsticeref01_Add.mono _ _ _)
      | (with_reducible exact solsticeref01_Digits.mono _ _ _ _)
      | (with_reducible exact solsticeref01_Mul.mono _ _ _)
      | (with_reducible exact solsticeref01_Text.mono _ _ _)
      | (with_reducible exact solsticeref01_Value.mono _ _)
      | (with_reducible exact LeO.refl _)
      | (with_reducible exact LeO.none _)
      | (with_reducible refine LeO.ite ?_ ?_)
      | (with_reducible refine LeO.bind ?_ (fun _ => ?_))
      | exact ih0 _ _ _ _ _ _ _ _ _
      | exact ih1 _ _ _ _ _ _ _ _ _
      | exact ih2 _ _ _ _ _ _ _ _ _
      | exact ih3 _ _ _
      | exact num_Div.mono _ _ _
      | exact num_Mul.mono _ _ _
      | exact num_Parse.mono _ _
      | exact solsticelaw01_wakes.mono _
      | exact solsticeref01_Add.mono _ _ _
      | exact solsticeref01_Digits.mono _ _ _ _
      | exact solsticeref01_Mul.mono _ _ _
      | exact solsticeref01_Text.mono _ _ _
      | exact solsticeref01_Value.mono _ _
      | exact LeO.none _
      | refine LeO.ite ?_ ?_
      | refine LeO.bind ?_ (fun _ => ?_)
    · intro y0 y1 y2 y3 y4 y5 y6 y7 y8
      unfold solsticelaw01_NumExact.j1
      repeat' first
      | (with_reducible exact ih0 _ _ _ _ _ _ _ _ _)
      | (with_reducible exact ih1 _ _ _ _ _ _ _ _ _)
      | (with_reducible exact ih2 _ _ _ _ _ _ _ _ _)
      | (with_reducible exact ih3 _ _ _)
      | (with_reducible exact num_Div.mono _ _ _)
      | (with_reducible exact num_Mul.mono _ _ _)
      | (with_reducible exact num_Parse.mono _ _)
      | (with_reducible exact solsticelaw01_wakes.mono _)
      | (with_reducible exact solsticeref01_Add.mono _ _ _)
      | (with_reducible exact solsticeref01_Digits.mono _ _ _ _)
      | (with_reducible exact solsticeref01_Mul.mono _ _ _)
      | (with_reducible exact solsticeref01_Text.mono _ _ _)
      | (with_reducible exact solsticeref01_Value.mono _ _)
      | (with_reducible exact LeO.refl _)
      | (with_reducible exact LeO.none _)
      | (with_reducible refine LeO.ite ?_ ?_)
      | (with_reducible refine LeO.bind ?_ (fun _ => ?_))
      | exact ih0 _ _ _ _ _ _ _ _ _
      | exact ih1 _ _ _ _ _ _ _ _ _
      | exact ih2 _ _ _ _ _ _ _ _ _
      | exact ih3 _ _ _
      | exact num_Div.mono _ _ _
      | exact num_Mul.mono _ _ _
      | exact num_Parse.mono _ _
      | exact solsticelaw01_wakes.mono _
      | exact solsticeref01_Add.mono _ _ _
      | exact solsticeref01_Digits.mono _ _ _ _
      | exact solsticeref01_Mul.mono _ _ _
      | exact solsticeref01_Text.mono _ _ _
      | exact solsticeref01_Value.mono _ _
      | exact LeO.none _
      | refine LeO.ite ?_ ?_
      | refine LeO.bind ?_ (fun _ => ?_)
    · intro y0 y1 y2 y3 y4 y5 y6 y7 y8
      unfold solsticelaw01_NumExact.j2
      repeat' first
      | (with_reducible exact ih0 _ _ _ _ _ _ _ _ _)
      | (with_reducible exact ih1 _ _ _ _ _ _ _ _ _)
      | (with_reducible exact ih2 _ _ _ _ _ _ _ _ _)
      | (with_reducible exact ih3 _ _ _)
      | (with_reducible exact num_Div.mono _ _ _)
      | (with_reducible exact num_Mul.mono _ _ _)
      | (with_reducible exact num_Parse.mono _ _)
      | (with_reducible exact solsticelaw01_wakes.mono _)
      | (with_reducible exact solsticeref01_Add.mono _ _ _)
      | (with_reducible exact solsticeref01_Digits.mono _ _ _ _)
      | (with_reducible exact solsticeref01_Mul.mono _ _ _)
      | (with_reducible exact solsticeref01_Text.mono _ _ _)
      | (with_reducible exact solsticeref01_Value.mono _ _)
      | (with_reducible exact LeO.refl _)
      | (with_reducible exact LeO.none _)
      | (with_reducible refine LeO.ite ?_ ?_)
      | (with_reducible refine LeO.bind ?_ (fun _ => ?_))
      | exact ih0 _ _ _ _ _ _ _ _ _
      | exact ih1 _ _ _ _ _ _ _ _ _
      | exact ih2 _ _ _ _ _ _ _ _ _
      | exact ih3 _ _ _
      | exact num_Div.mono _ _ _
      | exact num_Mul.mono _ _ _
      | exact num_Parse.mono _ _
      | exact solsticelaw01_wakes.mono _
      | exact solsticeref01_Add.mono _ _ _
      | exact solsticeref01_Digits.mono _ _ _ _
      | exact solsticeref01_Mul.mono _ _ _
      | exact solsticeref01_Text.mono _ _ _
      | exact solsticeref01_Value.mono _ _
      | exact LeO.none _
      | refine LeO.ite ?_ ?_
      | refine LeO.bind ?_ (fun _ => ?_)
    · intro y0 y1 y2
      unfold solsticelaw01_NumExact.j3
      repeat' first
      | (with_reducible exact ih0 _ _ _ _ _ _ _ _ _)
      | (with_reducible exact ih1 _ _ _ _ _ _ _ _ _)
      | (with_reducible exact ih2 _ _ _ _ _ _ _ _ _)
      | (with_reducible exact ih3 _ _ _)
      | (with_reducible exact num_Div.mono _ _ _)
      | (with_reducible exact num_Mul.mono _ _ _)
      | (with_reducible exact num_Parse.mono _ _)
      | (with_reducible exact solsticelaw01_wakes.mono _)
      | (with_reducible exact solsticeref01_Add.mono _ _ _)
      | (with_reducible exact solsticeref01_Digits.mono _ _ _ _)
      | (with_reducible exact solsticeref01_Mul.mono _ _ _)
      | (with_reducible exact solsticeref01_Text.mono _ _ _)
      | (with_reducible exact solsticeref01_Value.mono _ _)
      | (with_reducible exact LeO.refl _)
      | (with_reducible exact LeO.none _)
      | (with_reducible refine LeO.ite ?_ ?_)
      | (with_reducible refine LeO.bind ?_ (fun _ => ?_))
      | exact ih0 _ _ _ _ _ _ _ _ _
      | exact ih1 _ _ _ _ _ _ _ _ _
      | exact ih2 _ _ _ _ _ _ _ _ _
      | exact ih3 _ _ _
      | exact num_Div.mono _ _ _
      | exact num_Mul.mono _ _ _
      | exact num_Parse.mono _ _
      | exact solsticelaw01_wakes.mono _
      | exact solsticeref01_Add.mono _ _ _
      | exact solsticeref01_Digits.mono _ _ _ _
      | exact solsticeref01_Mul.mono _ _ _
      | exact solsticeref01_Text.mono _ _ _
      | exact solsticeref01_Value.mono _ _
      | exact LeO.none _
      | refine LeO.ite ?_ ?_
      | refine LeO.bind ?_ (fun _ => ?_)
theorem solsticelaw01_NumExact.mono : ∀ a0 a1 a2 a3 k, LeO (solsticelaw01_NumExact.f k a0 a1 a2 a3) (solsticelaw01_NumExact.f (k + 1) a0 a1 a2 a3) := by
  intro a0 a1 a2 a3 k
  obtain ⟨ih0, ih1, ih2, ih3⟩ := solsticelaw01_NumExact.mono_l k
  unfold solsticelaw01_NumExact.f
  repeat' first
      | (with_reducible exact ih0 _ _ _ _ _ _ _ _ _)
      | (with_reducible exact ih1 _ _ _ _ _ _ _ _ _)
      | (with_reducible exact ih2 _ _ _ _ _ _ _ _ _)
      | (with_reducible exact ih3 _ _ _)
      | (with_reducible exact num_Div.mono _ _ _)
      | (with_reducible exact num_Mul.mono _ _ _)
      | (with_reducible exact num_Parse.mono _ _)
      | (with_reducible exact solsticelaw01_wakes.mono _)
      | (with_reducible exact solsticeref01_Add.mono _ _ _)
      | (with_reducible exact solsticeref01_Digits.mono _ _ _ _)
      | (with_reducible exact solsticeref01_Mul.mono _ _ _)
      | (with_reducible exact solsticeref01_Text.mono _ _ _)
      | (with_reducible exact solsticeref01_Value.mono _ _)
      | (with_reducible exact LeO.refl _)
      | (with_reducible exact LeO.none _)
      | (with_reducible refine LeO.ite ?_ ?_)
      | (with_reducible refine LeO.bind ?_ (fun _ => ?_))
      | exact ih0 _ _ _ _ _ _ _ _ _
      | exact ih1 _ _ _ _ _ _ _ _ _
      | exact ih2 _ _ _ _ _ _ _ _ _
      | exact ih3 _ _ _
      | exact num_Div.mono _ _ _
      | exact num_Mul.mono _ _ _
      | exact num_Parse.mono _ _
      | exact solsticelaw01_wakes.mono _
      | exact solsticeref01_Add.mono _ _ _
      | exact solsticeref01_Digits.mono _ _ _ _
      | exact solsticeref01_Mul.mono _ _ _
      | exact solsticeref01_Text.mono _ _ _
      | exact solsticeref01_Value.mono _ _
      | exact LeO.none _
      | refine LeO.ite ?_ ?_
      | refine LeO.bind ?_ (fun _ => ?_)
set_option maxHeartbeats 8000000 in
set_option maxRecDepth 100000 in
theorem solsticelaw01_NumExact.calls (k : Nat) (a0 : Int) (a1 : Int) (a2 : ByteArray) (a3 : Int) (r : Bool) (w : World) (hG : GP w) (h : solsticelaw01_NumExact.f k a0 a1 a2 a3 = some r) :
    Calls Tryd.prog 6 #[.int .i64 a0, .int .i64 a1, .string a2, .int .i64 a3] w fun e w' => e = .returned (.bool r) ∧ Below w.heap.size w w' := by
  have HG := Aside0.mk hG
  clear hG
  have HB := Aside0.mk (Below.refl w.heap.size w)
  have H : (if (a2.size : Int) > 100 then (some true) else ((num_Add.f a0 a1).bind fun bt151 => ((num_Mul.f k a0 a1).bind fun bt153 => ((num_Div.f k a0 a1).bind fun bt155 => ((num_Parse.f k a2).bind fun bt158 => ((solsticeref01_Add.f k a0 a1).bind fun bt160 => ((solsticeref01_Mul.f k a0 a1).bind fun bt162 => (if bt151.1 = bt160.1 then (if (bt151.2 != bt160.2) = true then (solsticelaw01_NumExact.j0 k a0 a1 a2 bt155.1 bt155.2.1 bt155.2.2 bt158.1 bt158.2 true) else (if bt153.1 = bt162.1 then (if (bt153.2 != bt162.2) = true then (solsticelaw01_NumExact.j0 k a0 a1 a2 bt155.1 bt155.2.1 bt155.2.2 bt158.1 bt158.2 true) else ((num_Text.f a0 a3).bind fun t164 => ((solsticeref01_Text.f k a0 a3).bind fun t165 => (solsticelaw01_NumExact.j0 k a0 a1 a2 bt155.1 bt155.2.1 bt155.2.2 bt158.1 bt158.2 (t164.toList != t165.toList))))) else (solsticelaw01_NumExact.j0 k a0 a1 a2 bt155.1 bt155.2.1 bt155.2.2 bt158.1 bt158.2 true))) else (solsticelaw01_NumExact.j0 k a0 a1 a2 bt155.1 bt155.2.1 bt155.2.2 bt158.1 bt158.2 true))))))))) = some r := h
  clear h
  by_cases c5 : (a2.size : Int) > 100
  · rw [if_pos c5] at H
    have c5b0 : decide (100 < (a2.size : Int)) = true := decide_eq_true c5
    have c5b1 : decide (100 < a2.size) = true := decide_eq_true (by omega)
    clear c5
    obtain rfl := Option.some.inj H
    go_enter Tryd.func6, Tryd.ntmps6
    go_wp2
    go_ret
    exact ⟨by first | rfl | (simp [errW_none, errW_some] <;> rfl) | (simp [*, errW_none, errW_some] <;> rfl), by repeat (first | (with_reducible first | exact HB.out | apply below_alloc | apply pw_below_drewN | apply below_drew1) | exact HB.out)⟩
  · rw [if_neg c5] at H
    have c5b0 : decide (100 < (a2.size : Int)) = false := decide_eq_false c5
    have c5b1 : decide (100 < a2.size) = false := decide_eq_false (by omega)
    clear c5
    replace H := Option.bind_eq_some_iff.mp H
    obtain ⟨⟨t151, t152⟩, A60, H⟩ := H
    replace H : ((num_Mul.f k a0 a1).bind fun bt153 => ((num_Div.f k a0 a1).bind fun bt155 => ((num_Parse.f k a2).bind fun bt158 => ((solsticeref01_Add.f k a0 a1).bind fun bt160 => ((solsticeref01_Mul.f k a0 a1).bind fun bt162 => (if t151 = bt160.1 then (if (t152 != bt160.2) = true then (solsticelaw01_NumExact.j0 k a0 a1 a2 bt155.1 bt155.2.1 bt155.2.2 bt158.1 bt158.2 true) else (if bt153.1 = bt162.1 then (if (bt153.2 != bt162.2) = true then (solsticelaw01_NumExact.j0 k a0 a1 a2 bt155.1 bt155.2.1 bt155.2.2 bt158.1 bt158.2 true) else ((num_Text.f a0 a3).bind fun t164 => ((solsticeref01_Text.f k a0 a3).bind fun t165 => (solsticelaw01_NumExact.j0 k a0 a1 a2 bt155.1 bt155.2.1 bt155.2.2 bt158.1 bt158.2 (t164.toList != t165.toList))))) else (solsticelaw01_NumExact.j0 k a0 a1 a2 bt155.1 bt155.2.1 bt155.2.2 bt158.1 bt158.2 true))) else (solsticelaw01_NumExact.j0 k a0 a1 a2 bt155.1 bt155.2.1 bt155.2.2 bt158.1 bt158.2 true))))))) = some r := H
    have A6 := Aside0.mk A60
    clear A60
    replace H := Option.bind_eq_some_iff.mp H
    obtain ⟨⟨t153, t154⟩, A70, H⟩ := H
    replace H : ((num_Div.f k a0 a1).bind fun bt155 => ((num_Parse.f k a2).bind fun bt158 => ((solsticeref01_Add.f k a0 a1).bind fun bt160 => ((solsticeref01_Mul.f k a0 a1).bind fun bt162 => (if t151 = bt160.1 then (if (t152 != bt160.2) = true then (solsticelaw01_NumExact.j0 k a0 a1 a2 bt155.1 bt155.2.1 bt155.2.2 bt158.1 bt158.2 true) else (if t153 = bt162.1 then (if (t154 != bt162.2) = true then (solsticelaw01_NumExact.j0 k a0 a1 a2 bt155.1 bt155.2.1 bt155.2.2 bt158.1 bt158.2 true) else ((num_Text.f a0 a3).bind fun t164 => ((solsticeref01_Text.f k a0 a3).bind fun t165 => (solsticelaw01_NumExact.j0 k a0 a1 a2 bt155.1 bt155.2.1 bt155.2.2 bt158.1 bt158.2 (t164.toList != t165.toList))))) else (solsticelaw01_NumExact.j0 k a0 a1 a2 bt155.1 bt155.2.1 bt155.2.2 bt158.1 bt158.2 true))) else (solsticelaw01_NumExact.j0 k a0 a1 a2 bt155.1 bt155.2.1 bt155.2.2 bt158.1 bt158.2 true)))))) = some r := H
    have A7 := Aside0.mk A70
    clear A70
    replace H := Option.bind_eq_some_iff.mp H
    obtain ⟨⟨t155, t156, t157⟩, A80, H⟩ := H
    replace H : ((num_Parse.f k a2).bind fun bt158 => ((solsticeref01_Add.f k a0 a1).bind fun bt160 => ((solsticeref01_Mul.f k a0 a1).bind fun bt162 => (if t151 = bt160.1 then (if (t152 != bt160.2) = true then (solsticelaw01_NumExact.j0 k a0 a1 a2 t155 t156 t157 bt158.1 bt158.2 true) else (if t153 = bt162.1 then (if (t154 != bt162.2) = true then (solsticelaw01_NumExact.j0 k a0 a1 a2 t155 t156 t157 bt158.1 bt158.2 true) else ((num_Text.f a0 a3).bind fun t164 => ((solsticeref01_Text.f k a0 a3).bind fun t165 => (solsticelaw01_NumExact.j0 k a0 a1 a2 t155 t156 t157 bt158.1 bt158.2 (t164.toList != t165.toList))))) else (solsticelaw01_NumExact.j0 k a0 a1 a2 t155 t156 t157 bt158.1 bt158.2 true))) else (solsticelaw01_NumExact.j0 k a0 a1 a2 t155 t156 t157 bt158.1 bt158.2 true))))) = some r := H
    have A8 := Aside0.mk A80
    clear A80
    replace H := Option.bind_eq_some_iff.mp H
    obtain ⟨⟨t158, t159⟩, A90, H⟩ := H
    replace H : ((solsticeref01_Add.f k a0 a1).bind fun bt160 => ((solsticeref01_Mul.f k a0 a1).bind fun bt162 => (if t151 = bt160.1 then (if (t152 != bt160.2) = true then (solsticelaw01_NumExact.j0 k a0 a1 a2 t155 t156 t157 t158 t159 true) else (if t153 = bt162.1 then (if (t154 != bt162.2) = true then (solsticelaw01_NumExact.j0 k a0 a1 a2 t155 t156 t157 t158 t159 true) else ((num_Text.f a0 a3).bind fun t164 => ((solsticeref01_Text.f k a0 a3).bind fun t165 => (solsticelaw01_NumExact.j0 k a0 a1 a2 t155 t156 t157 t158 t159 (t164.toList != t165.toList))))) else (solsticelaw01_NumExact.j0 k a0 a1 a2 t155 t156 t157 t158 t159 true))) else (solsticelaw01_NumExact.j0 k a0 a1 a2 t155 t156 t157 t158 t159 true)))) = some r := H
    have A9 := Aside0.mk A90
    clear A90
    replace H := Option.bind_eq_some_iff.mp H
    obtain ⟨⟨t160, t161⟩, A100, H⟩ := H
    replace H : ((solsticeref01_Mul.f k a0 a1).bind fun bt162 => (if t151 = t160 then (if (t152 != t161) = true then (solsticelaw01_NumExact.j0 k a0 a1 a2 t155 t156 t157 t158 t159 true) else (if t153 = bt162.1 then (if (t154 != bt162.2) = true then (solsticelaw01_NumExact.j0 k a0 a1 a2 t155 t156 t157 t158 t159 true) else ((num_Text.f a0 a3).bind fun t164 => ((solsticeref01_Text.f k a0 a3).bind fun t165 => (solsticelaw01_NumExact.j0 k a0 a1 a2 t155 t156 t157 t158 t159 (t164.toList != t165.toList))))) else (solsticelaw01_NumExact.j0 k a0 a1 a2 t155 t156 t157 t158 t159 true))) else (solsticelaw01_NumExact.j0 k a0 a1 a2 t155 t156 t157 t158 t159 true))) = some r := H
    have A10 := Aside0.mk A100
    clear A100
    replace H := Option.bind_eq_some_iff.mp H
    obtain ⟨⟨t162, t163⟩, A110, H⟩ := H
    replace H : (if t151 = t160 then (if (t152 != t161) = true then (solsticelaw01_NumExact.j0 k a0 a1 a2 t155 t156 t157 t158 t159 true) else (if t153 = t162 then (if (t154 != t163) = true then (solsticelaw01_NumExact.j0 k a0 a1 a2 t155 t156 t157 t158 t159 true) else ((num_Text.f a0 a3).bind fun t164 => ((solsticeref01_Text.f k a0 a3).bind fun t165 => (solsticelaw01_NumExact.j0 k a0 a1 a2 t155 t156 t157 t158 t159 (t164.toList != t165.toList))))) else (solsticelaw01_NumExact.j0 k a0 a1 a2 t155 t156 t157 t158 t159 true))) else (solsticelaw01_NumExact.j0 k a0 a1 a2 t155 t156 t157 t158 t159 true)) = some r := H
    have A11 := Aside0.mk A110
    clear A110
    have HC12 := Aside0.mk H
    clear H
    go_enter Tryd.func6, Tryd.ntmps6
    go_upto_region 9 with (first | ((with_reducible refine gate_callee (f := 23) rfl ?_); refine goesL_ (some 31) rfl rfl Tryd.func23 (by kernel_rfl) rfl #[.int .i64 a0, .int .i64 a1] rfl (by (try simp only [List.map_toArray, List.map_cons, List.map_nil]); first | done | rfl | (simp only [List.length_drop, List.length_take]; rfl)) ?_; (with_reducible refine (num_Add.calls a0 a1 t151 t152 _ A6.out).mono ?_); rintro e w' ⟨rfl, ⟨nd, rfl⟩⟩; refine ⟨_, rfl, ?_⟩) | ((with_reducible refine gate_callee (f := 24) rfl ?_); refine goesL_ (some 37) rfl rfl Tryd.func24 (by kernel_rfl) rfl #[.int .i64 a0, .int .i64 a1] rfl (by (try simp only [List.map_toArray, List.map_cons, List.map_nil]); first | done | rfl | (simp only [List.length_drop, List.length_take]; rfl)) ?_; (with_reducible refine (num_Mul.calls k a0 a1 t153 t154 _ A7.out).mono ?_); rintro e w' ⟨rfl, ⟨nd, rfl⟩⟩; refine ⟨_, rfl, ?_⟩) | ((with_reducible refine gate_callee (f := 25) rfl ?_); refine goesL_ (some 43) rfl rfl Tryd.func25 (by kernel_rfl) rfl #[.int .i64 a0, .int .i64 a1] rfl (by (try simp only [List.map_toArray, List.map_cons, List.map_nil]); first | done | rfl | (simp only [List.length_drop, List.length_take]; rfl)) ?_; (with_reducible refine (num_Div.calls k a0 a1 t155 t156 t157 _ A8.out).mono ?_); rintro e w' ⟨rfl, ⟨nd, rfl⟩⟩; refine ⟨_, rfl, ?_⟩) | ((with_reducible refine gate_callee (f := 16) rfl ?_); refine goesL_ (some 49) rfl rfl Tryd.func16 (by kernel_rfl) rfl #[.string a2] rfl (by (try simp only [List.map_toArray, List.map_cons, List.map_nil]); first | done | rfl | (simp only [List.length_drop, List.length_take]; rfl)) ?_; (with_reducible refine (num_Parse.calls k a2 t158 t159 _ A9.out).mono ?_); rintro e w' ⟨rfl, ⟨nd, rfl⟩⟩; refine ⟨_, rfl, ?_⟩) | ((with_reducible refine gate_callee (f := 26) rfl ?_); refine goesL_ (some 55) rfl rfl Tryd.func26 (by kernel_rfl) rfl #[.int .i64 a0, .int .i64 a1] rfl (by (try simp only [List.map_toArray, List.map_cons, List.map_nil]); first | done | rfl | (simp only [List.length_drop, List.length_take]; rfl)) ?_; (with_reducible refine (solsticeref01_Add.calls k a0 a1 t160 t161 _ A10.out).mono ?_); rintro e w' ⟨rfl, ⟨nd, rfl⟩⟩; refine ⟨_, rfl, ?_⟩) | ((with_reducible refine gate_callee (f := 27) rfl ?_); refine goesL_ (some 61) rfl rfl Tryd.func27 (by kernel_rfl) rfl #[.int .i64 a0, .int .i64 a1] rfl (by (try simp only [List.map_toArray, List.map_cons, List.map_nil]); first | done | rfl | (simp only [List.length_drop, List.length_take]; rfl)) ?_; (with_reducible refine (solsticeref01_Mul.calls k a0 a1 t162 t163 _ A11.out).mono ?_); rintro e w13 ⟨rfl, hb⟩; refine ⟨_, rfl, ?_⟩; have n0_ := Aside0.mk (below_step (by repeat (first | (with_reducible first | exact HB.out | apply below_alloc | apply pw_below_drewN | apply below_drew1) | exact HB.out)) hb); clear HB; have HB := n0_; clear n0_; (try clear hb); (try clear hb2); (try clear hk); (try clear hi)))
    (try simp only [Act.put, List.setIfInBounds_toArray, List.set_cons_zero, List.set_cons_succ])
    go_cut [90] (fun v90 wc => ∃ (kq : Nat) (x90_11 : Bool), v90 = .bool x90_11 ∧ Aside0 (solsticelaw01_NumExact.j0 kq a0 a1 a2 t155 t156 t157 t158 t159 x90_11 = some r) ∧ Aside0 (kq ≤ k) ∧ Aside0 (Below w.heap.size w wc))
    case first =>
      have H := HC12.out
      clear HC12
      by_cases c14 : t151 = t160
      · rw [if_pos c14] at H
        have c14b0 : (t151 == t160) = true := beq_iff_eq.mpr c14
        have c14b1 : (t151 != t160) = false := bne_eq_false_iff_eq.mpr c14
        clear c14
        (first | rw [c14b0] | (simp only [i64_w, i32_w]; rw [c14b0]) | skip)
        by_cases c15 : (t152 != t161) = true
        · rw [if_pos c15] at H
          have c15b0 : (t152 != t161) = true := c15
          (try (have c15b1 : decide (t152 = t161) = false := by simpa using c15))
          (try (have c15b2 : (t152 == t161) = false := by simpa using c15))
          (try (have c15b3 : ¬ (t152 = t161) := by simpa using c15))
          clear c15
          have H' := Aside0.mk H
          clear H
          go_wp2
          go_meet
          case rel => exact ⟨_, (true), (by first | rfl | (simp; done) | (simp [*]; done)), H', ⟨by first | omega | exact Nat.le_refl _⟩, ⟨by repeat (first | (with_reducible first | exact HB.out | apply below_alloc | apply pw_below_drewN | apply below_drew1) | exact HB.out)⟩⟩
        · rw [if_neg c15] at H
          have c15b0 : (t152 != t161) = false := by simpa using c15
          (try (have c15b1 : decide (t152 = t161) = true := by simpa using c15))
          (try (have c15b2 : (t152 == t161) = true := by simpa using c15))
          clear c15
          by_cases c16 : t153 = t162
          · rw [if_pos c16] at H
            have c16b0 : (t153 == t162) = true := beq_iff_eq.mpr c16
            have c16b1 : (t153 != t162) = false := bne_eq_false_iff_eq.mpr c16
            clear c16
            by_cases c17 : (t154 != t163) = true
            · rw [if_pos c17] at H
              have c17b0 : (t154 != t163) = true := c17
              (try (have c17b1 : decide (t154 = t163) = false := by simpa using c17))
              (try (have c17b2 : (t154 == t163) = false := by simpa using c17))
              (try (have c17b3 : ¬ (t154 = t163) := by simpa using c17))
              clear c17
              have H' := Aside0.mk H
              clear H
              go_wp2
              go_meet
              case rel => exact ⟨_, (true), (by first | rfl | (simp; done) | (simp [*]; done)), H', ⟨by first | omega | exact Nat.le_refl _⟩, ⟨by repeat (first | (with_reducible first | exact HB.out | apply below_alloc | apply pw_below_drewN | apply below_drew1) | exact HB.out)⟩⟩
            · rw [if_neg c17] at H
              have c17b0 : (t154 != t163) = false := by simpa using c17
              (try (have c17b1 : decide (t154 = t163) = true := by simpa using c17))
              (try (have c17b2 : (t154 == t163) = true := by simpa using c17))
              clear c17
              replace H := Option.bind_eq_some_iff.mp H
              obtain ⟨t164, A180, H⟩ := H
              replace H : ((solsticeref01_Text.f k a0 a3).bind fun t165 => (solsticelaw01_NumExact.j0 k a0 a1 a2 t155 t156 t157 t158 t159 (t164.toList != t165.toList))) = some r := H
              have A18 := Aside0.mk A180
              clear A180
              replace H := Option.bind_eq_some_iff.mp H
              obtain ⟨t165, A190, H⟩ := H
              replace H : (solsticelaw01_NumExact.j0 k a0 a1 a2 t155 t156 t157 t158 t159 (t164.toList != t165.toList)) = some r := H
              have A19 := Aside0.mk A190
              clear A190
              have H' := Aside0.mk H
              clear H
              go_wp2_with (first | (go_at_call 15; (with_reducible refine (num_Text.calls a0 a3 t164 _ ?sideG A18.out).mono ?_); (case sideG => first | exact GP_below HG.out (by repeat (first | (with_reducible first | exact HB.out | apply below_alloc | apply pw_below_drewN | apply below_drew1) | exact HB.out)) | repeat (first | exact HG.out | refine GP_alloc ?_ _ | refine GP_drewN ?_ _ | refine GP_drew ?_)); rintro e w20 ⟨rfl, hb⟩; have n0_ := Aside0.mk (below_step (by repeat (first | (with_reducible first | exact HB.out | apply below_alloc | apply pw_below_drewN | apply below_drew1) | exact HB.out)) hb); clear HB; have HB := n0_; clear n0_; (try clear hb); (try clear hb2); (try clear hk); (try clear hi)) | (go_at_call 28; (with_reducible refine (solsticeref01_Text.calls k a0 a3 t165 _ A19.out).mono ?_); rintro e w21 ⟨rfl, hb⟩; have n0_ := Aside0.mk (below_step (by repeat (first | (with_reducible first | exact HB.out | apply below_alloc | apply pw_below_drewN | apply below_drew1) | exact HB.out)) hb); clear HB; have HB := n0_; clear n0_; (try clear hb); (try clear hb2); (try clear hk); (try clear hi)))
              go_meet
              case rel => exact ⟨_, ((t164.toList != t165.toList)), (by first | rfl | (simp; done) | (simp [*]; done)), H', ⟨by first | omega | exact Nat.le_refl _⟩, ⟨by repeat (first | (with_reducible first | exact HB.out | apply below_alloc | apply pw_below_drewN | apply below_drew1) | exact HB.out)⟩⟩
          · rw [if_neg c16] at H
            have c16b0 : (t153 == t162) = false := beq_eq_false_iff_ne.mpr c16
            have c16b1 : (t153 != t162) = true := bne_iff_ne.mpr c16
            have H' := Aside0.mk H
            clear H
            go_wp2
            go_meet
            case rel => exact ⟨_, (true), (by first | rfl | (simp; done) | (simp [*]; done)), H', ⟨by first | omega | exact Nat.le_refl _⟩, ⟨by repeat (first | (with_reducible first | exact HB.out | apply below_alloc | apply pw_below_drewN | apply below_drew1) | exact HB.out)⟩⟩
      · rw [if_neg c14] at H
        have c14b0 : (t151 == t160) = false := beq_eq_false_iff_ne.mpr c14
        have c14b1 : (t151 != t160) = true := bne_iff_ne.mpr c14
        (first | rw [c14b0] | (simp only [i64_w, i32_w]; rw [c14b0]) | skip)
        have H' := Aside0.mk H
        clear H
        go_wp2
        go_meet
        case rel => exact ⟨_, (true), (by first | rfl | (simp; done) | (simp [*]; done)), H', ⟨by first | omega | exact Nat.le_refl _⟩, ⟨by repeat (first | (with_reducible first | exact HB.out | apply below_alloc | apply pw_below_drewN | apply below_drew1) | exact HB.out)⟩⟩
    case rest =>
      as_aux_lemma =>
        clear HC12
        try clear c1
        try clear c2
        try clear p2
        try clear c5
        try clear c5b0
        try clear c5b1
        try clear c6
        try clear c14
        try clear c14b0
        try clear c14b1
        try clear c15
        try clear c15b0
        try clear c15b1
        try clear c15b2
        try clear c16
        try clear c16b0
        try clear c16b1
        try clear c17
        try clear c17b0
        try clear c17b1
        try clear c17b2
        obtain ⟨kq, x90_11, rfl, HA, HJ11, HB⟩ := hcut
        cases kq with
        | zero => exact absurd HA.out (by simp [solsticelaw01_NumExact.j0])
        | succ kj11 =>
          have H := HA.out
          clear HA
          simp only [solsticelaw01_NumExact.j0] at H
          by_cases c22 : x90_11 = true
          · subst c22
            have H1 : (some false) = some r := by rw [if_pos rfl] at H; exact H
            clear H
            have H := H1
            clear H1
            obtain rfl := Option.some.inj H
            go_wp2
            go_ret
            exact ⟨by first | rfl | (simp [errW_none, errW_some] <;> rfl) | (simp [*, errW_none, errW_some] <;> rfl), by repeat (first | (with_reducible first | exact HB.out | apply below_alloc | apply pw_below_drewN | apply below_drew1) | exact HB.out)⟩
          · replace c22 := Bool.eq_false_iff.mpr c22
            subst c22
            have H1 : (if a1 ≥ 1 then ((solsticeref01_Bound.f a0).bind fun t166 => (if t166 = true then ((solsticeref01_Bound.f a1).bind fun t167 => (solsticelaw01_NumExact.j1 kj11 a0 a1 a2 t155 t156 t157 t158 t159 t167)) else (solsticelaw01_NumExact.j1 kj11 a0 a1 a2 t155 t156 t157 t158 t159 false))) else (solsticelaw01_NumExact.j1 kj11 a0 a1 a2 t155 t156 t157 t158 t159 false)) = some r := by rw [if_neg (show ¬ (false = true) by decide)] at H; exact H
            clear H
            have H := H1
            clear H1
            have HC23 := Aside0.mk H
            clear H
            go_upto_region 11 with (fail)
            go_cut [22] (fun v22 wc => ∃ (kq : Nat) (x22_22 : Bool), v22 = .bool x22_22 ∧ Aside0 (solsticelaw01_NumExact.j1 kq a0 a1 a2 t155 t156 t157 t158 t159 x22_22 = some r) ∧ Aside0 (kq ≤ kj11) ∧ Aside0 (Below w.heap.size w wc))
            case first =>
              have H := HC23.out
              clear HC23
              by_cases c24 : a1 ≥ 1
              · rw [if_pos c24] at H
                have c24b0 : decide (1 ≤ a1) = true := decide_eq_true c24
                clear c24
                (first | rw [c24b0] | (simp only [i64_w, i32_w]; rw [c24b0]) | skip)
                replace H := Option.bind_eq_some_iff.mp H
                obtain ⟨t166, A250, H⟩ := H
                replace H : (if t166 = true then ((solsticeref01_Bound.f a1).bind fun t167 => (solsticelaw01_NumExact.j1 kj11 a0 a1 a2 t155 t156 t157 t158 t159 t167)) else (solsticelaw01_NumExact.j1 kj11 a0 a1 a2 t155 t156 t157 t158 t159 false)) = some r := H
                have A25 := Aside0.mk A250
                clear A250
                by_cases c26 : t166 = true
                · subst c26
                  have H1 : ((solsticeref01_Bound.f a1).bind fun t167 => (solsticelaw01_NumExact.j1 kj11 a0 a1 a2 t155 t156 t157 t158 t159 t167)) = some r := by rw [if_pos rfl] at H; exact H
                  clear H
                  have H := H1
                  clear H1
                  replace H := Option.bind_eq_some_iff.mp H
                  obtain ⟨t167, A270, H⟩ := H
                  replace H : (solsticelaw01_NumExact.j1 kj11 a0 a1 a2 t155 t156 t157 t158 t159 t167) = some r := H
                  have A27 := Aside0.mk A270
                  clear A270
                  have H' := Aside0.mk H
                  clear H
                  go_wp2_with (first | (go_at_call 29; (with_reducible refine (solsticeref01_Bound.calls a0 true _ A25.out).mono ?_); rintro e w' ⟨rfl, ⟨nd, rfl⟩⟩) | (go_at_call 29; (with_reducible refine (solsticeref01_Bound.calls a1 t167 _ A27.out).mono ?_); rintro e w' ⟨rfl, ⟨nd, rfl⟩⟩))
                  go_meet
                  case rel => exact ⟨_, (t167), (by first | rfl | (simp; done) | (simp [*]; done)), H', ⟨by have := HJ11.out; first | omega | exact Nat.le_refl _⟩, ⟨by repeat (first | (with_reducible first | exact HB.out | apply below_alloc | apply pw_below_drewN | apply below_drew1) | exact HB.out)⟩⟩
                · replace c26 := Bool.eq_false_iff.mpr c26
                  subst c26
                  have H1 : (solsticelaw01_NumExact.j1 kj11 a0 a1 a2 t155 t156 t157 t158 t159 false) = some r := by rw [if_neg (show ¬ (false = true) by decide)] at H; exact H
                  clear H
                  have H := H1
                  clear H1
                  have H' := Aside0.mk H
                  clear H
                  go_wp2_with (first | (go_at_call 29; (with_reducible refine (solsticeref01_Bound.calls a0 false _ A25.out).mono ?_); rintro e w' ⟨rfl, ⟨nd, rfl⟩⟩))
                  go_meet
                  case rel => exact ⟨_, (false), (by first | rfl | (simp; done) | (simp [*]; done)), H', ⟨by have := HJ11.out; first | omega | exact Nat.le_refl _⟩, ⟨by repeat (first | (with_reducible first | exact HB.out | apply below_alloc | apply pw_below_drewN | apply below_drew1) | exact HB.out)⟩⟩
              · rw [if_neg c24] at H
                have c24b0 : decide (1 ≤ a1) = false := decide_eq_false c24
                clear c24
                (first | rw [c24b0] | (simp only [i64_w, i32_w]; rw [c24b0]) | skip)
                have H' := Aside0.mk H
                clear H
                go_wp2
                go_meet
                case rel => exact ⟨_, (false), (by first | rfl | (simp; done) | (simp [*]; done)), H', ⟨by have := HJ11.out; first | omega | exact Nat.le_refl _⟩, ⟨by repeat (first | (with_reducible first | exact HB.out | apply below_alloc | apply pw_below_drewN | apply below_drew1) | exact HB.out)⟩⟩
            case rest =>
              as_aux_lemma =>
                clear HC23
                try clear c1
                try clear c2
                try clear p2
                try clear c5
                try clear c5b0
                try clear c5b1
                try clear c6
                try clear c14
                try clear c14b0
                try clear c14b1
                try clear c15
                try clear c15b0
                try clear c15b1
                try clear c15b2
                try clear c16
                try clear c16b0
                try clear c16b1
                try clear c17
                try clear c17b0
                try clear c17b1
                try clear c17b2
                try clear c22
                try clear c23
                try clear c24
                try clear c24b0
                try clear c25
                try clear c26
                try clear c27
                try clear p2
                obtain ⟨kq, x22_22, rfl, HA, HJ22, HB⟩ := hcut
                cases kq with
                | zero => exact absurd HA.out (by simp [solsticelaw01_NumExact.j1])
                | succ kj22 =>
                  have H := HA.out
                  clear HA
                  simp only [solsticelaw01_NumExact.j1] at H
                  have HC28 := Aside0.mk H
                  clear H
                  go_upto_region 12 with (fail)
                  go_cut [115] (fun v115 wc => ∃ (kq : Nat) (x115_27 : Bool), v115 = .bool x115_27 ∧ Aside0 (solsticelaw01_NumExact.j2 kq a0 a1 a2 t155 t156 t158 t159 x22_22 x115_27 = some r) ∧ Aside0 (kq ≤ kj22) ∧ Aside0 (Below w.heap.size w wc))
                  case first =>
                    have H := HC28.out
                    clear HC28
                    by_cases c29 : (t157 != x22_22) = true
                    · rw [if_pos c29] at H
                      have c29b0 : (t157 != x22_22) = true := c29
                      (try (have c29b1 : decide (t157 = x22_22) = false := by simpa using c29))
                      (try (have c29b2 : (t157 == x22_22) = false := by simpa using c29))
                      (try (have c29b3 : ¬ (t157 = x22_22) := by simpa using c29))
                      clear c29
                      (first | rw [c29b0] | (simp only [i64_w, i32_w]; rw [c29b0]) | skip)
                      have H' := Aside0.mk H
                      clear H
                      go_wp2
                      go_meet
                      case rel => exact ⟨_, (true), (by first | rfl | (simp; done) | (simp [*]; done)), H', ⟨by have := HJ11.out; have := HJ22.out; first | omega | exact Nat.le_refl _⟩, ⟨by repeat (first | (with_reducible first | exact HB.out | apply below_alloc | apply pw_below_drewN | apply below_drew1) | exact HB.out)⟩⟩
                    · rw [if_neg c29] at H
                      have c29b0 : (t157 != x22_22) = false := by simpa using c29
                      (try (have c29b1 : decide (t157 = x22_22) = true := by simpa using c29))
                      (try (have c29b2 : (t157 == x22_22) = true := by simpa using c29))
                      clear c29
                      (first | rw [c29b0] | (simp only [i64_w, i32_w]; rw [c29b0]) | skip)
                      by_cases c30 : x22_22 = true
                      · subst c30
                        have H1 : (solsticelaw01_NumExact.j2 kj22 a0 a1 a2 t155 t156 t158 t159 true false) = some r := by rw [if_pos rfl] at H; exact H
                        clear H
                        have H := H1
                        clear H1
                        have H' := Aside0.mk H
                        clear H
                        go_wp2
                        go_meet
                        case rel => exact ⟨_, (false), (by first | rfl | (simp; done) | (simp [*]; done)), H', ⟨by have := HJ11.out; have := HJ22.out; first | omega | exact Nat.le_refl _⟩, ⟨by repeat (first | (with_reducible first | exact HB.out | apply below_alloc | apply pw_below_drewN | apply below_drew1) | exact HB.out)⟩⟩
                      · replace c30 := Bool.eq_false_iff.mpr c30
                        subst c30
                        have H1 : (if t155 = 0 then (solsticelaw01_NumExact.j2 kj22 a0 a1 a2 t155 t156 t158 t159 false (t156 != 0)) else (solsticelaw01_NumExact.j2 kj22 a0 a1 a2 t155 t156 t158 t159 false true)) = some r := by rw [if_neg (show ¬ (false = true) by decide)] at H; exact H
                        clear H
                        have H := H1
                        clear H1
                        by_cases c31 : t155 = 0
                        · rw [if_pos c31] at H
                          have c31b0 : (t155 == 0) = true := beq_iff_eq.mpr c31
                          have c31b1 : (t155 != 0) = false := bne_eq_false_iff_eq.mpr c31
                          clear c31
                          have H' := Aside0.mk H
                          clear H
                          go_wp2
                          go_meet
                          case rel => exact ⟨_, ((t156 != 0)), (by first | rfl | (simp; done) | (simp [*]; done)), H', ⟨by have := HJ11.out; have := HJ22.out; first | omega | exact Nat.le_refl _⟩, ⟨by repeat (first | (with_reducible first | exact HB.out | apply below_alloc | apply pw_below_drewN | apply below_drew1) | exact HB.out)⟩⟩
                        · rw [if_neg c31] at H
                          have c31b0 : (t155 == 0) = false := beq_eq_false_iff_ne.mpr c31
                          have c31b1 : (t155 != 0) = true := bne_iff_ne.mpr c31
                          have H' := Aside0.mk H
                          clear H
                          go_wp2
                          go_meet
                          case rel => exact ⟨_, (true), (by first | rfl | (simp; done) | (simp [*]; done)), H', ⟨by have := HJ11.out; have := HJ22.out; first | omega | exact Nat.le_refl _⟩, ⟨by repeat (first | (with_reducible first | exact HB.out | apply below_alloc | apply pw_below_drewN | apply below_drew1) | exact HB.out)⟩⟩
                  case rest =>
                    as_aux_lemma =>
                      clear HC28
                      try clear c1
                      try clear c2
                      try clear p2
                      try clear c3
                      try clear c5
                      try clear c5b0
                      try clear c5b1
                      try clear c6
                      try clear c14
                      try clear c14b0
                      try clear c14b1
                      try clear c15
                      try clear c15b0
                      try clear c15b1
                      try clear c15b2
                      try clear c16
                      try clear c16b0
                      try clear c16b1
                      try clear c17
                      try clear c17b0
                      try clear c17b1
                      try clear c17b2
                      try clear c22
                      try clear c23
                      try clear c24
                      try clear c24b0
                      try clear c25
                      try clear c26
                      try clear c27
                      try clear c29
                      try clear c29b0
                      try clear c29b1
                      try clear c29b2
                      try clear c30
                      try clear c31
                      try clear c31b0
                      try clear c31b1
                      try clear p2
                      obtain ⟨kq, x115_27, rfl, HA, HJ27, HB⟩ := hcut
                      cases kq with
                      | zero => exact absurd HA.out (by simp [solsticelaw01_NumExact.j2])
                      | succ kj27 =>
                        have H := HA.out
                        clear HA
                        simp only [solsticelaw01_NumExact.j2] at H
                        by_cases c32 : x115_27 = true
                        · subst c32
                          have H1 : (some false) = some r := by rw [if_pos rfl] at H; exact H
                          clear H
                          have H := H1
                          clear H1
                          obtain rfl := Option.some.inj H
                          go_wp2
                          go_ret
                          exact ⟨by first | rfl | (simp [errW_none, errW_some] <;> rfl) | (simp [*, errW_none, errW_some] <;> rfl), by repeat (first | (with_reducible first | exact HB.out | apply below_alloc | apply pw_below_drewN | apply below_drew1) | exact HB.out)⟩
                        · replace c32 := Bool.eq_false_iff.mpr c32
                          subst c32
                          have H1 : (if x22_22 = true then ((solsticeref01_Div.f a0 a1).bind fun bt168 => (if bt168.1 = t155 then (if bt168.2 = t156 then (solsticelaw01_NumExact.j3 kj27 a2 t158 t159) else (some false)) else (some false))) else (solsticelaw01_NumExact.j3 kj27 a2 t158 t159)) = some r := by rw [if_neg (show ¬ (false = true) by decide)] at H; exact H
                          clear H
                          have H := H1
                          clear H1
                          have HC33 := Aside0.mk H
                          clear H
                          go_upto_if 116 with (fail)
                          go_cut [] (fun wc => ∃ (kq : Nat), Aside0 (solsticelaw01_NumExact.j3 kq a2 t158 t159 = some r) ∧ Aside0 (kq ≤ kj27) ∧ Aside0 (Below w.heap.size w wc))
                          case first =>
                            have H := HC33.out
                            clear HC33
                            by_cases c34 : x22_22 = true
                            · subst c34
                              have H1 : ((solsticeref01_Div.f a0 a1).bind fun bt168 => (if bt168.1 = t155 then (if bt168.2 = t156 then (solsticelaw01_NumExact.j3 kj27 a2 t158 t159) else (some false)) else (some false))) = some r := by rw [if_pos rfl] at H; exact H
                              clear H
                              have H := H1
                              clear H1
                              replace H := Option.bind_eq_some_iff.mp H
                              obtain ⟨⟨t168, t169⟩, A350, H⟩ := H
                              replace H : (if t168 = t155 then (if t169 = t156 then (solsticelaw01_NumExact.j3 kj27 a2 t158 t159) else (some false)) else (some false)) = some r := H
                              have A35 := Aside0.mk A350
                              clear A350
                              by_cases c36 : t168 = t155
                              · rw [if_pos c36] at H
                                have c36b0 : (t168 == t155) = true := beq_iff_eq.mpr c36
                                have c36b1 : (t168 != t155) = false := bne_eq_false_iff_eq.mpr c36
                                clear c36
                                (first | rw [c36b0] | (simp only [i64_w, i32_w]; rw [c36b0]) | skip)
                                by_cases c37 : t169 = t156
                                · rw [if_pos c37] at H
                                  have c37b0 : (t169 == t156) = true := beq_iff_eq.mpr c37
                                  have c37b1 : (t169 != t156) = false := bne_eq_false_iff_eq.mpr c37
                                  clear c37
                                  have H' := Aside0.mk H
                                  clear H
                                  go_wp2_with (first | ((with_reducible refine gate_callee (f := 30) rfl ?_); refine goesL_ (some 120) rfl rfl Tryd.func30 (by kernel_rfl) rfl #[.int .i64 a0, .int .i64 a1] rfl (by (try simp only [List.map_toArray, List.map_cons, List.map_nil]); first | done | rfl | (simp only [List.length_drop, List.length_take]; rfl)) ?_; (with_reducible refine (solsticeref01_Div.calls a0 a1 t168 t169 _ A35.out).mono ?_); rintro e w' ⟨rfl, ⟨nd, rfl⟩⟩; refine ⟨_, rfl, ?_⟩))
                                  go_meet
                                  case rel => exact ⟨_, H', ⟨by have := HJ11.out; have := HJ22.out; have := HJ27.out; first | omega | exact Nat.le_refl _⟩, ⟨by repeat (first | (with_reducible first | exact HB.out | apply below_alloc | apply pw_below_drewN | apply below_drew1) | exact HB.out)⟩⟩
                                · rw [if_neg c37] at H
                                  have c37b0 : (t169 == t156) = false := beq_eq_false_iff_ne.mpr c37
                                  have c37b1 : (t169 != t156) = true := bne_iff_ne.mpr c37
                                  obtain rfl := Option.some.inj H
                                  go_wp2_with (first | ((with_reducible refine gate_callee (f := 30) rfl ?_); refine goesL_ (some 120) rfl rfl Tryd.func30 (by kernel_rfl) rfl #[.int .i64 a0, .int .i64 a1] rfl (by (try simp only [List.map_toArray, List.map_cons, List.map_nil]); first | done | rfl | (simp only [List.length_drop, List.length_take]; rfl)) ?_; (with_reducible refine (solsticeref01_Div.calls a0 a1 t168 t169 _ A35.out).mono ?_); rintro e w' ⟨rfl, ⟨nd, rfl⟩⟩; refine ⟨_, rfl, ?_⟩))
                                  go_ret
                                  exact ⟨by first | rfl | (simp [errW_none, errW_some] <;> rfl) | (simp [*, errW_none, errW_some] <;> rfl), by repeat (first | (with_reducible first | exact HB.out | apply below_alloc | apply pw_below_drewN | apply below_drew1) | exact HB.out)⟩
                              · rw [if_neg c36] at H
                                have c36b0 : (t168 == t155) = false := beq_eq_false_iff_ne.mpr c36
                                have c36b1 : (t168 != t155) = true := bne_iff_ne.mpr c36
                                (first | rw [c36b0] | (simp only [i64_w, i32_w]; rw [c36b0]) | skip)
                                obtain rfl := Option.some.inj H
                                go_wp2_with (first | ((with_reducible refine gate_callee (f := 30) rfl ?_); refine goesL_ (some 120) rfl rfl Tryd.func30 (by kernel_rfl) rfl #[.int .i64 a0, .int .i64 a1] rfl (by (try simp only [List.map_toArray, List.map_cons, List.map_nil]); first | done | rfl | (simp only [List.length_drop, List.length_take]; rfl)) ?_; (with_reducible refine (solsticeref01_Div.calls a0 a1 t168 t169 _ A35.out).mono ?_); rintro e w' ⟨rfl, ⟨nd, rfl⟩⟩; refine ⟨_, rfl, ?_⟩))
                                go_ret
                                exact ⟨by first | rfl | (simp [errW_none, errW_some] <;> rfl) | (simp [*, errW_none, errW_some] <;> rfl), by repeat (first | (with_reducible first | exact HB.out | apply below_alloc | apply pw_below_drewN | apply below_drew1) | exact HB.out)⟩
                            · replace c34 := Bool.eq_false_iff.mpr c34
                              subst c34
                              have H1 : (solsticelaw01_NumExact.j3 kj27 a2 t158 t159) = some r := by rw [if_neg (show ¬ (false = true) by decide)] at H; exact H
                              clear H
                              have H := H1
                              clear H1
                              have H' := Aside0.mk H
                              clear H
                              go_wp2
                              go_meet
                              case rel => exact ⟨_, H', ⟨by have := HJ11.out; have := HJ22.out; have := HJ27.out; first | omega | exact Nat.le_refl _⟩, ⟨by repeat (first | (with_reducible first | exact HB.out | apply below_alloc | apply pw_below_drewN | apply below_drew1) | exact HB.out)⟩⟩
                          case rest =>
                            as_aux_lemma =>
                              clear HC33
                              try clear c1
                              try clear c2
                              try clear p2
                              try clear c3
                              try clear c5
                              try clear c5b0
                              try clear c5b1
                              try clear c6
                              try clear c14
                              try clear c14b0
                              try clear c14b1
                              try clear c15
                              try clear c15b0
                              try clear c15b1
                              try clear c15b2
                              try clear c16
                              try clear c16b0
                              try clear c16b1
                              try clear c17
                              try clear c17b0
                              try clear c17b1
                              try clear c17b2
                              try clear c22
                              try clear c23
                              try clear c24
                              try clear c24b0
                              try clear c25
                              try clear c26
                              try clear c27
                              try clear c29
                              try clear c29b0
                              try clear c29b1
                              try clear c29b2
                              try clear c30
                              try clear c31
                              try clear c31b0
                              try clear c31b1
                              try clear c32
                              try clear c34
                              try clear c36
                              try clear c36b0
                              try clear c36b1
                              try clear c37
                              try clear c37b0
                              try clear c37b1
                              try clear p2
                              obtain ⟨kq, HA, HJ32, HB⟩ := hcut
                              cases kq with
                              | zero => exact absurd HA.out (by simp [solsticelaw01_NumExact.j3])
                              | succ kj32 =>
                                have H := HA.out
                                clear HA
                                simp only [solsticelaw01_NumExact.j3] at H
                                replace H := Option.bind_eq_some_iff.mp H
                                obtain ⟨t170, A380, H⟩ := H
                                replace H : (if t170 = true then (if t159 = true then ((solsticeref01_Value.f kj32 a2).bind fun t171 => (if t158 = t171 then ((solsticelaw01_wakes.f kj32).bind fun t172 => (some t172)) else (some false))) else (some false)) else (if t159 = true then (some false) else (if t158 = 0 then ((solsticelaw01_wakes.f kj32).bind fun t173 => (some t173)) else (some false)))) = some r := H
                                have A38 := Aside0.mk A380
                                clear A380
                                by_cases c39 : t170 = true
                                · subst c39
                                  have H1 : (if t159 = true then ((solsticeref01_Value.f kj32 a2).bind fun t171 => (if t158 = t171 then ((solsticelaw01_wakes.f kj32).bind fun t172 => (some t172)) else (some false))) else (some false)) = some r := by rw [if_pos rfl] at H; exact H
                                  clear H
                                  have H := H1
                                  clear H1
                                  by_cases c40 : t159 = true
                                  · subst c40
                                    have H1 : ((solsticeref01_Value.f kj32 a2).bind fun t171 => (if t158 = t171 then ((solsticelaw01_wakes.f kj32).bind fun t172 => (some t172)) else (some false))) = some r := by rw [if_pos rfl] at H; exact H
                                    clear H
                                    have H := H1
                                    clear H1
                                    replace H := Option.bind_eq_some_iff.mp H
                                    obtain ⟨t171, A410, H⟩ := H
                                    replace H : (if t158 = t171 then ((solsticelaw01_wakes.f kj32).bind fun t172 => (some t172)) else (some false)) = some r := H
                                    have A41 := Aside0.mk A410
                                    clear A410
                                    by_cases c42 : t158 = t171
                                    · rw [if_pos c42] at H
                                      have c42b0 : (t158 == t171) = true := beq_iff_eq.mpr c42
                                      have c42b1 : (t158 != t171) = false := bne_eq_false_iff_eq.mpr c42
                                      clear c42
                                      replace H := Option.bind_eq_some_iff.mp H
                                      obtain ⟨t172, A430, H⟩ := H
                                      replace H : (some t172) = some r := H
                                      have A43 := Aside0.mk A430
                                      clear A430
                                      obtain rfl := Option.some.inj H
                                      go_wp2_with (first | ((with_reducible refine gate_callee (f := 31) rfl ?_); refine goesL_ (some 132) rfl rfl Tryd.func31 (by kernel_rfl) rfl #[.string a2, .int .i64 1, .int .i64 18] rfl (by (try simp only [List.map_toArray, List.map_cons, List.map_nil]); first | done | rfl | (simp only [List.length_drop, List.length_take]; rfl)) ?_; (with_reducible refine (solsticeref01_Digits.calls kj32 a2 1 18 true _ A38.out).mono ?_); rintro e w' ⟨rfl, ⟨nd, rfl⟩⟩; refine ⟨_, rfl, ?_⟩) | (go_at_call 32; (with_reducible refine (solsticeref01_Value.calls kj32 a2 t171 _ A41.out).mono ?_); rintro e w' ⟨rfl, ⟨nd, rfl⟩⟩) | (go_at_call 17; (with_reducible refine (solsticelaw01_wakes.calls kj32  t172 _ ?sideG A43.out).mono ?_); (case sideG => first | exact GP_below HG.out (by repeat (first | (with_reducible first | exact HB.out | apply below_alloc | apply pw_below_drewN | apply below_drew1) | exact HB.out)) | repeat (first | exact HG.out | refine GP_alloc ?_ _ | refine GP_drewN ?_ _ | refine GP_drew ?_)); rintro e w44 ⟨rfl, hb⟩; have n0_ := Aside0.mk (below_step (by repeat (first | (with_reducible first | exact HB.out | apply below_alloc | apply pw_below_drewN | apply below_drew1) | exact HB.out)) hb); clear HB; have HB := n0_; clear n0_; (try clear hb); (try clear hb2); (try clear hk); (try clear hi)))
                                      go_ret
                                      exact ⟨by first | rfl | (simp [errW_none, errW_some] <;> rfl) | (simp [*, errW_none, errW_some] <;> rfl), by repeat (first | (with_reducible first | exact HB.out | apply below_alloc | apply pw_below_drewN | apply below_drew1) | exact HB.out)⟩
                                    · rw [if_neg c42] at H
                                      have c42b0 : (t158 == t171) = false := beq_eq_false_iff_ne.mpr c42
                                      have c42b1 : (t158 != t171) = true := bne_iff_ne.mpr c42
                                      obtain rfl := Option.some.inj H
                                      go_wp2_with (first | ((with_reducible refine gate_callee (f := 31) rfl ?_); refine goesL_ (some 132) rfl rfl Tryd.func31 (by kernel_rfl) rfl #[.string a2, .int .i64 1, .int .i64 18] rfl (by (try simp only [List.map_toArray, List.map_cons, List.map_nil]); first | done | rfl | (simp only [List.length_drop, List.length_take]; rfl)) ?_; (with_reducible refine (solsticeref01_Digits.calls kj32 a2 1 18 true _ A38.out).mono ?_); rintro e w' ⟨rfl, ⟨nd, rfl⟩⟩; refine ⟨_, rfl, ?_⟩) | (go_at_call 32; (with_reducible refine (solsticeref01_Value.calls kj32 a2 t171 _ A41.out).mono ?_); rintro e w' ⟨rfl, ⟨nd, rfl⟩⟩))
                                      go_ret
                                      exact ⟨by first | rfl | (simp [errW_none, errW_some] <;> rfl) | (simp [*, errW_none, errW_some] <;> rfl), by repeat (first | (with_reducible first | exact HB.out | apply below_alloc | apply pw_below_drewN | apply below_drew1) | exact HB.out)⟩
                                  · replace c40 := Bool.eq_false_iff.mpr c40
                                    subst c40
                                    have H1 : (some false) = some r := by rw [if_neg (show ¬ (false = true) by decide)] at H; exact H
                                    clear H
                                    have H := H1
                                    clear H1
                                    obtain rfl := Option.some.inj H
                                    go_wp2_with (first | ((with_reducible refine gate_callee (f := 31) rfl ?_); refine goesL_ (some 132) rfl rfl Tryd.func31 (by kernel_rfl) rfl #[.string a2, .int .i64 1, .int .i64 18] rfl (by (try simp only [List.map_toArray, List.map_cons, List.map_nil]); first | done | rfl | (simp only [List.length_drop, List.length_take]; rfl)) ?_; (with_reducible refine (solsticeref01_Digits.calls kj32 a2 1 18 true _ A38.out).mono ?_); rintro e w' ⟨rfl, ⟨nd, rfl⟩⟩; refine ⟨_, rfl, ?_⟩))
                                    go_ret
                                    exact ⟨by first | rfl | (simp [errW_none, errW_some] <;> rfl) | (simp [*, errW_none, errW_some] <;> rfl), by repeat (first | (with_reducible first | exact HB.out | apply below_alloc | apply pw_below_drewN | apply below_drew1) | exact HB.out)⟩
                                · replace c39 := Bool.eq_false_iff.mpr c39
                                  subst c39
                                  have H1 : (if t159 = true then (some false) else (if t158 = 0 then ((solsticelaw01_wakes.f kj32).bind fun t173 => (some t173)) else (some false))) = some r := by rw [if_neg (show ¬ (false = true) by decide)] at H; exact H
                                  clear H
                                  have H := H1
                                  clear H1
                                  by_cases c45 : t159 = true
                                  · subst c45
                                    have H1 : (some false) = some r := by rw [if_pos rfl] at H; exact H
                                    clear H
                                    have H := H1
                                    clear H1
                                    obtain rfl := Option.some.inj H
                                    go_wp2_with (first | ((with_reducible refine gate_callee (f := 31) rfl ?_); refine goesL_ (some 132) rfl rfl Tryd.func31 (by kernel_rfl) rfl #[.string a2, .int .i64 1, .int .i64 18] rfl (by (try simp only [List.map_toArray, List.map_cons, List.map_nil]); first | done | rfl | (simp only [List.length_drop, List.length_take]; rfl)) ?_; (with_reducible refine (solsticeref01_Digits.calls kj32 a2 1 18 false _ A38.out).mono ?_); rintro e w' ⟨rfl, ⟨nd, rfl⟩⟩; refine ⟨_, rfl, ?_⟩))
                                    go_ret
                                    exact ⟨by first | rfl | (simp [errW_none, errW_some] <;> rfl) | (simp [*, errW_none, errW_some] <;> rfl), by repeat (first | (with_reducible first | exact HB.out | apply below_alloc | apply pw_below_drewN | apply below_drew1) | exact HB.out)⟩
                                  · replace c45 := Bool.eq_false_iff.mpr c45
                                    subst c45
                                    have H1 : (if t158 = 0 then ((solsticelaw01_wakes.f kj32).bind fun t173 => (some t173)) else (some false)) = some r := by rw [if_neg (show ¬ (false = true) by decide)] at H; exact H
                                    clear H
                                    have H := H1
                                    clear H1
                                    by_cases c46 : t158 = 0
                                    · rw [if_pos c46] at H
                                      have c46b0 : (t158 == 0) = true := beq_iff_eq.mpr c46
                                      have c46b1 : (t158 != 0) = false := bne_eq_false_iff_eq.mpr c46
                                      clear c46
                                      replace H := Option.bind_eq_some_iff.mp H
                                      obtain ⟨t173, A470, H⟩ := H
                                      replace H : (some t173) = some r := H
                                      have A47 := Aside0.mk A470
                                      clear A470
                                      obtain rfl := Option.some.inj H
                                      go_wp2_with (first | ((with_reducible refine gate_callee (f := 31) rfl ?_); refine goesL_ (some 132) rfl rfl Tryd.func31 (by kernel_rfl) rfl #[.string a2, .int .i64 1, .int .i64 18] rfl (by (try simp only [List.map_toArray, List.map_cons, List.map_nil]); first | done | rfl | (simp only [List.length_drop, List.length_take]; rfl)) ?_; (with_reducible refine (solsticeref01_Digits.calls kj32 a2 1 18 false _ A38.out).mono ?_); rintro e w' ⟨rfl, ⟨nd, rfl⟩⟩; refine ⟨_, rfl, ?_⟩) | (go_at_call 17; (with_reducible refine (solsticelaw01_wakes.calls kj32  t173 _ ?sideG A47.out).mono ?_); (case sideG => first | exact GP_below HG.out (by repeat (first | (with_reducible first | exact HB.out | apply below_alloc | apply pw_below_drewN | apply below_drew1) | exact HB.out)) | repeat (first | exact HG.out | refine GP_alloc ?_ _ | refine GP_drewN ?_ _ | refine GP_drew ?_)); rintro e w48 ⟨rfl, hb⟩; have n0_ := Aside0.mk (below_step (by repeat (first | (with_reducible first | exact HB.out | apply below_alloc | apply pw_below_drewN | apply below_drew1) | exact HB.out)) hb); clear HB; have HB := n0_; clear n0_; (try clear hb); (try clear hb2); (try clear hk); (try clear hi)))
                                      go_ret
                                      exact ⟨by first | rfl | (simp [errW_none, errW_some] <;> rfl) | (simp [*, errW_none, errW_some] <;> rfl), by repeat (first | (with_reducible first | exact HB.out | apply below_alloc | apply pw_below_drewN | apply below_drew1) | exact HB.out)⟩
                                    · rw [if_neg c46] at H
                                      have c46b0 : (t158 == 0) = false := beq_eq_false_iff_ne.mpr c46
                                      have c46b1 : (t158 != 0) = true := bne_iff_ne.mpr c46
                                      obtain rfl := Option.some.inj H
                                      go_wp2_with (first | ((with_reducible refine gate_callee (f := 31) rfl ?_); refine goesL_ (some 132) rfl rfl Tryd.func31 (by kernel_rfl) rfl #[.string a2, .int .i64 1, .int .i64 18] rfl (by (try simp only [List.map_toArray, List.map_cons, List.map_nil]); first | done | rfl | (simp only [List.length_drop, List.length_take]; rfl)) ?_; (with_reducible refine (solsticeref01_Digits.calls kj32 a2 1 18 false _ A38.out).mono ?_); rintro e w' ⟨rfl, ⟨nd, rfl⟩⟩; refine ⟨_, rfl, ?_⟩))
                                      go_ret
                                      exact ⟨by first | rfl | (simp [errW_none, errW_some] <;> rfl) | (simp [*, errW_none, errW_some] <;> rfl), by repeat (first | (with_reducible first | exact HB.out | apply below_alloc | apply pw_below_drewN | apply below_drew1) | exact HB.out)⟩

/-- THE ONE PURE STATEMENT of solsticelaw01_NumExact: yours. -/
def solsticelaw01_NumExact.Pure : Prop := ∀ (a0 : Int) (a1 : Int) (a2 : ByteArray) (a3 : Int), (Lit.int .i64 a0).wf = true → (Lit.int .i64 a1).wf = true → a2.size ≤ 140737488351232 → (Lit.int .i64 a3).wf = true → ∃ k, solsticelaw01_NumExact.f k a0 a1 a2 a3 = some true
end Go.Proofs.YtlfohcjajmebjaaDoor.PNum
