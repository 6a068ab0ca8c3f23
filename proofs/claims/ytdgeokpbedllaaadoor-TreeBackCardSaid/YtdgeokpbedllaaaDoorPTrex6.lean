-- Printed by a program of this session's over the kit's printer; library functions by contracts off the shelf.
import Derived.Test.YtdgeokpbedllaaaDoorGP
import Derived.Test.YtdgeokpbedllaaaDoorPTrex0
namespace Go.Proofs.YtdgeokpbedllaaaDoor.PTre
open Go.RowKit Go.Proofs.YtdgeokpbedllaaaDoorW.PrintWords Go.Proofs.YtdgeokpbedllaaaDoorW.PrintLast Go.Proofs.YtdgeokpbedllaaaDoorW.PrintMore Go.Proofs.YtdgeokpbedllaaaDoor.Base
attribute [local go_sem] max2_int min2_int max_two min_two max_three min_three max_four min_four   -- for this text's walks alone
set_option linter.unusedVariables false
set_option linter.unusedSimpArgs false
def line_name.l0 : Nat → ByteArray → Int → Int → Option (Bool)
 | 0, _, _, _ => none
 | k + 1, x0, x6, x7 => if x7 < x6 then (if 0 ≤ x7 then (if x7 < (x0.size : Int) then (if (bt x0 x7) < 48 then (if (bt x0 x7) < 97 then (if (bt x0 x7) < 65 then (if (bt x0 x7) = 45 then (line_name.l0 k x0 x6 (wrap64 (x7 + 1))) else (some false)) else (if (bt x0 x7) > 90 then (if (bt x0 x7) = 45 then (line_name.l0 k x0 x6 (wrap64 (x7 + 1))) else (some false)) else (line_name.l0 k x0 x6 (wrap64 (x7 + 1))))) else (if (bt x0 x7) > 122 then (if (bt x0 x7) < 65 then (if (bt x0 x7) = 45 then (line_name.l0 k x0 x6 (wrap64 (x7 + 1))) else (some false)) else (if (bt x0 x7) > 90 then (if (bt x0 x7) = 45 then (line_name.l0 k x0 x6 (wrap64 (x7 + 1))) else (some false)) else (line_name.l0 k x0 x6 (wrap64 (x7 + 1))))) else (line_name.l0 k x0 x6 (wrap64 (x7 + 1))))) else (if (bt x0 x7) > 57 then (if (bt x0 x7) < 97 then (if (bt x0 x7) < 65 then (if (bt x0 x7) = 45 then (line_name.l0 k x0 x6 (wrap64 (x7 + 1))) else (some false)) else (if (bt x0 x7) > 90 then (if (bt x0 x7) = 45 then (line_name.l0 k x0 x6 (wrap64 (x7 + 1))) else (some false)) else (line_name.l0 k x0 x6 (wrap64 (x7 + 1))))) else (if (bt x0 x7) > 122 then (if (bt x0 x7) < 65 then (if (bt x0 x7) = 45 then (line_name.l0 k x0 x6 (wrap64 (x7 + 1))) else (some false)) else (if (bt x0 x7) > 90 then (if (bt x0 x7) = 45 then (line_name.l0 k x0 x6 (wrap64 (x7 + 1))) else (some false)) else (line_name.l0 k x0 x6 (wrap64 (x7 + 1))))) else (line_name.l0 k x0 x6 (wrap64 (x7 + 1))))) else (line_name.l0 k x0 x6 (wrap64 (x7 + 1))))) else (none)) else (none)) else (if (x0.size : Int) ≥ 1 then (some (decide ((x0.size : Int) ≤ 40))) else (some false))
def line_name.f (k : Nat) (a0 : ByteArray) : Option (Bool) := line_name.l0 k a0 (a0.size : Int) 0
theorem line_name.mono_l : ∀ k, (∀ y0 y1 y2, LeO (line_name.l0 k y0 y1 y2) (line_name.l0 (k + 1) y0 y1 y2))
 | 0 => fun _ _ _ r h => by simp [line_name.l0] at h
 | k + 1 => by
  have ih0 := line_name.mono_l k
  ·intro y0 y1 y2
   unfold line_name.l0
   repeat' first | (with_reducible first | exact ih0 _ _ _ | exact LeO.refl _ | exact LeO.none _ | refine LeO.ite ?_ ?_ | refine LeO.bind ?_ (fun _ => ?_))
theorem line_name.mono : ∀ a0 k, LeO (line_name.f k a0) (line_name.f (k + 1) a0) := by
 (intro a0 k); (have ih0 := line_name.mono_l k); (unfold line_name.f)
 repeat' first | (with_reducible first | exact ih0 _ _ _ | exact LeO.refl _ | exact LeO.none _ | refine LeO.ite ?_ ?_ | refine LeO.bind ?_ (fun _ => ?_))
set_option maxHeartbeats 8000000 in
set_option maxRecDepth 100000 in
theorem line_name.calls (k : Nat) (a0 : ByteArray) (r : Bool) (w : World) (h : line_name.f k a0 = some r) :
  Calls Tryd.prog 73 #[.string a0] w fun e w' => e = .returned (.bool r) ∧ Drawn0 w w' := by
 (have H : (line_name.l0 k a0 (a0.size : Int) 0) = some r := h); clear h; (have H' := aM H); clear H; (go_enter Tryd.func73, Tryd.ntmps73); (go_wp2); (go_loopg [7] k (fun kq v7 w' => ∃ (x7_1 : Int), v7 = .int .i64 x7_1 ∧ Aside0 (line_name.l0 kq a0 (a0.size : Int) x7_1 = some r) ∧ Aside0 (kq ≤ k) ∧ Drawn0 w w'))
 case atStart => exact ⟨(0), (by first | rfl | (simp; done) | (simp [*]; done)), H', ⟨Nat.le_refl _⟩, by repeat (first | exact Drawn0.refl _ | apply Drawn0.step)⟩
 case round =>
  as_aux_lemma =>
   clear H'; (obtain ⟨x7_1, rfl, HA, HK1, ⟨m1, rfl⟩⟩ := hrel)
   cases gk with
   | zero => exact absurd HA.out (by simp [line_name.l0])
   | succ k1 =>
    (have H := HA.out); clear HA; (simp only [line_name.l0] at H); (by_cases c2 : x7_1 < (a0.size : Int))
    ·(rw [if_pos c2] at H); (have c2b0 : decide (x7_1 < (a0.size : Int)) = true := dE c2); clear c2; (by_cases c3 : 0 ≤ x7_1)
     ·(rw [if_pos c3] at H); (have c3b0 : decide (0 ≤ x7_1) = true := dE c3); clear c3; (by_cases c4 : x7_1 < (a0.size : Int))
      ·(rw [if_pos c4] at H); (have c4b0 : decide (x7_1 < (a0.size : Int)) = true := dE c4); clear c4; (by_cases c6 : (bt a0 x7_1) < 48)
       ·(rw [if_pos c6] at H); (have c6b0 : decide ((bt a0 x7_1) < 48) = true := dE c6); clear c6; (by_cases c7 : (bt a0 x7_1) < 97)
        ·(rw [if_pos c7] at H); (have c7b0 : decide ((bt a0 x7_1) < 97) = true := dE c7); clear c7; (by_cases c8 : (bt a0 x7_1) < 65)
         ·(rw [if_pos c8] at H); (have c8b0 : decide ((bt a0 x7_1) < 65) = true := dE c8); clear c8; (by_cases c9 : (bt a0 x7_1) = 45)
          ·(rw [if_pos c9] at H); (have c9b0 : ((bt a0 x7_1) == 45) = true := beq_iff_eq.mpr c9); (have c9b1 : ((bt a0 x7_1) != 45) = false := bne_eq_false_iff_eq.mpr c9); clear c9; (have H' := aM H); clear H; (have p5 : 0 ≤ (x7_1 : Int) := oD ‹_›); (have q5 : x7_1 < (a0.size : Int) := oD ‹_›); (have hx5 := bt_at a0 x7_1); (replace p5 := eq_true p5); (replace q5 := eq_true q5); (go_wp2); (go_roundg k1)
           case measure => have := HK1.out; omega
           case rel => exact ⟨(wrap64 (x7_1 + 1)), (by first | rfl | (simp; done) | (simp [*]; done)), H', ⟨by have := HK1.out; omega⟩, by repeat (first | exact Drawn0.refl _ | apply Drawn0.step)⟩
          ·(rw [if_neg c9] at H); (have c9b0 : ((bt a0 x7_1) == 45) = false := beq_eq_false_iff_ne.mpr c9); (have c9b1 : ((bt a0 x7_1) != 45) = true := bne_iff_ne.mpr c9); (obtain rfl := Option.some.inj H); (have p5 : 0 ≤ (x7_1 : Int) := oD ‹_›); (have q5 : x7_1 < (a0.size : Int) := oD ‹_›); (have hx5 := bt_at a0 x7_1); (replace p5 := eq_true p5); (replace q5 := eq_true q5); (go_wp2); (go_ret); (exact ⟨by first | rfl | (simp; done) | (simp [*]; done), by repeat (first | exact Drawn0.refl _ | apply Drawn0.step)⟩)
         ·(rw [if_neg c8] at H); (have c8b0 : decide ((bt a0 x7_1) < 65) = false := decide_eq_false c8); clear c8; (by_cases c10 : (bt a0 x7_1) > 90)
          ·(rw [if_pos c10] at H); (have c10b0 : decide (90 < (bt a0 x7_1)) = true := dE c10); clear c10; (by_cases c11 : (bt a0 x7_1) = 45)
           ·(rw [if_pos c11] at H); (have c11b0 : ((bt a0 x7_1) == 45) = true := beq_iff_eq.mpr c11); (have c11b1 : ((bt a0 x7_1) != 45) = false := bne_eq_false_iff_eq.mpr c11); clear c11; (have H' := aM H); clear H; (have p5 : 0 ≤ (x7_1 : Int) := oD ‹_›); (have q5 : x7_1 < (a0.size : Int) := oD ‹_›); (have hx5 := bt_at a0 x7_1); (replace p5 := eq_true p5); (replace q5 := eq_true q5); (go_wp2); (go_roundg k1)
            case measure => have := HK1.out; omega
            case rel => exact ⟨(wrap64 (x7_1 + 1)), (by first | rfl | (simp; done) | (simp [*]; done)), H', ⟨by have := HK1.out; omega⟩, by repeat (first | exact Drawn0.refl _ | apply Drawn0.step)⟩
           ·(rw [if_neg c11] at H); (have c11b0 : ((bt a0 x7_1) == 45) = false := beq_eq_false_iff_ne.mpr c11); (have c11b1 : ((bt a0 x7_1) != 45) = true := bne_iff_ne.mpr c11); (obtain rfl := Option.some.inj H); (have p5 : 0 ≤ (x7_1 : Int) := oD ‹_›); (have q5 : x7_1 < (a0.size : Int) := oD ‹_›); (have hx5 := bt_at a0 x7_1); (replace p5 := eq_true p5); (replace q5 := eq_true q5); (go_wp2); (go_ret); (exact ⟨by first | rfl | (simp; done) | (simp [*]; done), by repeat (first | exact Drawn0.refl _ | apply Drawn0.step)⟩)
          ·(rw [if_neg c10] at H); (have c10b0 : decide (90 < (bt a0 x7_1)) = false := decide_eq_false c10); clear c10; (have H' := aM H); clear H; (have p5 : 0 ≤ (x7_1 : Int) := oD ‹_›); (have q5 : x7_1 < (a0.size : Int) := oD ‹_›); (have hx5 := bt_at a0 x7_1); (replace p5 := eq_true p5); (replace q5 := eq_true q5); (go_wp2); (go_roundg k1)
           case measure => have := HK1.out; omega
           case rel => exact ⟨(wrap64 (x7_1 + 1)), (by first | rfl | (simp; done) | (simp [*]; done)), H', ⟨by have := HK1.out; omega⟩, by repeat (first | exact Drawn0.refl _ | apply Drawn0.step)⟩
        ·(rw [if_neg c7] at H); (have c7b0 : decide ((bt a0 x7_1) < 97) = false := decide_eq_false c7); clear c7; (by_cases c12 : (bt a0 x7_1) > 122)
         ·(rw [if_pos c12] at H); (have c12b0 : decide (122 < (bt a0 x7_1)) = true := dE c12); clear c12; (by_cases c13 : (bt a0 x7_1) < 65)
          ·(rw [if_pos c13] at H); (have c13b0 : decide ((bt a0 x7_1) < 65) = true := dE c13); clear c13; (by_cases c14 : (bt a0 x7_1) = 45)
           ·(rw [if_pos c14] at H); (have c14b0 : ((bt a0 x7_1) == 45) = true := beq_iff_eq.mpr c14); (have c14b1 : ((bt a0 x7_1) != 45) = false := bne_eq_false_iff_eq.mpr c14); clear c14; (have H' := aM H); clear H; (have p5 : 0 ≤ (x7_1 : Int) := oD ‹_›); (have q5 : x7_1 < (a0.size : Int) := oD ‹_›); (have hx5 := bt_at a0 x7_1); (replace p5 := eq_true p5); (replace q5 := eq_true q5); (go_wp2); (go_roundg k1)
            case measure => have := HK1.out; omega
            case rel => exact ⟨(wrap64 (x7_1 + 1)), (by first | rfl | (simp; done) | (simp [*]; done)), H', ⟨by have := HK1.out; omega⟩, by repeat (first | exact Drawn0.refl _ | apply Drawn0.step)⟩
           ·(rw [if_neg c14] at H); (have c14b0 : ((bt a0 x7_1) == 45) = false := beq_eq_false_iff_ne.mpr c14); (have c14b1 : ((bt a0 x7_1) != 45) = true := bne_iff_ne.mpr c14); (obtain rfl := Option.some.inj H); (have p5 : 0 ≤ (x7_1 : Int) := oD ‹_›); (have q5 : x7_1 < (a0.size : Int) := oD ‹_›); (have hx5 := bt_at a0 x7_1); (replace p5 := eq_true p5); (replace q5 := eq_true q5); (go_wp2); (go_ret); (exact ⟨by first | rfl | (simp; done) | (simp [*]; done), by repeat (first | exact Drawn0.refl _ | apply Drawn0.step)⟩)
          ·(rw [if_neg c13] at H); (have c13b0 : decide ((bt a0 x7_1) < 65) = false := decide_eq_false c13); clear c13; (by_cases c15 : (bt a0 x7_1) > 90)
           ·(rw [if_pos c15] at H); (have c15b0 : decide (90 < (bt a0 x7_1)) = true := dE c15); clear c15; (by_cases c16 : (bt a0 x7_1) = 45)
            ·(rw [if_pos c16] at H); (have c16b0 : ((bt a0 x7_1) == 45) = true := beq_iff_eq.mpr c16); (have c16b1 : ((bt a0 x7_1) != 45) = false := bne_eq_false_iff_eq.mpr c16); clear c16; (have H' := aM H); clear H; (have p5 : 0 ≤ (x7_1 : Int) := oD ‹_›); (have q5 : x7_1 < (a0.size : Int) := oD ‹_›); (have hx5 := bt_at a0 x7_1); (replace p5 := eq_true p5); (replace q5 := eq_true q5); (go_wp2); (go_roundg k1)
             case measure => have := HK1.out; omega
             case rel => exact ⟨(wrap64 (x7_1 + 1)), (by first | rfl | (simp; done) | (simp [*]; done)), H', ⟨by have := HK1.out; omega⟩, by repeat (first | exact Drawn0.refl _ | apply Drawn0.step)⟩
            ·(rw [if_neg c16] at H); (have c16b0 : ((bt a0 x7_1) == 45) = false := beq_eq_false_iff_ne.mpr c16); (have c16b1 : ((bt a0 x7_1) != 45) = true := bne_iff_ne.mpr c16); (obtain rfl := Option.some.inj H); (have p5 : 0 ≤ (x7_1 : Int) := oD ‹_›); (have q5 : x7_1 < (a0.size : Int) := oD ‹_›); (have hx5 := bt_at a0 x7_1); (replace p5 := eq_true p5); (replace q5 := eq_true q5); (go_wp2); (go_ret); (exact ⟨by first | rfl | (simp; done) | (simp [*]; done), by repeat (first | exact Drawn0.refl _ | apply Drawn0.step)⟩)
           ·(rw [if_neg c15] at H); (have c15b0 : decide (90 < (bt a0 x7_1)) = false := decide_eq_false c15); clear c15; (have H' := aM H); clear H; (have p5 : 0 ≤ (x7_1 : Int) := oD ‹_›); (have q5 : x7_1 < (a0.size : Int) := oD ‹_›); (have hx5 := bt_at a0 x7_1); (replace p5 := eq_true p5); (replace q5 := eq_true q5); (go_wp2); (go_roundg k1)
            case measure => have := HK1.out; omega
            case rel => exact ⟨(wrap64 (x7_1 + 1)), (by first | rfl | (simp; done) | (simp [*]; done)), H', ⟨by have := HK1.out; omega⟩, by repeat (first | exact Drawn0.refl _ | apply Drawn0.step)⟩
         ·(rw [if_neg c12] at H); (have c12b0 : decide (122 < (bt a0 x7_1)) = false := decide_eq_false c12); clear c12; (have H' := aM H); clear H; (have p5 : 0 ≤ (x7_1 : Int) := oD ‹_›); (have q5 : x7_1 < (a0.size : Int) := oD ‹_›); (have hx5 := bt_at a0 x7_1); (replace p5 := eq_true p5); (replace q5 := eq_true q5); (go_wp2); (go_roundg k1)
          case measure => have := HK1.out; omega
          case rel => exact ⟨(wrap64 (x7_1 + 1)), (by first | rfl | (simp; done) | (simp [*]; done)), H', ⟨by have := HK1.out; omega⟩, by repeat (first | exact Drawn0.refl _ | apply Drawn0.step)⟩
       ·(rw [if_neg c6] at H); (have c6b0 : decide ((bt a0 x7_1) < 48) = false := decide_eq_false c6); clear c6; (by_cases c17 : (bt a0 x7_1) > 57)
        ·(rw [if_pos c17] at H); (have c17b0 : decide (57 < (bt a0 x7_1)) = true := dE c17); clear c17; (by_cases c18 : (bt a0 x7_1) < 97)
         ·(rw [if_pos c18] at H); (have c18b0 : decide ((bt a0 x7_1) < 97) = true := dE c18); clear c18; (by_cases c19 : (bt a0 x7_1) < 65)
          ·(rw [if_pos c19] at H); (have c19b0 : decide ((bt a0 x7_1) < 65) = true := dE c19); clear c19; (by_cases c20 : (bt a0 x7_1) = 45)
           ·(rw [if_pos c20] at H); (have c20b0 : ((bt a0 x7_1) == 45) = true := beq_iff_eq.mpr c20); (have c20b1 : ((bt a0 x7_1) != 45) = false := bne_eq_false_iff_eq.mpr c20); clear c20; (have H' := aM H); clear H; (have p5 : 0 ≤ (x7_1 : Int) := oD ‹_›); (have q5 : x7_1 < (a0.size : Int) := oD ‹_›); (have hx5 := bt_at a0 x7_1); (replace p5 := eq_true p5); (replace q5 := eq_true q5); (go_wp2); (go_roundg k1)
            case measure => have := HK1.out; omega
            case rel => exact ⟨(wrap64 (x7_1 + 1)), (by first | rfl | (simp; done) | (simp [*]; done)), H', ⟨by have := HK1.out; omega⟩, by repeat (first | exact Drawn0.refl _ | apply Drawn0.step)⟩
           ·(rw [if_neg c20] at H); (have c20b0 : ((bt a0 x7_1) == 45) = false := beq_eq_false_iff_ne.mpr c20); (have c20b1 : ((bt a0 x7_1) != 45) = true := bne_iff_ne.mpr c20); (obtain rfl := Option.some.inj H); (have p5 : 0 ≤ (x7_1 : Int) := oD ‹_›); (have q5 : x7_1 < (a0.size : Int) := oD ‹_›); (have hx5 := bt_at a0 x7_1); (replace p5 := eq_true p5); (replace q5 := eq_true q5); (go_wp2); (go_ret); (exact ⟨by first | rfl | (simp; done) | (simp [*]; done), by repeat (first | exact Drawn0.refl _ | apply Drawn0.step)⟩)
          ·(rw [if_neg c19] at H); (have c19b0 : decide ((bt a0 x7_1) < 65) = false := decide_eq_false c19); clear c19; (by_cases c21 : (bt a0 x7_1) > 90)
           ·(rw [if_pos c21] at H); (have c21b0 : decide (90 < (bt a0 x7_1)) = true := dE c21); clear c21; (by_cases c22 : (bt a0 x7_1) = 45)
            ·(rw [if_pos c22] at H); (have c22b0 : ((bt a0 x7_1) == 45) = true := beq_iff_eq.mpr c22); (have c22b1 : ((bt a0 x7_1) != 45) = false := bne_eq_false_iff_eq.mpr c22); clear c22; (have H' := aM H); clear H; (have p5 : 0 ≤ (x7_1 : Int) := oD ‹_›); (have q5 : x7_1 < (a0.size : Int) := oD ‹_›); (have hx5 := bt_at a0 x7_1); (replace p5 := eq_true p5); (replace q5 := eq_true q5); (go_wp2); (go_roundg k1)
             case measure => have := HK1.out; omega
             case rel => exact ⟨(wrap64 (x7_1 + 1)), (by first | rfl | (simp; done) | (simp [*]; done)), H', ⟨by have := HK1.out; omega⟩, by repeat (first | exact Drawn0.refl _ | apply Drawn0.step)⟩
            ·(rw [if_neg c22] at H); (have c22b0 : ((bt a0 x7_1) == 45) = false := beq_eq_false_iff_ne.mpr c22); (have c22b1 : ((bt a0 x7_1) != 45) = true := bne_iff_ne.mpr c22); (obtain rfl := Option.some.inj H); (have p5 : 0 ≤ (x7_1 : Int) := oD ‹_›); (have q5 : x7_1 < (a0.size : Int) := oD ‹_›); (have hx5 := bt_at a0 x7_1); (replace p5 := eq_true p5); (replace q5 := eq_true q5); (go_wp2); (go_ret); (exact ⟨by first | rfl | (simp; done) | (simp [*]; done), by repeat (first | exact Drawn0.refl _ | apply Drawn0.step)⟩)
           ·(rw [if_neg c21] at H); (have c21b0 : decide (90 < (bt a0 x7_1)) = false := decide_eq_false c21); clear c21; (have H' := aM H); clear H; (have p5 : 0 ≤ (x7_1 : Int) := oD ‹_›); (have q5 : x7_1 < (a0.size : Int) := oD ‹_›); (have hx5 := bt_at a0 x7_1); (replace p5 := eq_true p5); (replace q5 := eq_true q5); (go_wp2); (go_roundg k1)
            case measure => have := HK1.out; omega
            case rel => exact ⟨(wrap64 (x7_1 + 1)), (by first | rfl | (simp; done) | (simp [*]; done)), H', ⟨by have := HK1.out; omega⟩, by repeat (first | exact Drawn0.refl _ | apply Drawn0.step)⟩
         ·(rw [if_neg c18] at H); (have c18b0 : decide ((bt a0 x7_1) < 97) = false := decide_eq_false c18); clear c18; (by_cases c23 : (bt a0 x7_1) > 122)
          ·(rw [if_pos c23] at H); (have c23b0 : decide (122 < (bt a0 x7_1)) = true := dE c23); clear c23; (by_cases c24 : (bt a0 x7_1) < 65)
           ·(rw [if_pos c24] at H); (have c24b0 : decide ((bt a0 x7_1) < 65) = true := dE c24); clear c24; (by_cases c25 : (bt a0 x7_1) = 45)
            ·(rw [if_pos c25] at H); (have c25b0 : ((bt a0 x7_1) == 45) = true := beq_iff_eq.mpr c25); (have c25b1 : ((bt a0 x7_1) != 45) = false := bne_eq_false_iff_eq.mpr c25); clear c25; (have H' := aM H); clear H; (have p5 : 0 ≤ (x7_1 : Int) := oD ‹_›); (have q5 : x7_1 < (a0.size : Int) := oD ‹_›); (have hx5 := bt_at a0 x7_1); (replace p5 := eq_true p5); (replace q5 := eq_true q5); (go_wp2); (go_roundg k1)
             case measure => have := HK1.out; omega
             case rel => exact ⟨(wrap64 (x7_1 + 1)), (by first | rfl | (simp; done) | (simp [*]; done)), H', ⟨by have := HK1.out; omega⟩, by repeat (first | exact Drawn0.refl _ | apply Drawn0.step)⟩
            ·(rw [if_neg c25] at H); (have c25b0 : ((bt a0 x7_1) == 45) = false := beq_eq_false_iff_ne.mpr c25); (have c25b1 : ((bt a0 x7_1) != 45) = true := bne_iff_ne.mpr c25); (obtain rfl := Option.some.inj H); (have p5 : 0 ≤ (x7_1 : Int) := oD ‹_›); (have q5 : x7_1 < (a0.size : Int) := oD ‹_›); (have hx5 := bt_at a0 x7_1); (replace p5 := eq_true p5); (replace q5 := eq_true q5); (go_wp2); (go_ret); (exact ⟨by first | rfl | (simp; done) | (simp [*]; done), by repeat (first | exact Drawn0.refl _ | apply Drawn0.step)⟩)
           ·(rw [if_neg c24] at H); (have c24b0 : decide ((bt a0 x7_1) < 65) = false := decide_eq_false c24); clear c24; (by_cases c26 : (bt a0 x7_1) > 90)
            ·(rw [if_pos c26] at H); (have c26b0 : decide (90 < (bt a0 x7_1)) = true := dE c26); clear c26; (by_cases c27 : (bt a0 x7_1) = 45)
             ·(rw [if_pos c27] at H); (have c27b0 : ((bt a0 x7_1) == 45) = true := beq_iff_eq.mpr c27); (have c27b1 : ((bt a0 x7_1) != 45) = false := bne_eq_false_iff_eq.mpr c27); clear c27; (have H' := aM H); clear H; (have p5 : 0 ≤ (x7_1 : Int) := oD ‹_›); (have q5 : x7_1 < (a0.size : Int) := oD ‹_›); (have hx5 := bt_at a0 x7_1); (replace p5 := eq_true p5); (replace q5 := eq_true q5); (go_wp2); (go_roundg k1)
              case measure => have := HK1.out; omega
              case rel => exact ⟨(wrap64 (x7_1 + 1)), (by first | rfl | (simp; done) | (simp [*]; done)), H', ⟨by have := HK1.out; omega⟩, by repeat (first | exact Drawn0.refl _ | apply Drawn0.step)⟩
             ·(rw [if_neg c27] at H); (have c27b0 : ((bt a0 x7_1) == 45) = false := beq_eq_false_iff_ne.mpr c27); (have c27b1 : ((bt a0 x7_1) != 45) = true := bne_iff_ne.mpr c27); (obtain rfl := Option.some.inj H); (have p5 : 0 ≤ (x7_1 : Int) := oD ‹_›); (have q5 : x7_1 < (a0.size : Int) := oD ‹_›); (have hx5 := bt_at a0 x7_1); (replace p5 := eq_true p5); (replace q5 := eq_true q5); (go_wp2); (go_ret); (exact ⟨by first | rfl | (simp; done) | (simp [*]; done), by repeat (first | exact Drawn0.refl _ | apply Drawn0.step)⟩)
            ·(rw [if_neg c26] at H); (have c26b0 : decide (90 < (bt a0 x7_1)) = false := decide_eq_false c26); clear c26; (have H' := aM H); clear H; (have p5 : 0 ≤ (x7_1 : Int) := oD ‹_›); (have q5 : x7_1 < (a0.size : Int) := oD ‹_›); (have hx5 := bt_at a0 x7_1); (replace p5 := eq_true p5); (replace q5 := eq_true q5); (go_wp2); (go_roundg k1)
             case measure => have := HK1.out; omega
             case rel => exact ⟨(wrap64 (x7_1 + 1)), (by first | rfl | (simp; done) | (simp [*]; done)), H', ⟨by have := HK1.out; omega⟩, by repeat (first | exact Drawn0.refl _ | apply Drawn0.step)⟩
          ·(rw [if_neg c23] at H); (have c23b0 : decide (122 < (bt a0 x7_1)) = false := decide_eq_false c23); clear c23; (have H' := aM H); clear H; (have p5 : 0 ≤ (x7_1 : Int) := oD ‹_›); (have q5 : x7_1 < (a0.size : Int) := oD ‹_›); (have hx5 := bt_at a0 x7_1); (replace p5 := eq_true p5); (replace q5 := eq_true q5); (go_wp2); (go_roundg k1)
           case measure => have := HK1.out; omega
           case rel => exact ⟨(wrap64 (x7_1 + 1)), (by first | rfl | (simp; done) | (simp [*]; done)), H', ⟨by have := HK1.out; omega⟩, by repeat (first | exact Drawn0.refl _ | apply Drawn0.step)⟩
        ·(rw [if_neg c17] at H); (have c17b0 : decide (57 < (bt a0 x7_1)) = false := decide_eq_false c17); clear c17; (have H' := aM H); clear H; (have p5 : 0 ≤ (x7_1 : Int) := oD ‹_›); (have q5 : x7_1 < (a0.size : Int) := oD ‹_›); (have hx5 := bt_at a0 x7_1); (replace p5 := eq_true p5); (replace q5 := eq_true q5); (go_wp2); (go_roundg k1)
         case measure => have := HK1.out; omega
         case rel => exact ⟨(wrap64 (x7_1 + 1)), (by first | rfl | (simp; done) | (simp [*]; done)), H', ⟨by have := HK1.out; omega⟩, by repeat (first | exact Drawn0.refl _ | apply Drawn0.step)⟩
      ·(rw [if_neg c4] at H); (exact absurd H (by simp))
     ·(rw [if_neg c3] at H); (exact absurd H (by simp))
    ·(rw [if_neg c2] at H); (have c2b0 : decide (x7_1 < (a0.size : Int)) = false := decide_eq_false c2); clear c2; (by_cases c28 : (a0.size : Int) ≥ 1)
     ·(rw [if_pos c28] at H); (have c28b0 : decide (1 ≤ (a0.size : Int)) = true := dE c28); (have c28b1 : decide (1 ≤ a0.size) = true := dE (by omega)); clear c28; (obtain rfl := Option.some.inj H); (go_wp2); (go_ret); (exact ⟨by first | rfl | (simp; done) | (simp [*]; done), by repeat (first | exact Drawn0.refl _ | apply Drawn0.step)⟩)
     ·(rw [if_neg c28] at H); (have c28b0 : decide (1 ≤ (a0.size : Int)) = false := decide_eq_false c28); (have c28b1 : decide (1 ≤ a0.size) = false := decide_eq_false (by omega)); clear c28; (obtain rfl := Option.some.inj H); (go_wp2); (go_ret); (exact ⟨by first | rfl | (simp; done) | (simp [*]; done), by repeat (first | exact Drawn0.refl _ | apply Drawn0.step)⟩)
def line_plain.l0 : Nat → ByteArray → Int → Int → Option (Bool)
 | 0, _, _, _ => none
 | k + 1, x0, x5, x6 => if x6 < x5 then (if 0 ≤ x6 then (if x6 < (x0.size : Int) then (if (bt x0 x6) < 32 then (if (bt x0 x6) = 9 then (if (bt x0 x6) = 127 then (some false) else (line_plain.l0 k x0 x5 (wrap64 (x6 + 1)))) else (some false)) else (if (bt x0 x6) = 127 then (some false) else (line_plain.l0 k x0 x5 (wrap64 (x6 + 1))))) else (none)) else (none)) else (some true)
def line_plain.f (k : Nat) (a0 : ByteArray) : Option (Bool) := line_plain.l0 k a0 (a0.size : Int) 0
theorem line_plain.mono_l : ∀ k, (∀ y0 y1 y2, LeO (line_plain.l0 k y0 y1 y2) (line_plain.l0 (k + 1) y0 y1 y2))
 | 0 => fun _ _ _ r h => by simp [line_plain.l0] at h
 | k + 1 => by
  have ih0 := line_plain.mono_l k
  ·intro y0 y1 y2
   unfold line_plain.l0
   repeat' first | (with_reducible first | exact ih0 _ _ _ | exact LeO.refl _ | exact LeO.none _ | refine LeO.ite ?_ ?_ | refine LeO.bind ?_ (fun _ => ?_))
theorem line_plain.mono : ∀ a0 k, LeO (line_plain.f k a0) (line_plain.f (k + 1) a0) := by
 (intro a0 k); (have ih0 := line_plain.mono_l k); (unfold line_plain.f)
 repeat' first | (with_reducible first | exact ih0 _ _ _ | exact LeO.refl _ | exact LeO.none _ | refine LeO.ite ?_ ?_ | refine LeO.bind ?_ (fun _ => ?_))
set_option maxHeartbeats 8000000 in
set_option maxRecDepth 100000 in
theorem line_plain.calls (k : Nat) (a0 : ByteArray) (r : Bool) (w : World) (h : line_plain.f k a0 = some r) :
  Calls Tryd.prog 74 #[.string a0] w fun e w' => e = .returned (.bool r) ∧ Drawn0 w w' := by
 (have H : (line_plain.l0 k a0 (a0.size : Int) 0) = some r := h); clear h; (have H' := aM H); clear H; (go_enter Tryd.func74, Tryd.ntmps74); (go_wp2); (go_loopg [6] k (fun kq v6 w' => ∃ (x6_1 : Int), v6 = .int .i64 x6_1 ∧ Aside0 (line_plain.l0 kq a0 (a0.size : Int) x6_1 = some r) ∧ Aside0 (kq ≤ k) ∧ Drawn0 w w'))
 case atStart => exact ⟨(0), (by first | rfl | (simp; done) | (simp [*]; done)), H', ⟨Nat.le_refl _⟩, by repeat (first | exact Drawn0.refl _ | apply Drawn0.step)⟩
 case round =>
  as_aux_lemma =>
   clear H'; (obtain ⟨x6_1, rfl, HA, HK1, ⟨m1, rfl⟩⟩ := hrel)
   cases gk with
   | zero => exact absurd HA.out (by simp [line_plain.l0])
   | succ k1 =>
    (have H := HA.out); clear HA; (simp only [line_plain.l0] at H); (by_cases c2 : x6_1 < (a0.size : Int))
    ·(rw [if_pos c2] at H); (have c2b0 : decide (x6_1 < (a0.size : Int)) = true := dE c2); clear c2; (by_cases c3 : 0 ≤ x6_1)
     ·(rw [if_pos c3] at H); (have c3b0 : decide (0 ≤ x6_1) = true := dE c3); clear c3; (by_cases c4 : x6_1 < (a0.size : Int))
      ·(rw [if_pos c4] at H); (have c4b0 : decide (x6_1 < (a0.size : Int)) = true := dE c4); clear c4; (by_cases c6 : (bt a0 x6_1) < 32)
       ·(rw [if_pos c6] at H); (have c6b0 : decide ((bt a0 x6_1) < 32) = true := dE c6); clear c6; (by_cases c8 : (bt a0 x6_1) = 9)
        ·(rw [if_pos c8] at H); (have c8b0 : ((bt a0 x6_1) == 9) = true := beq_iff_eq.mpr c8); (have c8b1 : ((bt a0 x6_1) != 9) = false := bne_eq_false_iff_eq.mpr c8); clear c8; (by_cases c10 : (bt a0 x6_1) = 127)
         ·(rw [if_pos c10] at H); (have c10b0 : ((bt a0 x6_1) == 127) = true := beq_iff_eq.mpr c10); (have c10b1 : ((bt a0 x6_1) != 127) = false := bne_eq_false_iff_eq.mpr c10); clear c10; (obtain rfl := Option.some.inj H); (have p5 : 0 ≤ (x6_1 : Int) := oD ‹_›); (have q5 : x6_1 < (a0.size : Int) := oD ‹_›); (have hx5 := bt_at a0 x6_1); (replace p5 := eq_true p5); (replace q5 := eq_true q5); (have p7 : 0 ≤ (x6_1 : Int) := oD ‹_›); (have q7 : x6_1 < (a0.size : Int) := oD ‹_›); (have hx7 := bt_at a0 x6_1); (replace p7 := eq_true p7); (replace q7 := eq_true q7); (have p9 : 0 ≤ (x6_1 : Int) := oD ‹_›); (have q9 : x6_1 < (a0.size : Int) := oD ‹_›); (have hx9 := bt_at a0 x6_1); (replace p9 := eq_true p9); (replace q9 := eq_true q9); (go_wp2); (go_ret); (exact ⟨by first | rfl | (simp; done) | (simp [*]; done), by repeat (first | exact Drawn0.refl _ | apply Drawn0.step)⟩)
         ·(rw [if_neg c10] at H); (have c10b0 : ((bt a0 x6_1) == 127) = false := beq_eq_false_iff_ne.mpr c10); (have c10b1 : ((bt a0 x6_1) != 127) = true := bne_iff_ne.mpr c10); (have H' := aM H); clear H; (have p5 : 0 ≤ (x6_1 : Int) := oD ‹_›); (have q5 : x6_1 < (a0.size : Int) := oD ‹_›); (have hx5 := bt_at a0 x6_1); (replace p5 := eq_true p5); (replace q5 := eq_true q5); (have p7 : 0 ≤ (x6_1 : Int) := oD ‹_›); (have q7 : x6_1 < (a0.size : Int) := oD ‹_›); (have hx7 := bt_at a0 x6_1); (replace p7 := eq_true p7); (replace q7 := eq_true q7); (have p9 : 0 ≤ (x6_1 : Int) := oD ‹_›); (have q9 : x6_1 < (a0.size : Int) := oD ‹_›); (have hx9 := bt_at a0 x6_1); (replace p9 := eq_true p9); (replace q9 := eq_true q9); (go_wp2); (go_roundg k1)
          case measure => have := HK1.out; omega
          case rel => exact ⟨(wrap64 (x6_1 + 1)), (by first | rfl | (simp; done) | (simp [*]; done)), H', ⟨by have := HK1.out; omega⟩, by repeat (first | exact Drawn0.refl _ | apply Drawn0.step)⟩
        ·(rw [if_neg c8] at H); (have c8b0 : ((bt a0 x6_1) == 9) = false := beq_eq_false_iff_ne.mpr c8); (have c8b1 : ((bt a0 x6_1) != 9) = true := bne_iff_ne.mpr c8); (obtain rfl := Option.some.inj H); (have p5 : 0 ≤ (x6_1 : Int) := oD ‹_›); (have q5 : x6_1 < (a0.size : Int) := oD ‹_›); (have hx5 := bt_at a0 x6_1); (replace p5 := eq_true p5); (replace q5 := eq_true q5); (have p7 : 0 ≤ (x6_1 : Int) := oD ‹_›); (have q7 : x6_1 < (a0.size : Int) := oD ‹_›); (have hx7 := bt_at a0 x6_1); (replace p7 := eq_true p7); (replace q7 := eq_true q7); (go_wp2); (go_ret); (exact ⟨by first | rfl | (simp; done) | (simp [*]; done), by repeat (first | exact Drawn0.refl _ | apply Drawn0.step)⟩)
       ·(rw [if_neg c6] at H); (have c6b0 : decide ((bt a0 x6_1) < 32) = false := decide_eq_false c6); clear c6; (by_cases c12 : (bt a0 x6_1) = 127)
        ·(rw [if_pos c12] at H); (have c12b0 : ((bt a0 x6_1) == 127) = true := beq_iff_eq.mpr c12); (have c12b1 : ((bt a0 x6_1) != 127) = false := bne_eq_false_iff_eq.mpr c12); clear c12; (obtain rfl := Option.some.inj H); (have p5 : 0 ≤ (x6_1 : Int) := oD ‹_›); (have q5 : x6_1 < (a0.size : Int) := oD ‹_›); (have hx5 := bt_at a0 x6_1); (replace p5 := eq_true p5); (replace q5 := eq_true q5); (have p11 : 0 ≤ (x6_1 : Int) := oD ‹_›); (have q11 : x6_1 < (a0.size : Int) := oD ‹_›); (have hx11 := bt_at a0 x6_1); (replace p11 := eq_true p11); (replace q11 := eq_true q11); (go_wp2); (go_ret); (exact ⟨by first | rfl | (simp; done) | (simp [*]; done), by repeat (first | exact Drawn0.refl _ | apply Drawn0.step)⟩)
        ·(rw [if_neg c12] at H); (have c12b0 : ((bt a0 x6_1) == 127) = false := beq_eq_false_iff_ne.mpr c12); (have c12b1 : ((bt a0 x6_1) != 127) = true := bne_iff_ne.mpr c12); (have H' := aM H); clear H; (have p5 : 0 ≤ (x6_1 : Int) := oD ‹_›); (have q5 : x6_1 < (a0.size : Int) := oD ‹_›); (have hx5 := bt_at a0 x6_1); (replace p5 := eq_true p5); (replace q5 := eq_true q5); (have p11 : 0 ≤ (x6_1 : Int) := oD ‹_›); (have q11 : x6_1 < (a0.size : Int) := oD ‹_›); (have hx11 := bt_at a0 x6_1); (replace p11 := eq_true p11); (replace q11 := eq_true q11); (go_wp2); (go_roundg k1)
         case measure => have := HK1.out; omega
         case rel => exact ⟨(wrap64 (x6_1 + 1)), (by first | rfl | (simp; done) | (simp [*]; done)), H', ⟨by have := HK1.out; omega⟩, by repeat (first | exact Drawn0.refl _ | apply Drawn0.step)⟩
      ·(rw [if_neg c4] at H); (exact absurd H (by simp))
     ·(rw [if_neg c3] at H); (exact absurd H (by simp))
    ·(rw [if_neg c2] at H); (have c2b0 : decide (x6_1 < (a0.size : Int)) = false := decide_eq_false c2); clear c2; (obtain rfl := Option.some.inj H); (go_wp2); (go_ret); (exact ⟨by first | rfl | (simp; done) | (simp [*]; done), by repeat (first | exact Drawn0.refl _ | apply Drawn0.step)⟩)
def strings_IndexByte.f (a0 : ByteArray) (a1 : Int) : Option (Int) := some (Lib.indexByte a0.data.toList a1.toNat.toUInt8)
theorem strings_IndexByte.calls (a0 : ByteArray) (a1 : Int) (r : Int) (w : World) (h : strings_IndexByte.f a0 a1 = some r) :
  Calls Tryd.prog 63 #[.string a0, .int .u8 a1] w fun e w' => e = .returned (.int .i64 r) ∧ Drawn0 w w' := by
 (obtain rfl := Option.some.inj h); (exact (Tryd.strings_IndexByte a0 a1 w).mono fun e w' ⟨he, hw⟩ => ⟨he, hw ▸ Drawn0.refl _⟩)
def line_value.f (k : Nat) (a0 : ByteArray) : Option (Bool) := (line_plain.f k a0).bind fun t150 => (if t150 = true then ((strings_IndexByte.f a0 34).bind fun t151 => (some (decide (t151 < 0)))) else (some false))
theorem line_value.mono : ∀ a0 k, LeO (line_value.f k a0) (line_value.f (k + 1) a0) := by
 (intro a0 k); (unfold line_value.f)
 repeat' first | (with_reducible first | exact line_plain.mono _ _ | exact LeO.refl _ | exact LeO.none _ | refine LeO.ite ?_ ?_ | refine LeO.bind ?_ (fun _ => ?_))
set_option maxHeartbeats 8000000 in
set_option maxRecDepth 100000 in
theorem line_value.calls (k : Nat) (a0 : ByteArray) (r : Bool) (w : World) (h : line_value.f k a0 = some r) :
  Calls Tryd.prog 94 #[.string a0] w fun e w' => e = .returned (.bool r) ∧ Drawn0 w w' := by
 (have H : ((line_plain.f k a0).bind fun t150 => (if t150 = true then ((strings_IndexByte.f a0 34).bind fun t151 => (some (decide (t151 < 0)))) else (some false))) = some r := h); clear h; (replace H := Option.bind_eq_some_iff.mp H); (obtain ⟨t150, A20, H⟩ := H); (replace H : (if t150 = true then ((strings_IndexByte.f a0 34).bind fun t151 => (some (decide (t151 < 0)))) else (some false)) = some r := H); (have A2 := aM A20); clear A20; (by_cases c3 : t150 = true)
 ·subst c3; (have H1 : ((strings_IndexByte.f a0 34).bind fun t151 => (some (decide (t151 < 0)))) = some r := by rw [if_pos rfl] at H; exact H); clear H; (have H := H1); clear H1; (replace H := Option.bind_eq_some_iff.mp H); (obtain ⟨t151, A40, H⟩ := H); (replace H : (some (decide (t151 < 0))) = some r := H); (have A4 := aM A40); clear A40; (obtain rfl := Option.some.inj H); (go_enter Tryd.func94, Tryd.ntmps94); (go_wp2_with (first | ((with_reducible refine gate_callee (f := 74) rfl ?_); refine goesL_ (some 4) rfl rfl Tryd.func74 (by kernel_rfl) rfl #[.string a0] rfl (by (try simp only [mTA, mC, mN]); first | done | rfl | (simp only [lD, lT]; rfl)) ?_; (with_reducible refine (line_plain.calls k a0 true _ A2.out).mono ?_); rintro e w' ⟨rfl, ⟨nd, rfl⟩⟩; refine ⟨_, rfl, ?_⟩) | (go_at_call 63; (with_reducible refine (strings_IndexByte.calls a0 34 t151 _ A4.out).mono ?_); rintro e w' ⟨rfl, ⟨nd, rfl⟩⟩))); (go_ret); (exact ⟨by first | rfl | (simp; done) | (simp [*]; done), by repeat (first | exact Drawn0.refl _ | apply Drawn0.step)⟩)
 ·(replace c3 := Bool.eq_false_iff.mpr c3); subst c3; (have H1 : (some false) = some r := by rw [if_neg (show ¬ (false = true) by decide)] at H; exact H); clear H; (have H := H1); clear H1; (obtain rfl := Option.some.inj H); (go_enter Tryd.func94, Tryd.ntmps94); (go_wp2_with (first | ((with_reducible refine gate_callee (f := 74) rfl ?_); refine goesL_ (some 4) rfl rfl Tryd.func74 (by kernel_rfl) rfl #[.string a0] rfl (by (try simp only [mTA, mC, mN]); first | done | rfl | (simp only [lD, lT]; rfl)) ?_; (with_reducible refine (line_plain.calls k a0 false _ A2.out).mono ?_); rintro e w' ⟨rfl, ⟨nd, rfl⟩⟩; refine ⟨_, rfl, ?_⟩))); (go_ret); (exact ⟨by first | rfl | (simp; done) | (simp [*]; done), by repeat (first | exact Drawn0.refl _ | apply Drawn0.step)⟩)
def line_param_1.f (k : Nat) (a0 : ByteArray) : Option (Bool) := (line_value.f k a0).bind fun t152 => (some (!t152))
theorem line_param_1.mono : ∀ a0 k, LeO (line_param_1.f k a0) (line_param_1.f (k + 1) a0) := by
 (intro a0 k); (unfold line_param_1.f)
 repeat' first | (with_reducible first | exact line_value.mono _ _ | exact LeO.refl _ | exact LeO.none _ | refine LeO.ite ?_ ?_ | refine LeO.bind ?_ (fun _ => ?_))
set_option maxHeartbeats 8000000 in
set_option maxRecDepth 100000 in
theorem line_param_1.calls (k : Nat) (a0 : ByteArray) (r : Bool) (w : World) (h : line_param_1.f k a0 = some r) :
  Calls Tryd.prog 93 #[.string a0] w fun e w' => e = .returned (.bool r) ∧ Drawn0 w w' := by
 (have H : ((line_value.f k a0).bind fun t152 => (some (!t152))) = some r := h); clear h; (replace H := Option.bind_eq_some_iff.mp H); (obtain ⟨t152, A20, H⟩ := H); (replace H : (some (!t152)) = some r := H); (have A2 := aM A20); clear A20; (obtain rfl := Option.some.inj H); (go_enter Tryd.func93, Tryd.ntmps93); (go_wp2_with (first | ((with_reducible refine gate_callee (f := 94) rfl ?_); refine goesL_ (some 4) rfl rfl Tryd.func94 (by kernel_rfl) rfl #[.string a0] rfl (by (try simp only [mTA, mC, mN]); first | done | rfl | (simp only [lD, lT]; rfl)) ?_; (with_reducible refine (line_value.calls k a0 t152 _ A2.out).mono ?_); rintro e w' ⟨rfl, ⟨nd, rfl⟩⟩; refine ⟨_, rfl, ?_⟩))); (go_ret); (exact ⟨by first | rfl | (simp; done) | (simp [*]; done), by repeat (first | exact Drawn0.refl _ | apply Drawn0.step)⟩)
end Go.Proofs.YtdgeokpbedllaaaDoor.PTre