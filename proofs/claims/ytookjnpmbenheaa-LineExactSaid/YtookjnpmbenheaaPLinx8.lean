-- Printed by a program of this session's over the kit's printer; library functions by contracts off the shelf.
import Derived.Test.YtookjnpmbenheaaPLinx0
import Derived.Test.YtookjnpmbenheaaPLinx7
namespace Go.Proofs.Ytookjnpmbenheaa.PLin
open Go.RowKit Go.Proofs.YtookjnpmbenheaaW.PrintWords Go.Proofs.YtookjnpmbenheaaW.PrintLast Go.Proofs.YtookjnpmbenheaaW.PrintMore
attribute [local go_sem] max2_int min2_int max_two min_two max_three min_three max_four min_four   -- for this text's walks alone
set_option linter.unusedVariables false
set_option linter.unusedSimpArgs false
def solsticeref16_Name.l0 : Nat → ByteArray → Int → Option (Bool)
 | 0, _, _ => none
 | k + 1, x0, x3 => if x3 < (x0.size : Int) then (if 0 ≤ x3 then (if (bt x0 x3) < 65 then (if (bt x0 x3) < 97 then (if (bt x0 x3) < 48 then (if (bt x0 x3) = 45 then (solsticeref16_Name.l0 k x0 (wrap64 (x3 + 1))) else (some false)) else (if (bt x0 x3) > 57 then (if (bt x0 x3) = 45 then (solsticeref16_Name.l0 k x0 (wrap64 (x3 + 1))) else (some false)) else (solsticeref16_Name.l0 k x0 (wrap64 (x3 + 1))))) else (if (bt x0 x3) > 122 then (if (bt x0 x3) < 48 then (if (bt x0 x3) = 45 then (solsticeref16_Name.l0 k x0 (wrap64 (x3 + 1))) else (some false)) else (if (bt x0 x3) > 57 then (if (bt x0 x3) = 45 then (solsticeref16_Name.l0 k x0 (wrap64 (x3 + 1))) else (some false)) else (solsticeref16_Name.l0 k x0 (wrap64 (x3 + 1))))) else (solsticeref16_Name.l0 k x0 (wrap64 (x3 + 1))))) else (if (bt x0 x3) > 90 then (if (bt x0 x3) < 97 then (if (bt x0 x3) < 48 then (if (bt x0 x3) = 45 then (solsticeref16_Name.l0 k x0 (wrap64 (x3 + 1))) else (some false)) else (if (bt x0 x3) > 57 then (if (bt x0 x3) = 45 then (solsticeref16_Name.l0 k x0 (wrap64 (x3 + 1))) else (some false)) else (solsticeref16_Name.l0 k x0 (wrap64 (x3 + 1))))) else (if (bt x0 x3) > 122 then (if (bt x0 x3) < 48 then (if (bt x0 x3) = 45 then (solsticeref16_Name.l0 k x0 (wrap64 (x3 + 1))) else (some false)) else (if (bt x0 x3) > 57 then (if (bt x0 x3) = 45 then (solsticeref16_Name.l0 k x0 (wrap64 (x3 + 1))) else (some false)) else (solsticeref16_Name.l0 k x0 (wrap64 (x3 + 1))))) else (solsticeref16_Name.l0 k x0 (wrap64 (x3 + 1))))) else (solsticeref16_Name.l0 k x0 (wrap64 (x3 + 1))))) else (none)) else (some true)
def solsticeref16_Name.f (k : Nat) (a0 : ByteArray) : Option (Bool) := (solsticeref16_in.f (a0.size : Int) 1 40).bind fun t197 => (if t197 = true then (solsticeref16_Name.l0 k a0 0) else (some false))
theorem solsticeref16_Name.mono_l : ∀ k, (∀ y0 y1, LeO (solsticeref16_Name.l0 k y0 y1) (solsticeref16_Name.l0 (k + 1) y0 y1))
 | 0 => fun _ _ r h => by simp [solsticeref16_Name.l0] at h
 | k + 1 => by
  have ih0 := solsticeref16_Name.mono_l k
  ·intro y0 y1
   unfold solsticeref16_Name.l0
   repeat' first
   | (with_reducible exact ih0 _ _)
   | (with_reducible exact LeO.refl _)
   | (with_reducible exact LeO.none _)
   | (with_reducible refine LeO.ite ?_ ?_)
   | (with_reducible refine LeO.bind ?_ (fun _ => ?_))
   | exact ih0 _ _
   | exact LeO.none _
   | refine LeO.ite ?_ ?_
   | refine LeO.bind ?_ (fun _ => ?_)
theorem solsticeref16_Name.mono : ∀ a0 k, LeO (solsticeref16_Name.f k a0) (solsticeref16_Name.f (k + 1) a0) := by
 (intro a0 k); (have ih0 := solsticeref16_Name.mono_l k); (unfold solsticeref16_Name.f)
 repeat' first
   | (with_reducible exact ih0 _ _)
   | (with_reducible exact LeO.refl _)
   | (with_reducible exact LeO.none _)
   | (with_reducible refine LeO.ite ?_ ?_)
   | (with_reducible refine LeO.bind ?_ (fun _ => ?_))
   | exact ih0 _ _
   | exact LeO.none _
   | refine LeO.ite ?_ ?_
   | refine LeO.bind ?_ (fun _ => ?_)
set_option maxHeartbeats 8000000 in
set_option maxRecDepth 100000 in
theorem solsticeref16_Name.calls (k : Nat) (a0 : ByteArray) (r : Bool) (w : World) (h : solsticeref16_Name.f k a0 = some r) :
  Calls Try.prog 49 #[.string a0] w fun e w' => e = .returned (.bool r) ∧ Drawn0 w w' := by
 (have H : ((solsticeref16_in.f (a0.size : Int) 1 40).bind fun t197 => (if t197 = true then (solsticeref16_Name.l0 k a0 0) else (some false))) = some r := h); clear h; (replace H := Option.bind_eq_some_iff.mp H); (obtain ⟨t197, A20, H⟩ := H); (replace H : (if t197 = true then (solsticeref16_Name.l0 k a0 0) else (some false)) = some r := H); (have A2 := aM A20); clear A20; (by_cases c3 : t197 = true)
 ·subst c3; (have H1 : (solsticeref16_Name.l0 k a0 0) = some r := by rw [if_pos rfl] at H; exact H); clear H; (have H := H1); clear H1; (have H' := aM H); clear H; (go_enter Try.func49, Try.ntmps49); (go_wp2_with (first | ((with_reducible refine gate_callee (f := 65) rfl ?_); refine goesL_ (some 7) rfl rfl Try.func65 (by kernel_rfl) rfl #[.int .i64 (a0.size : Int), .int .i64 1, .int .i64 40] rfl (by (try simp only [List.map_toArray, List.map_cons, List.map_nil]); first | done | rfl | (simp only [List.length_drop, List.length_take]; rfl)) ?_; (with_reducible refine (solsticeref16_in.calls (a0.size : Int) 1 40 true _ A2.out).mono ?_); rintro e w' ⟨rfl, ⟨nd, rfl⟩⟩; refine ⟨_, rfl, ?_⟩))); (go_loopg [3] k (fun kq v3 w' => ∃ (x3_1 : Int), v3 = .int .i64 x3_1 ∧ Aside0 (solsticeref16_Name.l0 kq a0 x3_1 = some r) ∧ Aside0 (kq ≤ k) ∧ Drawn0 w w'))
  case atStart => exact ⟨(0), (by first | rfl | (simp; done) | (simp [*]; done)), H', ⟨Nat.le_refl _⟩, by repeat (first | exact Drawn0.refl _ | apply Drawn0.step)⟩
  case round =>
   as_aux_lemma =>
    clear H'; (try clear p2); (try clear c3); (obtain ⟨x3_1, rfl, HA, HK1, ⟨m1, rfl⟩⟩ := hrel)
    cases gk with
    | zero => exact absurd HA.out (by simp [solsticeref16_Name.l0])
    | succ k1 =>
     (have H := HA.out); clear HA; (simp only [solsticeref16_Name.l0] at H); (by_cases c4 : x3_1 < (a0.size : Int))
     ·(rw [if_pos c4] at H); (have c4b0 : decide (x3_1 < (a0.size : Int)) = true := dE c4); clear c4; (by_cases c5 : 0 ≤ x3_1)
      ·(rw [if_pos c5] at H); (have c5b0 : decide (0 ≤ x3_1) = true := dE c5); clear c5; (by_cases c7 : (bt a0 x3_1) < 65)
       ·(rw [if_pos c7] at H); (have c7b0 : decide ((bt a0 x3_1) < 65) = true := dE c7); clear c7; (by_cases c8 : (bt a0 x3_1) < 97)
        ·(rw [if_pos c8] at H); (have c8b0 : decide ((bt a0 x3_1) < 97) = true := dE c8); clear c8; (by_cases c9 : (bt a0 x3_1) < 48)
         ·(rw [if_pos c9] at H); (have c9b0 : decide ((bt a0 x3_1) < 48) = true := dE c9); clear c9; (by_cases c10 : (bt a0 x3_1) = 45)
          ·(rw [if_pos c10] at H); (have c10b0 : ((bt a0 x3_1) == 45) = true := beq_iff_eq.mpr c10); (have c10b1 : ((bt a0 x3_1) != 45) = false := bne_eq_false_iff_eq.mpr c10); clear c10; (have H' := aM H); clear H; (have p6 : 0 ≤ (x3_1 : Int) := oD (by first | (with_reducible assumption) | assumption)); (have q6 : x3_1 < (a0.size : Int) := oD (by first | (with_reducible assumption) | assumption)); (have hx6 := bt_at a0 x3_1); (replace p6 := eq_true p6); (replace q6 := eq_true q6); (go_wp2); (go_roundg k1)
           case measure => have := HK1.out; omega
           case rel => exact ⟨(wrap64 (x3_1 + 1)), (by first | rfl | (simp; done) | (simp [*]; done)), H', ⟨by have := HK1.out; omega⟩, by repeat (first | exact Drawn0.refl _ | apply Drawn0.step)⟩
          ·(rw [if_neg c10] at H); (have c10b0 : ((bt a0 x3_1) == 45) = false := beq_eq_false_iff_ne.mpr c10); (have c10b1 : ((bt a0 x3_1) != 45) = true := bne_iff_ne.mpr c10); (obtain rfl := Option.some.inj H); (have p6 : 0 ≤ (x3_1 : Int) := oD (by first | (with_reducible assumption) | assumption)); (have q6 : x3_1 < (a0.size : Int) := oD (by first | (with_reducible assumption) | assumption)); (have hx6 := bt_at a0 x3_1); (replace p6 := eq_true p6); (replace q6 := eq_true q6); (go_wp2); (go_ret); (exact ⟨by first | rfl | (simp; done) | (simp [*]; done), by repeat (first | exact Drawn0.refl _ | apply Drawn0.step)⟩)
         ·(rw [if_neg c9] at H); (have c9b0 : decide ((bt a0 x3_1) < 48) = false := decide_eq_false c9); clear c9; (by_cases c11 : (bt a0 x3_1) > 57)
          ·(rw [if_pos c11] at H); (have c11b0 : decide (57 < (bt a0 x3_1)) = true := dE c11); clear c11; (by_cases c12 : (bt a0 x3_1) = 45)
           ·(rw [if_pos c12] at H); (have c12b0 : ((bt a0 x3_1) == 45) = true := beq_iff_eq.mpr c12); (have c12b1 : ((bt a0 x3_1) != 45) = false := bne_eq_false_iff_eq.mpr c12); clear c12; (have H' := aM H); clear H; (have p6 : 0 ≤ (x3_1 : Int) := oD (by first | (with_reducible assumption) | assumption)); (have q6 : x3_1 < (a0.size : Int) := oD (by first | (with_reducible assumption) | assumption)); (have hx6 := bt_at a0 x3_1); (replace p6 := eq_true p6); (replace q6 := eq_true q6); (go_wp2); (go_roundg k1)
            case measure => have := HK1.out; omega
            case rel => exact ⟨(wrap64 (x3_1 + 1)), (by first | rfl | (simp; done) | (simp [*]; done)), H', ⟨by have := HK1.out; omega⟩, by repeat (first | exact Drawn0.refl _ | apply Drawn0.step)⟩
           ·(rw [if_neg c12] at H); (have c12b0 : ((bt a0 x3_1) == 45) = false := beq_eq_false_iff_ne.mpr c12); (have c12b1 : ((bt a0 x3_1) != 45) = true := bne_iff_ne.mpr c12); (obtain rfl := Option.some.inj H); (have p6 : 0 ≤ (x3_1 : Int) := oD (by first | (with_reducible assumption) | assumption)); (have q6 : x3_1 < (a0.size : Int) := oD (by first | (with_reducible assumption) | assumption)); (have hx6 := bt_at a0 x3_1); (replace p6 := eq_true p6); (replace q6 := eq_true q6); (go_wp2); (go_ret); (exact ⟨by first | rfl | (simp; done) | (simp [*]; done), by repeat (first | exact Drawn0.refl _ | apply Drawn0.step)⟩)
          ·(rw [if_neg c11] at H); (have c11b0 : decide (57 < (bt a0 x3_1)) = false := decide_eq_false c11); clear c11; (have H' := aM H); clear H; (have p6 : 0 ≤ (x3_1 : Int) := oD (by first | (with_reducible assumption) | assumption)); (have q6 : x3_1 < (a0.size : Int) := oD (by first | (with_reducible assumption) | assumption)); (have hx6 := bt_at a0 x3_1); (replace p6 := eq_true p6); (replace q6 := eq_true q6); (go_wp2); (go_roundg k1)
           case measure => have := HK1.out; omega
           case rel => exact ⟨(wrap64 (x3_1 + 1)), (by first | rfl | (simp; done) | (simp [*]; done)), H', ⟨by have := HK1.out; omega⟩, by repeat (first | exact Drawn0.refl _ | apply Drawn0.step)⟩
        ·(rw [if_neg c8] at H); (have c8b0 : decide ((bt a0 x3_1) < 97) = false := decide_eq_false c8); clear c8; (by_cases c13 : (bt a0 x3_1) > 122)
         ·(rw [if_pos c13] at H); (have c13b0 : decide (122 < (bt a0 x3_1)) = true := dE c13); clear c13; (by_cases c14 : (bt a0 x3_1) < 48)
          ·(rw [if_pos c14] at H); (have c14b0 : decide ((bt a0 x3_1) < 48) = true := dE c14); clear c14; (by_cases c15 : (bt a0 x3_1) = 45)
           ·(rw [if_pos c15] at H); (have c15b0 : ((bt a0 x3_1) == 45) = true := beq_iff_eq.mpr c15); (have c15b1 : ((bt a0 x3_1) != 45) = false := bne_eq_false_iff_eq.mpr c15); clear c15; (have H' := aM H); clear H; (have p6 : 0 ≤ (x3_1 : Int) := oD (by first | (with_reducible assumption) | assumption)); (have q6 : x3_1 < (a0.size : Int) := oD (by first | (with_reducible assumption) | assumption)); (have hx6 := bt_at a0 x3_1); (replace p6 := eq_true p6); (replace q6 := eq_true q6); (go_wp2); (go_roundg k1)
            case measure => have := HK1.out; omega
            case rel => exact ⟨(wrap64 (x3_1 + 1)), (by first | rfl | (simp; done) | (simp [*]; done)), H', ⟨by have := HK1.out; omega⟩, by repeat (first | exact Drawn0.refl _ | apply Drawn0.step)⟩
           ·(rw [if_neg c15] at H); (have c15b0 : ((bt a0 x3_1) == 45) = false := beq_eq_false_iff_ne.mpr c15); (have c15b1 : ((bt a0 x3_1) != 45) = true := bne_iff_ne.mpr c15); (obtain rfl := Option.some.inj H); (have p6 : 0 ≤ (x3_1 : Int) := oD (by first | (with_reducible assumption) | assumption)); (have q6 : x3_1 < (a0.size : Int) := oD (by first | (with_reducible assumption) | assumption)); (have hx6 := bt_at a0 x3_1); (replace p6 := eq_true p6); (replace q6 := eq_true q6); (go_wp2); (go_ret); (exact ⟨by first | rfl | (simp; done) | (simp [*]; done), by repeat (first | exact Drawn0.refl _ | apply Drawn0.step)⟩)
          ·(rw [if_neg c14] at H); (have c14b0 : decide ((bt a0 x3_1) < 48) = false := decide_eq_false c14); clear c14; (by_cases c16 : (bt a0 x3_1) > 57)
           ·(rw [if_pos c16] at H); (have c16b0 : decide (57 < (bt a0 x3_1)) = true := dE c16); clear c16; (by_cases c17 : (bt a0 x3_1) = 45)
            ·(rw [if_pos c17] at H); (have c17b0 : ((bt a0 x3_1) == 45) = true := beq_iff_eq.mpr c17); (have c17b1 : ((bt a0 x3_1) != 45) = false := bne_eq_false_iff_eq.mpr c17); clear c17; (have H' := aM H); clear H; (have p6 : 0 ≤ (x3_1 : Int) := oD (by first | (with_reducible assumption) | assumption)); (have q6 : x3_1 < (a0.size : Int) := oD (by first | (with_reducible assumption) | assumption)); (have hx6 := bt_at a0 x3_1); (replace p6 := eq_true p6); (replace q6 := eq_true q6); (go_wp2); (go_roundg k1)
             case measure => have := HK1.out; omega
             case rel => exact ⟨(wrap64 (x3_1 + 1)), (by first | rfl | (simp; done) | (simp [*]; done)), H', ⟨by have := HK1.out; omega⟩, by repeat (first | exact Drawn0.refl _ | apply Drawn0.step)⟩
            ·(rw [if_neg c17] at H); (have c17b0 : ((bt a0 x3_1) == 45) = false := beq_eq_false_iff_ne.mpr c17); (have c17b1 : ((bt a0 x3_1) != 45) = true := bne_iff_ne.mpr c17); (obtain rfl := Option.some.inj H); (have p6 : 0 ≤ (x3_1 : Int) := oD (by first | (with_reducible assumption) | assumption)); (have q6 : x3_1 < (a0.size : Int) := oD (by first | (with_reducible assumption) | assumption)); (have hx6 := bt_at a0 x3_1); (replace p6 := eq_true p6); (replace q6 := eq_true q6); (go_wp2); (go_ret); (exact ⟨by first | rfl | (simp; done) | (simp [*]; done), by repeat (first | exact Drawn0.refl _ | apply Drawn0.step)⟩)
           ·(rw [if_neg c16] at H); (have c16b0 : decide (57 < (bt a0 x3_1)) = false := decide_eq_false c16); clear c16; (have H' := aM H); clear H; (have p6 : 0 ≤ (x3_1 : Int) := oD (by first | (with_reducible assumption) | assumption)); (have q6 : x3_1 < (a0.size : Int) := oD (by first | (with_reducible assumption) | assumption)); (have hx6 := bt_at a0 x3_1); (replace p6 := eq_true p6); (replace q6 := eq_true q6); (go_wp2); (go_roundg k1)
            case measure => have := HK1.out; omega
            case rel => exact ⟨(wrap64 (x3_1 + 1)), (by first | rfl | (simp; done) | (simp [*]; done)), H', ⟨by have := HK1.out; omega⟩, by repeat (first | exact Drawn0.refl _ | apply Drawn0.step)⟩
         ·(rw [if_neg c13] at H); (have c13b0 : decide (122 < (bt a0 x3_1)) = false := decide_eq_false c13); clear c13; (have H' := aM H); clear H; (have p6 : 0 ≤ (x3_1 : Int) := oD (by first | (with_reducible assumption) | assumption)); (have q6 : x3_1 < (a0.size : Int) := oD (by first | (with_reducible assumption) | assumption)); (have hx6 := bt_at a0 x3_1); (replace p6 := eq_true p6); (replace q6 := eq_true q6); (go_wp2); (go_roundg k1)
          case measure => have := HK1.out; omega
          case rel => exact ⟨(wrap64 (x3_1 + 1)), (by first | rfl | (simp; done) | (simp [*]; done)), H', ⟨by have := HK1.out; omega⟩, by repeat (first | exact Drawn0.refl _ | apply Drawn0.step)⟩
       ·(rw [if_neg c7] at H); (have c7b0 : decide ((bt a0 x3_1) < 65) = false := decide_eq_false c7); clear c7; (by_cases c18 : (bt a0 x3_1) > 90)
        ·(rw [if_pos c18] at H); (have c18b0 : decide (90 < (bt a0 x3_1)) = true := dE c18); clear c18; (by_cases c19 : (bt a0 x3_1) < 97)
         ·(rw [if_pos c19] at H); (have c19b0 : decide ((bt a0 x3_1) < 97) = true := dE c19); clear c19; (by_cases c20 : (bt a0 x3_1) < 48)
          ·(rw [if_pos c20] at H); (have c20b0 : decide ((bt a0 x3_1) < 48) = true := dE c20); clear c20; (by_cases c21 : (bt a0 x3_1) = 45)
           ·(rw [if_pos c21] at H); (have c21b0 : ((bt a0 x3_1) == 45) = true := beq_iff_eq.mpr c21); (have c21b1 : ((bt a0 x3_1) != 45) = false := bne_eq_false_iff_eq.mpr c21); clear c21; (have H' := aM H); clear H; (have p6 : 0 ≤ (x3_1 : Int) := oD (by first | (with_reducible assumption) | assumption)); (have q6 : x3_1 < (a0.size : Int) := oD (by first | (with_reducible assumption) | assumption)); (have hx6 := bt_at a0 x3_1); (replace p6 := eq_true p6); (replace q6 := eq_true q6); (go_wp2); (go_roundg k1)
            case measure => have := HK1.out; omega
            case rel => exact ⟨(wrap64 (x3_1 + 1)), (by first | rfl | (simp; done) | (simp [*]; done)), H', ⟨by have := HK1.out; omega⟩, by repeat (first | exact Drawn0.refl _ | apply Drawn0.step)⟩
           ·(rw [if_neg c21] at H); (have c21b0 : ((bt a0 x3_1) == 45) = false := beq_eq_false_iff_ne.mpr c21); (have c21b1 : ((bt a0 x3_1) != 45) = true := bne_iff_ne.mpr c21); (obtain rfl := Option.some.inj H); (have p6 : 0 ≤ (x3_1 : Int) := oD (by first | (with_reducible assumption) | assumption)); (have q6 : x3_1 < (a0.size : Int) := oD (by first | (with_reducible assumption) | assumption)); (have hx6 := bt_at a0 x3_1); (replace p6 := eq_true p6); (replace q6 := eq_true q6); (go_wp2); (go_ret); (exact ⟨by first | rfl | (simp; done) | (simp [*]; done), by repeat (first | exact Drawn0.refl _ | apply Drawn0.step)⟩)
          ·(rw [if_neg c20] at H); (have c20b0 : decide ((bt a0 x3_1) < 48) = false := decide_eq_false c20); clear c20; (by_cases c22 : (bt a0 x3_1) > 57)
           ·(rw [if_pos c22] at H); (have c22b0 : decide (57 < (bt a0 x3_1)) = true := dE c22); clear c22; (by_cases c23 : (bt a0 x3_1) = 45)
            ·(rw [if_pos c23] at H); (have c23b0 : ((bt a0 x3_1) == 45) = true := beq_iff_eq.mpr c23); (have c23b1 : ((bt a0 x3_1) != 45) = false := bne_eq_false_iff_eq.mpr c23); clear c23; (have H' := aM H); clear H; (have p6 : 0 ≤ (x3_1 : Int) := oD (by first | (with_reducible assumption) | assumption)); (have q6 : x3_1 < (a0.size : Int) := oD (by first | (with_reducible assumption) | assumption)); (have hx6 := bt_at a0 x3_1); (replace p6 := eq_true p6); (replace q6 := eq_true q6); (go_wp2); (go_roundg k1)
             case measure => have := HK1.out; omega
             case rel => exact ⟨(wrap64 (x3_1 + 1)), (by first | rfl | (simp; done) | (simp [*]; done)), H', ⟨by have := HK1.out; omega⟩, by repeat (first | exact Drawn0.refl _ | apply Drawn0.step)⟩
            ·(rw [if_neg c23] at H); (have c23b0 : ((bt a0 x3_1) == 45) = false := beq_eq_false_iff_ne.mpr c23); (have c23b1 : ((bt a0 x3_1) != 45) = true := bne_iff_ne.mpr c23); (obtain rfl := Option.some.inj H); (have p6 : 0 ≤ (x3_1 : Int) := oD (by first | (with_reducible assumption) | assumption)); (have q6 : x3_1 < (a0.size : Int) := oD (by first | (with_reducible assumption) | assumption)); (have hx6 := bt_at a0 x3_1); (replace p6 := eq_true p6); (replace q6 := eq_true q6); (go_wp2); (go_ret); (exact ⟨by first | rfl | (simp; done) | (simp [*]; done), by repeat (first | exact Drawn0.refl _ | apply Drawn0.step)⟩)
           ·(rw [if_neg c22] at H); (have c22b0 : decide (57 < (bt a0 x3_1)) = false := decide_eq_false c22); clear c22; (have H' := aM H); clear H; (have p6 : 0 ≤ (x3_1 : Int) := oD (by first | (with_reducible assumption) | assumption)); (have q6 : x3_1 < (a0.size : Int) := oD (by first | (with_reducible assumption) | assumption)); (have hx6 := bt_at a0 x3_1); (replace p6 := eq_true p6); (replace q6 := eq_true q6); (go_wp2); (go_roundg k1)
            case measure => have := HK1.out; omega
            case rel => exact ⟨(wrap64 (x3_1 + 1)), (by first | rfl | (simp; done) | (simp [*]; done)), H', ⟨by have := HK1.out; omega⟩, by repeat (first | exact Drawn0.refl _ | apply Drawn0.step)⟩
         ·(rw [if_neg c19] at H); (have c19b0 : decide ((bt a0 x3_1) < 97) = false := decide_eq_false c19); clear c19; (by_cases c24 : (bt a0 x3_1) > 122)
          ·(rw [if_pos c24] at H); (have c24b0 : decide (122 < (bt a0 x3_1)) = true := dE c24); clear c24; (by_cases c25 : (bt a0 x3_1) < 48)
           ·(rw [if_pos c25] at H); (have c25b0 : decide ((bt a0 x3_1) < 48) = true := dE c25); clear c25; (by_cases c26 : (bt a0 x3_1) = 45)
            ·(rw [if_pos c26] at H); (have c26b0 : ((bt a0 x3_1) == 45) = true := beq_iff_eq.mpr c26); (have c26b1 : ((bt a0 x3_1) != 45) = false := bne_eq_false_iff_eq.mpr c26); clear c26; (have H' := aM H); clear H; (have p6 : 0 ≤ (x3_1 : Int) := oD (by first | (with_reducible assumption) | assumption)); (have q6 : x3_1 < (a0.size : Int) := oD (by first | (with_reducible assumption) | assumption)); (have hx6 := bt_at a0 x3_1); (replace p6 := eq_true p6); (replace q6 := eq_true q6); (go_wp2); (go_roundg k1)
             case measure => have := HK1.out; omega
             case rel => exact ⟨(wrap64 (x3_1 + 1)), (by first | rfl | (simp; done) | (simp [*]; done)), H', ⟨by have := HK1.out; omega⟩, by repeat (first | exact Drawn0.refl _ | apply Drawn0.step)⟩
            ·(rw [if_neg c26] at H); (have c26b0 : ((bt a0 x3_1) == 45) = false := beq_eq_false_iff_ne.mpr c26); (have c26b1 : ((bt a0 x3_1) != 45) = true := bne_iff_ne.mpr c26); (obtain rfl := Option.some.inj H); (have p6 : 0 ≤ (x3_1 : Int) := oD (by first | (with_reducible assumption) | assumption)); (have q6 : x3_1 < (a0.size : Int) := oD (by first | (with_reducible assumption) | assumption)); (have hx6 := bt_at a0 x3_1); (replace p6 := eq_true p6); (replace q6 := eq_true q6); (go_wp2); (go_ret); (exact ⟨by first | rfl | (simp; done) | (simp [*]; done), by repeat (first | exact Drawn0.refl _ | apply Drawn0.step)⟩)
           ·(rw [if_neg c25] at H); (have c25b0 : decide ((bt a0 x3_1) < 48) = false := decide_eq_false c25); clear c25; (by_cases c27 : (bt a0 x3_1) > 57)
            ·(rw [if_pos c27] at H); (have c27b0 : decide (57 < (bt a0 x3_1)) = true := dE c27); clear c27; (by_cases c28 : (bt a0 x3_1) = 45)
             ·(rw [if_pos c28] at H); (have c28b0 : ((bt a0 x3_1) == 45) = true := beq_iff_eq.mpr c28); (have c28b1 : ((bt a0 x3_1) != 45) = false := bne_eq_false_iff_eq.mpr c28); clear c28; (have H' := aM H); clear H; (have p6 : 0 ≤ (x3_1 : Int) := oD (by first | (with_reducible assumption) | assumption)); (have q6 : x3_1 < (a0.size : Int) := oD (by first | (with_reducible assumption) | assumption)); (have hx6 := bt_at a0 x3_1); (replace p6 := eq_true p6); (replace q6 := eq_true q6); (go_wp2); (go_roundg k1)
              case measure => have := HK1.out; omega
              case rel => exact ⟨(wrap64 (x3_1 + 1)), (by first | rfl | (simp; done) | (simp [*]; done)), H', ⟨by have := HK1.out; omega⟩, by repeat (first | exact Drawn0.refl _ | apply Drawn0.step)⟩
             ·(rw [if_neg c28] at H); (have c28b0 : ((bt a0 x3_1) == 45) = false := beq_eq_false_iff_ne.mpr c28); (have c28b1 : ((bt a0 x3_1) != 45) = true := bne_iff_ne.mpr c28); (obtain rfl := Option.some.inj H); (have p6 : 0 ≤ (x3_1 : Int) := oD (by first | (with_reducible assumption) | assumption)); (have q6 : x3_1 < (a0.size : Int) := oD (by first | (with_reducible assumption) | assumption)); (have hx6 := bt_at a0 x3_1); (replace p6 := eq_true p6); (replace q6 := eq_true q6); (go_wp2); (go_ret); (exact ⟨by first | rfl | (simp; done) | (simp [*]; done), by repeat (first | exact Drawn0.refl _ | apply Drawn0.step)⟩)
            ·(rw [if_neg c27] at H); (have c27b0 : decide (57 < (bt a0 x3_1)) = false := decide_eq_false c27); clear c27; (have H' := aM H); clear H; (have p6 : 0 ≤ (x3_1 : Int) := oD (by first | (with_reducible assumption) | assumption)); (have q6 : x3_1 < (a0.size : Int) := oD (by first | (with_reducible assumption) | assumption)); (have hx6 := bt_at a0 x3_1); (replace p6 := eq_true p6); (replace q6 := eq_true q6); (go_wp2); (go_roundg k1)
             case measure => have := HK1.out; omega
             case rel => exact ⟨(wrap64 (x3_1 + 1)), (by first | rfl | (simp; done) | (simp [*]; done)), H', ⟨by have := HK1.out; omega⟩, by repeat (first | exact Drawn0.refl _ | apply Drawn0.step)⟩
          ·(rw [if_neg c24] at H); (have c24b0 : decide (122 < (bt a0 x3_1)) = false := decide_eq_false c24); clear c24; (have H' := aM H); clear H; (have p6 : 0 ≤ (x3_1 : Int) := oD (by first | (with_reducible assumption) | assumption)); (have q6 : x3_1 < (a0.size : Int) := oD (by first | (with_reducible assumption) | assumption)); (have hx6 := bt_at a0 x3_1); (replace p6 := eq_true p6); (replace q6 := eq_true q6); (go_wp2); (go_roundg k1)
           case measure => have := HK1.out; omega
           case rel => exact ⟨(wrap64 (x3_1 + 1)), (by first | rfl | (simp; done) | (simp [*]; done)), H', ⟨by have := HK1.out; omega⟩, by repeat (first | exact Drawn0.refl _ | apply Drawn0.step)⟩
        ·(rw [if_neg c18] at H); (have c18b0 : decide (90 < (bt a0 x3_1)) = false := decide_eq_false c18); clear c18; (have H' := aM H); clear H; (have p6 : 0 ≤ (x3_1 : Int) := oD (by first | (with_reducible assumption) | assumption)); (have q6 : x3_1 < (a0.size : Int) := oD (by first | (with_reducible assumption) | assumption)); (have hx6 := bt_at a0 x3_1); (replace p6 := eq_true p6); (replace q6 := eq_true q6); (go_wp2); (go_roundg k1)
         case measure => have := HK1.out; omega
         case rel => exact ⟨(wrap64 (x3_1 + 1)), (by first | rfl | (simp; done) | (simp [*]; done)), H', ⟨by have := HK1.out; omega⟩, by repeat (first | exact Drawn0.refl _ | apply Drawn0.step)⟩
      ·(rw [if_neg c5] at H); (exact absurd H (by simp))
     ·(rw [if_neg c4] at H); (have c4b0 : decide (x3_1 < (a0.size : Int)) = false := decide_eq_false c4); clear c4; (obtain rfl := Option.some.inj H); (go_wp2); (go_ret); (exact ⟨by first | rfl | (simp; done) | (simp [*]; done), by repeat (first | exact Drawn0.refl _ | apply Drawn0.step)⟩)
 ·(replace c3 := Bool.eq_false_iff.mpr c3); subst c3; (have H1 : (some false) = some r := by rw [if_neg (show ¬ (false = true) by decide)] at H; exact H); clear H; (have H := H1); clear H1; (obtain rfl := Option.some.inj H); (go_enter Try.func49, Try.ntmps49); (go_wp2_with (first | ((with_reducible refine gate_callee (f := 65) rfl ?_); refine goesL_ (some 7) rfl rfl Try.func65 (by kernel_rfl) rfl #[.int .i64 (a0.size : Int), .int .i64 1, .int .i64 40] rfl (by (try simp only [List.map_toArray, List.map_cons, List.map_nil]); first | done | rfl | (simp only [List.length_drop, List.length_take]; rfl)) ?_; (with_reducible refine (solsticeref16_in.calls (a0.size : Int) 1 40 false _ A2.out).mono ?_); rintro e w' ⟨rfl, ⟨nd, rfl⟩⟩; refine ⟨_, rfl, ?_⟩))); (go_ret); (exact ⟨by first | rfl | (simp; done) | (simp [*]; done), by repeat (first | exact Drawn0.refl _ | apply Drawn0.step)⟩)
def solsticeref16_bad.f (a0 : Int) : Option (Bool) := if a0 < 32 then (if a0 = 9 then (some (a0 == 127)) else (some true)) else (some (a0 == 127))
set_option maxHeartbeats 8000000 in
set_option maxRecDepth 100000 in
theorem solsticeref16_bad.calls (a0 : Int) (r : Bool) (w : World) (h : solsticeref16_bad.f a0 = some r) :
  Calls Try.prog 39 #[.int .u8 a0] w fun e w' => e = .returned (.bool r) ∧ Drawn0 w w' := by
 (have H : (if a0 < 32 then (if a0 = 9 then (some (a0 == 127)) else (some true)) else (some (a0 == 127))) = some r := h); clear h; (by_cases c2 : a0 < 32)
 ·(rw [if_pos c2] at H); (have c2b0 : decide (a0 < 32) = true := dE c2); clear c2; (by_cases c3 : a0 = 9)
  ·(rw [if_pos c3] at H); (have c3b0 : (a0 == 9) = true := beq_iff_eq.mpr c3); (have c3b1 : (a0 != 9) = false := bne_eq_false_iff_eq.mpr c3); clear c3; (obtain rfl := Option.some.inj H); (go_enter Try.func39, Try.ntmps39); (go_wp2); (go_ret); (exact ⟨by first | rfl | (simp; done) | (simp [*]; done), by repeat (first | exact Drawn0.refl _ | apply Drawn0.step)⟩)
  ·(rw [if_neg c3] at H); (have c3b0 : (a0 == 9) = false := beq_eq_false_iff_ne.mpr c3); (have c3b1 : (a0 != 9) = true := bne_iff_ne.mpr c3); (obtain rfl := Option.some.inj H); (go_enter Try.func39, Try.ntmps39); (go_wp2); (go_ret); (exact ⟨by first | rfl | (simp; done) | (simp [*]; done), by repeat (first | exact Drawn0.refl _ | apply Drawn0.step)⟩)
 ·(rw [if_neg c2] at H); (have c2b0 : decide (a0 < 32) = false := decide_eq_false c2); clear c2; (obtain rfl := Option.some.inj H); (go_enter Try.func39, Try.ntmps39); (go_wp2); (go_ret); (exact ⟨by first | rfl | (simp; done) | (simp [*]; done), by repeat (first | exact Drawn0.refl _ | apply Drawn0.step)⟩)
def solsticeref16_clean.l0 : Nat → ByteArray → Bool → Int → Option (Bool)
 | 0, _, _, _ => none
 | k + 1, x0, x1, x5 => if x5 < (x0.size : Int) then (if 0 ≤ x5 then ((solsticeref16_bad.f (bt x0 x5)).bind fun t198 => (if t198 = true then (some false) else (if x1 = true then (if (bt x0 x5) = 34 then (some false) else (solsticeref16_clean.l0 k x0 x1 (wrap64 (x5 + 1)))) else (solsticeref16_clean.l0 k x0 x1 (wrap64 (x5 + 1)))))) else (none)) else (some true)
def solsticeref16_clean.f (k : Nat) (a0 : ByteArray) (a1 : Bool) : Option (Bool) := solsticeref16_clean.l0 k a0 a1 0
theorem solsticeref16_clean.mono_l : ∀ k, (∀ y0 y1 y2, LeO (solsticeref16_clean.l0 k y0 y1 y2) (solsticeref16_clean.l0 (k + 1) y0 y1 y2))
 | 0 => fun _ _ _ r h => by simp [solsticeref16_clean.l0] at h
 | k + 1 => by
  have ih0 := solsticeref16_clean.mono_l k
  ·intro y0 y1 y2
   unfold solsticeref16_clean.l0
   repeat' first
   | (with_reducible exact ih0 _ _ _)
   | (with_reducible exact LeO.refl _)
   | (with_reducible exact LeO.none _)
   | (with_reducible refine LeO.ite ?_ ?_)
   | (with_reducible refine LeO.bind ?_ (fun _ => ?_))
   | exact ih0 _ _ _
   | exact LeO.none _
   | refine LeO.ite ?_ ?_
   | refine LeO.bind ?_ (fun _ => ?_)
theorem solsticeref16_clean.mono : ∀ a0 a1 k, LeO (solsticeref16_clean.f k a0 a1) (solsticeref16_clean.f (k + 1) a0 a1) := by
 (intro a0 a1 k); (have ih0 := solsticeref16_clean.mono_l k); (unfold solsticeref16_clean.f)
 repeat' first
   | (with_reducible exact ih0 _ _ _)
   | (with_reducible exact LeO.refl _)
   | (with_reducible exact LeO.none _)
   | (with_reducible refine LeO.ite ?_ ?_)
   | (with_reducible refine LeO.bind ?_ (fun _ => ?_))
   | exact ih0 _ _ _
   | exact LeO.none _
   | refine LeO.ite ?_ ?_
   | refine LeO.bind ?_ (fun _ => ?_)
set_option maxHeartbeats 8000000 in
set_option maxRecDepth 100000 in
theorem solsticeref16_clean.calls (k : Nat) (a0 : ByteArray) (a1 : Bool) (r : Bool) (w : World) (h : solsticeref16_clean.f k a0 a1 = some r) :
  Calls Try.prog 50 #[.string a0, .bool a1] w fun e w' => e = .returned (.bool r) ∧ Drawn0 w w' := by
 (have H : (solsticeref16_clean.l0 k a0 a1 0) = some r := h); clear h; (have H' := aM H); clear H; (go_enter Try.func50, Try.ntmps50); (go_wp2); (go_loopg [5] k (fun kq v5 w' => ∃ (x5_1 : Int), v5 = .int .i64 x5_1 ∧ Aside0 (solsticeref16_clean.l0 kq a0 a1 x5_1 = some r) ∧ Aside0 (kq ≤ k) ∧ Drawn0 w w'))
 case atStart => exact ⟨(0), (by first | rfl | (simp; done) | (simp [*]; done)), H', ⟨Nat.le_refl _⟩, by repeat (first | exact Drawn0.refl _ | apply Drawn0.step)⟩
 case round =>
  as_aux_lemma =>
   clear H'; (try clear p2); (obtain ⟨x5_1, rfl, HA, HK1, ⟨m1, rfl⟩⟩ := hrel)
   cases gk with
   | zero => exact absurd HA.out (by simp [solsticeref16_clean.l0])
   | succ k1 =>
    (have H := HA.out); clear HA; (simp only [solsticeref16_clean.l0] at H); (by_cases c3 : x5_1 < (a0.size : Int))
    ·(rw [if_pos c3] at H); (have c3b0 : decide (x5_1 < (a0.size : Int)) = true := dE c3); clear c3; (by_cases c4 : 0 ≤ x5_1)
     ·(rw [if_pos c4] at H); (have c4b0 : decide (0 ≤ x5_1) = true := dE c4); clear c4; (replace H := Option.bind_eq_some_iff.mp H); (obtain ⟨t198, A60, H⟩ := H); (replace H : (if t198 = true then (some false) else (if a1 = true then (if (bt a0 x5_1) = 34 then (some false) else (solsticeref16_clean.l0 k1 a0 a1 (wrap64 (x5_1 + 1)))) else (solsticeref16_clean.l0 k1 a0 a1 (wrap64 (x5_1 + 1))))) = some r := H); (have A6 := aM A60); clear A60; (by_cases c7 : t198 = true)
      ·subst c7; (have H1 : (some false) = some r := by rw [if_pos rfl] at H; exact H); clear H; (have H := H1); clear H1; (obtain rfl := Option.some.inj H); (have p5 : 0 ≤ (x5_1 : Int) := oD (by first | (with_reducible assumption) | assumption)); (have q5 : x5_1 < (a0.size : Int) := oD (by first | (with_reducible assumption) | assumption)); (have hx5 := bt_at a0 x5_1); (replace p5 := eq_true p5); (replace q5 := eq_true q5); (go_wp2_with (first | ((with_reducible refine gate_callee (f := 39) rfl ?_); refine goesL_ (some 15) rfl rfl Try.func39 (by kernel_rfl) rfl #[.int .u8 (bt a0 x5_1)] rfl (by (try simp only [List.map_toArray, List.map_cons, List.map_nil]); first | done | rfl | (simp only [List.length_drop, List.length_take]; rfl)) ?_; (with_reducible refine (solsticeref16_bad.calls (bt a0 x5_1) true _ A6.out).mono ?_); rintro e w' ⟨rfl, ⟨nd, rfl⟩⟩; refine ⟨_, rfl, ?_⟩))); (go_ret); (exact ⟨by first | rfl | (simp; done) | (simp [*]; done), by repeat (first | exact Drawn0.refl _ | apply Drawn0.step)⟩)
      ·(replace c7 := Bool.eq_false_iff.mpr c7); subst c7; (have H1 : (if a1 = true then (if (bt a0 x5_1) = 34 then (some false) else (solsticeref16_clean.l0 k1 a0 a1 (wrap64 (x5_1 + 1)))) else (solsticeref16_clean.l0 k1 a0 a1 (wrap64 (x5_1 + 1)))) = some r := by rw [if_neg (show ¬ (false = true) by decide)] at H; exact H); clear H; (have H := H1); clear H1; (by_cases c8 : a1 = true)
       ·subst c8; (have H1 : (if (bt a0 x5_1) = 34 then (some false) else (solsticeref16_clean.l0 k1 a0 true (wrap64 (x5_1 + 1)))) = some r := by rw [if_pos rfl] at H; exact H); clear H; (have H := H1); clear H1; (by_cases c10 : (bt a0 x5_1) = 34)
        ·(rw [if_pos c10] at H); (have c10b0 : ((bt a0 x5_1) == 34) = true := beq_iff_eq.mpr c10); (have c10b1 : ((bt a0 x5_1) != 34) = false := bne_eq_false_iff_eq.mpr c10); clear c10; (obtain rfl := Option.some.inj H); (have p5 : 0 ≤ (x5_1 : Int) := oD (by first | (with_reducible assumption) | assumption)); (have q5 : x5_1 < (a0.size : Int) := oD (by first | (with_reducible assumption) | assumption)); (have hx5 := bt_at a0 x5_1); (replace p5 := eq_true p5); (replace q5 := eq_true q5); (go_wp2_with (first | ((with_reducible refine gate_callee (f := 39) rfl ?_); refine goesL_ (some 15) rfl rfl Try.func39 (by kernel_rfl) rfl #[.int .u8 (bt a0 x5_1)] rfl (by (try simp only [List.map_toArray, List.map_cons, List.map_nil]); first | done | rfl | (simp only [List.length_drop, List.length_take]; rfl)) ?_; (with_reducible refine (solsticeref16_bad.calls (bt a0 x5_1) false _ A6.out).mono ?_); rintro e w' ⟨rfl, ⟨nd, rfl⟩⟩; refine ⟨_, rfl, ?_⟩; have p9 : 0 ≤ (x5_1 : Int) := oD (by first | (with_reducible assumption) | assumption); have q9 : x5_1 < (a0.size : Int) := oD (by first | (with_reducible assumption) | assumption); have hx9 := bt_at a0 x5_1; replace p9 := eq_true p9; replace q9 := eq_true q9))); (go_ret); (exact ⟨by first | rfl | (simp; done) | (simp [*]; done), by repeat (first | exact Drawn0.refl _ | apply Drawn0.step)⟩)
        ·(rw [if_neg c10] at H); (have c10b0 : ((bt a0 x5_1) == 34) = false := beq_eq_false_iff_ne.mpr c10); (have c10b1 : ((bt a0 x5_1) != 34) = true := bne_iff_ne.mpr c10); (have H' := aM H); clear H; (have p5 : 0 ≤ (x5_1 : Int) := oD (by first | (with_reducible assumption) | assumption)); (have q5 : x5_1 < (a0.size : Int) := oD (by first | (with_reducible assumption) | assumption)); (have hx5 := bt_at a0 x5_1); (replace p5 := eq_true p5); (replace q5 := eq_true q5); (go_wp2_with (first | ((with_reducible refine gate_callee (f := 39) rfl ?_); refine goesL_ (some 15) rfl rfl Try.func39 (by kernel_rfl) rfl #[.int .u8 (bt a0 x5_1)] rfl (by (try simp only [List.map_toArray, List.map_cons, List.map_nil]); first | done | rfl | (simp only [List.length_drop, List.length_take]; rfl)) ?_; (with_reducible refine (solsticeref16_bad.calls (bt a0 x5_1) false _ A6.out).mono ?_); rintro e w' ⟨rfl, ⟨nd, rfl⟩⟩; refine ⟨_, rfl, ?_⟩; have p9 : 0 ≤ (x5_1 : Int) := oD (by first | (with_reducible assumption) | assumption); have q9 : x5_1 < (a0.size : Int) := oD (by first | (with_reducible assumption) | assumption); have hx9 := bt_at a0 x5_1; replace p9 := eq_true p9; replace q9 := eq_true q9))); (go_roundg k1)
         case measure => have := HK1.out; omega
         case rel => exact ⟨(wrap64 (x5_1 + 1)), (by first | rfl | (simp; done) | (simp [*]; done)), H', ⟨by have := HK1.out; omega⟩, by repeat (first | exact Drawn0.refl _ | apply Drawn0.step)⟩
       ·(replace c8 := Bool.eq_false_iff.mpr c8); subst c8; (have H1 : (solsticeref16_clean.l0 k1 a0 false (wrap64 (x5_1 + 1))) = some r := by rw [if_neg (show ¬ (false = true) by decide)] at H; exact H); clear H; (have H := H1); clear H1; (have H' := aM H); clear H; (have p5 : 0 ≤ (x5_1 : Int) := oD (by first | (with_reducible assumption) | assumption)); (have q5 : x5_1 < (a0.size : Int) := oD (by first | (with_reducible assumption) | assumption)); (have hx5 := bt_at a0 x5_1); (replace p5 := eq_true p5); (replace q5 := eq_true q5); (go_wp2_with (first | ((with_reducible refine gate_callee (f := 39) rfl ?_); refine goesL_ (some 15) rfl rfl Try.func39 (by kernel_rfl) rfl #[.int .u8 (bt a0 x5_1)] rfl (by (try simp only [List.map_toArray, List.map_cons, List.map_nil]); first | done | rfl | (simp only [List.length_drop, List.length_take]; rfl)) ?_; (with_reducible refine (solsticeref16_bad.calls (bt a0 x5_1) false _ A6.out).mono ?_); rintro e w' ⟨rfl, ⟨nd, rfl⟩⟩; refine ⟨_, rfl, ?_⟩))); (go_roundg k1)
        case measure => have := HK1.out; omega
        case rel => exact ⟨(wrap64 (x5_1 + 1)), (by first | rfl | (simp; done) | (simp [*]; done)), H', ⟨by have := HK1.out; omega⟩, by repeat (first | exact Drawn0.refl _ | apply Drawn0.step)⟩
     ·(rw [if_neg c4] at H); (exact absurd H (by simp))
    ·(rw [if_neg c3] at H); (have c3b0 : decide (x5_1 < (a0.size : Int)) = false := decide_eq_false c3); clear c3; (obtain rfl := Option.some.inj H); (go_wp2); (go_ret); (exact ⟨by first | rfl | (simp; done) | (simp [*]; done), by repeat (first | exact Drawn0.refl _ | apply Drawn0.step)⟩)
end Go.Proofs.Ytookjnpmbenheaa.PLin