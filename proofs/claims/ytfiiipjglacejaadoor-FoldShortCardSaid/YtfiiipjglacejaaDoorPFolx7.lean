-- Printed by a program of this session's over the kit's printer; library functions by contracts off the shelf.
import Derived.Test.YtfiiipjglacejaaDoorGP
import Derived.Test.YtfiiipjglacejaaDoorPFolx0
import Derived.Test.YtfiiipjglacejaaDoorPFolx1
import Derived.Test.YtfiiipjglacejaaDoorPFolx4
namespace Go.Proofs.YtfiiipjglacejaaDoor.PFol
open Go.RowKit Go.Proofs.YtfiiipjglacejaaDoorW.PrintWords Go.Proofs.YtfiiipjglacejaaDoorW.PrintLast Go.Proofs.YtfiiipjglacejaaDoorW.PrintMore Go.Proofs.YtfiiipjglacejaaDoor.Base
attribute [local go_sem] max2_int min2_int max_two min_two max_three min_three max_four min_four   -- for this text's walks alone
set_option linter.unusedVariables false
set_option linter.unusedSimpArgs false
mutual
def solsticelaw16_signs.l0 : Nat → ByteArray → Int → Int → Option (Bool)
 | 0, _, _, _ => none
 | k + 1, x0, x3, x4 => if x4 < (x0.size : Int) then (if 0 ≤ x4 then (if x3 > 0 then (if (bt x0 x4) < 128 then (some false) else (if (bt x0 x4) ≥ 192 then (some false) else (solsticelaw16_signs.l0 k x0 (wrap64 (x3 - 1)) (wrap64 (x4 + 1))))) else (if (bt x0 x4) < 128 then (solsticelaw16_signs.l0 k x0 x3 (wrap64 (x4 + 1))) else (if (bt x0 x4) ≥ 192 then (solsticelaw16_signs.j1 k x0 x4 (bt x0 x4) (decide ((bt x0 x4) < 224))) else (solsticelaw16_signs.j1 k x0 x4 (bt x0 x4) false)))) else (none)) else (some (x3 == 0))
def solsticelaw16_signs.j1 : Nat → ByteArray → Int → Int → Bool → Option (Bool)
 | 0, _, _, _, _ => none
 | k + 1, x0, x4, x5, x28 => if x28 = true then (solsticelaw16_signs.l0 k x0 1 (wrap64 (x4 + 1))) else (if x5 ≥ 224 then (solsticelaw16_signs.j2 k x0 x4 x5 (decide (x5 < 240))) else (solsticelaw16_signs.j2 k x0 x4 x5 false))
def solsticelaw16_signs.j2 : Nat → ByteArray → Int → Int → Bool → Option (Bool)
 | 0, _, _, _, _ => none
 | k + 1, x0, x4, x5, x35 => if x35 = true then (solsticelaw16_signs.l0 k x0 2 (wrap64 (x4 + 1))) else (if x5 ≥ 240 then (if x5 < 248 then (solsticelaw16_signs.l0 k x0 3 (wrap64 (x4 + 1))) else (some false)) else (some false))
end
def solsticelaw16_signs.f (k : Nat) (a0 : ByteArray) : Option (Bool) := solsticelaw16_signs.l0 k a0 0 0
theorem solsticelaw16_signs.mono_l : ∀ k, (∀ y0 y1 y2, LeO (solsticelaw16_signs.l0 k y0 y1 y2) (solsticelaw16_signs.l0 (k + 1) y0 y1 y2)) ∧ (∀ y0 y1 y2 y3, LeO (solsticelaw16_signs.j1 k y0 y1 y2 y3) (solsticelaw16_signs.j1 (k + 1) y0 y1 y2 y3)) ∧ (∀ y0 y1 y2 y3, LeO (solsticelaw16_signs.j2 k y0 y1 y2 y3) (solsticelaw16_signs.j2 (k + 1) y0 y1 y2 y3))
 | 0 => ⟨fun _ _ _ r h => by simp [solsticelaw16_signs.l0] at h, fun _ _ _ _ r h => by simp [solsticelaw16_signs.j1] at h, fun _ _ _ _ r h => by simp [solsticelaw16_signs.j2] at h⟩
 | k + 1 => by
  obtain ⟨ih0, ih1, ih2⟩ := solsticelaw16_signs.mono_l k
  refine ⟨?_, ?_, ?_⟩
  ·intro y0 y1 y2
   unfold solsticelaw16_signs.l0
   repeat' first
   | (with_reducible exact ih0 _ _ _)
   | (with_reducible exact ih1 _ _ _ _)
   | (with_reducible exact ih2 _ _ _ _)
   | (with_reducible exact LeO.refl _)
   | (with_reducible exact LeO.none _)
   | (with_reducible refine LeO.ite ?_ ?_)
   | (with_reducible refine LeO.bind ?_ (fun _ => ?_))
   | exact ih0 _ _ _
   | exact ih1 _ _ _ _
   | exact ih2 _ _ _ _
   | exact LeO.none _
   | refine LeO.ite ?_ ?_
   | refine LeO.bind ?_ (fun _ => ?_)
  ·intro y0 y1 y2 y3
   unfold solsticelaw16_signs.j1
   repeat' first
   | (with_reducible exact ih0 _ _ _)
   | (with_reducible exact ih1 _ _ _ _)
   | (with_reducible exact ih2 _ _ _ _)
   | (with_reducible exact LeO.refl _)
   | (with_reducible exact LeO.none _)
   | (with_reducible refine LeO.ite ?_ ?_)
   | (with_reducible refine LeO.bind ?_ (fun _ => ?_))
   | exact ih0 _ _ _
   | exact ih1 _ _ _ _
   | exact ih2 _ _ _ _
   | exact LeO.none _
   | refine LeO.ite ?_ ?_
   | refine LeO.bind ?_ (fun _ => ?_)
  ·intro y0 y1 y2 y3
   unfold solsticelaw16_signs.j2
   repeat' first
   | (with_reducible exact ih0 _ _ _)
   | (with_reducible exact ih1 _ _ _ _)
   | (with_reducible exact ih2 _ _ _ _)
   | (with_reducible exact LeO.refl _)
   | (with_reducible exact LeO.none _)
   | (with_reducible refine LeO.ite ?_ ?_)
   | (with_reducible refine LeO.bind ?_ (fun _ => ?_))
   | exact ih0 _ _ _
   | exact ih1 _ _ _ _
   | exact ih2 _ _ _ _
   | exact LeO.none _
   | refine LeO.ite ?_ ?_
   | refine LeO.bind ?_ (fun _ => ?_)
theorem solsticelaw16_signs.mono : ∀ a0 k, LeO (solsticelaw16_signs.f k a0) (solsticelaw16_signs.f (k + 1) a0) := by
 intro a0 k
 obtain ⟨ih0, ih1, ih2⟩ := solsticelaw16_signs.mono_l k
 unfold solsticelaw16_signs.f
 repeat' first
   | (with_reducible exact ih0 _ _ _)
   | (with_reducible exact ih1 _ _ _ _)
   | (with_reducible exact ih2 _ _ _ _)
   | (with_reducible exact LeO.refl _)
   | (with_reducible exact LeO.none _)
   | (with_reducible refine LeO.ite ?_ ?_)
   | (with_reducible refine LeO.bind ?_ (fun _ => ?_))
   | exact ih0 _ _ _
   | exact ih1 _ _ _ _
   | exact ih2 _ _ _ _
   | exact LeO.none _
   | refine LeO.ite ?_ ?_
   | refine LeO.bind ?_ (fun _ => ?_)
set_option maxHeartbeats 8000000 in
set_option maxRecDepth 100000 in
theorem solsticelaw16_signs.calls (k : Nat) (a0 : ByteArray) (r : Bool) (w : World) (h : solsticelaw16_signs.f k a0 = some r) :
  Calls Tryd.prog 18 #[.string a0] w fun e w' => e = .returned (.bool r) ∧ Drawn0 w w' := by
 have H : (solsticelaw16_signs.l0 k a0 0 0) = some r := h
 clear h
 have H' := Aside0.mk H
 clear H
 go_enter Tryd.func18, Tryd.ntmps18
 go_wp2
 go_loopg [3, 4] k (fun kq v3 v4 w' => ∃ (x3_1 : Int) (x4_1 : Int), v3 = .int .i64 x3_1 ∧ v4 = .int .i64 x4_1 ∧ Aside0 (solsticelaw16_signs.l0 kq a0 x3_1 x4_1 = some r) ∧ Aside0 (kq ≤ k) ∧ Drawn0 w w')
 case atStart => exact ⟨(0), (0), (by first | rfl | (simp; done) | (simp [*]; done)), (by first | rfl | (simp; done) | (simp [*]; done)), H', ⟨Nat.le_refl _⟩, by repeat (first | exact Drawn0.refl _ | apply Drawn0.step)⟩
 case round =>
  as_aux_lemma =>
   clear H'
   try clear c1
   obtain ⟨x3_1, x4_1, rfl, rfl, HA, HK1, ⟨m1, rfl⟩⟩ := hrel
   cases gk with
   | zero => exact absurd HA.out (by simp [solsticelaw16_signs.l0])
   | succ k1 =>
    have H := HA.out
    clear HA
    simp only [solsticelaw16_signs.l0] at H
    by_cases c2 : x4_1 < (a0.size : Int)
    ·rw [if_pos c2] at H
     have c2b0 : decide (x4_1 < (a0.size : Int)) = true := decide_eq_true c2
     clear c2
     by_cases c3 : 0 ≤ x4_1
     ·rw [if_pos c3] at H
      have c3b0 : decide (0 ≤ x4_1) = true := decide_eq_true c3
      clear c3
      by_cases c5 : x3_1 > 0
      ·rw [if_pos c5] at H
       have c5b0 : decide (0 < x3_1) = true := decide_eq_true c5
       clear c5
       by_cases c6 : (bt a0 x4_1) < 128
       ·rw [if_pos c6] at H
        have c6b0 : decide ((bt a0 x4_1) < 128) = true := decide_eq_true c6
        clear c6
        obtain rfl := Option.some.inj H
        have p4 : 0 ≤ (x4_1 : Int) := of_decide_eq_true (by first | (with_reducible assumption) | assumption)
        have q4 : x4_1 < (a0.size : Int) := of_decide_eq_true (by first | (with_reducible assumption) | assumption)
        have hx4 := bt_at a0 x4_1
        replace p4 := eq_true p4
        replace q4 := eq_true q4
        go_wp2
        go_ret
        exact ⟨by first | rfl | (simp; done) | (simp [*]; done), by repeat (first | exact Drawn0.refl _ | apply Drawn0.step)⟩
       ·rw [if_neg c6] at H
        have c6b0 : decide ((bt a0 x4_1) < 128) = false := decide_eq_false c6
        clear c6
        by_cases c7 : (bt a0 x4_1) ≥ 192
        ·rw [if_pos c7] at H
         have c7b0 : decide (192 ≤ (bt a0 x4_1)) = true := decide_eq_true c7
         clear c7
         obtain rfl := Option.some.inj H
         have p4 : 0 ≤ (x4_1 : Int) := of_decide_eq_true (by first | (with_reducible assumption) | assumption)
         have q4 : x4_1 < (a0.size : Int) := of_decide_eq_true (by first | (with_reducible assumption) | assumption)
         have hx4 := bt_at a0 x4_1
         replace p4 := eq_true p4
         replace q4 := eq_true q4
         go_wp2
         go_ret
         exact ⟨by first | rfl | (simp; done) | (simp [*]; done), by repeat (first | exact Drawn0.refl _ | apply Drawn0.step)⟩
        ·rw [if_neg c7] at H
         have c7b0 : decide (192 ≤ (bt a0 x4_1)) = false := decide_eq_false c7
         clear c7
         have H' := Aside0.mk H
         clear H
         have p4 : 0 ≤ (x4_1 : Int) := of_decide_eq_true (by first | (with_reducible assumption) | assumption)
         have q4 : x4_1 < (a0.size : Int) := of_decide_eq_true (by first | (with_reducible assumption) | assumption)
         have hx4 := bt_at a0 x4_1
         replace p4 := eq_true p4
         replace q4 := eq_true q4
         go_wp2
         go_roundg k1
         case measure => have := HK1.out; omega
         case rel => exact ⟨(wrap64 (x3_1 - 1)), (wrap64 (x4_1 + 1)), (by first | rfl | (simp; done) | (simp [*]; done)), (by first | rfl | (simp; done) | (simp [*]; done)), H', ⟨by have := HK1.out; omega⟩, by repeat (first | exact Drawn0.refl _ | apply Drawn0.step)⟩
      ·rw [if_neg c5] at H
       have c5b0 : decide (0 < x3_1) = false := decide_eq_false c5
       clear c5
       by_cases c8 : (bt a0 x4_1) < 128
       ·rw [if_pos c8] at H
        have c8b0 : decide ((bt a0 x4_1) < 128) = true := decide_eq_true c8
        clear c8
        have H' := Aside0.mk H
        clear H
        have p4 : 0 ≤ (x4_1 : Int) := of_decide_eq_true (by first | (with_reducible assumption) | assumption)
        have q4 : x4_1 < (a0.size : Int) := of_decide_eq_true (by first | (with_reducible assumption) | assumption)
        have hx4 := bt_at a0 x4_1
        replace p4 := eq_true p4
        replace q4 := eq_true q4
        go_wp2
        go_roundg k1
        case measure => have := HK1.out; omega
        case rel => exact ⟨(x3_1), (wrap64 (x4_1 + 1)), (by first | rfl | (simp; done) | (simp [*]; done)), (by first | rfl | (simp; done) | (simp [*]; done)), H', ⟨by have := HK1.out; omega⟩, by repeat (first | exact Drawn0.refl _ | apply Drawn0.step)⟩
       ·rw [if_neg c8] at H
        have c8b0 : decide ((bt a0 x4_1) < 128) = false := decide_eq_false c8
        clear c8
        have HC9 := Aside0.mk H
        clear H
        have p4 : 0 ≤ (x4_1 : Int) := of_decide_eq_true (by first | (with_reducible assumption) | assumption)
        have q4 : x4_1 < (a0.size : Int) := of_decide_eq_true (by first | (with_reducible assumption) | assumption)
        have hx4 := bt_at a0 x4_1
        replace p4 := eq_true p4
        replace q4 := eq_true q4
        go_upto_region 12 with (fail)
        go_cut [28] (fun v28 wc => ∃ (kq : Nat) (x28_8 : Bool), v28 = .bool x28_8 ∧ Aside0 (solsticelaw16_signs.j1 kq a0 x4_1 (bt a0 x4_1) x28_8 = some r) ∧ Aside0 (kq ≤ k1) ∧ Drawn0 w wc)
        case first =>
         have H := HC9.out
         clear HC9
         by_cases c10 : (bt a0 x4_1) ≥ 192
         ·rw [if_pos c10] at H
          have c10b0 : decide (192 ≤ (bt a0 x4_1)) = true := decide_eq_true c10
          clear c10
          (first | rw [c10b0] | (simp only [i64_w, i32_w]; rw [c10b0]) | skip)
          have H' := Aside0.mk H
          clear H
          go_wp2
          go_meet
          case rel => exact ⟨_, (decide ((bt a0 x4_1) < 224)), (by first | rfl | (simp; done) | (simp [*]; done)), H', ⟨by have := HK1.out; first | omega | exact Nat.le_refl _⟩, by repeat (first | exact Drawn0.refl _ | apply Drawn0.step)⟩
         ·rw [if_neg c10] at H
          have c10b0 : decide (192 ≤ (bt a0 x4_1)) = false := decide_eq_false c10
          clear c10
          (first | rw [c10b0] | (simp only [i64_w, i32_w]; rw [c10b0]) | skip)
          have H' := Aside0.mk H
          clear H
          go_wp2
          go_meet
          case rel => exact ⟨_, (false), (by first | rfl | (simp; done) | (simp [*]; done)), H', ⟨by have := HK1.out; first | omega | exact Nat.le_refl _⟩, by repeat (first | exact Drawn0.refl _ | apply Drawn0.step)⟩
        case rest =>
         as_aux_lemma =>
          clear HC9
          try clear c1
          try clear c2
          try clear c2b0
          try clear p2
          try clear c3
          try clear c3b0
          try clear p4
          try clear q4
          try clear hx4
          try clear c5
          try clear c5b0
          try clear c6
          try clear c6b0
          try clear p6
          try clear c7
          try clear c7b0
          try clear c8
          try clear c8b0
          try clear c10
          try clear c10b0
          try clear p4
          try clear q4
          obtain ⟨kq, x28_8, rfl, HA, HJ8, ⟨mc8, rfl⟩⟩ := hcut
          cases kq with
          | zero => exact absurd HA.out (by simp [solsticelaw16_signs.j1])
          | succ kj8 =>
           have H := HA.out
           clear HA
           simp only [solsticelaw16_signs.j1] at H
           by_cases c11 : x28_8 = true
           ·subst c11
            have H1 : (solsticelaw16_signs.l0 kj8 a0 1 (wrap64 (x4_1 + 1))) = some r := by rw [if_pos rfl] at H; exact H
            clear H
            have H := H1
            clear H1
            have H' := Aside0.mk H
            clear H
            go_wp2
            go_roundg kj8
            case measure => have := HK1.out; have := HJ8.out; omega
            case rel => exact ⟨(1), (wrap64 (x4_1 + 1)), (by first | rfl | (simp; done) | (simp [*]; done)), (by first | rfl | (simp; done) | (simp [*]; done)), H', ⟨by have := HK1.out; have := HJ8.out; omega⟩, by repeat (first | exact Drawn0.refl _ | apply Drawn0.step)⟩
           ·replace c11 := Bool.eq_false_iff.mpr c11
            subst c11
            have H1 : (if (bt a0 x4_1) ≥ 224 then (solsticelaw16_signs.j2 kj8 a0 x4_1 (bt a0 x4_1) (decide ((bt a0 x4_1) < 240))) else (solsticelaw16_signs.j2 kj8 a0 x4_1 (bt a0 x4_1) false)) = some r := by rw [if_neg (show ¬ (false = true) by decide)] at H; exact H
            clear H
            have H := H1
            clear H1
            have HC12 := Aside0.mk H
            clear H
            go_upto_region 14 with (fail)
            go_cut [35] (fun v35 wc => ∃ (kq : Nat) (x35_11 : Bool), v35 = .bool x35_11 ∧ Aside0 (solsticelaw16_signs.j2 kq a0 x4_1 (bt a0 x4_1) x35_11 = some r) ∧ Aside0 (kq ≤ kj8) ∧ Drawn0 w wc)
            case first =>
             have H := HC12.out
             clear HC12
             by_cases c13 : (bt a0 x4_1) ≥ 224
             ·rw [if_pos c13] at H
              have c13b0 : decide (224 ≤ (bt a0 x4_1)) = true := decide_eq_true c13
              clear c13
              (first | rw [c13b0] | (simp only [i64_w, i32_w]; rw [c13b0]) | skip)
              have H' := Aside0.mk H
              clear H
              go_wp2
              go_meet
              case rel => exact ⟨_, (decide ((bt a0 x4_1) < 240)), (by first | rfl | (simp; done) | (simp [*]; done)), H', ⟨by have := HK1.out; have := HJ8.out; first | omega | exact Nat.le_refl _⟩, by repeat (first | exact Drawn0.refl _ | apply Drawn0.step)⟩
             ·rw [if_neg c13] at H
              have c13b0 : decide (224 ≤ (bt a0 x4_1)) = false := decide_eq_false c13
              clear c13
              (first | rw [c13b0] | (simp only [i64_w, i32_w]; rw [c13b0]) | skip)
              have H' := Aside0.mk H
              clear H
              go_wp2
              go_meet
              case rel => exact ⟨_, (false), (by first | rfl | (simp; done) | (simp [*]; done)), H', ⟨by have := HK1.out; have := HJ8.out; first | omega | exact Nat.le_refl _⟩, by repeat (first | exact Drawn0.refl _ | apply Drawn0.step)⟩
            case rest =>
             clear HC12
             try clear c1
             try clear c2
             try clear c2b0
             try clear p2
             try clear c3
             try clear c3b0
             try clear p4
             try clear q4
             try clear hx4
             try clear c5
             try clear c5b0
             try clear c6
             try clear c6b0
             try clear p6
             try clear c7
             try clear c7b0
             try clear c8
             try clear c8b0
             try clear c10
             try clear c10b0
             try clear c11
             try clear c13
             try clear c13b0
             try clear p2
             try clear p4
             try clear p6
             try clear q4
             obtain ⟨kq, x35_11, rfl, HA, HJ11, ⟨mc11, rfl⟩⟩ := hcut
             cases kq with
             | zero => exact absurd HA.out (by simp [solsticelaw16_signs.j2])
             | succ kj11 =>
              have H := HA.out
              clear HA
              simp only [solsticelaw16_signs.j2] at H
              by_cases c14 : x35_11 = true
              ·subst c14
               have H1 : (solsticelaw16_signs.l0 kj11 a0 2 (wrap64 (x4_1 + 1))) = some r := by rw [if_pos rfl] at H; exact H
               clear H
               have H := H1
               clear H1
               have H' := Aside0.mk H
               clear H
               go_wp2
               go_roundg kj11
               case measure => have := HK1.out; have := HJ8.out; have := HJ11.out; omega
               case rel => exact ⟨(2), (wrap64 (x4_1 + 1)), (by first | rfl | (simp; done) | (simp [*]; done)), (by first | rfl | (simp; done) | (simp [*]; done)), H', ⟨by have := HK1.out; have := HJ8.out; have := HJ11.out; omega⟩, by repeat (first | exact Drawn0.refl _ | apply Drawn0.step)⟩
              ·replace c14 := Bool.eq_false_iff.mpr c14
               subst c14
               have H1 : (if (bt a0 x4_1) ≥ 240 then (if (bt a0 x4_1) < 248 then (solsticelaw16_signs.l0 kj11 a0 3 (wrap64 (x4_1 + 1))) else (some false)) else (some false)) = some r := by rw [if_neg (show ¬ (false = true) by decide)] at H; exact H
               clear H
               have H := H1
               clear H1
               by_cases c15 : (bt a0 x4_1) ≥ 240
               ·rw [if_pos c15] at H
                have c15b0 : decide (240 ≤ (bt a0 x4_1)) = true := decide_eq_true c15
                clear c15
                by_cases c16 : (bt a0 x4_1) < 248
                ·rw [if_pos c16] at H
                 have c16b0 : decide ((bt a0 x4_1) < 248) = true := decide_eq_true c16
                 clear c16
                 have H' := Aside0.mk H
                 clear H
                 go_wp2
                 go_roundg kj11
                 case measure => have := HK1.out; have := HJ8.out; have := HJ11.out; omega
                 case rel => exact ⟨(3), (wrap64 (x4_1 + 1)), (by first | rfl | (simp; done) | (simp [*]; done)), (by first | rfl | (simp; done) | (simp [*]; done)), H', ⟨by have := HK1.out; have := HJ8.out; have := HJ11.out; omega⟩, by repeat (first | exact Drawn0.refl _ | apply Drawn0.step)⟩
                ·rw [if_neg c16] at H
                 have c16b0 : decide ((bt a0 x4_1) < 248) = false := decide_eq_false c16
                 clear c16
                 obtain rfl := Option.some.inj H
                 go_wp2
                 go_ret
                 exact ⟨by first | rfl | (simp; done) | (simp [*]; done), by repeat (first | exact Drawn0.refl _ | apply Drawn0.step)⟩
               ·rw [if_neg c15] at H
                have c15b0 : decide (240 ≤ (bt a0 x4_1)) = false := decide_eq_false c15
                clear c15
                obtain rfl := Option.some.inj H
                go_wp2
                go_ret
                exact ⟨by first | rfl | (simp; done) | (simp [*]; done), by repeat (first | exact Drawn0.refl _ | apply Drawn0.step)⟩
     ·rw [if_neg c3] at H
      exact absurd H (by simp)
    ·rw [if_neg c2] at H
     have c2b0 : decide (x4_1 < (a0.size : Int)) = false := decide_eq_false c2
     clear c2
     obtain rfl := Option.some.inj H
     go_wp2
     go_ret
     exact ⟨by first | rfl | (simp; done) | (simp [*]; done), by repeat (first | exact Drawn0.refl _ | apply Drawn0.step)⟩
mutual
def solsticelaw16_FoldShort.l0 : Nat → ByteArray → ByteArray → Int → Int → Option (Bool)
 | 0, _, _, _, _ => none
 | k + 1, x0, x3, x5, x6 => if (wrap64 (x6 + 1)) < (x3.size : Int) then (if 0 ≤ x6 then (if x6 < (x3.size : Int) then (if (bt x3 x6) = 13 then (if 0 ≤ (wrap64 (x6 + 1)) then (if (bt x3 (wrap64 (x6 + 1))) = 10 then (solsticelaw16_FoldShort.j1 k x0 x3 x6 (decide ((wrap64 (x6 - x5)) > 75))) else (solsticelaw16_FoldShort.j1 k x0 x3 x6 true)) else (none)) else (solsticelaw16_FoldShort.l0 k x0 x3 x5 (wrap64 (x6 + 1)))) else (none)) else (none)) else (if x5 = (x3.size : Int) then ((solsticelaw16_wakes.f k).bind fun t213 => (some t213)) else (some false))
def solsticelaw16_FoldShort.j1 : Nat → ByteArray → ByteArray → Int → Bool → Option (Bool)
 | 0, _, _, _, _ => none
 | k + 1, x0, x3, x6, x43 => if x43 = true then (some false) else (if (wrap64 (x6 + 3)) < (x3.size : Int) then (if 0 ≤ (wrap64 (x6 + 3)) then (if (bt x3 (wrap64 (x6 + 3))) ≥ 128 then (if (bt x3 (wrap64 (x6 + 3))) < 192 then ((solsticelaw16_signs.f k x0).bind fun t214 => (if t214 = true then (some false) else (solsticelaw16_FoldShort.l0 k x0 x3 (wrap64 (x6 + 2)) (wrap64 (x6 + 1))))) else (solsticelaw16_FoldShort.l0 k x0 x3 (wrap64 (x6 + 2)) (wrap64 (x6 + 1)))) else (solsticelaw16_FoldShort.l0 k x0 x3 (wrap64 (x6 + 2)) (wrap64 (x6 + 1)))) else (none)) else (solsticelaw16_FoldShort.l0 k x0 x3 (wrap64 (x6 + 2)) (wrap64 (x6 + 1))))
end
def solsticelaw16_FoldShort.f (k : Nat) (a0 : ByteArray) : Option (Bool) := if (a0.size : Int) > 3000 then (some true) else ((fold_Line.f k a0).bind fun bt210 => (if bt210.2 = 0 then (solsticelaw16_FoldShort.l0 k a0 bt210.1 0 0) else (if bt210.2 = 18 then ((solsticelaw16_wakes.f k).bind fun t212 => (some t212)) else (some false))))
theorem solsticelaw16_FoldShort.mono_l : ∀ k, (∀ y0 y1 y2 y3, LeO (solsticelaw16_FoldShort.l0 k y0 y1 y2 y3) (solsticelaw16_FoldShort.l0 (k + 1) y0 y1 y2 y3)) ∧ (∀ y0 y1 y2 y3, LeO (solsticelaw16_FoldShort.j1 k y0 y1 y2 y3) (solsticelaw16_FoldShort.j1 (k + 1) y0 y1 y2 y3))
 | 0 => ⟨fun _ _ _ _ r h => by simp [solsticelaw16_FoldShort.l0] at h, fun _ _ _ _ r h => by simp [solsticelaw16_FoldShort.j1] at h⟩
 | k + 1 => by
  obtain ⟨ih0, ih1⟩ := solsticelaw16_FoldShort.mono_l k
  refine ⟨?_, ?_⟩
  ·intro y0 y1 y2 y3
   unfold solsticelaw16_FoldShort.l0
   repeat' first
   | (with_reducible exact ih0 _ _ _ _)
   | (with_reducible exact ih1 _ _ _ _)
   | (with_reducible exact fold_Line.mono _ _)
   | (with_reducible exact solsticelaw16_signs.mono _ _)
   | (with_reducible exact solsticelaw16_wakes.mono _)
   | (with_reducible exact LeO.refl _)
   | (with_reducible exact LeO.none _)
   | (with_reducible refine LeO.ite ?_ ?_)
   | (with_reducible refine LeO.bind ?_ (fun _ => ?_))
   | exact ih0 _ _ _ _
   | exact ih1 _ _ _ _
   | exact fold_Line.mono _ _
   | exact solsticelaw16_signs.mono _ _
   | exact solsticelaw16_wakes.mono _
   | exact LeO.none _
   | refine LeO.ite ?_ ?_
   | refine LeO.bind ?_ (fun _ => ?_)
  ·intro y0 y1 y2 y3
   unfold solsticelaw16_FoldShort.j1
   repeat' first
   | (with_reducible exact ih0 _ _ _ _)
   | (with_reducible exact ih1 _ _ _ _)
   | (with_reducible exact fold_Line.mono _ _)
   | (with_reducible exact solsticelaw16_signs.mono _ _)
   | (with_reducible exact solsticelaw16_wakes.mono _)
   | (with_reducible exact LeO.refl _)
   | (with_reducible exact LeO.none _)
   | (with_reducible refine LeO.ite ?_ ?_)
   | (with_reducible refine LeO.bind ?_ (fun _ => ?_))
   | exact ih0 _ _ _ _
   | exact ih1 _ _ _ _
   | exact fold_Line.mono _ _
   | exact solsticelaw16_signs.mono _ _
   | exact solsticelaw16_wakes.mono _
   | exact LeO.none _
   | refine LeO.ite ?_ ?_
   | refine LeO.bind ?_ (fun _ => ?_)
theorem solsticelaw16_FoldShort.mono : ∀ a0 k, LeO (solsticelaw16_FoldShort.f k a0) (solsticelaw16_FoldShort.f (k + 1) a0) := by
 intro a0 k
 obtain ⟨ih0, ih1⟩ := solsticelaw16_FoldShort.mono_l k
 unfold solsticelaw16_FoldShort.f
 repeat' first
   | (with_reducible exact ih0 _ _ _ _)
   | (with_reducible exact ih1 _ _ _ _)
   | (with_reducible exact fold_Line.mono _ _)
   | (with_reducible exact solsticelaw16_signs.mono _ _)
   | (with_reducible exact solsticelaw16_wakes.mono _)
   | (with_reducible exact LeO.refl _)
   | (with_reducible exact LeO.none _)
   | (with_reducible refine LeO.ite ?_ ?_)
   | (with_reducible refine LeO.bind ?_ (fun _ => ?_))
   | exact ih0 _ _ _ _
   | exact ih1 _ _ _ _
   | exact fold_Line.mono _ _
   | exact solsticelaw16_signs.mono _ _
   | exact solsticelaw16_wakes.mono _
   | exact LeO.none _
   | refine LeO.ite ?_ ?_
   | refine LeO.bind ?_ (fun _ => ?_)
set_option maxHeartbeats 8000000 in
set_option maxRecDepth 100000 in
theorem solsticelaw16_FoldShort.calls (k : Nat) (a0 : ByteArray) (r : Bool) (w : World) (hG : GP w) (h : solsticelaw16_FoldShort.f k a0 = some r) :
  Calls Tryd.prog 5 #[.string a0] w fun e w' => e = .returned (.bool r) ∧ Below w.heap.size w w' := by
 have HG := Aside0.mk hG
 clear hG
 have HB := Aside0.mk (Below.refl w.heap.size w)
 have H : (if (a0.size : Int) > 3000 then (some true) else ((fold_Line.f k a0).bind fun bt210 => (if bt210.2 = 0 then (solsticelaw16_FoldShort.l0 k a0 bt210.1 0 0) else (if bt210.2 = 18 then ((solsticelaw16_wakes.f k).bind fun t212 => (some t212)) else (some false))))) = some r := h
 clear h
 by_cases c2 : (a0.size : Int) > 3000
 ·rw [if_pos c2] at H
  have c2b0 : decide (3000 < (a0.size : Int)) = true := decide_eq_true c2
  have c2b1 : decide (3000 < a0.size) = true := decide_eq_true (by omega)
  clear c2
  obtain rfl := Option.some.inj H
  go_enter Tryd.func5, Tryd.ntmps5
  go_wp2
  go_ret
  exact ⟨by first | rfl | (simp [errW_none, errW_some] <;> rfl) | (simp [*, errW_none, errW_some] <;> rfl), by repeat (first | (with_reducible first | exact HB.out | apply below_alloc | apply pw_below_drewN | apply below_drew1) | exact HB.out)⟩
 ·rw [if_neg c2] at H
  have c2b0 : decide (3000 < (a0.size : Int)) = false := decide_eq_false c2
  have c2b1 : decide (3000 < a0.size) = false := decide_eq_false (by omega)
  clear c2
  replace H := Option.bind_eq_some_iff.mp H
  obtain ⟨⟨t210, t211⟩, A30, H⟩ := H
  replace H : (if t211 = 0 then (solsticelaw16_FoldShort.l0 k a0 t210 0 0) else (if t211 = 18 then ((solsticelaw16_wakes.f k).bind fun t212 => (some t212)) else (some false))) = some r := H
  have A3 := Aside0.mk A30
  clear A30
  by_cases c4 : t211 = 0
  ·rw [if_pos c4] at H
   have c4b0 : (t211 == 0) = true := beq_iff_eq.mpr c4
   have c4b1 : (t211 != 0) = false := bne_eq_false_iff_eq.mpr c4
   clear c4
   have H' := Aside0.mk H
   clear H
   go_enter Tryd.func5, Tryd.ntmps5
   go_wp2_with (first | ((with_reducible refine gate_callee (f := 12) rfl ?_); refine goesL_ (some 12) rfl rfl Tryd.func12 (by kernel_rfl) rfl #[.string a0] rfl (by (try simp only [List.map_toArray, List.map_cons, List.map_nil]); first | done | rfl | (simp only [List.length_drop, List.length_take]; rfl)) ?_; (with_reducible refine (fold_Line.calls k a0 t210 t211 _ A3.out).mono ?_); rintro e w5 ⟨rfl, hb⟩; refine ⟨_, rfl, ?_⟩; have n0_ := Aside0.mk (below_step (by repeat (first | (with_reducible first | exact HB.out | apply below_alloc | apply pw_below_drewN | apply below_drew1) | exact HB.out)) hb); clear HB; have HB := n0_; clear n0_; (try clear hb); (try clear hb2); (try clear hk); (try clear hi)))
   go_loopg [5, 6] k (fun kq v5 v6 w' => ∃ (x5_1 : Int) (x6_1 : Int), v5 = .int .i64 x5_1 ∧ v6 = .int .i64 x6_1 ∧ Aside0 (solsticelaw16_FoldShort.l0 kq a0 t210 x5_1 x6_1 = some r) ∧ Aside0 (kq ≤ k) ∧ Aside0 (Below w.heap.size w w'))
   case atStart => exact ⟨(0), (0), (by first | rfl | (simp; done) | (simp [*]; done)), (by first | rfl | (simp; done) | (simp [*]; done)), H', ⟨Nat.le_refl _⟩, ⟨by repeat (first | (with_reducible first | exact HB.out | apply below_alloc | apply pw_below_drewN | apply below_drew1) | exact HB.out)⟩⟩
   case round =>
    as_aux_lemma =>
     clear H'
     try clear c1
     try clear c2
     try clear c2b0
     try clear c2b1
     try clear p2
     try clear c4
     try clear c4b0
     try clear c4b1
     try clear c5
     obtain ⟨x5_1, x6_1, rfl, rfl, HA, HK1, HB⟩ := hrel
     cases gk with
     | zero => exact absurd HA.out (by simp [solsticelaw16_FoldShort.l0])
     | succ k1 =>
      have H := HA.out
      clear HA
      simp only [solsticelaw16_FoldShort.l0] at H
      by_cases c6 : (wrap64 (x6_1 + 1)) < (t210.size : Int)
      ·rw [if_pos c6] at H
       have c6b0 : decide ((wrap64 (x6_1 + 1)) < (t210.size : Int)) = true := decide_eq_true c6
       clear c6
       by_cases c7 : 0 ≤ x6_1
       ·rw [if_pos c7] at H
        have c7b0 : decide (0 ≤ x6_1) = true := decide_eq_true c7
        clear c7
        by_cases c8 : x6_1 < (t210.size : Int)
        ·rw [if_pos c8] at H
         have c8b0 : decide (x6_1 < (t210.size : Int)) = true := decide_eq_true c8
         clear c8
         by_cases c10 : (bt t210 x6_1) = 13
         ·rw [if_pos c10] at H
          have c10b0 : ((bt t210 x6_1) == 13) = true := beq_iff_eq.mpr c10
          have c10b1 : ((bt t210 x6_1) != 13) = false := bne_eq_false_iff_eq.mpr c10
          clear c10
          have HC11 := Aside0.mk H
          clear H
          have p9 : 0 ≤ (x6_1 : Int) := of_decide_eq_true (by first | (with_reducible assumption) | assumption)
          have q9 : x6_1 < (t210.size : Int) := of_decide_eq_true (by first | (with_reducible assumption) | assumption)
          have hx9 := bt_at t210 x6_1
          replace p9 := eq_true p9
          replace q9 := eq_true q9
          go_upto_region 11 with (fail)
          go_cut [43] (fun v43 wc => ∃ (kq : Nat) (x43_10 : Bool), v43 = .bool x43_10 ∧ Aside0 (solsticelaw16_FoldShort.j1 kq a0 t210 x6_1 x43_10 = some r) ∧ Aside0 (kq ≤ k1) ∧ Aside0 (Below w.heap.size w wc))
          case first =>
           have H := HC11.out
           clear HC11
           obtain ⟨ji12, hji12⟩ : ∃ j_ : Int, (wrap64 (x6_1 + 1)) = j_ := ⟨_, rfl⟩
           replace H : (if 0 ≤ (ji12) then (if (bt t210 (ji12)) = 10 then (solsticelaw16_FoldShort.j1 k1 a0 t210 x6_1 (decide ((wrap64 (x6_1 - x5_1)) > 75))) else (solsticelaw16_FoldShort.j1 k1 a0 t210 x6_1 true)) else (none)) = some r := by first | (rw [hji12] at H; exact H) | (simp only [hji12] at H ⊢; exact H)
           (try rw [hji12] at c6b0)
           have hji12w : (IntKind.i64.wrap (x6_1 + 1)) = ji12 := (i64_w _).trans hji12
           by_cases c13 : 0 ≤ (ji12)
           ·rw [if_pos c13] at H
            have c13b0 : decide (0 ≤ (ji12)) = true := decide_eq_true c13
            clear c13
            (first | rw [c13b0] | (simp only [i64_w, i32_w]; rw [c13b0]) | skip)
            by_cases c15 : (bt t210 (ji12)) = 10
            ·rw [if_pos c15] at H
             have c15b0 : ((bt t210 (ji12)) == 10) = true := beq_iff_eq.mpr c15
             have c15b1 : ((bt t210 (ji12)) != 10) = false := bne_eq_false_iff_eq.mpr c15
             clear c15
             have H' := Aside0.mk H
             clear H
             have p14 : 0 ≤ ((ji12) : Int) := of_decide_eq_true (by first | (with_reducible assumption) | assumption)
             have q14 : (ji12) < (t210.size : Int) := of_decide_eq_true (by first | (with_reducible assumption) | assumption)
             have hx14 := bt_at t210 (ji12)
             replace p14 := eq_true p14
             replace q14 := eq_true q14
             go_wp2
             go_meet
             case rel => exact ⟨_, (decide ((wrap64 (x6_1 - x5_1)) > 75)), (by first | rfl | (simp; done) | (simp [*]; done)), H', ⟨by have := HK1.out; first | omega | exact Nat.le_refl _⟩, ⟨by repeat (first | (with_reducible first | exact HB.out | apply below_alloc | apply pw_below_drewN | apply below_drew1) | exact HB.out)⟩⟩
            ·rw [if_neg c15] at H
             have c15b0 : ((bt t210 (ji12)) == 10) = false := beq_eq_false_iff_ne.mpr c15
             have c15b1 : ((bt t210 (ji12)) != 10) = true := bne_iff_ne.mpr c15
             have H' := Aside0.mk H
             clear H
             have p14 : 0 ≤ ((ji12) : Int) := of_decide_eq_true (by first | (with_reducible assumption) | assumption)
             have q14 : (ji12) < (t210.size : Int) := of_decide_eq_true (by first | (with_reducible assumption) | assumption)
             have hx14 := bt_at t210 (ji12)
             replace p14 := eq_true p14
             replace q14 := eq_true q14
             go_wp2
             go_meet
             case rel => exact ⟨_, (true), (by first | rfl | (simp; done) | (simp [*]; done)), H', ⟨by have := HK1.out; first | omega | exact Nat.le_refl _⟩, ⟨by repeat (first | (with_reducible first | exact HB.out | apply below_alloc | apply pw_below_drewN | apply below_drew1) | exact HB.out)⟩⟩
           ·rw [if_neg c13] at H
            exact absurd H (by simp)
          case rest =>
           as_aux_lemma =>
            clear HC11
            try clear c1
            try clear p1
            try clear q1
            try clear hx1
            try clear c2
            try clear c2b0
            try clear c2b1
            try clear p2
            try clear c4
            try clear c4b0
            try clear c4b1
            try clear c5
            try clear c6
            try clear c6b0
            try clear p6
            try clear c7
            try clear c7b0
            try clear c8
            try clear c8b0
            try clear p9
            try clear q9
            try clear hx9
            try clear c10
            try clear c10b0
            try clear c10b1
            try clear c12
            try clear c13
            try clear c13b0
            try clear p14
            try clear q14
            try clear hx14
            try clear c15
            try clear c15b0
            try clear c15b1
            try clear p14
            try clear p2
            try clear p9
            try clear q14
            try clear q9
            obtain ⟨kq, x43_10, rfl, HA, HJ10, HB⟩ := hcut
            cases kq with
            | zero => exact absurd HA.out (by simp [solsticelaw16_FoldShort.j1])
            | succ kj10 =>
             have H := HA.out
             clear HA
             simp only [solsticelaw16_FoldShort.j1] at H
             by_cases c16 : x43_10 = true
             ·subst c16
              have H1 : (some false) = some r := by rw [if_pos rfl] at H; exact H
              clear H
              have H := H1
              clear H1
              obtain rfl := Option.some.inj H
              go_wp2
              go_ret
              exact ⟨by first | rfl | (simp [errW_none, errW_some] <;> rfl) | (simp [*, errW_none, errW_some] <;> rfl), by repeat (first | (with_reducible first | exact HB.out | apply below_alloc | apply pw_below_drewN | apply below_drew1) | exact HB.out)⟩
             ·replace c16 := Bool.eq_false_iff.mpr c16
              subst c16
              have H1 : (if (wrap64 (x6_1 + 3)) < (t210.size : Int) then (if 0 ≤ (wrap64 (x6_1 + 3)) then (if (bt t210 (wrap64 (x6_1 + 3))) ≥ 128 then (if (bt t210 (wrap64 (x6_1 + 3))) < 192 then ((solsticelaw16_signs.f kj10 a0).bind fun t214 => (if t214 = true then (some false) else (solsticelaw16_FoldShort.l0 kj10 a0 t210 (wrap64 (x6_1 + 2)) (wrap64 (x6_1 + 1))))) else (solsticelaw16_FoldShort.l0 kj10 a0 t210 (wrap64 (x6_1 + 2)) (wrap64 (x6_1 + 1)))) else (solsticelaw16_FoldShort.l0 kj10 a0 t210 (wrap64 (x6_1 + 2)) (wrap64 (x6_1 + 1)))) else (none)) else (solsticelaw16_FoldShort.l0 kj10 a0 t210 (wrap64 (x6_1 + 2)) (wrap64 (x6_1 + 1)))) = some r := by rw [if_neg (show ¬ (false = true) by decide)] at H; exact H
              clear H
              have H := H1
              clear H1
              by_cases c17 : (wrap64 (x6_1 + 3)) < (t210.size : Int)
              ·rw [if_pos c17] at H
               have c17b0 : decide ((wrap64 (x6_1 + 3)) < (t210.size : Int)) = true := decide_eq_true c17
               clear c17
               obtain ⟨ji18, hji18⟩ : ∃ j_ : Int, (wrap64 (x6_1 + 3)) = j_ := ⟨_, rfl⟩
               replace H : (if 0 ≤ (ji18) then (if (bt t210 (ji18)) ≥ 128 then (if (bt t210 (ji18)) < 192 then ((solsticelaw16_signs.f kj10 a0).bind fun t214 => (if t214 = true then (some false) else (solsticelaw16_FoldShort.l0 kj10 a0 t210 (wrap64 (x6_1 + 2)) (wrap64 (x6_1 + 1))))) else (solsticelaw16_FoldShort.l0 kj10 a0 t210 (wrap64 (x6_1 + 2)) (wrap64 (x6_1 + 1)))) else (solsticelaw16_FoldShort.l0 kj10 a0 t210 (wrap64 (x6_1 + 2)) (wrap64 (x6_1 + 1)))) else (none)) = some r := by first | (rw [hji18] at H; exact H) | (simp only [hji18] at H ⊢; exact H)
               (try rw [hji18] at c17b0)
               have hji18w : (IntKind.i64.wrap (x6_1 + 3)) = ji18 := (i64_w _).trans hji18
               by_cases c19 : 0 ≤ (ji18)
               ·rw [if_pos c19] at H
                have c19b0 : decide (0 ≤ (ji18)) = true := decide_eq_true c19
                clear c19
                by_cases c21 : (bt t210 (ji18)) ≥ 128
                ·rw [if_pos c21] at H
                 have c21b0 : decide (128 ≤ (bt t210 (ji18))) = true := decide_eq_true c21
                 clear c21
                 by_cases c23 : (bt t210 (ji18)) < 192
                 ·rw [if_pos c23] at H
                  have c23b0 : decide ((bt t210 (ji18)) < 192) = true := decide_eq_true c23
                  clear c23
                  replace H := Option.bind_eq_some_iff.mp H
                  obtain ⟨t214, A240, H⟩ := H
                  replace H : (if t214 = true then (some false) else (solsticelaw16_FoldShort.l0 kj10 a0 t210 (wrap64 (x6_1 + 2)) (wrap64 (x6_1 + 1)))) = some r := H
                  have A24 := Aside0.mk A240
                  clear A240
                  by_cases c25 : t214 = true
                  ·subst c25
                   have H1 : (some false) = some r := by rw [if_pos rfl] at H; exact H
                   clear H
                   have H := H1
                   clear H1
                   obtain rfl := Option.some.inj H
                   have p20 : 0 ≤ ((ji18) : Int) := of_decide_eq_true (by first | (with_reducible assumption) | assumption)
                   have q20 : (ji18) < (t210.size : Int) := of_decide_eq_true (by first | (with_reducible assumption) | assumption)
                   have hx20 := bt_at t210 (ji18)
                   replace p20 := eq_true p20
                   replace q20 := eq_true q20
                   have p22 : 0 ≤ ((ji18) : Int) := of_decide_eq_true (by first | (with_reducible assumption) | assumption)
                   have q22 : (ji18) < (t210.size : Int) := of_decide_eq_true (by first | (with_reducible assumption) | assumption)
                   have hx22 := bt_at t210 (ji18)
                   replace p22 := eq_true p22
                   replace q22 := eq_true q22
                   go_wp2_with (first | (go_at_call 18; (with_reducible refine (solsticelaw16_signs.calls kj10 a0 true _ A24.out).mono ?_); rintro e w' ⟨rfl, ⟨nd, rfl⟩⟩))
                   go_ret
                   exact ⟨by first | rfl | (simp [errW_none, errW_some] <;> rfl) | (simp only [← hji18]; first | rfl | (simp [errW_none, errW_some] <;> rfl)) | (simp [*, errW_none, errW_some] <;> rfl), by repeat (first | (with_reducible first | exact HB.out | apply below_alloc | apply pw_below_drewN | apply below_drew1) | exact HB.out)⟩
                  ·replace c25 := Bool.eq_false_iff.mpr c25
                   subst c25
                   have H1 : (solsticelaw16_FoldShort.l0 kj10 a0 t210 (wrap64 (x6_1 + 2)) (wrap64 (x6_1 + 1))) = some r := by rw [if_neg (show ¬ (false = true) by decide)] at H; exact H
                   clear H
                   have H := H1
                   clear H1
                   have H' := Aside0.mk H
                   clear H
                   have p20 : 0 ≤ ((ji18) : Int) := of_decide_eq_true (by first | (with_reducible assumption) | assumption)
                   have q20 : (ji18) < (t210.size : Int) := of_decide_eq_true (by first | (with_reducible assumption) | assumption)
                   have hx20 := bt_at t210 (ji18)
                   replace p20 := eq_true p20
                   replace q20 := eq_true q20
                   have p22 : 0 ≤ ((ji18) : Int) := of_decide_eq_true (by first | (with_reducible assumption) | assumption)
                   have q22 : (ji18) < (t210.size : Int) := of_decide_eq_true (by first | (with_reducible assumption) | assumption)
                   have hx22 := bt_at t210 (ji18)
                   replace p22 := eq_true p22
                   replace q22 := eq_true q22
                   go_wp2_with (first | (go_at_call 18; (with_reducible refine (solsticelaw16_signs.calls kj10 a0 false _ A24.out).mono ?_); rintro e w' ⟨rfl, ⟨nd, rfl⟩⟩))
                   go_roundg kj10
                   case measure => have := HK1.out; have := HJ10.out; omega
                   case rel => exact ⟨(wrap64 (x6_1 + 2)), (wrap64 (x6_1 + 1)), (by first | rfl | (simp; done) | (simp [*]; done)), (by first | rfl | (simp; done) | (simp [*]; done)), H', ⟨by have := HK1.out; have := HJ10.out; omega⟩, ⟨by repeat (first | (with_reducible first | exact HB.out | apply below_alloc | apply pw_below_drewN | apply below_drew1) | exact HB.out)⟩⟩
                 ·rw [if_neg c23] at H
                  have c23b0 : decide ((bt t210 (ji18)) < 192) = false := decide_eq_false c23
                  clear c23
                  have H' := Aside0.mk H
                  clear H
                  have p20 : 0 ≤ ((ji18) : Int) := of_decide_eq_true (by first | (with_reducible assumption) | assumption)
                  have q20 : (ji18) < (t210.size : Int) := of_decide_eq_true (by first | (with_reducible assumption) | assumption)
                  have hx20 := bt_at t210 (ji18)
                  replace p20 := eq_true p20
                  replace q20 := eq_true q20
                  have p22 : 0 ≤ ((ji18) : Int) := of_decide_eq_true (by first | (with_reducible assumption) | assumption)
                  have q22 : (ji18) < (t210.size : Int) := of_decide_eq_true (by first | (with_reducible assumption) | assumption)
                  have hx22 := bt_at t210 (ji18)
                  replace p22 := eq_true p22
                  replace q22 := eq_true q22
                  go_wp2
                  go_roundg kj10
                  case measure => have := HK1.out; have := HJ10.out; omega
                  case rel => exact ⟨(wrap64 (x6_1 + 2)), (wrap64 (x6_1 + 1)), (by first | rfl | (simp; done) | (simp [*]; done)), (by first | rfl | (simp; done) | (simp [*]; done)), H', ⟨by have := HK1.out; have := HJ10.out; omega⟩, ⟨by repeat (first | (with_reducible first | exact HB.out | apply below_alloc | apply pw_below_drewN | apply below_drew1) | exact HB.out)⟩⟩
                ·rw [if_neg c21] at H
                 have c21b0 : decide (128 ≤ (bt t210 (ji18))) = false := decide_eq_false c21
                 clear c21
                 have H' := Aside0.mk H
                 clear H
                 have p20 : 0 ≤ ((ji18) : Int) := of_decide_eq_true (by first | (with_reducible assumption) | assumption)
                 have q20 : (ji18) < (t210.size : Int) := of_decide_eq_true (by first | (with_reducible assumption) | assumption)
                 have hx20 := bt_at t210 (ji18)
                 replace p20 := eq_true p20
                 replace q20 := eq_true q20
                 go_wp2
                 go_roundg kj10
                 case measure => have := HK1.out; have := HJ10.out; omega
                 case rel => exact ⟨(wrap64 (x6_1 + 2)), (wrap64 (x6_1 + 1)), (by first | rfl | (simp; done) | (simp [*]; done)), (by first | rfl | (simp; done) | (simp [*]; done)), H', ⟨by have := HK1.out; have := HJ10.out; omega⟩, ⟨by repeat (first | (with_reducible first | exact HB.out | apply below_alloc | apply pw_below_drewN | apply below_drew1) | exact HB.out)⟩⟩
               ·rw [if_neg c19] at H
                exact absurd H (by simp)
              ·rw [if_neg c17] at H
               have c17b0 : decide ((wrap64 (x6_1 + 3)) < (t210.size : Int)) = false := decide_eq_false c17
               clear c17
               have H' := Aside0.mk H
               clear H
               go_wp2
               go_roundg kj10
               case measure => have := HK1.out; have := HJ10.out; omega
               case rel => exact ⟨(wrap64 (x6_1 + 2)), (wrap64 (x6_1 + 1)), (by first | rfl | (simp; done) | (simp [*]; done)), (by first | rfl | (simp; done) | (simp [*]; done)), H', ⟨by have := HK1.out; have := HJ10.out; omega⟩, ⟨by repeat (first | (with_reducible first | exact HB.out | apply below_alloc | apply pw_below_drewN | apply below_drew1) | exact HB.out)⟩⟩
         ·rw [if_neg c10] at H
          have c10b0 : ((bt t210 x6_1) == 13) = false := beq_eq_false_iff_ne.mpr c10
          have c10b1 : ((bt t210 x6_1) != 13) = true := bne_iff_ne.mpr c10
          have H' := Aside0.mk H
          clear H
          have p9 : 0 ≤ (x6_1 : Int) := of_decide_eq_true (by first | (with_reducible assumption) | assumption)
          have q9 : x6_1 < (t210.size : Int) := of_decide_eq_true (by first | (with_reducible assumption) | assumption)
          have hx9 := bt_at t210 x6_1
          replace p9 := eq_true p9
          replace q9 := eq_true q9
          go_wp2
          go_roundg k1
          case measure => have := HK1.out; omega
          case rel => exact ⟨(x5_1), (wrap64 (x6_1 + 1)), (by first | rfl | (simp; done) | (simp [*]; done)), (by first | rfl | (simp; done) | (simp [*]; done)), H', ⟨by have := HK1.out; omega⟩, ⟨by repeat (first | (with_reducible first | exact HB.out | apply below_alloc | apply pw_below_drewN | apply below_drew1) | exact HB.out)⟩⟩
        ·rw [if_neg c8] at H
         exact absurd H (by simp)
       ·rw [if_neg c7] at H
        exact absurd H (by simp)
      ·rw [if_neg c6] at H
       have c6b0 : decide ((wrap64 (x6_1 + 1)) < (t210.size : Int)) = false := decide_eq_false c6
       clear c6
       by_cases c26 : x5_1 = (t210.size : Int)
       ·rw [if_pos c26] at H
        have c26b0 : (x5_1 == (t210.size : Int)) = true := beq_iff_eq.mpr c26
        have c26b1 : (x5_1 != (t210.size : Int)) = false := bne_eq_false_iff_eq.mpr c26
        clear c26
        replace H := Option.bind_eq_some_iff.mp H
        obtain ⟨t213, A270, H⟩ := H
        replace H : (some t213) = some r := H
        have A27 := Aside0.mk A270
        clear A270
        obtain rfl := Option.some.inj H
        go_wp2_with (first | (go_at_call 16; (with_reducible refine (solsticelaw16_wakes.calls k1  t213 _ ?sideG A27.out).mono ?_); (case sideG => first | exact GP_below HG.out (by repeat (first | (with_reducible first | exact HB.out | apply below_alloc | apply pw_below_drewN | apply below_drew1) | exact HB.out)) | repeat (first | exact HG.out | refine GP_alloc ?_ _ | refine GP_drewN ?_ _ | refine GP_drew ?_)); rintro e w28 ⟨rfl, hb⟩; have n0_ := Aside0.mk (below_step (by repeat (first | (with_reducible first | exact HB.out | apply below_alloc | apply pw_below_drewN | apply below_drew1) | exact HB.out)) hb); clear HB; have HB := n0_; clear n0_; (try clear hb); (try clear hb2); (try clear hk); (try clear hi)))
        go_ret
        exact ⟨by first | rfl | (simp [errW_none, errW_some] <;> rfl) | (simp [*, errW_none, errW_some] <;> rfl), by repeat (first | (with_reducible first | exact HB.out | apply below_alloc | apply pw_below_drewN | apply below_drew1) | exact HB.out)⟩
       ·rw [if_neg c26] at H
        have c26b0 : (x5_1 == (t210.size : Int)) = false := beq_eq_false_iff_ne.mpr c26
        have c26b1 : (x5_1 != (t210.size : Int)) = true := bne_iff_ne.mpr c26
        obtain rfl := Option.some.inj H
        go_wp2
        go_ret
        exact ⟨by first | rfl | (simp [errW_none, errW_some] <;> rfl) | (simp [*, errW_none, errW_some] <;> rfl), by repeat (first | (with_reducible first | exact HB.out | apply below_alloc | apply pw_below_drewN | apply below_drew1) | exact HB.out)⟩
  ·rw [if_neg c4] at H
   have c4b0 : (t211 == 0) = false := beq_eq_false_iff_ne.mpr c4
   have c4b1 : (t211 != 0) = true := bne_iff_ne.mpr c4
   by_cases c29 : t211 = 18
   ·rw [if_pos c29] at H
    have c29b0 : (t211 == 18) = true := beq_iff_eq.mpr c29
    have c29b1 : (t211 != 18) = false := bne_eq_false_iff_eq.mpr c29
    clear c29
    replace H := Option.bind_eq_some_iff.mp H
    obtain ⟨t212, A300, H⟩ := H
    replace H : (some t212) = some r := H
    have A30 := Aside0.mk A300
    clear A300
    obtain rfl := Option.some.inj H
    go_enter Tryd.func5, Tryd.ntmps5
    go_wp2_with (first | ((with_reducible refine gate_callee (f := 12) rfl ?_); refine goesL_ (some 12) rfl rfl Tryd.func12 (by kernel_rfl) rfl #[.string a0] rfl (by (try simp only [List.map_toArray, List.map_cons, List.map_nil]); first | done | rfl | (simp only [List.length_drop, List.length_take]; rfl)) ?_; (with_reducible refine (fold_Line.calls k a0 t210 t211 _ A3.out).mono ?_); rintro e w31 ⟨rfl, hb⟩; refine ⟨_, rfl, ?_⟩; have n0_ := Aside0.mk (below_step (by repeat (first | (with_reducible first | exact HB.out | apply below_alloc | apply pw_below_drewN | apply below_drew1) | exact HB.out)) hb); clear HB; have HB := n0_; clear n0_; (try clear hb); (try clear hb2); (try clear hk); (try clear hi)) | (go_at_call 16; (with_reducible refine (solsticelaw16_wakes.calls k  t212 _ ?sideG A30.out).mono ?_); (case sideG => first | exact GP_below HG.out (by repeat (first | (with_reducible first | exact HB.out | apply below_alloc | apply pw_below_drewN | apply below_drew1) | exact HB.out)) | repeat (first | exact HG.out | refine GP_alloc ?_ _ | refine GP_drewN ?_ _ | refine GP_drew ?_)); rintro e w32 ⟨rfl, hb⟩; have n0_ := Aside0.mk (below_step (by repeat (first | (with_reducible first | exact HB.out | apply below_alloc | apply pw_below_drewN | apply below_drew1) | exact HB.out)) hb); clear HB; have HB := n0_; clear n0_; (try clear hb); (try clear hb2); (try clear hk); (try clear hi)))
    go_ret
    exact ⟨by first | rfl | (simp [errW_none, errW_some] <;> rfl) | (simp [*, errW_none, errW_some] <;> rfl), by repeat (first | (with_reducible first | exact HB.out | apply below_alloc | apply pw_below_drewN | apply below_drew1) | exact HB.out)⟩
   ·rw [if_neg c29] at H
    have c29b0 : (t211 == 18) = false := beq_eq_false_iff_ne.mpr c29
    have c29b1 : (t211 != 18) = true := bne_iff_ne.mpr c29
    obtain rfl := Option.some.inj H
    go_enter Tryd.func5, Tryd.ntmps5
    go_wp2_with (first | ((with_reducible refine gate_callee (f := 12) rfl ?_); refine goesL_ (some 12) rfl rfl Tryd.func12 (by kernel_rfl) rfl #[.string a0] rfl (by (try simp only [List.map_toArray, List.map_cons, List.map_nil]); first | done | rfl | (simp only [List.length_drop, List.length_take]; rfl)) ?_; (with_reducible refine (fold_Line.calls k a0 t210 t211 _ A3.out).mono ?_); rintro e w33 ⟨rfl, hb⟩; refine ⟨_, rfl, ?_⟩; have n0_ := Aside0.mk (below_step (by repeat (first | (with_reducible first | exact HB.out | apply below_alloc | apply pw_below_drewN | apply below_drew1) | exact HB.out)) hb); clear HB; have HB := n0_; clear n0_; (try clear hb); (try clear hb2); (try clear hk); (try clear hi)))
    go_ret
    exact ⟨by first | rfl | (simp [errW_none, errW_some] <;> rfl) | (simp [*, errW_none, errW_some] <;> rfl), by repeat (first | (with_reducible first | exact HB.out | apply below_alloc | apply pw_below_drewN | apply below_drew1) | exact HB.out)⟩
def solsticelaw16_FoldShort.Pure : Prop := ∀ (a0 : ByteArray), a0.size ≤ 140737488351232 → ∃ k, solsticelaw16_FoldShort.f k a0 = some true
end Go.Proofs.YtfiiipjglacejaaDoor.PFol