-- Printed by a program of this session's over the kit's printer; library functions by contracts off the shelf.
import Derived.Test.YtligbecmbefclaaDoorGP
import Derived.Test.YtligbecmbefclaaDoorPVexx0
namespace Go.Proofs.YtligbecmbefclaaDoor.PVex
open Go.RowKit Go.Proofs.YtligbecmbefclaaDoorW.PrintWords Go.Proofs.YtligbecmbefclaaDoorW.PrintLast Go.Proofs.YtligbecmbefclaaDoorW.PrintMore Go.Proofs.YtligbecmbefclaaDoor.Base
attribute [local go_sem] max2_int min2_int max_two min_two max_three min_three max_four min_four   -- for this text's walks alone
set_option linter.unusedVariables false
set_option linter.unusedSimpArgs false
def stringslite_HasSuffix.f (a0 : ByteArray) (a1 : ByteArray) : Option (Bool) := if (a0.size : Int) ≥ (a1.size : Int) then (if 0 ≤ (wrap64 ((a0.size : Int) - (a1.size : Int))) then (if (wrap64 ((a0.size : Int) - (a1.size : Int))) ≤ (a0.size : Int) then (some ((a0.extract ((wrap64 ((a0.size : Int) - (a1.size : Int))) : Int).toNat a0.size).toList == a1.toList)) else (none)) else (none)) else (some false)
set_option maxHeartbeats 8000000 in
set_option maxRecDepth 100000 in
theorem stringslite_HasSuffix.calls (a0 : ByteArray) (a1 : ByteArray) (r : Bool) (w : World) (h : stringslite_HasSuffix.f a0 a1 = some r) :
  Calls Tryd.prog 57 #[.string a0, .string a1] w fun e w' => e = .returned (.bool r) ∧ Drawn0 w w' := by
 (have H : (if (a0.size : Int) ≥ (a1.size : Int) then (if 0 ≤ (wrap64 ((a0.size : Int) - (a1.size : Int))) then (if (wrap64 ((a0.size : Int) - (a1.size : Int))) ≤ (a0.size : Int) then (some ((a0.extract ((wrap64 ((a0.size : Int) - (a1.size : Int))) : Int).toNat a0.size).toList == a1.toList)) else (none)) else (none)) else (some false)) = some r := h); clear h; (by_cases c3 : (a0.size : Int) ≥ (a1.size : Int))
 ·(rw [if_pos c3] at H); (have c3b0 : decide ((a1.size : Int) ≤ (a0.size : Int)) = true := dE c3); (have c3b1 : decide (a1.size ≤ a0.size) = true := dE (Int.ofNat_le.mp c3)); clear c3; (obtain ⟨ji4, hji4⟩ : ∃ j_ : Int, (wrap64 ((a0.size : Int) - (a1.size : Int))) = j_ := ⟨_, rfl⟩); (replace H : (if 0 ≤ (ji4) then (if (ji4) ≤ (a0.size : Int) then (some ((a0.extract ((ji4) : Int).toNat a0.size).toList == a1.toList)) else (none)) else (none)) = some r := by first | (rw [hji4] at H; exact H) | (simp only [hji4] at H ⊢; exact H)); (have hji4w : (IntKind.i64.wrap ((a0.size : Int) - (a1.size : Int))) = ji4 := (i64_w _).trans hji4); (by_cases c5 : 0 ≤ (ji4))
  ·(rw [if_pos c5] at H); (have c5b0 := eq_true c5); (have c5b1 : decide (0 ≤ (ji4)) = true := dE c5); clear c5; (by_cases c6 : (ji4) ≤ (a0.size : Int))
   ·(rw [if_pos c6] at H); (have c6b0 := eq_true c6); (have c6b1 : decide ((ji4) ≤ (a0.size : Int)) = true := dE c6); clear c6; (obtain rfl := Option.some.inj H); (go_enter Tryd.func57, Tryd.ntmps57); (go_wp2); (go_ret); (exact ⟨by first | rfl | (simp; done) | (simp only [← hji4] <;> (first | rfl | (simp; done))) | (simp [*]; done), by repeat (first | exact Drawn0.refl _ | apply Drawn0.step)⟩)
   ·(rw [if_neg c6] at H); (exact absurd H (by simp))
  ·(rw [if_neg c5] at H); (exact absurd H (by simp))
 ·(rw [if_neg c3] at H); (have c3b0 : decide ((a1.size : Int) ≤ (a0.size : Int)) = false := decide_eq_false c3); (have c3b1 : decide (a1.size ≤ a0.size) = false := decide_eq_false (fun h => c3 (Int.ofNat_le.mpr h))); clear c3; (obtain rfl := Option.some.inj H); (go_enter Tryd.func57, Tryd.ntmps57); (go_wp2); (go_ret); (exact ⟨by first | rfl | (simp; done) | (simp [*]; done), by repeat (first | exact Drawn0.refl _ | apply Drawn0.step)⟩)
def stringslite_CutSuffix.f (a0 : ByteArray) (a1 : ByteArray) : Option (ByteArray × Bool) := (stringslite_HasSuffix.f a0 a1).bind fun t131 => (if t131 = true then (if 0 ≤ (wrap64 ((a0.size : Int) - (a1.size : Int))) then (if (wrap64 ((a0.size : Int) - (a1.size : Int))) ≤ (a0.size : Int) then (some (a0.extract 0 ((wrap64 ((a0.size : Int) - (a1.size : Int))) : Int).toNat, true)) else (none)) else (none)) else (some (a0, false)))
set_option maxHeartbeats 8000000 in
set_option maxRecDepth 100000 in
theorem stringslite_CutSuffix.calls (a0 : ByteArray) (a1 : ByteArray) (r1 : ByteArray) (r2 : Bool) (w : World) (h : stringslite_CutSuffix.f a0 a1 = some (r1, r2)) :
  Calls Tryd.prog 42 #[.string a0, .string a1] w fun e w' => e = .returned (.tuple #[.string r1, .bool r2]) ∧ Drawn0 w w' := by
 (have H : ((stringslite_HasSuffix.f a0 a1).bind fun t131 => (if t131 = true then (if 0 ≤ (wrap64 ((a0.size : Int) - (a1.size : Int))) then (if (wrap64 ((a0.size : Int) - (a1.size : Int))) ≤ (a0.size : Int) then (some (a0.extract 0 ((wrap64 ((a0.size : Int) - (a1.size : Int))) : Int).toNat, true)) else (none)) else (none)) else (some (a0, false)))) = some (r1, r2) := h); clear h; (replace H := Option.bind_eq_some_iff.mp H); (obtain ⟨t131, A30, H⟩ := H); (replace H : (if t131 = true then (if 0 ≤ (wrap64 ((a0.size : Int) - (a1.size : Int))) then (if (wrap64 ((a0.size : Int) - (a1.size : Int))) ≤ (a0.size : Int) then (some (a0.extract 0 ((wrap64 ((a0.size : Int) - (a1.size : Int))) : Int).toNat, true)) else (none)) else (none)) else (some (a0, false))) = some (r1, r2) := H); (have A3 := aM A30); clear A30; (by_cases c4 : t131 = true)
 ·subst c4; (have H1 : (if 0 ≤ (wrap64 ((a0.size : Int) - (a1.size : Int))) then (if (wrap64 ((a0.size : Int) - (a1.size : Int))) ≤ (a0.size : Int) then (some (a0.extract 0 ((wrap64 ((a0.size : Int) - (a1.size : Int))) : Int).toNat, true)) else (none)) else (none)) = some (r1, r2) := by rw [if_pos rfl] at H; exact H); clear H; (have H := H1); clear H1; (obtain ⟨ji5, hji5⟩ : ∃ j_ : Int, (wrap64 ((a0.size : Int) - (a1.size : Int))) = j_ := ⟨_, rfl⟩); (replace H : (if 0 ≤ (ji5) then (if (ji5) ≤ (a0.size : Int) then (some (a0.extract 0 ((ji5) : Int).toNat, true)) else (none)) else (none)) = some (r1, r2) := by first | (rw [hji5] at H; exact H) | (simp only [hji5] at H ⊢; exact H)); ((try rw [hji5] at A3)); (have hji5w : (IntKind.i64.wrap ((a0.size : Int) - (a1.size : Int))) = ji5 := (i64_w _).trans hji5); (by_cases c6 : 0 ≤ (ji5))
  ·(rw [if_pos c6] at H); (have c6b0 := eq_true c6); (have c6b1 : decide (0 ≤ (ji5)) = true := dE c6); clear c6; (by_cases c7 : (ji5) ≤ (a0.size : Int))
   ·(rw [if_pos c7] at H); (have c7b0 := eq_true c7); (have c7b1 : decide ((ji5) ≤ (a0.size : Int)) = true := dE c7); clear c7; (simp only [Option.some.injEq, Prod.mk.injEq] at H); (obtain ⟨rfl, rfl⟩ := H); (go_enter Tryd.func42, Tryd.ntmps42); (go_wp2_with (first | ((with_reducible refine gate_callee (f := 57) rfl ?_); refine goesL_ (some 8) rfl rfl Tryd.func57 (by kernel_rfl) rfl #[.string a0, .string a1] rfl (by (try simp only [List.map_toArray, List.map_cons, List.map_nil]); first | done | rfl | (simp only [List.length_drop, List.length_take]; rfl)) ?_; (with_reducible refine (stringslite_HasSuffix.calls a0 a1 true _ A3.out).mono ?_); rintro e w' ⟨rfl, ⟨nd, rfl⟩⟩; refine ⟨_, rfl, ?_⟩))); (go_ret2); (exact ⟨by first | rfl | (simp; done) | (simp only [← hji5] <;> (first | rfl | (simp; done))) | (simp [*]; done), by repeat (first | exact Drawn0.refl _ | apply Drawn0.step)⟩)
   ·(rw [if_neg c7] at H); (exact absurd H (by simp))
  ·(rw [if_neg c6] at H); (exact absurd H (by simp))
 ·(replace c4 := Bool.eq_false_iff.mpr c4); subst c4; (have H1 : (some (a0, false)) = some (r1, r2) := by rw [if_neg (show ¬ (false = true) by decide)] at H; exact H); clear H; (have H := H1); clear H1; (simp only [Option.some.injEq, Prod.mk.injEq] at H); (obtain ⟨rfl, rfl⟩ := H); (go_enter Tryd.func42, Tryd.ntmps42); (go_wp2_with (first | ((with_reducible refine gate_callee (f := 57) rfl ?_); refine goesL_ (some 8) rfl rfl Tryd.func57 (by kernel_rfl) rfl #[.string a0, .string a1] rfl (by (try simp only [List.map_toArray, List.map_cons, List.map_nil]); first | done | rfl | (simp only [List.length_drop, List.length_take]; rfl)) ?_; (with_reducible refine (stringslite_HasSuffix.calls a0 a1 false _ A3.out).mono ?_); rintro e w' ⟨rfl, ⟨nd, rfl⟩⟩; refine ⟨_, rfl, ?_⟩))); (go_ret2); (exact ⟨by first | rfl | (simp; done) | (simp [*]; done), by repeat (first | exact Drawn0.refl _ | apply Drawn0.step)⟩)
def strings_CutSuffix.f (a0 : ByteArray) (a1 : ByteArray) : Option (ByteArray × Bool) := (stringslite_CutSuffix.f a0 a1).bind fun bt132 => (some (bt132.1, bt132.2))
set_option maxHeartbeats 8000000 in
set_option maxRecDepth 100000 in
theorem strings_CutSuffix.calls (a0 : ByteArray) (a1 : ByteArray) (r1 : ByteArray) (r2 : Bool) (w : World) (h : strings_CutSuffix.f a0 a1 = some (r1, r2)) :
  Calls Tryd.prog 24 #[.string a0, .string a1] w fun e w' => e = .returned (.tuple #[.string r1, .bool r2]) ∧ Drawn0 w w' := by
 (have H : ((stringslite_CutSuffix.f a0 a1).bind fun bt132 => (some (bt132.1, bt132.2))) = some (r1, r2) := h); clear h; (replace H := Option.bind_eq_some_iff.mp H); (obtain ⟨⟨t132, t133⟩, A30, H⟩ := H); (replace H : (some (t132, t133)) = some (r1, r2) := H); (have A3 := aM A30); clear A30; (simp only [Option.some.injEq, Prod.mk.injEq] at H); (obtain ⟨rfl, rfl⟩ := H); (go_enter Tryd.func24, Tryd.ntmps24); (go_wp2_with (first | ((with_reducible refine gate_callee (f := 42) rfl ?_); refine goesL_ (some 8) rfl rfl Tryd.func42 (by kernel_rfl) rfl #[.string a0, .string a1] rfl (by (try simp only [List.map_toArray, List.map_cons, List.map_nil]); first | done | rfl | (simp only [List.length_drop, List.length_take]; rfl)) ?_; (with_reducible refine (stringslite_CutSuffix.calls a0 a1 t132 t133 _ A3.out).mono ?_); rintro e w' ⟨rfl, ⟨nd, rfl⟩⟩; refine ⟨_, rfl, ?_⟩))); (go_ret2); (exact ⟨by first | rfl | (simp; done) | (simp [*]; done), by repeat (first | exact Drawn0.refl _ | apply Drawn0.step)⟩)
mutual
def num_Parse.j0 : Nat → ByteArray → Bool → Option (Int × Bool)
 | 0, _, _ => none
 | k + 1, x0, x13 => if x13 = true then (some (0, false)) else (num_Parse.l0 k x0 0 (x0.size : Int) 0)
def num_Parse.l0 : Nat → ByteArray → Int → Int → Int → Option (Int × Bool)
 | 0, _, _, _, _ => none
 | k + 1, x0, x4, x15, x16 => if x16 < x15 then (if 0 ≤ x16 then (if x16 < (x0.size : Int) then (if (bt x0 x16) < 48 then (some (0, false)) else (if (bt x0 x16) > 57 then (some (0, false)) else (num_Parse.l0 k x0 (wrap64 ((wrap64 (10 * x4)) + (((bt x0 x16) - 48) % 256))) x15 (wrap64 (x16 + 1))))) else (none)) else (none)) else (some (x4, true))
end
def num_Parse.f (k : Nat) (a0 : ByteArray) : Option (Int × Bool) := if (a0.size : Int) < 1 then (num_Parse.j0 k a0 true) else (num_Parse.j0 k a0 (decide ((a0.size : Int) > 18)))
theorem num_Parse.mono_l : ∀ k, (∀ y0 y1, LeO (num_Parse.j0 k y0 y1) (num_Parse.j0 (k + 1) y0 y1)) ∧ (∀ y0 y1 y2 y3, LeO (num_Parse.l0 k y0 y1 y2 y3) (num_Parse.l0 (k + 1) y0 y1 y2 y3))
 | 0 => ⟨fun _ _ r h => by simp [num_Parse.j0] at h, fun _ _ _ _ r h => by simp [num_Parse.l0] at h⟩
 | k + 1 => by
  obtain ⟨ih0, ih1⟩ := num_Parse.mono_l k
  refine ⟨?_, ?_⟩
  ·intro y0 y1
   unfold num_Parse.j0
   repeat' first
   | (with_reducible exact ih0 _ _)
   | (with_reducible exact ih1 _ _ _ _)
   | (with_reducible exact LeO.refl _)
   | (with_reducible exact LeO.none _)
   | (with_reducible refine LeO.ite ?_ ?_)
   | (with_reducible refine LeO.bind ?_ (fun _ => ?_))
   | exact ih0 _ _
   | exact ih1 _ _ _ _
   | exact LeO.none _
   | refine LeO.ite ?_ ?_
   | refine LeO.bind ?_ (fun _ => ?_)
  ·intro y0 y1 y2 y3
   unfold num_Parse.l0
   repeat' first
   | (with_reducible exact ih0 _ _)
   | (with_reducible exact ih1 _ _ _ _)
   | (with_reducible exact LeO.refl _)
   | (with_reducible exact LeO.none _)
   | (with_reducible refine LeO.ite ?_ ?_)
   | (with_reducible refine LeO.bind ?_ (fun _ => ?_))
   | exact ih0 _ _
   | exact ih1 _ _ _ _
   | exact LeO.none _
   | refine LeO.ite ?_ ?_
   | refine LeO.bind ?_ (fun _ => ?_)
theorem num_Parse.mono : ∀ a0 k, LeO (num_Parse.f k a0) (num_Parse.f (k + 1) a0) := by
 (intro a0 k); (obtain ⟨ih0, ih1⟩ := num_Parse.mono_l k); (unfold num_Parse.f)
 repeat' first
   | (with_reducible exact ih0 _ _)
   | (with_reducible exact ih1 _ _ _ _)
   | (with_reducible exact LeO.refl _)
   | (with_reducible exact LeO.none _)
   | (with_reducible refine LeO.ite ?_ ?_)
   | (with_reducible refine LeO.bind ?_ (fun _ => ?_))
   | exact ih0 _ _
   | exact ih1 _ _ _ _
   | exact LeO.none _
   | refine LeO.ite ?_ ?_
   | refine LeO.bind ?_ (fun _ => ?_)
set_option maxHeartbeats 8000000 in
set_option maxRecDepth 100000 in
theorem num_Parse.calls (k : Nat) (a0 : ByteArray) (r1 : Int) (r2 : Bool) (w : World) (h : num_Parse.f k a0 = some (r1, r2)) :
  Calls Tryd.prog 43 #[.string a0] w fun e w' => e = .returned (.tuple #[.int .i64 r1, .bool r2]) ∧ Drawn0 w w' := by
 (have H : (if (a0.size : Int) < 1 then (num_Parse.j0 k a0 true) else (num_Parse.j0 k a0 (decide ((a0.size : Int) > 18)))) = some (r1, r2) := h); clear h; (have HC2 := aM H); clear H; (go_enter Tryd.func43, Tryd.ntmps43); (go_upto_region 1 with (fail)); (go_cut [13] (fun v13 wc => ∃ (kq : Nat) (x13_1 : Bool), v13 = .bool x13_1 ∧ Aside0 (num_Parse.j0 kq a0 x13_1 = some (r1, r2)) ∧ Aside0 (kq ≤ k) ∧ Drawn0 w wc))
 case first =>
  (have H := HC2.out); clear HC2; (by_cases c3 : (a0.size : Int) < 1)
  ·(rw [if_pos c3] at H); (have c3b0 : decide ((a0.size : Int) < 1) = true := dE c3); (have c3b1 : decide (a0.size < 1) = true := dE (by omega)); clear c3; ((first | rw [c3b0] | (simp only [i64_w, i32_w]; rw [c3b0]) | skip)); (have H' := aM H); clear H; (go_wp2); (go_meet)
   case rel => exact ⟨_, (true), (by first | rfl | (simp; done) | (simp [*]; done)), H', ⟨by first | omega | exact Nat.le_refl _⟩, by repeat (first | exact Drawn0.refl _ | apply Drawn0.step)⟩
  ·(rw [if_neg c3] at H); (have c3b0 : decide ((a0.size : Int) < 1) = false := decide_eq_false c3); (have c3b1 : decide (a0.size < 1) = false := decide_eq_false (by omega)); clear c3; ((first | rw [c3b0] | (simp only [i64_w, i32_w]; rw [c3b0]) | skip)); (have H' := aM H); clear H; (go_wp2); (go_meet)
   case rel => exact ⟨_, (decide ((a0.size : Int) > 18)), (by first | rfl | (simp; done) | (simp [*]; done)), H', ⟨by first | omega | exact Nat.le_refl _⟩, by repeat (first | exact Drawn0.refl _ | apply Drawn0.step)⟩
 case rest =>
  as_aux_lemma =>
   clear HC2; (try clear p2); (try clear c3); (try clear c3b0); (try clear c3b1); (obtain ⟨kq, x13_1, rfl, HA, HJ1, ⟨mc1, rfl⟩⟩ := hcut)
   cases kq with
   | zero => exact absurd HA.out (by simp [num_Parse.j0])
   | succ kj1 =>
    (have H := HA.out); clear HA; (simp only [num_Parse.j0] at H); (by_cases c4 : x13_1 = true)
    ·subst c4; (have H1 : (some (0, false)) = some (r1, r2) := by rw [if_pos rfl] at H; exact H); clear H; (have H := H1); clear H1; (simp only [Option.some.injEq, Prod.mk.injEq] at H); (obtain ⟨rfl, rfl⟩ := H); (go_wp2); (go_ret2); (exact ⟨by first | rfl | (simp; done) | (simp [*]; done), by repeat (first | exact Drawn0.refl _ | apply Drawn0.step)⟩)
    ·(replace c4 := Bool.eq_false_iff.mpr c4); subst c4; (have H1 : (num_Parse.l0 kj1 a0 0 (a0.size : Int) 0) = some (r1, r2) := by rw [if_neg (show ¬ (false = true) by decide)] at H; exact H); clear H; (have H := H1); clear H1; (have H' := aM H); clear H; (go_wp2); (go_loopg [4, 16] kj1 (fun kq v4 v16 w' => ∃ (x4_2 : Int) (x16_2 : Int), v4 = .int .i64 x4_2 ∧ v16 = .int .i64 x16_2 ∧ Aside0 (num_Parse.l0 kq a0 x4_2 (a0.size : Int) x16_2 = some (r1, r2)) ∧ Aside0 (kq ≤ kj1) ∧ Drawn0 w w'))
     case atStart => exact ⟨(0), (0), (by first | rfl | (simp; done) | (simp [*]; done)), (by first | rfl | (simp; done) | (simp [*]; done)), H', ⟨Nat.le_refl _⟩, by repeat (first | exact Drawn0.refl _ | apply Drawn0.step)⟩
     case round =>
      as_aux_lemma =>
       clear H'; (try clear c1); (try clear p2); (try clear c3); (try clear c3b0); (try clear c3b1); (try clear c4); (try clear p2); (obtain ⟨x4_2, x16_2, rfl, rfl, HA, HK2, ⟨m2, rfl⟩⟩ := hrel)
       cases gk with
       | zero => exact absurd HA.out (by simp [num_Parse.l0])
       | succ k2 =>
        (have H := HA.out); clear HA; (simp only [num_Parse.l0] at H); (by_cases c5 : x16_2 < (a0.size : Int))
        ·(rw [if_pos c5] at H); (have c5b0 : decide (x16_2 < (a0.size : Int)) = true := dE c5); clear c5; (by_cases c6 : 0 ≤ x16_2)
         ·(rw [if_pos c6] at H); (have c6b0 : decide (0 ≤ x16_2) = true := dE c6); clear c6; (by_cases c7 : x16_2 < (a0.size : Int))
          ·(rw [if_pos c7] at H); (have c7b0 : decide (x16_2 < (a0.size : Int)) = true := dE c7); clear c7; (by_cases c9 : (bt a0 x16_2) < 48)
           ·(rw [if_pos c9] at H); (have c9b0 : decide ((bt a0 x16_2) < 48) = true := dE c9); clear c9; (simp only [Option.some.injEq, Prod.mk.injEq] at H); (obtain ⟨rfl, rfl⟩ := H); (have p8 : 0 ≤ (x16_2 : Int) := oD (by first | (with_reducible assumption) | assumption)); (have q8 : x16_2 < (a0.size : Int) := oD (by first | (with_reducible assumption) | assumption)); (have hx8 := bt_at a0 x16_2); (replace p8 := eq_true p8); (replace q8 := eq_true q8); (go_wp2); (go_ret2); (exact ⟨by first | rfl | (simp; done) | (simp [*]; done), by repeat (first | exact Drawn0.refl _ | apply Drawn0.step)⟩)
           ·(rw [if_neg c9] at H); (have c9b0 : decide ((bt a0 x16_2) < 48) = false := decide_eq_false c9); clear c9; (by_cases c11 : (bt a0 x16_2) > 57)
            ·(rw [if_pos c11] at H); (have c11b0 : decide (57 < (bt a0 x16_2)) = true := dE c11); clear c11; (simp only [Option.some.injEq, Prod.mk.injEq] at H); (obtain ⟨rfl, rfl⟩ := H); (have p8 : 0 ≤ (x16_2 : Int) := oD (by first | (with_reducible assumption) | assumption)); (have q8 : x16_2 < (a0.size : Int) := oD (by first | (with_reducible assumption) | assumption)); (have hx8 := bt_at a0 x16_2); (replace p8 := eq_true p8); (replace q8 := eq_true q8); (have p10 : 0 ≤ (x16_2 : Int) := oD (by first | (with_reducible assumption) | assumption)); (have q10 : x16_2 < (a0.size : Int) := oD (by first | (with_reducible assumption) | assumption)); (have hx10 := bt_at a0 x16_2); (replace p10 := eq_true p10); (replace q10 := eq_true q10); (go_wp2); (go_ret2); (exact ⟨by first | rfl | (simp; done) | (simp [*]; done), by repeat (first | exact Drawn0.refl _ | apply Drawn0.step)⟩)
            ·(rw [if_neg c11] at H); (have c11b0 : decide (57 < (bt a0 x16_2)) = false := decide_eq_false c11); clear c11; (have H' := aM H); clear H; (have p8 : 0 ≤ (x16_2 : Int) := oD (by first | (with_reducible assumption) | assumption)); (have q8 : x16_2 < (a0.size : Int) := oD (by first | (with_reducible assumption) | assumption)); (have hx8 := bt_at a0 x16_2); (replace p8 := eq_true p8); (replace q8 := eq_true q8); (have p10 : 0 ≤ (x16_2 : Int) := oD (by first | (with_reducible assumption) | assumption)); (have q10 : x16_2 < (a0.size : Int) := oD (by first | (with_reducible assumption) | assumption)); (have hx10 := bt_at a0 x16_2); (replace p10 := eq_true p10); (replace q10 := eq_true q10); (have p12 : 0 ≤ (x16_2 : Int) := oD (by first | (with_reducible assumption) | assumption)); (have q12 : x16_2 < (a0.size : Int) := oD (by first | (with_reducible assumption) | assumption)); (have hx12 := bt_at a0 x16_2); (replace p12 := eq_true p12); (replace q12 := eq_true q12); (go_wp2); (go_roundg k2)
             case measure => have := HJ1.out; have := HK2.out; omega
             case rel => exact ⟨(wrap64 ((wrap64 (10 * x4_2)) + (((bt a0 x16_2) - 48) % 256))), (wrap64 (x16_2 + 1)), (by first | rfl | (simp; done) | (simp [*]; done)), (by first | rfl | (simp; done) | (simp [*]; done)), H', ⟨by have := HJ1.out; have := HK2.out; omega⟩, by repeat (first | exact Drawn0.refl _ | apply Drawn0.step)⟩
          ·(rw [if_neg c7] at H); (exact absurd H (by simp))
         ·(rw [if_neg c6] at H); (exact absurd H (by simp))
        ·(rw [if_neg c5] at H); (have c5b0 : decide (x16_2 < (a0.size : Int)) = false := decide_eq_false c5); clear c5; (simp only [Option.some.injEq, Prod.mk.injEq] at H); (obtain ⟨rfl, rfl⟩ := H); (go_wp2); (go_ret2); (exact ⟨by first | rfl | (simp; done) | (simp [*]; done), by repeat (first | exact Drawn0.refl _ | apply Drawn0.step)⟩)
def value_numbers.l0 : Nat → ByteArray → List Int → List Int → Int → Int → Option (List Int × Bool)
 | 0, _, _, _, _, _ => none
 | k + 1, x0, x6, x11, x12, x13 => if x13 < x12 then (if 0 ≤ x13 then (if x13 < (x11.length : Int) then (if (x0.size : Int) < (rd x11 x13) then (some (([] : List Int), false)) else (if 0 ≤ (rd x11 x13) then (if (rd x11 x13) ≤ (x0.size : Int) then ((num_Parse.f k (x0.extract 0 ((rd x11 x13) : Int).toNat)).bind fun bt135 => (if bt135.2 = true then (if x6.length < 17592186044416 then (value_numbers.l0 k (x0.extract ((rd x11 x13) : Int).toNat x0.size) (x6 ++ [bt135.1]) x11 x12 (wrap64 (x13 + 1))) else (none)) else (some (([] : List Int), false)))) else (none)) else (none))) else (none)) else (none)) else (some (x6, (x0.toList == ([] : List UInt8))))
def value_numbers.f (k : Nat) (a0 : ByteArray) (l1 : List Int) : Option (List Int × Bool) := value_numbers.l0 k a0 ([] : List Int) l1 (l1.length : Int) 0
theorem value_numbers.mono_l : ∀ k, (∀ y0 y1 y2 y3 y4, LeO (value_numbers.l0 k y0 y1 y2 y3 y4) (value_numbers.l0 (k + 1) y0 y1 y2 y3 y4))
 | 0 => fun _ _ _ _ _ r h => by simp [value_numbers.l0] at h
 | k + 1 => by
  have ih0 := value_numbers.mono_l k
  ·intro y0 y1 y2 y3 y4
   unfold value_numbers.l0
   repeat' first
   | (with_reducible exact ih0 _ _ _ _ _)
   | (with_reducible exact num_Parse.mono _ _)
   | (with_reducible exact LeO.refl _)
   | (with_reducible exact LeO.none _)
   | (with_reducible refine LeO.ite ?_ ?_)
   | (with_reducible refine LeO.bind ?_ (fun _ => ?_))
   | exact ih0 _ _ _ _ _
   | exact num_Parse.mono _ _
   | exact LeO.none _
   | refine LeO.ite ?_ ?_
   | refine LeO.bind ?_ (fun _ => ?_)
theorem value_numbers.mono : ∀ a0 a1 k, LeO (value_numbers.f k a0 a1) (value_numbers.f (k + 1) a0 a1) := by
 (intro a0 a1 k); (have ih0 := value_numbers.mono_l k); (unfold value_numbers.f)
 repeat' first
   | (with_reducible exact ih0 _ _ _ _ _)
   | (with_reducible exact num_Parse.mono _ _)
   | (with_reducible exact LeO.refl _)
   | (with_reducible exact LeO.none _)
   | (with_reducible refine LeO.ite ?_ ?_)
   | (with_reducible refine LeO.bind ?_ (fun _ => ?_))
   | exact ih0 _ _ _ _ _
   | exact num_Parse.mono _ _
   | exact LeO.none _
   | refine LeO.ite ?_ ?_
   | refine LeO.bind ?_ (fun _ => ?_)
def value_numbers.T10 : Bool × List (List Nat × List Nat) := (true, [([], []), ([], []), ([1], [1]), ([0, 2], [0, 2]), ([], []), ([], []), ([4, 5], [4, 5]), ([3, 3, 0, 1, 2, 3], [0, 3]), ([6, 7, 0, 1, 2, 3, 4, 5, 6, 7], [4, 6])])
def value_numbers.B10 : List Nat := [0, 0, 2, 7, 0, 0, 48, 15, 255]
theorem value_numbers.tab10 : rtab .any (opsOf Tryd.f25 10) = value_numbers.T10 := by kernel_rfl
theorem value_numbers.bits10 : waitsOk value_numbers.T10.2 value_numbers.B10 = true := by kernel_rfl
set_option maxHeartbeats 8000000 in
set_option maxRecDepth 100000 in
theorem value_numbers.calls (k : Nat) (a0 : ByteArray) (A1 : Option Addr) (c1 : Nat) (l1 : List Int) (r1 : List Int) (r2 : Bool) (w : World) (hr1 : Kd.C (Kd.int .i64) w A1 l1.length l1) (hc1 : l1.length ≤ c1) (h : value_numbers.f k a0 l1 = some (r1, r2)) :
  Calls Tryd.prog 25 #[.string a0, .slice A1 l1.length c1] w fun e w' => ∃ v0_ : Value, e = .returned (.tuple #[v0_, .bool r2]) ∧ Kd.R (Kd.int .i64) 3 w' w.heap.size (fun _ => True) v0_ r1 ∧ Below w.heap.size w w' := by
 (have HR1 := aM hr1); (have HC1 := aM hc1); clear hr1 hc1; (have HB := aM (Below.refl w.heap.size w)); (have H : (value_numbers.l0 k a0 ([] : List Int) l1 (l1.length : Int) 0) = some (r1, r2) := h); clear h; (have H' := aM H); clear H; (go_enter Tryd.func25, Tryd.ntmps25); (go_wp2); (go_loopg [0, 6, 13] k (fun kq v0 v6 v13 w' => ∃ (x0_1 : ByteArray) (x6_1 : List Int) (x13_1 : Int), v0 = .string x0_1 ∧ v13 = .int .i64 x13_1 ∧ Aside0 (value_numbers.l0 kq x0_1 x6_1 l1 (l1.length : Int) x13_1 = some (r1, r2)) ∧ Aside0 (kq ≤ k) ∧ Aside0 (Kd.R (Kd.int .i64) 3 w' w.heap.size (fun _ => True) v6 x6_1) ∧ Aside0 (Below w.heap.size w w')))
 case atStart => exact ⟨(a0), (([] : List Int)), (0), (by first | rfl | (simp; done) | (simp [*]; done)), (by first | rfl | (simp; done) | (simp [*]; done)), H', ⟨Nat.le_refl _⟩, ⟨by first | exact Kd.R_nil _ _ _ _ _ | exact Kd.N_nil _ _ _ _ _ | exact Kd.V_nil _ _ _ _ _ | exact Kd.Q_nil _ _ _ _ _ | exact Kd.S_nil _ _ _ _ _⟩, ⟨by repeat (first | (with_reducible first | exact HB.out | apply lA | apply lN | apply lW) | exact HB.out)⟩⟩
 case round =>
  as_aux_lemma =>
   clear H'; (try clear c1); (try clear c2); (try clear p2); (obtain ⟨x0_1, x6_1, x13_1, rfl, rfl, HA, HK1, HO_6, HB⟩ := hrel)
   cases gk with
   | zero => exact absurd HA.out (by simp [value_numbers.l0])
   | succ k1 =>
    (have H := HA.out); clear HA; (simp only [value_numbers.l0] at H); (by_cases c3 : x13_1 < (l1.length : Int))
    ·(rw [if_pos c3] at H); (have c3b0 : decide (x13_1 < (l1.length : Int)) = true := dE c3); clear c3; (by_cases c4 : 0 ≤ x13_1)
     ·(rw [if_pos c4] at H); (have c4b0 : decide (0 ≤ x13_1) = true := dE c4); clear c4; (by_cases c5 : x13_1 < (l1.length : Int))
      ·(rw [if_pos c5] at H); (have c5b0 : decide (x13_1 < (l1.length : Int)) = true := dE c5); clear c5; (by_cases c6 : (x0_1.size : Int) < (rd l1 x13_1))
       ·(rw [if_pos c6] at H); (have c6b0 : decide ((x0_1.size : Int) < (rd l1 x13_1)) = true := dE c6); clear c6; (simp only [Option.some.injEq, Prod.mk.injEq] at H); (obtain ⟨rfl, rfl⟩ := H); (have p134 : 0 ≤ (x13_1 : Int) := oD (by first | (with_reducible assumption) | assumption)); (have q134 : x13_1 < (l1.length : Int) := oD (by first | (with_reducible assumption) | assumption)); (obtain ⟨ad134, e134, hx134_0⟩ := Kd.at_int HR1.out x13_1 p134 q134)
        cases e134
        (replace hx134_0 := (HB.out.cell (World.block_lt_of_cell? w _ hx134_0)).trans hx134_0); (replace p134 := eq_true p134); (replace q134 := eq_true q134); (go_wp2); (go_ret2); (exact ⟨_, by first | rfl | (simp [errW_none, errW_some] <;> rfl) | (simp [*, errW_none, errW_some] <;> rfl), by first | exact Kd.R_nil _ _ _ _ _ | exact Kd.N_nil _ _ _ _ _ | exact Kd.V_nil _ _ _ _ _ | exact Kd.Q_nil _ _ _ _ _ | exact Kd.S_nil _ _ _ _ _, by repeat (first | (with_reducible first | exact HB.out | apply lA | apply lN | apply lW) | exact HB.out)⟩)
       ·(rw [if_neg c6] at H); (have c6b0 : decide ((x0_1.size : Int) < (rd l1 x13_1)) = false := decide_eq_false c6); clear c6; (by_cases c7 : 0 ≤ (rd l1 x13_1))
        ·(rw [if_pos c7] at H); (have c7b0 := eq_true c7); (have c7b1 : decide (0 ≤ (rd l1 x13_1)) = true := dE c7); clear c7; (by_cases c8 : (rd l1 x13_1) ≤ (x0_1.size : Int))
         ·(rw [if_pos c8] at H); (have c8b0 := eq_true c8); (have c8b1 : decide ((rd l1 x13_1) ≤ (x0_1.size : Int)) = true := dE c8); clear c8; (replace H := Option.bind_eq_some_iff.mp H); (obtain ⟨⟨t135, t136⟩, A90, H⟩ := H); (replace H : (if t136 = true then (if x6_1.length < 17592186044416 then (value_numbers.l0 k1 (x0_1.extract ((rd l1 x13_1) : Int).toNat x0_1.size) (x6_1 ++ [t135]) l1 (l1.length : Int) (wrap64 (x13_1 + 1))) else (none)) else (some (([] : List Int), false))) = some (r1, r2) := H); (have A9 := aM A90); clear A90; (by_cases c10 : t136 = true)
          ·subst c10; (have H1 : (if x6_1.length < 17592186044416 then (value_numbers.l0 k1 (x0_1.extract ((rd l1 x13_1) : Int).toNat x0_1.size) (x6_1 ++ [t135]) l1 (l1.length : Int) (wrap64 (x13_1 + 1))) else (none)) = some (r1, r2) := by rw [if_pos rfl] at H; exact H); clear H; (have H := H1); clear H1; (by_cases c11 : x6_1.length < 17592186044416)
           ·(rw [if_pos c11] at H); (have LMc11 := aM c11); clear c11; (obtain ⟨y137, hy137⟩ : ∃ y_ : List Int, y_ = (x6_1 ++ [t135]) := ⟨_, rfl⟩); (replace H : (value_numbers.l0 k1 (x0_1.extract ((rd l1 x13_1) : Int).toNat x0_1.size) y137 l1 (l1.length : Int) (wrap64 (x13_1 + 1))) = some (r1, r2) := by first | (rw [hy137]; with_reducible exact H) | (have H2_ := (Option.bind_some _ _).symm.trans H; rw [hy137]; with_reducible exact H2_) | (have H2_ := (Option.bind_some _ _).symm.trans H; with_reducible exact H2_) | with_reducible exact H | (rw [hy137]; exact H) | exact H); (have Ny137 := aM hy137); clear hy137; (have c12b0 := eq_true (oD (by first | (with_reducible assumption) | assumption) : 0 ≤ (rd l1 x13_1))); (have c13b0 := eq_true (oD (by first | (with_reducible assumption) | assumption) : (rd l1 x13_1) ≤ (x0_1.size : Int))); (have H' := aM H); clear H; (have p134 : 0 ≤ (x13_1 : Int) := oD (by first | (with_reducible assumption) | assumption)); (have q134 : x13_1 < (l1.length : Int) := oD (by first | (with_reducible assumption) | assumption)); (obtain ⟨ad134, e134, hx134_0⟩ := Kd.at_int HR1.out x13_1 p134 q134)
            cases e134
            (replace hx134_0 := (HB.out.cell (World.block_lt_of_cell? w _ hx134_0)).trans hx134_0); (replace p134 := eq_true p134); (replace q134 := eq_true q134); (try go_wp2_with (first | ((with_reducible refine gate_callee (f := 43) rfl ?_); refine goesL_ (some 25) rfl rfl Tryd.func43 (by kernel_rfl) rfl #[.string (x0_1.extract 0 ((rd l1 x13_1) : Int).toNat)] rfl (by (try simp only [List.map_toArray, List.map_cons, List.map_nil]); first | done | rfl | (simp only [List.length_drop, List.length_take]; rfl)) ?_; (with_reducible refine (num_Parse.calls k1 (x0_1.extract 0 ((rd l1 x13_1) : Int).toNat) t135 true _ A9.out).mono ?_); rintro e w' ⟨rfl, ⟨nd, rfl⟩⟩; refine ⟨_, rfl, ?_⟩))); ((try (rw [drewN_self wr]; generalize hq_ : World.drewN wr _ = wr; have n0_ : Aside0 (Kd.R (Kd.int .i64) 3 wr w.heap.size (fun _ => True) u6 x6_1) := ⟨by rw [← hq_]; exact (by (with_reducible repeat (first | apply Kd.R_alloc | apply Kd.R_drewN | apply Kd.R_drew)); exact HO_6.out)⟩; have n1_ : Aside0 (Below w.heap.size w wr) := ⟨by rw [← hq_]; exact (by repeat (first | (with_reducible first | exact HB.out | apply lA | apply lN | apply lW) | exact HB.out))⟩; clear HO_6 HB hq_; have HO_6 := n0_; have HB := n1_; clear n0_ n1_))); (have n0_ := aM (Kd.R_drew HO_6.out)); (have n1_ := aM (lW HB.out)); clear HO_6; clear HB; (have HO_6 := n0_); (have HB := n1_); clear n0_ n1_; (refine start_ (n := 9) (S := fun w' => True) (ds := []) #[false, false, false, false, false, false, false, false, false] (by kernel_rfl) rfl rfl trivial (fun hHeld => ?_); refine with_tabW value_numbers.tab10 value_numbers.bits10 (fun HT_ HW_ => ?_)); (generalize wr.drew = w14 at HO_6 HB hHeld ⊢); (refine pure_ (i := 0) (N := some 30) (v := ?_) (a' := ?_) #[true, false, false, false, false, false, false, false, false] rfl rfl (any_of HT_.out (by kernel_rfl)) (fun _ _ _ h => h) (Or.inl ⟨by rfl, ?_⟩) ?_ ?_); (rotate_left)
            ·(intro w'); (go_simp); (with_reducible rfl)
            rotate_left
            ·(simp only [Act.put, List.setIfInBounds_toArray, List.set_cons_zero, List.set_cons_succ, i64_w, i32_w]); (rfl)
            (refine pure_ (i := 1) (N := some 31) (v := ?_) (a' := ?_) #[true, true, false, false, false, false, false, false, false] rfl rfl (any_of HT_.out (by kernel_rfl)) (fun _ _ _ h => h) (Or.inl ⟨by rfl, ?_⟩) ?_ ?_); (rotate_left)
            ·(intro w'); (go_simp); (with_reducible rfl)
            rotate_left
            ·(simp only [Act.put, List.setIfInBounds_toArray, List.set_cons_zero, List.set_cons_succ, i64_w, i32_w]); (rfl)
            (refine pure_ (i := 4) (N := some 34) (v := ?_) (a' := ?_) #[true, true, false, false, true, false, false, false, false] rfl rfl (any_of HT_.out (by kernel_rfl)) (fun _ _ _ h => h) (Or.inl ⟨by rfl, ?_⟩) ?_ ?_); (rotate_left)
            ·(intro w'); (go_simp); (with_reducible rfl)
            rotate_left
            ·(simp only [Act.put, List.setIfInBounds_toArray, List.set_cons_zero, List.set_cons_succ, i64_w, i32_w]); (rfl)
            (refine pure_ (i := 5) (N := some 35) (v := ?_) (a' := ?_) #[true, true, false, false, true, true, false, false, false] rfl rfl (any_of HT_.out (by kernel_rfl)) (fun _ _ _ h => h) (Or.inl ⟨by rfl, ?_⟩) ?_ ?_); (rotate_left)
            ·(intro w'); (go_simp); (with_reducible rfl)
            rotate_left
            ·(simp only [Act.put, List.setIfInBounds_toArray, List.set_cons_zero, List.set_cons_succ, i64_w, i32_w]); (rfl)
            (refine pure_ (i := 6) (N := some 36) (v := ?_) (a' := ?_) #[true, true, false, false, true, true, true, false, false] rfl rfl (any_of HT_.out (by kernel_rfl)) (fun _ _ _ h => h) (Or.inl ⟨by rfl, ?_⟩) ?_ ?_); (rotate_left)
            ·(intro w'); (go_simp); (with_reducible rfl)
            rotate_left
            ·(simp only [Act.put, List.setIfInBounds_toArray, List.set_cons_zero, List.set_cons_succ, i64_w, i32_w]); (rfl)
            (refine one_ (i := 2) (N := some 32) #[true, true, true, false, true, true, true, false, false] rfl rfl (one_of HT_.out (by kernel_rfl)) (by decide) (fun K hK => ?_)); (refine value_ (w1 := ?_) (v := ?_) (by rfl) rfl ?_ ?_); (rotate_left 2)
            ·(go_simp); (constructor)
             ·rfl
             ·rfl
            (refine hK.out _ _ trivial (fun hHeld => ?_)); clear hK K; (refine norm_ (a' := ?_) ?_ ?_); (rotate_left)
            ·(show Act.put _ (some 32) _ = _); (simp only [Act.put, List.setIfInBounds_toArray, List.set_cons_zero, List.set_cons_succ, i64_w, i32_w]); (rfl)
            (refine one_ (i := 3) (N := some 33) #[true, true, true, true, true, true, true, false, false] rfl rfl (one_of HT_.out (by kernel_rfl)) (by decide) (fun K hK => ?_)); (refine Kd.R_append_step (Kd.int .i64) (w0 := w) w.heap.size (by rfl) (.tmp 30) (.tmp 32) 30 3 (.int .i64 0) 8 rfl Tryd.underlying30 info3 rfl (by decide) (by omega) u6 x6_1 t135 [.int .i64 t135] (fun _ => True) (fun _ => False) rfl rfl ?aP (fun _ hk => hk.elim) ?aF ?aO ?aB ?aS ?aL ?_); ((case aP => exact rfl)); ((case aB => exact (by repeat (first | (with_reducible first | exact HB.out | apply lA | apply lN | apply lW) | exact HB.out)))); ((case aF => exact (fun _ _ => trivial))); ((case aO => exact (by (with_reducible repeat (first | apply Kd.R_alloc | apply Kd.R_drewN | apply Kd.R_drew)); exact HO_6.out))); ((case aS => exact (below_size (by repeat (first | (with_reducible first | exact HB.out | apply lA | apply lN | apply lW) | exact HB.out))))); ((case aL => have := LMc11.out; omega)); (intro v138 w15 ho hb hg hat); (rw [← Ny137.out] at ho); (have n0_ := aM (hb)); (have n1_ := aM (ho)); clear HB; clear HO_6; (have HB := n0_); (have HO139 := n1_); clear n0_ n1_; clear ho hb hg hat; (refine hK.out _ _ trivial (fun hHeld => ?_)); clear hK K; (refine norm_ (a' := ?_) ?_ ?_); (rotate_left)
            ·(show Act.put _ (some 33) _ = _); (simp only [Act.put, List.setIfInBounds_toArray, List.set_cons_zero, List.set_cons_succ, i64_w, i32_w]); (rfl)
            (refine pure_ (i := 7) (N := some 6) (v := ?_) (a' := ?_) #[true, true, true, true, true, true, true, true, false] rfl rfl (any_of HT_.out (by kernel_rfl)) (fun _ _ _ h => h) (Or.inl ⟨by rfl, ?_⟩) ?_ ?_); (rotate_left)
            ·(intro w'); (go_simp); (with_reducible rfl)
            rotate_left
            ·(simp only [Act.put, List.setIfInBounds_toArray, List.set_cons_zero, List.set_cons_succ, i64_w, i32_w]); (rfl)
            (refine pure_ (i := 8) (N := some 0) (v := ?_) (a' := ?_) #[true, true, true, true, true, true, true, true, true] rfl rfl (any_of HT_.out (by kernel_rfl)) (fun _ _ _ h => h) (Or.inl ⟨by rfl, ?_⟩) ?_ ?_); (rotate_left)
            ·(intro w'); (go_simp); (with_reducible rfl)
            rotate_left
            ·(simp only [Act.put, List.setIfInBounds_toArray, List.set_cons_zero, List.set_cons_succ, i64_w, i32_w]); (rfl)
            (refine done_ (done_of HT_.out (by kernel_rfl)) ?_); (try go_wp2); (go_roundg k1)
            case measure => have := HK1.out; omega
            case rel => exact ⟨(x0_1.extract ((rd l1 x13_1) : Int).toNat x0_1.size), (y137), (wrap64 (x13_1 + 1)), (by first | rfl | (simp; done) | (simp [*]; done)), (by first | rfl | (simp; done) | (simp [*]; done)), H', ⟨by have := HK1.out; omega⟩, ⟨by (with_reducible repeat (first | apply Kd.R_alloc | apply Kd.R_drewN | apply Kd.R_drew)); exact HO139.out⟩, ⟨by repeat (first | (with_reducible first | exact HB.out | apply lA | apply lN | apply lW) | exact HB.out)⟩⟩
           ·(rw [if_neg c11] at H); (exact absurd H (by simp))
          ·(replace c10 := Bool.eq_false_iff.mpr c10); subst c10; (have H1 : (some (([] : List Int), false)) = some (r1, r2) := by rw [if_neg (show ¬ (false = true) by decide)] at H; exact H); clear H; (have H := H1); clear H1; (simp only [Option.some.injEq, Prod.mk.injEq] at H); (obtain ⟨rfl, rfl⟩ := H); (have p134 : 0 ≤ (x13_1 : Int) := oD (by first | (with_reducible assumption) | assumption)); (have q134 : x13_1 < (l1.length : Int) := oD (by first | (with_reducible assumption) | assumption)); (obtain ⟨ad134, e134, hx134_0⟩ := Kd.at_int HR1.out x13_1 p134 q134)
           cases e134
           (replace hx134_0 := (HB.out.cell (World.block_lt_of_cell? w _ hx134_0)).trans hx134_0); (replace p134 := eq_true p134); (replace q134 := eq_true q134); (go_wp2_with (first | ((with_reducible refine gate_callee (f := 43) rfl ?_); refine goesL_ (some 25) rfl rfl Tryd.func43 (by kernel_rfl) rfl #[.string (x0_1.extract 0 ((rd l1 x13_1) : Int).toNat)] rfl (by (try simp only [List.map_toArray, List.map_cons, List.map_nil]); first | done | rfl | (simp only [List.length_drop, List.length_take]; rfl)) ?_; (with_reducible refine (num_Parse.calls k1 (x0_1.extract 0 ((rd l1 x13_1) : Int).toNat) t135 false _ A9.out).mono ?_); rintro e w' ⟨rfl, ⟨nd, rfl⟩⟩; refine ⟨_, rfl, ?_⟩))); (go_ret2); (exact ⟨_, by first | rfl | (simp [errW_none, errW_some] <;> rfl) | (simp [*, errW_none, errW_some] <;> rfl), by first | exact Kd.R_nil _ _ _ _ _ | exact Kd.N_nil _ _ _ _ _ | exact Kd.V_nil _ _ _ _ _ | exact Kd.Q_nil _ _ _ _ _ | exact Kd.S_nil _ _ _ _ _, by repeat (first | (with_reducible first | exact HB.out | apply lA | apply lN | apply lW) | exact HB.out)⟩)
         ·(rw [if_neg c8] at H); (exact absurd H (by simp))
        ·(rw [if_neg c7] at H); (exact absurd H (by simp))
      ·(rw [if_neg c5] at H); (exact absurd H (by simp))
     ·(rw [if_neg c4] at H); (exact absurd H (by simp))
    ·(rw [if_neg c3] at H); (have c3b0 : decide (x13_1 < (l1.length : Int)) = false := decide_eq_false c3); clear c3; (simp only [Option.some.injEq, Prod.mk.injEq] at H); (obtain ⟨rfl, rfl⟩ := H); (go_wp2); (go_ret2); (exact ⟨_, by first | rfl | (simp [errW_none, errW_some] <;> rfl) | (simp [*, errW_none, errW_some] <;> rfl), by (with_reducible repeat (first | apply Kd.R_alloc | apply Kd.R_drewN | apply Kd.R_drew)); exact HO_6.out, by repeat (first | (with_reducible first | exact HB.out | apply lA | apply lN | apply lW) | exact HB.out)⟩)
end Go.Proofs.YtligbecmbefclaaDoor.PVex