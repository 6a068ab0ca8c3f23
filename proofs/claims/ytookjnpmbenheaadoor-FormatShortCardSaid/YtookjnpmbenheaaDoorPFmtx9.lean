-- Printed by a program of this session's over the kit's printer; library functions by contracts off the shelf.
import Derived.Test.YtookjnpmbenheaaDoorGP
import Derived.Test.YtookjnpmbenheaaDoorPFmtx0
import Derived.Test.YtookjnpmbenheaaDoorPFmtx1
import Derived.Test.YtookjnpmbenheaaDoorPFmtx7
namespace Go.Proofs.YtookjnpmbenheaaDoor.PFmt
open Go.RowKit Go.Proofs.YtookjnpmbenheaaDoorW.PrintWords Go.Proofs.YtookjnpmbenheaaDoorW.PrintLast Go.Proofs.YtookjnpmbenheaaDoorW.PrintMore Go.Proofs.YtookjnpmbenheaaDoor.Base
attribute [local go_sem] max2_int min2_int max_two min_two max_three min_three max_four min_four   -- for this text's walks alone
set_option linter.unusedVariables false
set_option linter.unusedSimpArgs false
attribute [-simp] Int.tmod_tmod_of_dvd
def solsticelaw12_FormatShort.j0 : Nat → Int → Int → ByteArray → Int → ByteArray → Int → Int → Option (Bool)
 | 0, _, _, _, _, _, _, _ => none
 | k + 1, x0, x1, x5, x6, x7, x8, x9 => if (Int.tmod x0 3600) = 0 then (if x6 = 0 then (if x8 = 0 then (if (x5.size : Int) = 3 then (if 0 < (x5.size : Int) then (if (((bt x5 0) == 45) == (decide (x0 < 0))) = true then (if ((x5.toList == x7.toList) == (x0 == x1)) = true then ((format_Right.f k x5).bind fun t206 => (if t206 = true then ((solsticelaw12_wakes.f k).bind fun t207 => (some t207)) else (some false))) else (some false)) else (some false)) else (none)) else (some false)) else (some false)) else (some false)) else (if x6 = 0 then (if x8 = 0 then (if (x5.size : Int) = x9 then (if 0 < (x5.size : Int) then (if (((bt x5 0) == 45) == (decide (x0 < 0))) = true then (if ((x5.toList == x7.toList) == (x0 == x1)) = true then ((format_Right.f k x5).bind fun t208 => (if t208 = true then ((solsticelaw12_wakes.f k).bind fun t209 => (some t209)) else (some false))) else (some false)) else (some false)) else (none)) else (some false)) else (some false)) else (some false))
def solsticelaw12_FormatShort.f (k : Nat) (a0 : Int) (a1 : Int) : Option (Bool) := (format_Short.f k (Int.tmod a0 172800)).bind fun bt202 => ((format_Short.f k (Int.tmod a1 172800)).bind fun bt204 => (if (Int.tmod (Int.tmod a0 172800) 60) = 0 then (solsticelaw12_FormatShort.j0 k (Int.tmod a0 172800) (Int.tmod a1 172800) bt202.1 bt202.2 bt204.1 bt204.2 5) else (solsticelaw12_FormatShort.j0 k (Int.tmod a0 172800) (Int.tmod a1 172800) bt202.1 bt202.2 bt204.1 bt204.2 7)))
theorem solsticelaw12_FormatShort.mono_l : ∀ k, (∀ y0 y1 y2 y3 y4 y5 y6, LeO (solsticelaw12_FormatShort.j0 k y0 y1 y2 y3 y4 y5 y6) (solsticelaw12_FormatShort.j0 (k + 1) y0 y1 y2 y3 y4 y5 y6))
 | 0 => fun _ _ _ _ _ _ _ r h => by simp [solsticelaw12_FormatShort.j0] at h
 | k + 1 => by
  have ih0 := solsticelaw12_FormatShort.mono_l k
  ·intro y0 y1 y2 y3 y4 y5 y6
   unfold solsticelaw12_FormatShort.j0
   repeat' first
   | (with_reducible exact ih0 _ _ _ _ _ _ _)
   | (with_reducible exact format_Right.mono _ _)
   | (with_reducible exact format_Short.mono _ _)
   | (with_reducible exact solsticelaw12_wakes.mono _)
   | (with_reducible exact LeO.refl _)
   | (with_reducible exact LeO.none _)
   | (with_reducible refine LeO.ite ?_ ?_)
   | (with_reducible refine LeO.bind ?_ (fun _ => ?_))
   | exact ih0 _ _ _ _ _ _ _
   | exact format_Right.mono _ _
   | exact format_Short.mono _ _
   | exact solsticelaw12_wakes.mono _
   | exact LeO.none _
   | refine LeO.ite ?_ ?_
   | refine LeO.bind ?_ (fun _ => ?_)
theorem solsticelaw12_FormatShort.mono : ∀ a0 a1 k, LeO (solsticelaw12_FormatShort.f k a0 a1) (solsticelaw12_FormatShort.f (k + 1) a0 a1) := by
 intro a0 a1 k
 have ih0 := solsticelaw12_FormatShort.mono_l k
 unfold solsticelaw12_FormatShort.f
 repeat' first
   | (with_reducible exact ih0 _ _ _ _ _ _ _)
   | (with_reducible exact format_Right.mono _ _)
   | (with_reducible exact format_Short.mono _ _)
   | (with_reducible exact solsticelaw12_wakes.mono _)
   | (with_reducible exact LeO.refl _)
   | (with_reducible exact LeO.none _)
   | (with_reducible refine LeO.ite ?_ ?_)
   | (with_reducible refine LeO.bind ?_ (fun _ => ?_))
   | exact ih0 _ _ _ _ _ _ _
   | exact format_Right.mono _ _
   | exact format_Short.mono _ _
   | exact solsticelaw12_wakes.mono _
   | exact LeO.none _
   | refine LeO.ite ?_ ?_
   | refine LeO.bind ?_ (fun _ => ?_)
set_option maxHeartbeats 8000000 in
set_option maxRecDepth 100000 in
theorem solsticelaw12_FormatShort.calls (k : Nat) (a0 : Int) (a1 : Int) (r : Bool) (w : World) (hG : GP w) (h : solsticelaw12_FormatShort.f k a0 a1 = some r) :
  Calls Tryd.prog 5 #[.int .i64 a0, .int .i64 a1] w fun e w' => e = .returned (.bool r) ∧ Below w.heap.size w w' := by
 have HG := Aside0.mk hG
 clear hG
 have HB := Aside0.mk (Below.refl w.heap.size w)
 have H : ((format_Short.f k (Int.tmod a0 172800)).bind fun bt202 => ((format_Short.f k (Int.tmod a1 172800)).bind fun bt204 => (if (Int.tmod (Int.tmod a0 172800) 60) = 0 then (solsticelaw12_FormatShort.j0 k (Int.tmod a0 172800) (Int.tmod a1 172800) bt202.1 bt202.2 bt204.1 bt204.2 5) else (solsticelaw12_FormatShort.j0 k (Int.tmod a0 172800) (Int.tmod a1 172800) bt202.1 bt202.2 bt204.1 bt204.2 7)))) = some r := h
 clear h
 replace H := Option.bind_eq_some_iff.mp H
 obtain ⟨⟨t202, t203⟩, A30, H⟩ := H
 replace H : ((format_Short.f k (Int.tmod a1 172800)).bind fun bt204 => (if (Int.tmod (Int.tmod a0 172800) 60) = 0 then (solsticelaw12_FormatShort.j0 k (Int.tmod a0 172800) (Int.tmod a1 172800) t202 t203 bt204.1 bt204.2 5) else (solsticelaw12_FormatShort.j0 k (Int.tmod a0 172800) (Int.tmod a1 172800) t202 t203 bt204.1 bt204.2 7))) = some r := H
 have A3 := Aside0.mk A30
 clear A30
 replace H := Option.bind_eq_some_iff.mp H
 obtain ⟨⟨t204, t205⟩, A40, H⟩ := H
 replace H : (if (Int.tmod (Int.tmod a0 172800) 60) = 0 then (solsticelaw12_FormatShort.j0 k (Int.tmod a0 172800) (Int.tmod a1 172800) t202 t203 t204 t205 5) else (solsticelaw12_FormatShort.j0 k (Int.tmod a0 172800) (Int.tmod a1 172800) t202 t203 t204 t205 7)) = some r := H
 have A4 := Aside0.mk A40
 clear A40
 have HC5 := Aside0.mk H
 clear H
 go_enter Tryd.func5, Tryd.ntmps5
 go_upto_if 26 with (first | ((with_reducible refine gate_callee (f := 8) rfl ?_); refine goesL_ (some 16) rfl rfl Tryd.func8 (by kernel_rfl) rfl #[.int .i64 (Int.tmod a0 172800)] rfl (by (try simp only [List.map_toArray, List.map_cons, List.map_nil]); first | done | rfl | (simp only [List.length_drop, List.length_take]; rfl)) ?_; (with_reducible refine (format_Short.calls k (Int.tmod a0 172800) t202 t203 _ ?sideG A3.out).mono ?_); (case sideG => first | exact GP_below HG.out (by repeat (first | (with_reducible first | exact HB.out | apply below_alloc | apply pw_below_drewN | apply below_drew1) | exact HB.out)) | repeat (first | exact HG.out | refine GP_alloc ?_ _ | refine GP_drewN ?_ _ | refine GP_drew ?_)); rintro e w6 ⟨rfl, hb⟩; refine ⟨_, rfl, ?_⟩; have n0_ := Aside0.mk (below_step (by repeat (first | (with_reducible first | exact HB.out | apply below_alloc | apply pw_below_drewN | apply below_drew1) | exact HB.out)) hb); clear HB; have HB := n0_; clear n0_; (try clear hb); (try clear hb2); (try clear hk); (try clear hi)) | ((with_reducible refine gate_callee (f := 8) rfl ?_); refine goesL_ (some 21) rfl rfl Tryd.func8 (by kernel_rfl) rfl #[.int .i64 (Int.tmod a1 172800)] rfl (by (try simp only [List.map_toArray, List.map_cons, List.map_nil]); first | done | rfl | (simp only [List.length_drop, List.length_take]; rfl)) ?_; (with_reducible refine (format_Short.calls k (Int.tmod a1 172800) t204 t205 _ ?sideG A4.out).mono ?_); (case sideG => first | exact GP_below HG.out (by repeat (first | (with_reducible first | exact HB.out | apply below_alloc | apply pw_below_drewN | apply below_drew1) | exact HB.out)) | repeat (first | exact HG.out | refine GP_alloc ?_ _ | refine GP_drewN ?_ _ | refine GP_drew ?_)); rintro e w7 ⟨rfl, hb⟩; refine ⟨_, rfl, ?_⟩; have n0_ := Aside0.mk (below_step (by repeat (first | (with_reducible first | exact HB.out | apply below_alloc | apply pw_below_drewN | apply below_drew1) | exact HB.out)) hb); clear HB; have HB := n0_; clear n0_; (try clear hb); (try clear hb2); (try clear hk); (try clear hi)))
 (try simp only [Act.put, List.setIfInBounds_toArray, List.set_cons_zero, List.set_cons_succ])
 go_cut [9] (fun v9 wc => ∃ (kq : Nat) (x9_4 : Int), v9 = .int .i64 x9_4 ∧ Aside0 (solsticelaw12_FormatShort.j0 kq (Int.tmod a0 172800) (Int.tmod a1 172800) t202 t203 t204 t205 x9_4 = some r) ∧ Aside0 (kq ≤ k) ∧ Aside0 (Below w.heap.size w wc))
 case first =>
  have H := HC5.out
  clear HC5
  by_cases c8 : (Int.tmod (Int.tmod a0 172800) 60) = 0
  ·rw [if_pos c8] at H
   have c8b0 : ((Int.tmod (Int.tmod a0 172800) 60) == 0) = true := beq_iff_eq.mpr c8
   have c8b1 : ((Int.tmod (Int.tmod a0 172800) 60) != 0) = false := bne_eq_false_iff_eq.mpr c8
   clear c8
   (first | rw [c8b0] | (simp only [i64_w, i32_w]; rw [c8b0]) | skip)
   have H' := Aside0.mk H
   clear H
   go_wp2
   go_meet
   case rel => exact ⟨_, (5), (by first | rfl | (simp; done) | (simp [*]; done)), H', ⟨by first | omega | exact Nat.le_refl _⟩, ⟨by repeat (first | (with_reducible first | exact HB.out | apply below_alloc | apply pw_below_drewN | apply below_drew1) | exact HB.out)⟩⟩
  ·rw [if_neg c8] at H
   have c8b0 : ((Int.tmod (Int.tmod a0 172800) 60) == 0) = false := beq_eq_false_iff_ne.mpr c8
   have c8b1 : ((Int.tmod (Int.tmod a0 172800) 60) != 0) = true := bne_iff_ne.mpr c8
   (first | rw [c8b0] | (simp only [i64_w, i32_w]; rw [c8b0]) | skip)
   have H' := Aside0.mk H
   clear H
   go_wp2
   go_meet
   case rel => exact ⟨_, (7), (by first | rfl | (simp; done) | (simp [*]; done)), H', ⟨by first | omega | exact Nat.le_refl _⟩, ⟨by repeat (first | (with_reducible first | exact HB.out | apply below_alloc | apply pw_below_drewN | apply below_drew1) | exact HB.out)⟩⟩
 case rest =>
  as_aux_lemma =>
   clear HC5
   try clear p2
   try clear c5
   try clear c8
   try clear c8b0
   try clear c8b1
   obtain ⟨kq, x9_4, rfl, HA, HJ4, HB⟩ := hcut
   cases kq with
   | zero => exact absurd HA.out (by simp [solsticelaw12_FormatShort.j0])
   | succ kj4 =>
    have H := HA.out
    clear HA
    simp only [solsticelaw12_FormatShort.j0] at H
    by_cases c9 : (Int.tmod (Int.tmod a0 172800) 3600) = 0
    ·rw [if_pos c9] at H
     have c9b0 : ((Int.tmod (Int.tmod a0 172800) 3600) == 0) = true := beq_iff_eq.mpr c9
     have c9b1 : ((Int.tmod (Int.tmod a0 172800) 3600) != 0) = false := bne_eq_false_iff_eq.mpr c9
     clear c9
     by_cases c10 : t203 = 0
     ·rw [if_pos c10] at H
      have c10b0 : (t203 == 0) = true := beq_iff_eq.mpr c10
      have c10b1 : (t203 != 0) = false := bne_eq_false_iff_eq.mpr c10
      clear c10
      by_cases c11 : t205 = 0
      ·rw [if_pos c11] at H
       have c11b0 : (t205 == 0) = true := beq_iff_eq.mpr c11
       have c11b1 : (t205 != 0) = false := bne_eq_false_iff_eq.mpr c11
       clear c11
       by_cases c12 : (t202.size : Int) = 3
       ·rw [if_pos c12] at H
        have c12b0 : ((t202.size : Int) == 3) = true := beq_iff_eq.mpr c12
        have c12b1 : ((t202.size : Int) != 3) = false := bne_eq_false_iff_eq.mpr c12
        clear c12
        by_cases c13 : 0 < (t202.size : Int)
        ·rw [if_pos c13] at H
         have c13b0 : decide (0 < (t202.size : Int)) = true := decide_eq_true c13
         have c13b1 : decide (0 < t202.size) = true := decide_eq_true (by omega)
         clear c13
         by_cases c15 : (((bt t202 0) == 45) == (decide ((Int.tmod a0 172800) < 0))) = true
         ·rw [if_pos c15] at H
          have c15b0 : (((bt t202 0) == 45) == (decide ((Int.tmod a0 172800) < 0))) = true := c15
          (try (have c15b1 : decide (((bt t202 0) == 45) = (decide ((Int.tmod a0 172800) < 0))) = true := by simpa using c15))
          (try (have c15b2 : (((bt t202 0) == 45) == (decide ((Int.tmod a0 172800) < 0))) = true := by simpa using c15))
          clear c15
          by_cases c16 : ((t202.toList == t204.toList) == ((Int.tmod a0 172800) == (Int.tmod a1 172800))) = true
          ·rw [if_pos c16] at H
           have c16b0 : ((t202.toList == t204.toList) == ((Int.tmod a0 172800) == (Int.tmod a1 172800))) = true := c16
           (try (have c16b1 : decide ((t202.toList == t204.toList) = ((Int.tmod a0 172800) == (Int.tmod a1 172800))) = true := by simpa using c16))
           (try (have c16b2 : ((t202.toList == t204.toList) == ((Int.tmod a0 172800) == (Int.tmod a1 172800))) = true := by simpa using c16))
           clear c16
           replace H := Option.bind_eq_some_iff.mp H
           obtain ⟨t206, A170, H⟩ := H
           replace H : (if t206 = true then ((solsticelaw12_wakes.f kj4).bind fun t207 => (some t207)) else (some false)) = some r := H
           have A17 := Aside0.mk A170
           clear A170
           by_cases c18 : t206 = true
           ·subst c18
            have H1 : ((solsticelaw12_wakes.f kj4).bind fun t207 => (some t207)) = some r := by rw [if_pos rfl] at H; exact H
            clear H
            have H := H1
            clear H1
            replace H := Option.bind_eq_some_iff.mp H
            obtain ⟨t207, A190, H⟩ := H
            replace H : (some t207) = some r := H
            have A19 := Aside0.mk A190
            clear A190
            obtain rfl := Option.some.inj H
            have p14 : 0 ≤ (0 : Int) := (by omega)
            have q14 : 0 < t202.size := (by have : (0 : Int) < (t202.size : Int) := of_decide_eq_true (by first | (with_reducible assumption) | assumption); omega)
            have hx14 : ∀ h : 0 < t202.size, ((t202[0]'h).toNat : Int) = bt t202 0 := bt_at t202 0
            clear p14
            have qi14 : (0 < (t202.size : Int)) = True := eq_true (of_decide_eq_true (by first | (with_reducible assumption) | assumption))
            replace q14 := eq_true q14
            go_wp2_with (first | (go_at_call 10; (with_reducible refine (format_Right.calls kj4 t202 true _ A17.out).mono ?_); rintro e w' ⟨rfl, ⟨nd, rfl⟩⟩) | (go_at_call 12; (with_reducible refine (solsticelaw12_wakes.calls kj4  t207 _ ?sideG A19.out).mono ?_); (case sideG => first | exact GP_below HG.out (by repeat (first | (with_reducible first | exact HB.out | apply below_alloc | apply pw_below_drewN | apply below_drew1) | exact HB.out)) | repeat (first | exact HG.out | refine GP_alloc ?_ _ | refine GP_drewN ?_ _ | refine GP_drew ?_)); rintro e w20 ⟨rfl, hb⟩; have n0_ := Aside0.mk (below_step (by repeat (first | (with_reducible first | exact HB.out | apply below_alloc | apply pw_below_drewN | apply below_drew1) | exact HB.out)) hb); clear HB; have HB := n0_; clear n0_; (try clear hb); (try clear hb2); (try clear hk); (try clear hi)))
            go_ret
            exact ⟨by first | rfl | (simp [errW_none, errW_some] <;> rfl) | (simp [*, errW_none, errW_some] <;> rfl), by repeat (first | (with_reducible first | exact HB.out | apply below_alloc | apply pw_below_drewN | apply below_drew1) | exact HB.out)⟩
           ·replace c18 := Bool.eq_false_iff.mpr c18
            subst c18
            have H1 : (some false) = some r := by rw [if_neg (show ¬ (false = true) by decide)] at H; exact H
            clear H
            have H := H1
            clear H1
            obtain rfl := Option.some.inj H
            have p14 : 0 ≤ (0 : Int) := (by omega)
            have q14 : 0 < t202.size := (by have : (0 : Int) < (t202.size : Int) := of_decide_eq_true (by first | (with_reducible assumption) | assumption); omega)
            have hx14 : ∀ h : 0 < t202.size, ((t202[0]'h).toNat : Int) = bt t202 0 := bt_at t202 0
            clear p14
            have qi14 : (0 < (t202.size : Int)) = True := eq_true (of_decide_eq_true (by first | (with_reducible assumption) | assumption))
            replace q14 := eq_true q14
            go_wp2_with (first | (go_at_call 10; (with_reducible refine (format_Right.calls kj4 t202 false _ A17.out).mono ?_); rintro e w' ⟨rfl, ⟨nd, rfl⟩⟩))
            go_ret
            exact ⟨by first | rfl | (simp [errW_none, errW_some] <;> rfl) | (simp [*, errW_none, errW_some] <;> rfl), by repeat (first | (with_reducible first | exact HB.out | apply below_alloc | apply pw_below_drewN | apply below_drew1) | exact HB.out)⟩
          ·rw [if_neg c16] at H
           have c16b0 : ((t202.toList == t204.toList) == ((Int.tmod a0 172800) == (Int.tmod a1 172800))) = false := by simpa using c16
           (try (have c16b1 : decide ((t202.toList == t204.toList) = ((Int.tmod a0 172800) == (Int.tmod a1 172800))) = false := by simpa using c16))
           (try (have c16b2 : ((t202.toList == t204.toList) == ((Int.tmod a0 172800) == (Int.tmod a1 172800))) = false := by simpa using c16))
           (try (have c16b3 : ¬ ((t202.toList == t204.toList) = ((Int.tmod a0 172800) == (Int.tmod a1 172800))) := by simpa using c16))
           clear c16
           obtain rfl := Option.some.inj H
           have p14 : 0 ≤ (0 : Int) := (by omega)
           have q14 : 0 < t202.size := (by have : (0 : Int) < (t202.size : Int) := of_decide_eq_true (by first | (with_reducible assumption) | assumption); omega)
           have hx14 : ∀ h : 0 < t202.size, ((t202[0]'h).toNat : Int) = bt t202 0 := bt_at t202 0
           clear p14
           have qi14 : (0 < (t202.size : Int)) = True := eq_true (of_decide_eq_true (by first | (with_reducible assumption) | assumption))
           replace q14 := eq_true q14
           go_wp2
           go_ret
           exact ⟨by first | rfl | (simp [errW_none, errW_some] <;> rfl) | (simp [*, errW_none, errW_some] <;> rfl), by repeat (first | (with_reducible first | exact HB.out | apply below_alloc | apply pw_below_drewN | apply below_drew1) | exact HB.out)⟩
         ·rw [if_neg c15] at H
          have c15b0 : (((bt t202 0) == 45) == (decide ((Int.tmod a0 172800) < 0))) = false := by simpa using c15
          (try (have c15b1 : decide (((bt t202 0) == 45) = (decide ((Int.tmod a0 172800) < 0))) = false := by simpa using c15))
          (try (have c15b2 : (((bt t202 0) == 45) == (decide ((Int.tmod a0 172800) < 0))) = false := by simpa using c15))
          (try (have c15b3 : ¬ (((bt t202 0) == 45) = (decide ((Int.tmod a0 172800) < 0))) := by simpa using c15))
          clear c15
          obtain rfl := Option.some.inj H
          have p14 : 0 ≤ (0 : Int) := (by omega)
          have q14 : 0 < t202.size := (by have : (0 : Int) < (t202.size : Int) := of_decide_eq_true (by first | (with_reducible assumption) | assumption); omega)
          have hx14 : ∀ h : 0 < t202.size, ((t202[0]'h).toNat : Int) = bt t202 0 := bt_at t202 0
          clear p14
          have qi14 : (0 < (t202.size : Int)) = True := eq_true (of_decide_eq_true (by first | (with_reducible assumption) | assumption))
          replace q14 := eq_true q14
          go_wp2
          go_ret
          exact ⟨by first | rfl | (simp [errW_none, errW_some] <;> rfl) | (simp [*, errW_none, errW_some] <;> rfl), by repeat (first | (with_reducible first | exact HB.out | apply below_alloc | apply pw_below_drewN | apply below_drew1) | exact HB.out)⟩
        ·rw [if_neg c13] at H
         exact absurd H (by simp)
       ·rw [if_neg c12] at H
        have c12b0 : ((t202.size : Int) == 3) = false := beq_eq_false_iff_ne.mpr c12
        have c12b1 : ((t202.size : Int) != 3) = true := bne_iff_ne.mpr c12
        obtain rfl := Option.some.inj H
        go_wp2
        go_ret
        exact ⟨by first | rfl | (simp [errW_none, errW_some] <;> rfl) | (simp [*, errW_none, errW_some] <;> rfl), by repeat (first | (with_reducible first | exact HB.out | apply below_alloc | apply pw_below_drewN | apply below_drew1) | exact HB.out)⟩
      ·rw [if_neg c11] at H
       have c11b0 : (t205 == 0) = false := beq_eq_false_iff_ne.mpr c11
       have c11b1 : (t205 != 0) = true := bne_iff_ne.mpr c11
       obtain rfl := Option.some.inj H
       go_wp2
       go_ret
       exact ⟨by first | rfl | (simp [errW_none, errW_some] <;> rfl) | (simp [*, errW_none, errW_some] <;> rfl), by repeat (first | (with_reducible first | exact HB.out | apply below_alloc | apply pw_below_drewN | apply below_drew1) | exact HB.out)⟩
     ·rw [if_neg c10] at H
      have c10b0 : (t203 == 0) = false := beq_eq_false_iff_ne.mpr c10
      have c10b1 : (t203 != 0) = true := bne_iff_ne.mpr c10
      obtain rfl := Option.some.inj H
      go_wp2
      go_ret
      exact ⟨by first | rfl | (simp [errW_none, errW_some] <;> rfl) | (simp [*, errW_none, errW_some] <;> rfl), by repeat (first | (with_reducible first | exact HB.out | apply below_alloc | apply pw_below_drewN | apply below_drew1) | exact HB.out)⟩
    ·rw [if_neg c9] at H
     have c9b0 : ((Int.tmod (Int.tmod a0 172800) 3600) == 0) = false := beq_eq_false_iff_ne.mpr c9
     have c9b1 : ((Int.tmod (Int.tmod a0 172800) 3600) != 0) = true := bne_iff_ne.mpr c9
     by_cases c21 : t203 = 0
     ·rw [if_pos c21] at H
      have c21b0 : (t203 == 0) = true := beq_iff_eq.mpr c21
      have c21b1 : (t203 != 0) = false := bne_eq_false_iff_eq.mpr c21
      clear c21
      by_cases c22 : t205 = 0
      ·rw [if_pos c22] at H
       have c22b0 : (t205 == 0) = true := beq_iff_eq.mpr c22
       have c22b1 : (t205 != 0) = false := bne_eq_false_iff_eq.mpr c22
       clear c22
       by_cases c23 : (t202.size : Int) = x9_4
       ·rw [if_pos c23] at H
        have c23b0 : ((t202.size : Int) == x9_4) = true := beq_iff_eq.mpr c23
        have c23b1 : ((t202.size : Int) != x9_4) = false := bne_eq_false_iff_eq.mpr c23
        clear c23
        by_cases c24 : 0 < (t202.size : Int)
        ·rw [if_pos c24] at H
         have c24b0 : decide (0 < (t202.size : Int)) = true := decide_eq_true c24
         have c24b1 : decide (0 < t202.size) = true := decide_eq_true (by omega)
         clear c24
         by_cases c26 : (((bt t202 0) == 45) == (decide ((Int.tmod a0 172800) < 0))) = true
         ·rw [if_pos c26] at H
          have c26b0 : (((bt t202 0) == 45) == (decide ((Int.tmod a0 172800) < 0))) = true := c26
          (try (have c26b1 : decide (((bt t202 0) == 45) = (decide ((Int.tmod a0 172800) < 0))) = true := by simpa using c26))
          (try (have c26b2 : (((bt t202 0) == 45) == (decide ((Int.tmod a0 172800) < 0))) = true := by simpa using c26))
          clear c26
          by_cases c27 : ((t202.toList == t204.toList) == ((Int.tmod a0 172800) == (Int.tmod a1 172800))) = true
          ·rw [if_pos c27] at H
           have c27b0 : ((t202.toList == t204.toList) == ((Int.tmod a0 172800) == (Int.tmod a1 172800))) = true := c27
           (try (have c27b1 : decide ((t202.toList == t204.toList) = ((Int.tmod a0 172800) == (Int.tmod a1 172800))) = true := by simpa using c27))
           (try (have c27b2 : ((t202.toList == t204.toList) == ((Int.tmod a0 172800) == (Int.tmod a1 172800))) = true := by simpa using c27))
           clear c27
           replace H := Option.bind_eq_some_iff.mp H
           obtain ⟨t208, A280, H⟩ := H
           replace H : (if t208 = true then ((solsticelaw12_wakes.f kj4).bind fun t209 => (some t209)) else (some false)) = some r := H
           have A28 := Aside0.mk A280
           clear A280
           by_cases c29 : t208 = true
           ·subst c29
            have H1 : ((solsticelaw12_wakes.f kj4).bind fun t209 => (some t209)) = some r := by rw [if_pos rfl] at H; exact H
            clear H
            have H := H1
            clear H1
            replace H := Option.bind_eq_some_iff.mp H
            obtain ⟨t209, A300, H⟩ := H
            replace H : (some t209) = some r := H
            have A30 := Aside0.mk A300
            clear A300
            obtain rfl := Option.some.inj H
            have p25 : 0 ≤ (0 : Int) := (by omega)
            have q25 : 0 < t202.size := (by have : (0 : Int) < (t202.size : Int) := of_decide_eq_true (by first | (with_reducible assumption) | assumption); omega)
            have hx25 : ∀ h : 0 < t202.size, ((t202[0]'h).toNat : Int) = bt t202 0 := bt_at t202 0
            clear p25
            have qi25 : (0 < (t202.size : Int)) = True := eq_true (of_decide_eq_true (by first | (with_reducible assumption) | assumption))
            replace q25 := eq_true q25
            go_wp2_with (first | (go_at_call 10; (with_reducible refine (format_Right.calls kj4 t202 true _ A28.out).mono ?_); rintro e w' ⟨rfl, ⟨nd, rfl⟩⟩) | (go_at_call 12; (with_reducible refine (solsticelaw12_wakes.calls kj4  t209 _ ?sideG A30.out).mono ?_); (case sideG => first | exact GP_below HG.out (by repeat (first | (with_reducible first | exact HB.out | apply below_alloc | apply pw_below_drewN | apply below_drew1) | exact HB.out)) | repeat (first | exact HG.out | refine GP_alloc ?_ _ | refine GP_drewN ?_ _ | refine GP_drew ?_)); rintro e w31 ⟨rfl, hb⟩; have n0_ := Aside0.mk (below_step (by repeat (first | (with_reducible first | exact HB.out | apply below_alloc | apply pw_below_drewN | apply below_drew1) | exact HB.out)) hb); clear HB; have HB := n0_; clear n0_; (try clear hb); (try clear hb2); (try clear hk); (try clear hi)))
            go_ret
            exact ⟨by first | rfl | (simp [errW_none, errW_some] <;> rfl) | (simp [*, errW_none, errW_some] <;> rfl), by repeat (first | (with_reducible first | exact HB.out | apply below_alloc | apply pw_below_drewN | apply below_drew1) | exact HB.out)⟩
           ·replace c29 := Bool.eq_false_iff.mpr c29
            subst c29
            have H1 : (some false) = some r := by rw [if_neg (show ¬ (false = true) by decide)] at H; exact H
            clear H
            have H := H1
            clear H1
            obtain rfl := Option.some.inj H
            have p25 : 0 ≤ (0 : Int) := (by omega)
            have q25 : 0 < t202.size := (by have : (0 : Int) < (t202.size : Int) := of_decide_eq_true (by first | (with_reducible assumption) | assumption); omega)
            have hx25 : ∀ h : 0 < t202.size, ((t202[0]'h).toNat : Int) = bt t202 0 := bt_at t202 0
            clear p25
            have qi25 : (0 < (t202.size : Int)) = True := eq_true (of_decide_eq_true (by first | (with_reducible assumption) | assumption))
            replace q25 := eq_true q25
            go_wp2_with (first | (go_at_call 10; (with_reducible refine (format_Right.calls kj4 t202 false _ A28.out).mono ?_); rintro e w' ⟨rfl, ⟨nd, rfl⟩⟩))
            go_ret
            exact ⟨by first | rfl | (simp [errW_none, errW_some] <;> rfl) | (simp [*, errW_none, errW_some] <;> rfl), by repeat (first | (with_reducible first | exact HB.out | apply below_alloc | apply pw_below_drewN | apply below_drew1) | exact HB.out)⟩
          ·rw [if_neg c27] at H
           have c27b0 : ((t202.toList == t204.toList) == ((Int.tmod a0 172800) == (Int.tmod a1 172800))) = false := by simpa using c27
           (try (have c27b1 : decide ((t202.toList == t204.toList) = ((Int.tmod a0 172800) == (Int.tmod a1 172800))) = false := by simpa using c27))
           (try (have c27b2 : ((t202.toList == t204.toList) == ((Int.tmod a0 172800) == (Int.tmod a1 172800))) = false := by simpa using c27))
           (try (have c27b3 : ¬ ((t202.toList == t204.toList) = ((Int.tmod a0 172800) == (Int.tmod a1 172800))) := by simpa using c27))
           clear c27
           obtain rfl := Option.some.inj H
           have p25 : 0 ≤ (0 : Int) := (by omega)
           have q25 : 0 < t202.size := (by have : (0 : Int) < (t202.size : Int) := of_decide_eq_true (by first | (with_reducible assumption) | assumption); omega)
           have hx25 : ∀ h : 0 < t202.size, ((t202[0]'h).toNat : Int) = bt t202 0 := bt_at t202 0
           clear p25
           have qi25 : (0 < (t202.size : Int)) = True := eq_true (of_decide_eq_true (by first | (with_reducible assumption) | assumption))
           replace q25 := eq_true q25
           go_wp2
           go_ret
           exact ⟨by first | rfl | (simp [errW_none, errW_some] <;> rfl) | (simp [*, errW_none, errW_some] <;> rfl), by repeat (first | (with_reducible first | exact HB.out | apply below_alloc | apply pw_below_drewN | apply below_drew1) | exact HB.out)⟩
         ·rw [if_neg c26] at H
          have c26b0 : (((bt t202 0) == 45) == (decide ((Int.tmod a0 172800) < 0))) = false := by simpa using c26
          (try (have c26b1 : decide (((bt t202 0) == 45) = (decide ((Int.tmod a0 172800) < 0))) = false := by simpa using c26))
          (try (have c26b2 : (((bt t202 0) == 45) == (decide ((Int.tmod a0 172800) < 0))) = false := by simpa using c26))
          (try (have c26b3 : ¬ (((bt t202 0) == 45) = (decide ((Int.tmod a0 172800) < 0))) := by simpa using c26))
          clear c26
          obtain rfl := Option.some.inj H
          have p25 : 0 ≤ (0 : Int) := (by omega)
          have q25 : 0 < t202.size := (by have : (0 : Int) < (t202.size : Int) := of_decide_eq_true (by first | (with_reducible assumption) | assumption); omega)
          have hx25 : ∀ h : 0 < t202.size, ((t202[0]'h).toNat : Int) = bt t202 0 := bt_at t202 0
          clear p25
          have qi25 : (0 < (t202.size : Int)) = True := eq_true (of_decide_eq_true (by first | (with_reducible assumption) | assumption))
          replace q25 := eq_true q25
          go_wp2
          go_ret
          exact ⟨by first | rfl | (simp [errW_none, errW_some] <;> rfl) | (simp [*, errW_none, errW_some] <;> rfl), by repeat (first | (with_reducible first | exact HB.out | apply below_alloc | apply pw_below_drewN | apply below_drew1) | exact HB.out)⟩
        ·rw [if_neg c24] at H
         exact absurd H (by simp)
       ·rw [if_neg c23] at H
        have c23b0 : ((t202.size : Int) == x9_4) = false := beq_eq_false_iff_ne.mpr c23
        have c23b1 : ((t202.size : Int) != x9_4) = true := bne_iff_ne.mpr c23
        obtain rfl := Option.some.inj H
        go_wp2
        go_ret
        exact ⟨by first | rfl | (simp [errW_none, errW_some] <;> rfl) | (simp [*, errW_none, errW_some] <;> rfl), by repeat (first | (with_reducible first | exact HB.out | apply below_alloc | apply pw_below_drewN | apply below_drew1) | exact HB.out)⟩
      ·rw [if_neg c22] at H
       have c22b0 : (t205 == 0) = false := beq_eq_false_iff_ne.mpr c22
       have c22b1 : (t205 != 0) = true := bne_iff_ne.mpr c22
       obtain rfl := Option.some.inj H
       go_wp2
       go_ret
       exact ⟨by first | rfl | (simp [errW_none, errW_some] <;> rfl) | (simp [*, errW_none, errW_some] <;> rfl), by repeat (first | (with_reducible first | exact HB.out | apply below_alloc | apply pw_below_drewN | apply below_drew1) | exact HB.out)⟩
     ·rw [if_neg c21] at H
      have c21b0 : (t203 == 0) = false := beq_eq_false_iff_ne.mpr c21
      have c21b1 : (t203 != 0) = true := bne_iff_ne.mpr c21
      obtain rfl := Option.some.inj H
      go_wp2
      go_ret
      exact ⟨by first | rfl | (simp [errW_none, errW_some] <;> rfl) | (simp [*, errW_none, errW_some] <;> rfl), by repeat (first | (with_reducible first | exact HB.out | apply below_alloc | apply pw_below_drewN | apply below_drew1) | exact HB.out)⟩
def solsticelaw12_FormatShort.Pure : Prop := ∀ (a0 : Int) (a1 : Int), (Lit.int .i64 a0).wf = true → (Lit.int .i64 a1).wf = true → ∃ k, solsticelaw12_FormatShort.f k a0 a1 = some true
end Go.Proofs.YtookjnpmbenheaaDoor.PFmt