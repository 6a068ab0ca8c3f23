-- Printed by a program of this session's over the kit's printer; library functions by contracts off the shelf.
import Derived.Test.YtlfohcjajmebjaaDoorGP
import Derived.Test.YtlfohcjajmebjaaDoorPClkx0
import Derived.Test.YtlfohcjajmebjaaDoorPClkx2
import Derived.Test.YtlfohcjajmebjaaDoorPClkx3
import Derived.Test.YtlfohcjajmebjaaDoorPClkx5
namespace Go.Proofs.YtlfohcjajmebjaaDoor.PClk
open Go.RowKit Go.Proofs.YtlfohcjajmebjaaDoorW.PrintWords Go.Proofs.YtlfohcjajmebjaaDoorW.PrintLast Go.Proofs.YtlfohcjajmebjaaDoorW.PrintMore Go.Proofs.YtlfohcjajmebjaaDoor.Base
attribute [local go_sem] max2_int min2_int max_two min_two max_three min_three max_four min_four   -- for this text's walks alone
set_option linter.unusedVariables false
set_option linter.unusedSimpArgs false

/-! ### solsticelaw04_ClockBack: function 10 -/
def solsticelaw04_ClockBack.j0 : Nat → ByteArray → Bool → Option (Bool)
 | 0, _, _ => none
 | k + 1, x2, x79 => if x79 = true then (some false) else ((clock_Parse.f k x2).bind fun bt188 => (if bt188.2 = 0 then ((clock_Text.f k bt188.1).bind fun bt190 => ((clock_Parse.f k bt190.1).bind fun bt192 => (if bt190.2 = 0 then (if bt192.2 = 0 then (if bt192.1 = bt188.1 then ((solsticelaw04_wakes.f k).bind fun t194 => (some t194)) else (some false)) else (some false)) else (some false)))) else (if bt188.1 = 0 then ((solsticelaw04_wakes.f k).bind fun t195 => (some t195)) else (some false))))
def solsticelaw04_ClockBack.f (k : Nat) (a0 : Int) (a1 : Int) (a2 : ByteArray) : Option (Bool) := if (a2.size : Int) > 100 then (some true) else ((clock_Text.f k (Int.tmod a0 345601)).bind fun bt179 => ((clock_Parse.f k bt179.1).bind fun bt181 => ((clock_Split.f a1).bind fun bt183 => ((clock_Join.f k bt183.1 bt183.2).bind fun bt185 => (if bt179.2 = 0 then (if bt181.2 = 0 then (if bt181.1 = (Int.tmod a0 345601) then (if bt183.2 < 0 then (solsticelaw04_ClockBack.j0 k a2 true) else (if bt183.2 ≥ 86400 then (solsticelaw04_ClockBack.j0 k a2 true) else ((solsticeref01_Bound.f a1).bind fun t187 => (if (t187 != bt185.2) = true then (solsticelaw04_ClockBack.j0 k a2 true) else (if bt185.2 = true then (solsticelaw04_ClockBack.j0 k a2 (bt185.1 != a1)) else (solsticelaw04_ClockBack.j0 k a2 false)))))) else (solsticelaw04_ClockBack.j0 k a2 true)) else (solsticelaw04_ClockBack.j0 k a2 true)) else (solsticelaw04_ClockBack.j0 k a2 true))))))
theorem solsticelaw04_ClockBack.mono_l : ∀ k, (∀ y0 y1, LeO (solsticelaw04_ClockBack.j0 k y0 y1) (solsticelaw04_ClockBack.j0 (k + 1) y0 y1))
 | 0 => fun _ _ r h => by simp [solsticelaw04_ClockBack.j0] at h
 | k + 1 => by
  have ih0 := solsticelaw04_ClockBack.mono_l k
  ·intro y0 y1
   unfold solsticelaw04_ClockBack.j0
   repeat' first
   | (with_reducible exact ih0 _ _)
   | (with_reducible exact clock_Join.mono _ _ _)
   | (with_reducible exact clock_Parse.mono _ _)
   | (with_reducible exact clock_Text.mono _ _)
   | (with_reducible exact solsticelaw04_wakes.mono _)
   | (with_reducible exact LeO.refl _)
   | (with_reducible exact LeO.none _)
   | (with_reducible refine LeO.ite ?_ ?_)
   | (with_reducible refine LeO.bind ?_ (fun _ => ?_))
   | exact ih0 _ _
   | exact clock_Join.mono _ _ _
   | exact clock_Parse.mono _ _
   | exact clock_Text.mono _ _
   | exact solsticelaw04_wakes.mono _
   | exact LeO.none _
   | refine LeO.ite ?_ ?_
   | refine LeO.bind ?_ (fun _ => ?_)
theorem solsticelaw04_ClockBack.mono : ∀ a0 a1 a2 k, LeO (solsticelaw04_ClockBack.f k a0 a1 a2) (solsticelaw04_ClockBack.f (k + 1) a0 a1 a2) := by
 intro a0 a1 a2 k
 have ih0 := solsticelaw04_ClockBack.mono_l k
 unfold solsticelaw04_ClockBack.f
 repeat' first
   | (with_reducible exact ih0 _ _)
   | (with_reducible exact clock_Join.mono _ _ _)
   | (with_reducible exact clock_Parse.mono _ _)
   | (with_reducible exact clock_Text.mono _ _)
   | (with_reducible exact solsticelaw04_wakes.mono _)
   | (with_reducible exact LeO.refl _)
   | (with_reducible exact LeO.none _)
   | (with_reducible refine LeO.ite ?_ ?_)
   | (with_reducible refine LeO.bind ?_ (fun _ => ?_))
   | exact ih0 _ _
   | exact clock_Join.mono _ _ _
   | exact clock_Parse.mono _ _
   | exact clock_Text.mono _ _
   | exact solsticelaw04_wakes.mono _
   | exact LeO.none _
   | refine LeO.ite ?_ ?_
   | refine LeO.bind ?_ (fun _ => ?_)
set_option maxHeartbeats 8000000 in
set_option maxRecDepth 100000 in
theorem solsticelaw04_ClockBack.calls (k : Nat) (a0 : Int) (a1 : Int) (a2 : ByteArray) (r : Bool) (w : World) (hG : GP w) (h : solsticelaw04_ClockBack.f k a0 a1 a2 = some r) :
  Calls Tryd.prog 10 #[.int .i64 a0, .int .i64 a1, .string a2] w fun e w' => e = .returned (.bool r) ∧ Below w.heap.size w w' := by
 have HG := Aside0.mk hG
 clear hG
 have HB := Aside0.mk (Below.refl w.heap.size w)
 have H : (if (a2.size : Int) > 100 then (some true) else ((clock_Text.f k (Int.tmod a0 345601)).bind fun bt179 => ((clock_Parse.f k bt179.1).bind fun bt181 => ((clock_Split.f a1).bind fun bt183 => ((clock_Join.f k bt183.1 bt183.2).bind fun bt185 => (if bt179.2 = 0 then (if bt181.2 = 0 then (if bt181.1 = (Int.tmod a0 345601) then (if bt183.2 < 0 then (solsticelaw04_ClockBack.j0 k a2 true) else (if bt183.2 ≥ 86400 then (solsticelaw04_ClockBack.j0 k a2 true) else ((solsticeref01_Bound.f a1).bind fun t187 => (if (t187 != bt185.2) = true then (solsticelaw04_ClockBack.j0 k a2 true) else (if bt185.2 = true then (solsticelaw04_ClockBack.j0 k a2 (bt185.1 != a1)) else (solsticelaw04_ClockBack.j0 k a2 false)))))) else (solsticelaw04_ClockBack.j0 k a2 true)) else (solsticelaw04_ClockBack.j0 k a2 true)) else (solsticelaw04_ClockBack.j0 k a2 true))))))) = some r := h
 clear h
 by_cases c4 : (a2.size : Int) > 100
 ·rw [if_pos c4] at H
  have c4b0 : decide (100 < (a2.size : Int)) = true := decide_eq_true c4
  have c4b1 : decide (100 < a2.size) = true := decide_eq_true (by omega)
  clear c4
  obtain rfl := Option.some.inj H
  go_enter Tryd.func10, Tryd.ntmps10
  go_wp2
  go_ret
  exact ⟨by first | rfl | (simp [errW_none, errW_some] <;> rfl) | (simp [*, errW_none, errW_some] <;> rfl), by repeat (first | (with_reducible first | exact HB.out | apply below_alloc | apply pw_below_drewN | apply below_drew1) | exact HB.out)⟩
 ·rw [if_neg c4] at H
  have c4b0 : decide (100 < (a2.size : Int)) = false := decide_eq_false c4
  have c4b1 : decide (100 < a2.size) = false := decide_eq_false (by omega)
  clear c4
  replace H := Option.bind_eq_some_iff.mp H
  obtain ⟨⟨t179, t180⟩, A50, H⟩ := H
  replace H : ((clock_Parse.f k t179).bind fun bt181 => ((clock_Split.f a1).bind fun bt183 => ((clock_Join.f k bt183.1 bt183.2).bind fun bt185 => (if t180 = 0 then (if bt181.2 = 0 then (if bt181.1 = (Int.tmod a0 345601) then (if bt183.2 < 0 then (solsticelaw04_ClockBack.j0 k a2 true) else (if bt183.2 ≥ 86400 then (solsticelaw04_ClockBack.j0 k a2 true) else ((solsticeref01_Bound.f a1).bind fun t187 => (if (t187 != bt185.2) = true then (solsticelaw04_ClockBack.j0 k a2 true) else (if bt185.2 = true then (solsticelaw04_ClockBack.j0 k a2 (bt185.1 != a1)) else (solsticelaw04_ClockBack.j0 k a2 false)))))) else (solsticelaw04_ClockBack.j0 k a2 true)) else (solsticelaw04_ClockBack.j0 k a2 true)) else (solsticelaw04_ClockBack.j0 k a2 true))))) = some r := H
  have A5 := Aside0.mk A50
  clear A50
  replace H := Option.bind_eq_some_iff.mp H
  obtain ⟨⟨t181, t182⟩, A60, H⟩ := H
  replace H : ((clock_Split.f a1).bind fun bt183 => ((clock_Join.f k bt183.1 bt183.2).bind fun bt185 => (if t180 = 0 then (if t182 = 0 then (if t181 = (Int.tmod a0 345601) then (if bt183.2 < 0 then (solsticelaw04_ClockBack.j0 k a2 true) else (if bt183.2 ≥ 86400 then (solsticelaw04_ClockBack.j0 k a2 true) else ((solsticeref01_Bound.f a1).bind fun t187 => (if (t187 != bt185.2) = true then (solsticelaw04_ClockBack.j0 k a2 true) else (if bt185.2 = true then (solsticelaw04_ClockBack.j0 k a2 (bt185.1 != a1)) else (solsticelaw04_ClockBack.j0 k a2 false)))))) else (solsticelaw04_ClockBack.j0 k a2 true)) else (solsticelaw04_ClockBack.j0 k a2 true)) else (solsticelaw04_ClockBack.j0 k a2 true)))) = some r := H
  have A6 := Aside0.mk A60
  clear A60
  replace H := Option.bind_eq_some_iff.mp H
  obtain ⟨⟨t183, t184⟩, A70, H⟩ := H
  replace H : ((clock_Join.f k t183 t184).bind fun bt185 => (if t180 = 0 then (if t182 = 0 then (if t181 = (Int.tmod a0 345601) then (if t184 < 0 then (solsticelaw04_ClockBack.j0 k a2 true) else (if t184 ≥ 86400 then (solsticelaw04_ClockBack.j0 k a2 true) else ((solsticeref01_Bound.f a1).bind fun t187 => (if (t187 != bt185.2) = true then (solsticelaw04_ClockBack.j0 k a2 true) else (if bt185.2 = true then (solsticelaw04_ClockBack.j0 k a2 (bt185.1 != a1)) else (solsticelaw04_ClockBack.j0 k a2 false)))))) else (solsticelaw04_ClockBack.j0 k a2 true)) else (solsticelaw04_ClockBack.j0 k a2 true)) else (solsticelaw04_ClockBack.j0 k a2 true))) = some r := H
  have A7 := Aside0.mk A70
  clear A70
  replace H := Option.bind_eq_some_iff.mp H
  obtain ⟨⟨t185, t186⟩, A80, H⟩ := H
  replace H : (if t180 = 0 then (if t182 = 0 then (if t181 = (Int.tmod a0 345601) then (if t184 < 0 then (solsticelaw04_ClockBack.j0 k a2 true) else (if t184 ≥ 86400 then (solsticelaw04_ClockBack.j0 k a2 true) else ((solsticeref01_Bound.f a1).bind fun t187 => (if (t187 != t186) = true then (solsticelaw04_ClockBack.j0 k a2 true) else (if t186 = true then (solsticelaw04_ClockBack.j0 k a2 (t185 != a1)) else (solsticelaw04_ClockBack.j0 k a2 false)))))) else (solsticelaw04_ClockBack.j0 k a2 true)) else (solsticelaw04_ClockBack.j0 k a2 true)) else (solsticelaw04_ClockBack.j0 k a2 true)) = some r := H
  have A8 := Aside0.mk A80
  clear A80
  have HC9 := Aside0.mk H
  clear H
  go_enter Tryd.func10, Tryd.ntmps10
  go_upto_region 8 with (first | ((with_reducible refine gate_callee (f := 34) rfl ?_); refine goesL_ (some 28) rfl rfl Tryd.func34 (by kernel_rfl) rfl #[.int .i64 (Int.tmod a0 345601)] rfl (by (try simp only [List.map_toArray, List.map_cons, List.map_nil]); first | done | rfl | (simp only [List.length_drop, List.length_take]; rfl)) ?_; (with_reducible refine (clock_Text.calls k (Int.tmod a0 345601) t179 t180 _ ?sideG A5.out).mono ?_); (case sideG => first | exact GP_below HG.out (by repeat (first | (with_reducible first | exact HB.out | apply below_alloc | apply pw_below_drewN | apply below_drew1) | exact HB.out)) | repeat (first | exact HG.out | refine GP_alloc ?_ _ | refine GP_drewN ?_ _ | refine GP_drew ?_)); rintro e w10 ⟨rfl, hb⟩; refine ⟨_, rfl, ?_⟩; have n0_ := Aside0.mk (below_step (by repeat (first | (with_reducible first | exact HB.out | apply below_alloc | apply pw_below_drewN | apply below_drew1) | exact HB.out)) hb); clear HB; have HB := n0_; clear n0_; (try clear hb); (try clear hb2); (try clear hk); (try clear hi)) | ((with_reducible refine gate_callee (f := 33) rfl ?_); refine goesL_ (some 33) rfl rfl Tryd.func33 (by kernel_rfl) rfl #[.string t179] rfl (by (try simp only [List.map_toArray, List.map_cons, List.map_nil]); first | done | rfl | (simp only [List.length_drop, List.length_take]; rfl)) ?_; (with_reducible refine (clock_Parse.calls k t179 t181 t182 _ ?sideG A6.out).mono ?_); (case sideG => first | exact GP_below HG.out (by repeat (first | (with_reducible first | exact HB.out | apply below_alloc | apply pw_below_drewN | apply below_drew1) | exact HB.out)) | repeat (first | exact HG.out | refine GP_alloc ?_ _ | refine GP_drewN ?_ _ | refine GP_drew ?_)); rintro e w11 ⟨rfl, hb⟩; refine ⟨_, rfl, ?_⟩; have n0_ := Aside0.mk (below_step (by repeat (first | (with_reducible first | exact HB.out | apply below_alloc | apply pw_below_drewN | apply below_drew1) | exact HB.out)) hb); clear HB; have HB := n0_; clear n0_; (try clear hb); (try clear hb2); (try clear hk); (try clear hi)) | ((with_reducible refine gate_callee (f := 35) rfl ?_); refine goesL_ (some 38) rfl rfl Tryd.func35 (by kernel_rfl) rfl #[.int .i64 a1] rfl (by (try simp only [List.map_toArray, List.map_cons, List.map_nil]); first | done | rfl | (simp only [List.length_drop, List.length_take]; rfl)) ?_; (with_reducible refine (clock_Split.calls a1 t183 t184 _ A7.out).mono ?_); rintro e w' ⟨rfl, ⟨nd, rfl⟩⟩; refine ⟨_, rfl, ?_⟩) | ((with_reducible refine gate_callee (f := 36) rfl ?_); refine goesL_ (some 44) rfl rfl Tryd.func36 (by kernel_rfl) rfl #[.int .i64 t183, .int .i64 t184] rfl (by (try simp only [List.map_toArray, List.map_cons, List.map_nil]); first | done | rfl | (simp only [List.length_drop, List.length_take]; rfl)) ?_; (with_reducible refine (clock_Join.calls k t183 t184 t185 t186 _ A8.out).mono ?_); rintro e w' ⟨rfl, ⟨nd, rfl⟩⟩; refine ⟨_, rfl, ?_⟩))
  (try simp only [Act.put, List.setIfInBounds_toArray, List.set_cons_zero, List.set_cons_succ])
  go_cut [79] (fun v79 wc => ∃ (kq : Nat) (x79_8 : Bool), v79 = .bool x79_8 ∧ Aside0 (solsticelaw04_ClockBack.j0 kq a2 x79_8 = some r) ∧ Aside0 (kq ≤ k) ∧ Aside0 (Below w.heap.size w wc))
  case first =>
   as_aux_lemma =>
    have H := HC9.out
    clear HC9
    by_cases c12 : t180 = 0
    ·rw [if_pos c12] at H
     have c12b0 : (t180 == 0) = true := beq_iff_eq.mpr c12
     have c12b1 : (t180 != 0) = false := bne_eq_false_iff_eq.mpr c12
     clear c12
     (first | rw [c12b0] | (simp only [i64_w, i32_w]; rw [c12b0]) | skip)
     by_cases c13 : t182 = 0
     ·rw [if_pos c13] at H
      have c13b0 : (t182 == 0) = true := beq_iff_eq.mpr c13
      have c13b1 : (t182 != 0) = false := bne_eq_false_iff_eq.mpr c13
      clear c13
      by_cases c14 : t181 = (Int.tmod a0 345601)
      ·rw [if_pos c14] at H
       have c14b0 : (t181 == (Int.tmod a0 345601)) = true := beq_iff_eq.mpr c14
       have c14b1 : (t181 != (Int.tmod a0 345601)) = false := bne_eq_false_iff_eq.mpr c14
       clear c14
       by_cases c15 : t184 < 0
       ·rw [if_pos c15] at H
        have c15b0 : decide (t184 < 0) = true := decide_eq_true c15
        clear c15
        have H' := Aside0.mk H
        clear H
        go_wp2
        go_meet
        case rel => exact ⟨_, (true), (by first | rfl | (simp; done) | (simp [*]; done)), H', ⟨by first | omega | exact Nat.le_refl _⟩, ⟨by repeat (first | (with_reducible first | exact HB.out | apply below_alloc | apply pw_below_drewN | apply below_drew1) | exact HB.out)⟩⟩
       ·rw [if_neg c15] at H
        have c15b0 : decide (t184 < 0) = false := decide_eq_false c15
        clear c15
        by_cases c16 : t184 ≥ 86400
        ·rw [if_pos c16] at H
         have c16b0 : decide (86400 ≤ t184) = true := decide_eq_true c16
         clear c16
         have H' := Aside0.mk H
         clear H
         go_wp2
         go_meet
         case rel => exact ⟨_, (true), (by first | rfl | (simp; done) | (simp [*]; done)), H', ⟨by first | omega | exact Nat.le_refl _⟩, ⟨by repeat (first | (with_reducible first | exact HB.out | apply below_alloc | apply pw_below_drewN | apply below_drew1) | exact HB.out)⟩⟩
        ·rw [if_neg c16] at H
         have c16b0 : decide (86400 ≤ t184) = false := decide_eq_false c16
         clear c16
         replace H := Option.bind_eq_some_iff.mp H
         obtain ⟨t187, A170, H⟩ := H
         replace H : (if (t187 != t186) = true then (solsticelaw04_ClockBack.j0 k a2 true) else (if t186 = true then (solsticelaw04_ClockBack.j0 k a2 (t185 != a1)) else (solsticelaw04_ClockBack.j0 k a2 false))) = some r := H
         have A17 := Aside0.mk A170
         clear A170
         by_cases c18 : (t187 != t186) = true
         ·rw [if_pos c18] at H
          have c18b0 : (t187 != t186) = true := c18
          (try (have c18b1 : decide (t187 = t186) = false := by simpa using c18))
          (try (have c18b2 : (t187 == t186) = false := by simpa using c18))
          (try (have c18b3 : ¬ (t187 = t186) := by simpa using c18))
          clear c18
          have H' := Aside0.mk H
          clear H
          go_wp2_with (first | (go_at_call 29; (with_reducible refine (solsticeref01_Bound.calls a1 t187 _ A17.out).mono ?_); rintro e w' ⟨rfl, ⟨nd, rfl⟩⟩))
          go_meet
          case rel => exact ⟨_, (true), (by first | rfl | (simp; done) | (simp [*]; done)), H', ⟨by first | omega | exact Nat.le_refl _⟩, ⟨by repeat (first | (with_reducible first | exact HB.out | apply below_alloc | apply pw_below_drewN | apply below_drew1) | exact HB.out)⟩⟩
         ·rw [if_neg c18] at H
          have c18b0 : (t187 != t186) = false := by simpa using c18
          (try (have c18b1 : decide (t187 = t186) = true := by simpa using c18))
          (try (have c18b2 : (t187 == t186) = true := by simpa using c18))
          clear c18
          by_cases c19 : t186 = true
          ·subst c19
           have H1 : (solsticelaw04_ClockBack.j0 k a2 (t185 != a1)) = some r := by rw [if_pos rfl] at H; exact H
           clear H
           have H := H1
           clear H1
           have H' := Aside0.mk H
           clear H
           go_wp2_with (first | (go_at_call 29; (with_reducible refine (solsticeref01_Bound.calls a1 t187 _ A17.out).mono ?_); rintro e w' ⟨rfl, ⟨nd, rfl⟩⟩))
           go_meet
           case rel => exact ⟨_, ((t185 != a1)), (by first | rfl | (simp; done) | (simp [*]; done)), H', ⟨by first | omega | exact Nat.le_refl _⟩, ⟨by repeat (first | (with_reducible first | exact HB.out | apply below_alloc | apply pw_below_drewN | apply below_drew1) | exact HB.out)⟩⟩
          ·replace c19 := Bool.eq_false_iff.mpr c19
           subst c19
           have H1 : (solsticelaw04_ClockBack.j0 k a2 false) = some r := by rw [if_neg (show ¬ (false = true) by decide)] at H; exact H
           clear H
           have H := H1
           clear H1
           have H' := Aside0.mk H
           clear H
           go_wp2_with (first | (go_at_call 29; (with_reducible refine (solsticeref01_Bound.calls a1 t187 _ A17.out).mono ?_); rintro e w' ⟨rfl, ⟨nd, rfl⟩⟩))
           go_meet
           case rel => exact ⟨_, (false), (by first | rfl | (simp; done) | (simp [*]; done)), H', ⟨by first | omega | exact Nat.le_refl _⟩, ⟨by repeat (first | (with_reducible first | exact HB.out | apply below_alloc | apply pw_below_drewN | apply below_drew1) | exact HB.out)⟩⟩
      ·rw [if_neg c14] at H
       have c14b0 : (t181 == (Int.tmod a0 345601)) = false := beq_eq_false_iff_ne.mpr c14
       have c14b1 : (t181 != (Int.tmod a0 345601)) = true := bne_iff_ne.mpr c14
       have H' := Aside0.mk H
       clear H
       go_wp2
       go_meet
       case rel => exact ⟨_, (true), (by first | rfl | (simp; done) | (simp [*]; done)), H', ⟨by first | omega | exact Nat.le_refl _⟩, ⟨by repeat (first | (with_reducible first | exact HB.out | apply below_alloc | apply pw_below_drewN | apply below_drew1) | exact HB.out)⟩⟩
     ·rw [if_neg c13] at H
      have c13b0 : (t182 == 0) = false := beq_eq_false_iff_ne.mpr c13
      have c13b1 : (t182 != 0) = true := bne_iff_ne.mpr c13
      have H' := Aside0.mk H
      clear H
      go_wp2
      go_meet
      case rel => exact ⟨_, (true), (by first | rfl | (simp; done) | (simp [*]; done)), H', ⟨by first | omega | exact Nat.le_refl _⟩, ⟨by repeat (first | (with_reducible first | exact HB.out | apply below_alloc | apply pw_below_drewN | apply below_drew1) | exact HB.out)⟩⟩
    ·rw [if_neg c12] at H
     have c12b0 : (t180 == 0) = false := beq_eq_false_iff_ne.mpr c12
     have c12b1 : (t180 != 0) = true := bne_iff_ne.mpr c12
     (first | rw [c12b0] | (simp only [i64_w, i32_w]; rw [c12b0]) | skip)
     have H' := Aside0.mk H
     clear H
     go_wp2
     go_meet
     case rel => exact ⟨_, (true), (by first | rfl | (simp; done) | (simp [*]; done)), H', ⟨by first | omega | exact Nat.le_refl _⟩, ⟨by repeat (first | (with_reducible first | exact HB.out | apply below_alloc | apply pw_below_drewN | apply below_drew1) | exact HB.out)⟩⟩
  case rest =>
   as_aux_lemma =>
    clear HC9
    try clear c1
    try clear p2
    try clear c3
    try clear c4
    try clear c4b0
    try clear c4b1
    try clear c10
    try clear c12
    try clear c12b0
    try clear c12b1
    try clear c13
    try clear c13b0
    try clear c13b1
    try clear c14
    try clear c14b0
    try clear c14b1
    try clear c15
    try clear c15b0
    try clear c16
    try clear c16b0
    try clear c18
    try clear c18b0
    try clear c18b1
    try clear c18b2
    try clear c19
    obtain ⟨kq, x79_8, rfl, HA, HJ8, HB⟩ := hcut
    cases kq with
    | zero => exact absurd HA.out (by simp [solsticelaw04_ClockBack.j0])
    | succ kj8 =>
     have H := HA.out
     clear HA
     simp only [solsticelaw04_ClockBack.j0] at H
     by_cases c20 : x79_8 = true
     ·subst c20
      have H1 : (some false) = some r := by rw [if_pos rfl] at H; exact H
      clear H
      have H := H1
      clear H1
      obtain rfl := Option.some.inj H
      go_wp2
      go_ret
      exact ⟨by first | rfl | (simp [errW_none, errW_some] <;> rfl) | (simp [*, errW_none, errW_some] <;> rfl), by repeat (first | (with_reducible first | exact HB.out | apply below_alloc | apply pw_below_drewN | apply below_drew1) | exact HB.out)⟩
     ·replace c20 := Bool.eq_false_iff.mpr c20
      subst c20
      have H1 : ((clock_Parse.f kj8 a2).bind fun bt188 => (if bt188.2 = 0 then ((clock_Text.f kj8 bt188.1).bind fun bt190 => ((clock_Parse.f kj8 bt190.1).bind fun bt192 => (if bt190.2 = 0 then (if bt192.2 = 0 then (if bt192.1 = bt188.1 then ((solsticelaw04_wakes.f kj8).bind fun t194 => (some t194)) else (some false)) else (some false)) else (some false)))) else (if bt188.1 = 0 then ((solsticelaw04_wakes.f kj8).bind fun t195 => (some t195)) else (some false)))) = some r := by rw [if_neg (show ¬ (false = true) by decide)] at H; exact H
      clear H
      have H := H1
      clear H1
      replace H := Option.bind_eq_some_iff.mp H
      obtain ⟨⟨t188, t189⟩, A210, H⟩ := H
      replace H : (if t189 = 0 then ((clock_Text.f kj8 t188).bind fun bt190 => ((clock_Parse.f kj8 bt190.1).bind fun bt192 => (if bt190.2 = 0 then (if bt192.2 = 0 then (if bt192.1 = t188 then ((solsticelaw04_wakes.f kj8).bind fun t194 => (some t194)) else (some false)) else (some false)) else (some false)))) else (if t188 = 0 then ((solsticelaw04_wakes.f kj8).bind fun t195 => (some t195)) else (some false))) = some r := H
      have A21 := Aside0.mk A210
      clear A210
      by_cases c22 : t189 = 0
      ·rw [if_pos c22] at H
       have c22b0 : (t189 == 0) = true := beq_iff_eq.mpr c22
       have c22b1 : (t189 != 0) = false := bne_eq_false_iff_eq.mpr c22
       clear c22
       replace H := Option.bind_eq_some_iff.mp H
       obtain ⟨⟨t190, t191⟩, A230, H⟩ := H
       replace H : ((clock_Parse.f kj8 t190).bind fun bt192 => (if t191 = 0 then (if bt192.2 = 0 then (if bt192.1 = t188 then ((solsticelaw04_wakes.f kj8).bind fun t194 => (some t194)) else (some false)) else (some false)) else (some false))) = some r := H
       have A23 := Aside0.mk A230
       clear A230
       replace H := Option.bind_eq_some_iff.mp H
       obtain ⟨⟨t192, t193⟩, A240, H⟩ := H
       replace H : (if t191 = 0 then (if t193 = 0 then (if t192 = t188 then ((solsticelaw04_wakes.f kj8).bind fun t194 => (some t194)) else (some false)) else (some false)) else (some false)) = some r := H
       have A24 := Aside0.mk A240
       clear A240
       by_cases c25 : t191 = 0
       ·rw [if_pos c25] at H
        have c25b0 : (t191 == 0) = true := beq_iff_eq.mpr c25
        have c25b1 : (t191 != 0) = false := bne_eq_false_iff_eq.mpr c25
        clear c25
        by_cases c26 : t193 = 0
        ·rw [if_pos c26] at H
         have c26b0 : (t193 == 0) = true := beq_iff_eq.mpr c26
         have c26b1 : (t193 != 0) = false := bne_eq_false_iff_eq.mpr c26
         clear c26
         by_cases c27 : t192 = t188
         ·rw [if_pos c27] at H
          have c27b0 : (t192 == t188) = true := beq_iff_eq.mpr c27
          have c27b1 : (t192 != t188) = false := bne_eq_false_iff_eq.mpr c27
          clear c27
          replace H := Option.bind_eq_some_iff.mp H
          obtain ⟨t194, A280, H⟩ := H
          replace H : (some t194) = some r := H
          have A28 := Aside0.mk A280
          clear A280
          obtain rfl := Option.some.inj H
          go_wp2_with (first | ((with_reducible refine gate_callee (f := 33) rfl ?_); refine goesL_ (some 82) rfl rfl Tryd.func33 (by kernel_rfl) rfl #[.string a2] rfl (by (try simp only [List.map_toArray, List.map_cons, List.map_nil]); first | done | rfl | (simp only [List.length_drop, List.length_take]; rfl)) ?_; (with_reducible refine (clock_Parse.calls kj8 a2 t188 t189 _ ?sideG A21.out).mono ?_); (case sideG => first | exact GP_below HG.out (by repeat (first | (with_reducible first | exact HB.out | apply below_alloc | apply pw_below_drewN | apply below_drew1) | exact HB.out)) | repeat (first | exact HG.out | refine GP_alloc ?_ _ | refine GP_drewN ?_ _ | refine GP_drew ?_)); rintro e w29 ⟨rfl, hb⟩; refine ⟨_, rfl, ?_⟩; have n0_ := Aside0.mk (below_step (by repeat (first | (with_reducible first | exact HB.out | apply below_alloc | apply pw_below_drewN | apply below_drew1) | exact HB.out)) hb); clear HB; have HB := n0_; clear n0_; (try clear hb); (try clear hb2); (try clear hk); (try clear hi)) | ((with_reducible refine gate_callee (f := 34) rfl ?_); refine goesL_ (some 94) rfl rfl Tryd.func34 (by kernel_rfl) rfl #[.int .i64 t188] rfl (by (try simp only [List.map_toArray, List.map_cons, List.map_nil]); first | done | rfl | (simp only [List.length_drop, List.length_take]; rfl)) ?_; (with_reducible refine (clock_Text.calls kj8 t188 t190 t191 _ ?sideG A23.out).mono ?_); (case sideG => first | exact GP_below HG.out (by repeat (first | (with_reducible first | exact HB.out | apply below_alloc | apply pw_below_drewN | apply below_drew1) | exact HB.out)) | repeat (first | exact HG.out | refine GP_alloc ?_ _ | refine GP_drewN ?_ _ | refine GP_drew ?_)); rintro e w30 ⟨rfl, hb⟩; refine ⟨_, rfl, ?_⟩; have n0_ := Aside0.mk (below_step (by repeat (first | (with_reducible first | exact HB.out | apply below_alloc | apply pw_below_drewN | apply below_drew1) | exact HB.out)) hb); clear HB; have HB := n0_; clear n0_; (try clear hb); (try clear hb2); (try clear hk); (try clear hi)) | ((with_reducible refine gate_callee (f := 33) rfl ?_); refine goesL_ (some 99) rfl rfl Tryd.func33 (by kernel_rfl) rfl #[.string t190] rfl (by (try simp only [List.map_toArray, List.map_cons, List.map_nil]); first | done | rfl | (simp only [List.length_drop, List.length_take]; rfl)) ?_; (with_reducible refine (clock_Parse.calls kj8 t190 t192 t193 _ ?sideG A24.out).mono ?_); (case sideG => first | exact GP_below HG.out (by repeat (first | (with_reducible first | exact HB.out | apply below_alloc | apply pw_below_drewN | apply below_drew1) | exact HB.out)) | repeat (first | exact HG.out | refine GP_alloc ?_ _ | refine GP_drewN ?_ _ | refine GP_drew ?_)); rintro e w31 ⟨rfl, hb⟩; refine ⟨_, rfl, ?_⟩; have n0_ := Aside0.mk (below_step (by repeat (first | (with_reducible first | exact HB.out | apply below_alloc | apply pw_below_drewN | apply below_drew1) | exact HB.out)) hb); clear HB; have HB := n0_; clear n0_; (try clear hb); (try clear hb2); (try clear hk); (try clear hi)) | (go_at_call 39; (with_reducible refine (solsticelaw04_wakes.calls kj8  t194 _ ?sideG A28.out).mono ?_); (case sideG => first | exact GP_below HG.out (by repeat (first | (with_reducible first | exact HB.out | apply below_alloc | apply pw_below_drewN | apply below_drew1) | exact HB.out)) | repeat (first | exact HG.out | refine GP_alloc ?_ _ | refine GP_drewN ?_ _ | refine GP_drew ?_)); rintro e w32 ⟨rfl, hb⟩; have n0_ := Aside0.mk (below_step (by repeat (first | (with_reducible first | exact HB.out | apply below_alloc | apply pw_below_drewN | apply below_drew1) | exact HB.out)) hb); clear HB; have HB := n0_; clear n0_; (try clear hb); (try clear hb2); (try clear hk); (try clear hi)))
          go_ret
          exact ⟨by first | rfl | (simp [errW_none, errW_some] <;> rfl) | (simp [*, errW_none, errW_some] <;> rfl), by repeat (first | (with_reducible first | exact HB.out | apply below_alloc | apply pw_below_drewN | apply below_drew1) | exact HB.out)⟩
         ·rw [if_neg c27] at H
          have c27b0 : (t192 == t188) = false := beq_eq_false_iff_ne.mpr c27
          have c27b1 : (t192 != t188) = true := bne_iff_ne.mpr c27
          obtain rfl := Option.some.inj H
          go_wp2_with (first | ((with_reducible refine gate_callee (f := 33) rfl ?_); refine goesL_ (some 82) rfl rfl Tryd.func33 (by kernel_rfl) rfl #[.string a2] rfl (by (try simp only [List.map_toArray, List.map_cons, List.map_nil]); first | done | rfl | (simp only [List.length_drop, List.length_take]; rfl)) ?_; (with_reducible refine (clock_Parse.calls kj8 a2 t188 t189 _ ?sideG A21.out).mono ?_); (case sideG => first | exact GP_below HG.out (by repeat (first | (with_reducible first | exact HB.out | apply below_alloc | apply pw_below_drewN | apply below_drew1) | exact HB.out)) | repeat (first | exact HG.out | refine GP_alloc ?_ _ | refine GP_drewN ?_ _ | refine GP_drew ?_)); rintro e w33 ⟨rfl, hb⟩; refine ⟨_, rfl, ?_⟩; have n0_ := Aside0.mk (below_step (by repeat (first | (with_reducible first | exact HB.out | apply below_alloc | apply pw_below_drewN | apply below_drew1) | exact HB.out)) hb); clear HB; have HB := n0_; clear n0_; (try clear hb); (try clear hb2); (try clear hk); (try clear hi)) | ((with_reducible refine gate_callee (f := 34) rfl ?_); refine goesL_ (some 94) rfl rfl Tryd.func34 (by kernel_rfl) rfl #[.int .i64 t188] rfl (by (try simp only [List.map_toArray, List.map_cons, List.map_nil]); first | done | rfl | (simp only [List.length_drop, List.length_take]; rfl)) ?_; (with_reducible refine (clock_Text.calls kj8 t188 t190 t191 _ ?sideG A23.out).mono ?_); (case sideG => first | exact GP_below HG.out (by repeat (first | (with_reducible first | exact HB.out | apply below_alloc | apply pw_below_drewN | apply below_drew1) | exact HB.out)) | repeat (first | exact HG.out | refine GP_alloc ?_ _ | refine GP_drewN ?_ _ | refine GP_drew ?_)); rintro e w34 ⟨rfl, hb⟩; refine ⟨_, rfl, ?_⟩; have n0_ := Aside0.mk (below_step (by repeat (first | (with_reducible first | exact HB.out | apply below_alloc | apply pw_below_drewN | apply below_drew1) | exact HB.out)) hb); clear HB; have HB := n0_; clear n0_; (try clear hb); (try clear hb2); (try clear hk); (try clear hi)) | ((with_reducible refine gate_callee (f := 33) rfl ?_); refine goesL_ (some 99) rfl rfl Tryd.func33 (by kernel_rfl) rfl #[.string t190] rfl (by (try simp only [List.map_toArray, List.map_cons, List.map_nil]); first | done | rfl | (simp only [List.length_drop, List.length_take]; rfl)) ?_; (with_reducible refine (clock_Parse.calls kj8 t190 t192 t193 _ ?sideG A24.out).mono ?_); (case sideG => first | exact GP_below HG.out (by repeat (first | (with_reducible first | exact HB.out | apply below_alloc | apply pw_below_drewN | apply below_drew1) | exact HB.out)) | repeat (first | exact HG.out | refine GP_alloc ?_ _ | refine GP_drewN ?_ _ | refine GP_drew ?_)); rintro e w35 ⟨rfl, hb⟩; refine ⟨_, rfl, ?_⟩; have n0_ := Aside0.mk (below_step (by repeat (first | (with_reducible first | exact HB.out | apply below_alloc | apply pw_below_drewN | apply below_drew1) | exact HB.out)) hb); clear HB; have HB := n0_; clear n0_; (try clear hb); (try clear hb2); (try clear hk); (try clear hi)))
          go_ret
          exact ⟨by first | rfl | (simp [errW_none, errW_some] <;> rfl) | (simp [*, errW_none, errW_some] <;> rfl), by repeat (first | (with_reducible first | exact HB.out | apply below_alloc | apply pw_below_drewN | apply below_drew1) | exact HB.out)⟩
        ·rw [if_neg c26] at H
         have c26b0 : (t193 == 0) = false := beq_eq_false_iff_ne.mpr c26
         have c26b1 : (t193 != 0) = true := bne_iff_ne.mpr c26
         obtain rfl := Option.some.inj H
         go_wp2_with (first | ((with_reducible refine gate_callee (f := 33) rfl ?_); refine goesL_ (some 82) rfl rfl Tryd.func33 (by kernel_rfl) rfl #[.string a2] rfl (by (try simp only [List.map_toArray, List.map_cons, List.map_nil]); first | done | rfl | (simp only [List.length_drop, List.length_take]; rfl)) ?_; (with_reducible refine (clock_Parse.calls kj8 a2 t188 t189 _ ?sideG A21.out).mono ?_); (case sideG => first | exact GP_below HG.out (by repeat (first | (with_reducible first | exact HB.out | apply below_alloc | apply pw_below_drewN | apply below_drew1) | exact HB.out)) | repeat (first | exact HG.out | refine GP_alloc ?_ _ | refine GP_drewN ?_ _ | refine GP_drew ?_)); rintro e w36 ⟨rfl, hb⟩; refine ⟨_, rfl, ?_⟩; have n0_ := Aside0.mk (below_step (by repeat (first | (with_reducible first | exact HB.out | apply below_alloc | apply pw_below_drewN | apply below_drew1) | exact HB.out)) hb); clear HB; have HB := n0_; clear n0_; (try clear hb); (try clear hb2); (try clear hk); (try clear hi)) | ((with_reducible refine gate_callee (f := 34) rfl ?_); refine goesL_ (some 94) rfl rfl Tryd.func34 (by kernel_rfl) rfl #[.int .i64 t188] rfl (by (try simp only [List.map_toArray, List.map_cons, List.map_nil]); first | done | rfl | (simp only [List.length_drop, List.length_take]; rfl)) ?_; (with_reducible refine (clock_Text.calls kj8 t188 t190 t191 _ ?sideG A23.out).mono ?_); (case sideG => first | exact GP_below HG.out (by repeat (first | (with_reducible first | exact HB.out | apply below_alloc | apply pw_below_drewN | apply below_drew1) | exact HB.out)) | repeat (first | exact HG.out | refine GP_alloc ?_ _ | refine GP_drewN ?_ _ | refine GP_drew ?_)); rintro e w37 ⟨rfl, hb⟩; refine ⟨_, rfl, ?_⟩; have n0_ := Aside0.mk (below_step (by repeat (first | (with_reducible first | exact HB.out | apply below_alloc | apply pw_below_drewN | apply below_drew1) | exact HB.out)) hb); clear HB; have HB := n0_; clear n0_; (try clear hb); (try clear hb2); (try clear hk); (try clear hi)) | ((with_reducible refine gate_callee (f := 33) rfl ?_); refine goesL_ (some 99) rfl rfl Tryd.func33 (by kernel_rfl) rfl #[.string t190] rfl (by (try simp only [List.map_toArray, List.map_cons, List.map_nil]); first | done | rfl | (simp only [List.length_drop, List.length_take]; rfl)) ?_; (with_reducible refine (clock_Parse.calls kj8 t190 t192 t193 _ ?sideG A24.out).mono ?_); (case sideG => first | exact GP_below HG.out (by repeat (first | (with_reducible first | exact HB.out | apply below_alloc | apply pw_below_drewN | apply below_drew1) | exact HB.out)) | repeat (first | exact HG.out | refine GP_alloc ?_ _ | refine GP_drewN ?_ _ | refine GP_drew ?_)); rintro e w38 ⟨rfl, hb⟩; refine ⟨_, rfl, ?_⟩; have n0_ := Aside0.mk (below_step (by repeat (first | (with_reducible first | exact HB.out | apply below_alloc | apply pw_below_drewN | apply below_drew1) | exact HB.out)) hb); clear HB; have HB := n0_; clear n0_; (try clear hb); (try clear hb2); (try clear hk); (try clear hi)))
         go_ret
         exact ⟨by first | rfl | (simp [errW_none, errW_some] <;> rfl) | (simp [*, errW_none, errW_some] <;> rfl), by repeat (first | (with_reducible first | exact HB.out | apply below_alloc | apply pw_below_drewN | apply below_drew1) | exact HB.out)⟩
       ·rw [if_neg c25] at H
        have c25b0 : (t191 == 0) = false := beq_eq_false_iff_ne.mpr c25
        have c25b1 : (t191 != 0) = true := bne_iff_ne.mpr c25
        obtain rfl := Option.some.inj H
        go_wp2_with (first | ((with_reducible refine gate_callee (f := 33) rfl ?_); refine goesL_ (some 82) rfl rfl Tryd.func33 (by kernel_rfl) rfl #[.string a2] rfl (by (try simp only [List.map_toArray, List.map_cons, List.map_nil]); first | done | rfl | (simp only [List.length_drop, List.length_take]; rfl)) ?_; (with_reducible refine (clock_Parse.calls kj8 a2 t188 t189 _ ?sideG A21.out).mono ?_); (case sideG => first | exact GP_below HG.out (by repeat (first | (with_reducible first | exact HB.out | apply below_alloc | apply pw_below_drewN | apply below_drew1) | exact HB.out)) | repeat (first | exact HG.out | refine GP_alloc ?_ _ | refine GP_drewN ?_ _ | refine GP_drew ?_)); rintro e w39 ⟨rfl, hb⟩; refine ⟨_, rfl, ?_⟩; have n0_ := Aside0.mk (below_step (by repeat (first | (with_reducible first | exact HB.out | apply below_alloc | apply pw_below_drewN | apply below_drew1) | exact HB.out)) hb); clear HB; have HB := n0_; clear n0_; (try clear hb); (try clear hb2); (try clear hk); (try clear hi)) | ((with_reducible refine gate_callee (f := 34) rfl ?_); refine goesL_ (some 94) rfl rfl Tryd.func34 (by kernel_rfl) rfl #[.int .i64 t188] rfl (by (try simp only [List.map_toArray, List.map_cons, List.map_nil]); first | done | rfl | (simp only [List.length_drop, List.length_take]; rfl)) ?_; (with_reducible refine (clock_Text.calls kj8 t188 t190 t191 _ ?sideG A23.out).mono ?_); (case sideG => first | exact GP_below HG.out (by repeat (first | (with_reducible first | exact HB.out | apply below_alloc | apply pw_below_drewN | apply below_drew1) | exact HB.out)) | repeat (first | exact HG.out | refine GP_alloc ?_ _ | refine GP_drewN ?_ _ | refine GP_drew ?_)); rintro e w40 ⟨rfl, hb⟩; refine ⟨_, rfl, ?_⟩; have n0_ := Aside0.mk (below_step (by repeat (first | (with_reducible first | exact HB.out | apply below_alloc | apply pw_below_drewN | apply below_drew1) | exact HB.out)) hb); clear HB; have HB := n0_; clear n0_; (try clear hb); (try clear hb2); (try clear hk); (try clear hi)) | ((with_reducible refine gate_callee (f := 33) rfl ?_); refine goesL_ (some 99) rfl rfl Tryd.func33 (by kernel_rfl) rfl #[.string t190] rfl (by (try simp only [List.map_toArray, List.map_cons, List.map_nil]); first | done | rfl | (simp only [List.length_drop, List.length_take]; rfl)) ?_; (with_reducible refine (clock_Parse.calls kj8 t190 t192 t193 _ ?sideG A24.out).mono ?_); (case sideG => first | exact GP_below HG.out (by repeat (first | (with_reducible first | exact HB.out | apply below_alloc | apply pw_below_drewN | apply below_drew1) | exact HB.out)) | repeat (first | exact HG.out | refine GP_alloc ?_ _ | refine GP_drewN ?_ _ | refine GP_drew ?_)); rintro e w41 ⟨rfl, hb⟩; refine ⟨_, rfl, ?_⟩; have n0_ := Aside0.mk (below_step (by repeat (first | (with_reducible first | exact HB.out | apply below_alloc | apply pw_below_drewN | apply below_drew1) | exact HB.out)) hb); clear HB; have HB := n0_; clear n0_; (try clear hb); (try clear hb2); (try clear hk); (try clear hi)))
        go_ret
        exact ⟨by first | rfl | (simp [errW_none, errW_some] <;> rfl) | (simp [*, errW_none, errW_some] <;> rfl), by repeat (first | (with_reducible first | exact HB.out | apply below_alloc | apply pw_below_drewN | apply below_drew1) | exact HB.out)⟩
      ·rw [if_neg c22] at H
       have c22b0 : (t189 == 0) = false := beq_eq_false_iff_ne.mpr c22
       have c22b1 : (t189 != 0) = true := bne_iff_ne.mpr c22
       by_cases c42 : t188 = 0
       ·rw [if_pos c42] at H
        have c42b0 : (t188 == 0) = true := beq_iff_eq.mpr c42
        have c42b1 : (t188 != 0) = false := bne_eq_false_iff_eq.mpr c42
        clear c42
        replace H := Option.bind_eq_some_iff.mp H
        obtain ⟨t195, A430, H⟩ := H
        replace H : (some t195) = some r := H
        have A43 := Aside0.mk A430
        clear A430
        obtain rfl := Option.some.inj H
        go_wp2_with (first | ((with_reducible refine gate_callee (f := 33) rfl ?_); refine goesL_ (some 82) rfl rfl Tryd.func33 (by kernel_rfl) rfl #[.string a2] rfl (by (try simp only [List.map_toArray, List.map_cons, List.map_nil]); first | done | rfl | (simp only [List.length_drop, List.length_take]; rfl)) ?_; (with_reducible refine (clock_Parse.calls kj8 a2 t188 t189 _ ?sideG A21.out).mono ?_); (case sideG => first | exact GP_below HG.out (by repeat (first | (with_reducible first | exact HB.out | apply below_alloc | apply pw_below_drewN | apply below_drew1) | exact HB.out)) | repeat (first | exact HG.out | refine GP_alloc ?_ _ | refine GP_drewN ?_ _ | refine GP_drew ?_)); rintro e w44 ⟨rfl, hb⟩; refine ⟨_, rfl, ?_⟩; have n0_ := Aside0.mk (below_step (by repeat (first | (with_reducible first | exact HB.out | apply below_alloc | apply pw_below_drewN | apply below_drew1) | exact HB.out)) hb); clear HB; have HB := n0_; clear n0_; (try clear hb); (try clear hb2); (try clear hk); (try clear hi)) | (go_at_call 39; (with_reducible refine (solsticelaw04_wakes.calls kj8  t195 _ ?sideG A43.out).mono ?_); (case sideG => first | exact GP_below HG.out (by repeat (first | (with_reducible first | exact HB.out | apply below_alloc | apply pw_below_drewN | apply below_drew1) | exact HB.out)) | repeat (first | exact HG.out | refine GP_alloc ?_ _ | refine GP_drewN ?_ _ | refine GP_drew ?_)); rintro e w45 ⟨rfl, hb⟩; have n0_ := Aside0.mk (below_step (by repeat (first | (with_reducible first | exact HB.out | apply below_alloc | apply pw_below_drewN | apply below_drew1) | exact HB.out)) hb); clear HB; have HB := n0_; clear n0_; (try clear hb); (try clear hb2); (try clear hk); (try clear hi)))
        go_ret
        exact ⟨by first | rfl | (simp [errW_none, errW_some] <;> rfl) | (simp [*, errW_none, errW_some] <;> rfl), by repeat (first | (with_reducible first | exact HB.out | apply below_alloc | apply pw_below_drewN | apply below_drew1) | exact HB.out)⟩
       ·rw [if_neg c42] at H
        have c42b0 : (t188 == 0) = false := beq_eq_false_iff_ne.mpr c42
        have c42b1 : (t188 != 0) = true := bne_iff_ne.mpr c42
        obtain rfl := Option.some.inj H
        go_wp2_with (first | ((with_reducible refine gate_callee (f := 33) rfl ?_); refine goesL_ (some 82) rfl rfl Tryd.func33 (by kernel_rfl) rfl #[.string a2] rfl (by (try simp only [List.map_toArray, List.map_cons, List.map_nil]); first | done | rfl | (simp only [List.length_drop, List.length_take]; rfl)) ?_; (with_reducible refine (clock_Parse.calls kj8 a2 t188 t189 _ ?sideG A21.out).mono ?_); (case sideG => first | exact GP_below HG.out (by repeat (first | (with_reducible first | exact HB.out | apply below_alloc | apply pw_below_drewN | apply below_drew1) | exact HB.out)) | repeat (first | exact HG.out | refine GP_alloc ?_ _ | refine GP_drewN ?_ _ | refine GP_drew ?_)); rintro e w46 ⟨rfl, hb⟩; refine ⟨_, rfl, ?_⟩; have n0_ := Aside0.mk (below_step (by repeat (first | (with_reducible first | exact HB.out | apply below_alloc | apply pw_below_drewN | apply below_drew1) | exact HB.out)) hb); clear HB; have HB := n0_; clear n0_; (try clear hb); (try clear hb2); (try clear hk); (try clear hi)))
        go_ret
        exact ⟨by first | rfl | (simp [errW_none, errW_some] <;> rfl) | (simp [*, errW_none, errW_some] <;> rfl), by repeat (first | (with_reducible first | exact HB.out | apply below_alloc | apply pw_below_drewN | apply below_drew1) | exact HB.out)⟩

/-- THE ONE PURE STATEMENT of solsticelaw04_ClockBack: yours. -/
def solsticelaw04_ClockBack.Pure : Prop := ∀ (a0 : Int) (a1 : Int) (a2 : ByteArray), (Lit.int .i64 a0).wf = true → (Lit.int .i64 a1).wf = true → a2.size ≤ 140737488351232 → ∃ k, solsticelaw04_ClockBack.f k a0 a1 a2 = some true
end Go.Proofs.YtlfohcjajmebjaaDoor.PClk
