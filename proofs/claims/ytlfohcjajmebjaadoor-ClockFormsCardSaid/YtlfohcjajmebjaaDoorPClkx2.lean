-- Printed by a program of this session's over the kit's printer; library functions by contracts off the shelf.
import Derived.Test.YtlfohcjajmebjaaDoorGP
import Derived.Test.YtlfohcjajmebjaaDoorPClkx0
import Derived.Test.YtlfohcjajmebjaaDoorPClkx1
namespace Go.Proofs.YtlfohcjajmebjaaDoor.PClk
open Go.RowKit Go.Proofs.YtlfohcjajmebjaaDoorW.PrintWords Go.Proofs.YtlfohcjajmebjaaDoorW.PrintLast Go.Proofs.YtlfohcjajmebjaaDoorW.PrintMore Go.Proofs.YtlfohcjajmebjaaDoor.Base
attribute [local go_sem] max2_int min2_int max_two min_two max_three min_three max_four min_four   -- for this text's walks alone
set_option linter.unusedVariables false
set_option linter.unusedSimpArgs false
mutual
def clock_Text.j0 : Nat → Int → Bool → Option (ByteArray × Int)
 | 0, _, _ => none
 | k + 1, x0, x11 => if x11 = true then (some ((⟨#[]⟩ : ByteArray), 5)) else (if x0 < 0 then (clock_Text.j1 k (wrap64 (-x0)) (⟨#[45]⟩ : ByteArray)) else (clock_Text.j1 k x0 (⟨#[]⟩ : ByteArray)))
def clock_Text.j1 : Nat → Int → ByteArray → Option (ByteArray × Int)
 | 0, _, _ => none
 | k + 1, x0, x4 => (num_Text.f (wrap64 (Int.tdiv x0 3600)) 1).bind fun t113 => (if x4.size + t113.size ≤ 9223372036854775807 then (if (Int.tmod x0 3600) = 0 then (if (Int.tmod x0 60) = 0 then (some (x4 ++ t113, 0)) else ((num_Text.f (Int.tmod x0 60) 2).bind fun t114 => (if 1 + t114.size ≤ 9223372036854775807 then (if (x4 ++ t113).size + ((⟨#[58]⟩ : ByteArray) ++ t114).size ≤ 9223372036854775807 then (some ((x4 ++ t113) ++ ((⟨#[58]⟩ : ByteArray) ++ t114), 0)) else (none)) else (none)))) else ((num_Text.f (wrap64 (Int.tdiv (Int.tmod x0 3600) 60)) 2).bind fun t115 => (if 1 + t115.size ≤ 9223372036854775807 then (if (x4 ++ t113).size + ((⟨#[58]⟩ : ByteArray) ++ t115).size ≤ 9223372036854775807 then (if (Int.tmod x0 60) = 0 then (some ((x4 ++ t113) ++ ((⟨#[58]⟩ : ByteArray) ++ t115), 0)) else ((num_Text.f (Int.tmod x0 60) 2).bind fun t116 => (if 1 + t116.size ≤ 9223372036854775807 then (if ((x4 ++ t113) ++ ((⟨#[58]⟩ : ByteArray) ++ t115)).size + ((⟨#[58]⟩ : ByteArray) ++ t116).size ≤ 9223372036854775807 then (some (((x4 ++ t113) ++ ((⟨#[58]⟩ : ByteArray) ++ t115)) ++ ((⟨#[58]⟩ : ByteArray) ++ t116), 0)) else (none)) else (none)))) else (none)) else (none)))) else (none))
end
def clock_Text.f (k : Nat) (a0 : Int) : Option (ByteArray × Int) := if a0 < (-345600) then (clock_Text.j0 k a0 true) else (clock_Text.j0 k a0 (decide (a0 > 345600)))
theorem clock_Text.mono_l : ∀ k, (∀ y0 y1, LeO (clock_Text.j0 k y0 y1) (clock_Text.j0 (k + 1) y0 y1)) ∧ (∀ y0 y1, LeO (clock_Text.j1 k y0 y1) (clock_Text.j1 (k + 1) y0 y1))
 | 0 => ⟨fun _ _ r h => by simp [clock_Text.j0] at h, fun _ _ r h => by simp [clock_Text.j1] at h⟩
 | k + 1 => by
  obtain ⟨ih0, ih1⟩ := clock_Text.mono_l k
  refine ⟨?_, ?_⟩
  ·intro y0 y1
   unfold clock_Text.j0
   repeat' first
   | (with_reducible exact ih0 _ _)
   | (with_reducible exact ih1 _ _)
   | (with_reducible exact LeO.refl _)
   | (with_reducible exact LeO.none _)
   | (with_reducible refine LeO.ite ?_ ?_)
   | (with_reducible refine LeO.bind ?_ (fun _ => ?_))
   | exact ih0 _ _
   | exact ih1 _ _
   | exact LeO.none _
   | refine LeO.ite ?_ ?_
   | refine LeO.bind ?_ (fun _ => ?_)
  ·intro y0 y1
   unfold clock_Text.j1
   repeat' first
   | (with_reducible exact ih0 _ _)
   | (with_reducible exact ih1 _ _)
   | (with_reducible exact LeO.refl _)
   | (with_reducible exact LeO.none _)
   | (with_reducible refine LeO.ite ?_ ?_)
   | (with_reducible refine LeO.bind ?_ (fun _ => ?_))
   | exact ih0 _ _
   | exact ih1 _ _
   | exact LeO.none _
   | refine LeO.ite ?_ ?_
   | refine LeO.bind ?_ (fun _ => ?_)
theorem clock_Text.mono : ∀ a0 k, LeO (clock_Text.f k a0) (clock_Text.f (k + 1) a0) := by
 intro a0 k
 obtain ⟨ih0, ih1⟩ := clock_Text.mono_l k
 unfold clock_Text.f
 repeat' first
   | (with_reducible exact ih0 _ _)
   | (with_reducible exact ih1 _ _)
   | (with_reducible exact LeO.refl _)
   | (with_reducible exact LeO.none _)
   | (with_reducible refine LeO.ite ?_ ?_)
   | (with_reducible refine LeO.bind ?_ (fun _ => ?_))
   | exact ih0 _ _
   | exact ih1 _ _
   | exact LeO.none _
   | refine LeO.ite ?_ ?_
   | refine LeO.bind ?_ (fun _ => ?_)
set_option maxHeartbeats 8000000 in
set_option maxRecDepth 100000 in
theorem clock_Text.calls (k : Nat) (a0 : Int) (r1 : ByteArray) (r2 : Int) (w : World) (hG : GP w) (h : clock_Text.f k a0 = some (r1, r2)) :
  Calls Tryd.prog 34 #[.int .i64 a0] w fun e w' => e = .returned (.tuple #[.string r1, .int .i64 r2]) ∧ Below w.heap.size w w' := by
 have HG := Aside0.mk hG
 clear hG
 have HB := Aside0.mk (Below.refl w.heap.size w)
 have H : (if a0 < (-345600) then (clock_Text.j0 k a0 true) else (clock_Text.j0 k a0 (decide (a0 > 345600)))) = some (r1, r2) := h
 clear h
 have HC2 := Aside0.mk H
 clear H
 go_enter Tryd.func34, Tryd.ntmps34
 go_upto_region 1 with (fail)
 go_cut [11] (fun v11 wc => ∃ (kq : Nat) (x11_1 : Bool), v11 = .bool x11_1 ∧ Aside0 (clock_Text.j0 kq a0 x11_1 = some (r1, r2)) ∧ Aside0 (kq ≤ k) ∧ Aside0 (Below w.heap.size w wc))
 case first =>
  have H := HC2.out
  clear HC2
  by_cases c3 : a0 < (-345600)
  ·rw [if_pos c3] at H
   have c3b0 : decide (a0 < (-345600)) = true := decide_eq_true c3
   clear c3
   (first | rw [c3b0] | (simp only [i64_w, i32_w]; rw [c3b0]) | skip)
   have H' := Aside0.mk H
   clear H
   go_wp2
   go_meet
   case rel => exact ⟨_, (true), (by first | rfl | (simp; done) | (simp [*]; done)), H', ⟨by first | omega | exact Nat.le_refl _⟩, ⟨by repeat (first | (with_reducible first | exact HB.out | apply below_alloc | apply pw_below_drewN | apply below_drew1) | exact HB.out)⟩⟩
  ·rw [if_neg c3] at H
   have c3b0 : decide (a0 < (-345600)) = false := decide_eq_false c3
   clear c3
   (first | rw [c3b0] | (simp only [i64_w, i32_w]; rw [c3b0]) | skip)
   have H' := Aside0.mk H
   clear H
   go_wp2
   go_meet
   case rel => exact ⟨_, (decide (a0 > 345600)), (by first | rfl | (simp; done) | (simp [*]; done)), H', ⟨by first | omega | exact Nat.le_refl _⟩, ⟨by repeat (first | (with_reducible first | exact HB.out | apply below_alloc | apply pw_below_drewN | apply below_drew1) | exact HB.out)⟩⟩
 case rest =>
  as_aux_lemma =>
   clear HC2
   try clear p2
   try clear c3
   try clear c3b0
   obtain ⟨kq, x11_1, rfl, HA, HJ1, HB⟩ := hcut
   cases kq with
   | zero => exact absurd HA.out (by simp [clock_Text.j0])
   | succ kj1 =>
    have H := HA.out
    clear HA
    simp only [clock_Text.j0] at H
    by_cases c4 : x11_1 = true
    ·subst c4
     have H1 : (some ((⟨#[]⟩ : ByteArray), 5)) = some (r1, r2) := by rw [if_pos rfl] at H; exact H
     clear H
     have H := H1
     clear H1
     simp only [Option.some.injEq, Prod.mk.injEq] at H
     obtain ⟨rfl, rfl⟩ := H
     go_wp2
     go_ret2
     exact ⟨by first | rfl | (simp [errW_none, errW_some] <;> rfl) | (simp [*, errW_none, errW_some] <;> rfl), by repeat (first | (with_reducible first | exact HB.out | apply below_alloc | apply pw_below_drewN | apply below_drew1) | exact HB.out)⟩
    ·replace c4 := Bool.eq_false_iff.mpr c4
     subst c4
     have H1 : (if a0 < 0 then (clock_Text.j1 kj1 (wrap64 (-a0)) (⟨#[45]⟩ : ByteArray)) else (clock_Text.j1 kj1 a0 (⟨#[]⟩ : ByteArray))) = some (r1, r2) := by rw [if_neg (show ¬ (false = true) by decide)] at H; exact H
     clear H
     have H := H1
     clear H1
     have HC5 := Aside0.mk H
     clear H
     go_upto_if 13 with (fail)
     go_cut [0, 4] (fun v0 v4 wc => ∃ (kq : Nat) (x0_4 : Int) (x4_4 : ByteArray), v0 = .int .i64 x0_4 ∧ v4 = .string x4_4 ∧ Aside0 (clock_Text.j1 kq x0_4 x4_4 = some (r1, r2)) ∧ Aside0 (kq ≤ kj1) ∧ Aside0 (Below w.heap.size w wc))
     case first =>
      have H := HC5.out
      clear HC5
      by_cases c6 : a0 < 0
      ·rw [if_pos c6] at H
       have c6b0 : decide (a0 < 0) = true := decide_eq_true c6
       clear c6
       (first | rw [c6b0] | (simp only [i64_w, i32_w]; rw [c6b0]) | skip)
       have H' := Aside0.mk H
       clear H
       go_wp2
       go_meet
       case rel => exact ⟨_, (wrap64 (-a0)), ((⟨#[45]⟩ : ByteArray)), (by first | rfl | (simp; done) | (simp [*]; done)), (by first | rfl | (simp; done) | (simp [*]; done)), H', ⟨by have := HJ1.out; first | omega | exact Nat.le_refl _⟩, ⟨by repeat (first | (with_reducible first | exact HB.out | apply below_alloc | apply pw_below_drewN | apply below_drew1) | exact HB.out)⟩⟩
      ·rw [if_neg c6] at H
       have c6b0 : decide (a0 < 0) = false := decide_eq_false c6
       clear c6
       (first | rw [c6b0] | (simp only [i64_w, i32_w]; rw [c6b0]) | skip)
       have H' := Aside0.mk H
       clear H
       go_wp2
       go_meet
       case rel => exact ⟨_, (a0), ((⟨#[]⟩ : ByteArray)), (by first | rfl | (simp; done) | (simp [*]; done)), (by first | rfl | (simp; done) | (simp [*]; done)), H', ⟨by have := HJ1.out; first | omega | exact Nat.le_refl _⟩, ⟨by repeat (first | (with_reducible first | exact HB.out | apply below_alloc | apply pw_below_drewN | apply below_drew1) | exact HB.out)⟩⟩
     case rest =>
      as_aux_lemma =>
       clear HC5
       try clear p2
       try clear c3
       try clear c3b0
       try clear c4
       try clear c6
       try clear c6b0
       try clear p6
       try clear p2
       obtain ⟨kq, x0_4, x4_4, rfl, rfl, HA, HJ4, HB⟩ := hcut
       cases kq with
       | zero => exact absurd HA.out (by simp [clock_Text.j1])
       | succ kj4 =>
        have H := HA.out
        clear HA
        simp only [clock_Text.j1] at H
        replace H := Option.bind_eq_some_iff.mp H
        obtain ⟨t113, A70, H⟩ := H
        replace H : (if x4_4.size + t113.size ≤ 9223372036854775807 then (if (Int.tmod x0_4 3600) = 0 then (if (Int.tmod x0_4 60) = 0 then (some (x4_4 ++ t113, 0)) else ((num_Text.f (Int.tmod x0_4 60) 2).bind fun t114 => (if 1 + t114.size ≤ 9223372036854775807 then (if (x4_4 ++ t113).size + ((⟨#[58]⟩ : ByteArray) ++ t114).size ≤ 9223372036854775807 then (some ((x4_4 ++ t113) ++ ((⟨#[58]⟩ : ByteArray) ++ t114), 0)) else (none)) else (none)))) else ((num_Text.f (wrap64 (Int.tdiv (Int.tmod x0_4 3600) 60)) 2).bind fun t115 => (if 1 + t115.size ≤ 9223372036854775807 then (if (x4_4 ++ t113).size + ((⟨#[58]⟩ : ByteArray) ++ t115).size ≤ 9223372036854775807 then (if (Int.tmod x0_4 60) = 0 then (some ((x4_4 ++ t113) ++ ((⟨#[58]⟩ : ByteArray) ++ t115), 0)) else ((num_Text.f (Int.tmod x0_4 60) 2).bind fun t116 => (if 1 + t116.size ≤ 9223372036854775807 then (if ((x4_4 ++ t113) ++ ((⟨#[58]⟩ : ByteArray) ++ t115)).size + ((⟨#[58]⟩ : ByteArray) ++ t116).size ≤ 9223372036854775807 then (some (((x4_4 ++ t113) ++ ((⟨#[58]⟩ : ByteArray) ++ t115)) ++ ((⟨#[58]⟩ : ByteArray) ++ t116), 0)) else (none)) else (none)))) else (none)) else (none)))) else (none)) = some (r1, r2) := H
        have A7 := Aside0.mk A70
        clear A70
        by_cases c8 : x4_4.size + t113.size ≤ 9223372036854775807
        ·rw [if_pos c8] at H
         have c8b0 := eq_true c8
         have c8b1 : decide (x4_4.size + t113.size ≤ 9223372036854775807) = true := decide_eq_true c8
         try have c8b2 : (9223372036854775807 < x4_4.size + t113.size) = False := eq_false (Nat.not_lt.2 c8)
         by_cases c9 : (Int.tmod x0_4 3600) = 0
         ·rw [if_pos c9] at H
          have c9b0 : ((Int.tmod x0_4 3600) == 0) = true := beq_iff_eq.mpr c9
          have c9b1 : ((Int.tmod x0_4 3600) != 0) = false := bne_eq_false_iff_eq.mpr c9
          clear c9
          by_cases c10 : (Int.tmod x0_4 60) = 0
          ·rw [if_pos c10] at H
           have c10b0 : ((Int.tmod x0_4 60) == 0) = true := beq_iff_eq.mpr c10
           have c10b1 : ((Int.tmod x0_4 60) != 0) = false := bne_eq_false_iff_eq.mpr c10
           clear c10
           simp only [Option.some.injEq, Prod.mk.injEq] at H
           obtain ⟨rfl, rfl⟩ := H
           go_wp2_with (first | ((with_reducible refine gate_callee (f := 15) rfl ?_); refine goesL_ (some 19) rfl rfl Tryd.func15 (by kernel_rfl) rfl #[.int .i64 (wrap64 (Int.tdiv x0_4 3600)), .int .i64 1] rfl (by (try simp only [List.map_toArray, List.map_cons, List.map_nil]); first | done | rfl | (simp only [List.length_drop, List.length_take]; rfl)) ?_; (with_reducible refine (num_Text.calls (wrap64 (Int.tdiv x0_4 3600)) 1 t113 _ ?sideG A7.out).mono ?_); (case sideG => first | exact GP_below HG.out (by repeat (first | (with_reducible first | exact HB.out | apply below_alloc | apply pw_below_drewN | apply below_drew1) | exact HB.out)) | repeat (first | exact HG.out | refine GP_alloc ?_ _ | refine GP_drewN ?_ _ | refine GP_drew ?_)); rintro e w11 ⟨rfl, hb⟩; refine ⟨_, rfl, ?_⟩; have n0_ := Aside0.mk (below_step (by repeat (first | (with_reducible first | exact HB.out | apply below_alloc | apply pw_below_drewN | apply below_drew1) | exact HB.out)) hb); clear HB; have HB := n0_; clear n0_; (try clear hb); (try clear hb2); (try clear hk); (try clear hi)))
           go_ret2
           exact ⟨by first | rfl | (simp [errW_none, errW_some] <;> rfl) | (simp [*, errW_none, errW_some] <;> rfl), by repeat (first | (with_reducible first | exact HB.out | apply below_alloc | apply pw_below_drewN | apply below_drew1) | exact HB.out)⟩
          ·rw [if_neg c10] at H
           have c10b0 : ((Int.tmod x0_4 60) == 0) = false := beq_eq_false_iff_ne.mpr c10
           have c10b1 : ((Int.tmod x0_4 60) != 0) = true := bne_iff_ne.mpr c10
           replace H := Option.bind_eq_some_iff.mp H
           obtain ⟨t114, A120, H⟩ := H
           replace H : (if 1 + t114.size ≤ 9223372036854775807 then (if (x4_4 ++ t113).size + ((⟨#[58]⟩ : ByteArray) ++ t114).size ≤ 9223372036854775807 then (some ((x4_4 ++ t113) ++ ((⟨#[58]⟩ : ByteArray) ++ t114), 0)) else (none)) else (none)) = some (r1, r2) := H
           have A12 := Aside0.mk A120
           clear A120
           by_cases c13 : 1 + t114.size ≤ 9223372036854775807
           ·rw [if_pos c13] at H
            have c13b0 := eq_true c13
            have c13b1 : decide (1 + t114.size ≤ 9223372036854775807) = true := decide_eq_true c13
            try have c13b2 : (9223372036854775807 < 1 + t114.size) = False := eq_false (Nat.not_lt.2 c13)
            by_cases c14 : (x4_4 ++ t113).size + ((⟨#[58]⟩ : ByteArray) ++ t114).size ≤ 9223372036854775807
            ·rw [if_pos c14] at H
             have c14b0 := eq_true c14
             have c14b1 : decide ((x4_4 ++ t113).size + ((⟨#[58]⟩ : ByteArray) ++ t114).size ≤ 9223372036854775807) = true := decide_eq_true c14
             try have c14b3 : (9223372036854775807 < (x4_4.size + t113.size) + (1 + t114.size)) = False := eq_false (Nat.not_lt.2 (by have h_ := c14; simp only [ByteArray.size_append, show (⟨#[58]⟩ : ByteArray).size = 1 from rfl] at h_; omega))
             try have c14b2 : (9223372036854775807 < (x4_4 ++ t113).size + ((⟨#[58]⟩ : ByteArray) ++ t114).size) = False := eq_false (Nat.not_lt.2 c14)
             simp only [Option.some.injEq, Prod.mk.injEq] at H
             obtain ⟨rfl, rfl⟩ := H
             go_wp2_with (first | ((with_reducible refine gate_callee (f := 15) rfl ?_); refine goesL_ (some 19) rfl rfl Tryd.func15 (by kernel_rfl) rfl #[.int .i64 (wrap64 (Int.tdiv x0_4 3600)), .int .i64 1] rfl (by (try simp only [List.map_toArray, List.map_cons, List.map_nil]); first | done | rfl | (simp only [List.length_drop, List.length_take]; rfl)) ?_; (with_reducible refine (num_Text.calls (wrap64 (Int.tdiv x0_4 3600)) 1 t113 _ ?sideG A7.out).mono ?_); (case sideG => first | exact GP_below HG.out (by repeat (first | (with_reducible first | exact HB.out | apply below_alloc | apply pw_below_drewN | apply below_drew1) | exact HB.out)) | repeat (first | exact HG.out | refine GP_alloc ?_ _ | refine GP_drewN ?_ _ | refine GP_drew ?_)); rintro e w15 ⟨rfl, hb⟩; refine ⟨_, rfl, ?_⟩; have n0_ := Aside0.mk (below_step (by repeat (first | (with_reducible first | exact HB.out | apply below_alloc | apply pw_below_drewN | apply below_drew1) | exact HB.out)) hb); clear HB; have HB := n0_; clear n0_; (try clear hb); (try clear hb2); (try clear hk); (try clear hi)) | ((with_reducible refine gate_callee (f := 15) rfl ?_); refine goesL_ (some 37) rfl rfl Tryd.func15 (by kernel_rfl) rfl #[.int .i64 (Int.tmod x0_4 60), .int .i64 2] rfl (by (try simp only [List.map_toArray, List.map_cons, List.map_nil]); first | done | rfl | (simp only [List.length_drop, List.length_take]; rfl)) ?_; (with_reducible refine (num_Text.calls (Int.tmod x0_4 60) 2 t114 _ ?sideG A12.out).mono ?_); (case sideG => first | exact GP_below HG.out (by repeat (first | (with_reducible first | exact HB.out | apply below_alloc | apply pw_below_drewN | apply below_drew1) | exact HB.out)) | repeat (first | exact HG.out | refine GP_alloc ?_ _ | refine GP_drewN ?_ _ | refine GP_drew ?_)); rintro e w16 ⟨rfl, hb⟩; refine ⟨_, rfl, ?_⟩; have n0_ := Aside0.mk (below_step (by repeat (first | (with_reducible first | exact HB.out | apply below_alloc | apply pw_below_drewN | apply below_drew1) | exact HB.out)) hb); clear HB; have HB := n0_; clear n0_; (try clear hb); (try clear hb2); (try clear hk); (try clear hi)))
             go_ret2
             exact ⟨by first | rfl | (simp [errW_none, errW_some] <;> rfl) | (simp [*, errW_none, errW_some] <;> rfl), by repeat (first | (with_reducible first | exact HB.out | apply below_alloc | apply pw_below_drewN | apply below_drew1) | exact HB.out)⟩
            ·rw [if_neg c14] at H
             exact absurd H (by simp)
           ·rw [if_neg c13] at H
            exact absurd H (by simp)
         ·rw [if_neg c9] at H
          have c9b0 : ((Int.tmod x0_4 3600) == 0) = false := beq_eq_false_iff_ne.mpr c9
          have c9b1 : ((Int.tmod x0_4 3600) != 0) = true := bne_iff_ne.mpr c9
          replace H := Option.bind_eq_some_iff.mp H
          obtain ⟨t115, A170, H⟩ := H
          replace H : (if 1 + t115.size ≤ 9223372036854775807 then (if (x4_4 ++ t113).size + ((⟨#[58]⟩ : ByteArray) ++ t115).size ≤ 9223372036854775807 then (if (Int.tmod x0_4 60) = 0 then (some ((x4_4 ++ t113) ++ ((⟨#[58]⟩ : ByteArray) ++ t115), 0)) else ((num_Text.f (Int.tmod x0_4 60) 2).bind fun t116 => (if 1 + t116.size ≤ 9223372036854775807 then (if ((x4_4 ++ t113) ++ ((⟨#[58]⟩ : ByteArray) ++ t115)).size + ((⟨#[58]⟩ : ByteArray) ++ t116).size ≤ 9223372036854775807 then (some (((x4_4 ++ t113) ++ ((⟨#[58]⟩ : ByteArray) ++ t115)) ++ ((⟨#[58]⟩ : ByteArray) ++ t116), 0)) else (none)) else (none)))) else (none)) else (none)) = some (r1, r2) := H
          have A17 := Aside0.mk A170
          clear A170
          by_cases c18 : 1 + t115.size ≤ 9223372036854775807
          ·rw [if_pos c18] at H
           have c18b0 := eq_true c18
           have c18b1 : decide (1 + t115.size ≤ 9223372036854775807) = true := decide_eq_true c18
           try have c18b2 : (9223372036854775807 < 1 + t115.size) = False := eq_false (Nat.not_lt.2 c18)
           by_cases c19 : (x4_4 ++ t113).size + ((⟨#[58]⟩ : ByteArray) ++ t115).size ≤ 9223372036854775807
           ·rw [if_pos c19] at H
            have c19b0 := eq_true c19
            have c19b1 : decide ((x4_4 ++ t113).size + ((⟨#[58]⟩ : ByteArray) ++ t115).size ≤ 9223372036854775807) = true := decide_eq_true c19
            try have c19b3 : (9223372036854775807 < (x4_4.size + t113.size) + (1 + t115.size)) = False := eq_false (Nat.not_lt.2 (by have h_ := c19; simp only [ByteArray.size_append, show (⟨#[58]⟩ : ByteArray).size = 1 from rfl] at h_; omega))
            try have c19b2 : (9223372036854775807 < (x4_4 ++ t113).size + ((⟨#[58]⟩ : ByteArray) ++ t115).size) = False := eq_false (Nat.not_lt.2 c19)
            by_cases c20 : (Int.tmod x0_4 60) = 0
            ·rw [if_pos c20] at H
             have c20b0 : ((Int.tmod x0_4 60) == 0) = true := beq_iff_eq.mpr c20
             have c20b1 : ((Int.tmod x0_4 60) != 0) = false := bne_eq_false_iff_eq.mpr c20
             clear c20
             simp only [Option.some.injEq, Prod.mk.injEq] at H
             obtain ⟨rfl, rfl⟩ := H
             go_wp2_with (first | ((with_reducible refine gate_callee (f := 15) rfl ?_); refine goesL_ (some 19) rfl rfl Tryd.func15 (by kernel_rfl) rfl #[.int .i64 (wrap64 (Int.tdiv x0_4 3600)), .int .i64 1] rfl (by (try simp only [List.map_toArray, List.map_cons, List.map_nil]); first | done | rfl | (simp only [List.length_drop, List.length_take]; rfl)) ?_; (with_reducible refine (num_Text.calls (wrap64 (Int.tdiv x0_4 3600)) 1 t113 _ ?sideG A7.out).mono ?_); (case sideG => first | exact GP_below HG.out (by repeat (first | (with_reducible first | exact HB.out | apply below_alloc | apply pw_below_drewN | apply below_drew1) | exact HB.out)) | repeat (first | exact HG.out | refine GP_alloc ?_ _ | refine GP_drewN ?_ _ | refine GP_drew ?_)); rintro e w21 ⟨rfl, hb⟩; refine ⟨_, rfl, ?_⟩; have n0_ := Aside0.mk (below_step (by repeat (first | (with_reducible first | exact HB.out | apply below_alloc | apply pw_below_drewN | apply below_drew1) | exact HB.out)) hb); clear HB; have HB := n0_; clear n0_; (try clear hb); (try clear hb2); (try clear hk); (try clear hi)) | ((with_reducible refine gate_callee (f := 15) rfl ?_); refine goesL_ (some 28) rfl rfl Tryd.func15 (by kernel_rfl) rfl #[.int .i64 (wrap64 (Int.tdiv (Int.tmod x0_4 3600) 60)), .int .i64 2] rfl (by (try simp only [List.map_toArray, List.map_cons, List.map_nil]); first | done | rfl | (simp only [List.length_drop, List.length_take]; rfl)) ?_; (with_reducible refine (num_Text.calls (wrap64 (Int.tdiv (Int.tmod x0_4 3600) 60)) 2 t115 _ ?sideG A17.out).mono ?_); (case sideG => first | exact GP_below HG.out (by repeat (first | (with_reducible first | exact HB.out | apply below_alloc | apply pw_below_drewN | apply below_drew1) | exact HB.out)) | repeat (first | exact HG.out | refine GP_alloc ?_ _ | refine GP_drewN ?_ _ | refine GP_drew ?_)); rintro e w22 ⟨rfl, hb⟩; refine ⟨_, rfl, ?_⟩; have n0_ := Aside0.mk (below_step (by repeat (first | (with_reducible first | exact HB.out | apply below_alloc | apply pw_below_drewN | apply below_drew1) | exact HB.out)) hb); clear HB; have HB := n0_; clear n0_; (try clear hb); (try clear hb2); (try clear hk); (try clear hi)))
             go_ret2
             exact ⟨by first | rfl | (simp [errW_none, errW_some] <;> rfl) | (simp [*, errW_none, errW_some] <;> rfl), by repeat (first | (with_reducible first | exact HB.out | apply below_alloc | apply pw_below_drewN | apply below_drew1) | exact HB.out)⟩
            ·rw [if_neg c20] at H
             have c20b0 : ((Int.tmod x0_4 60) == 0) = false := beq_eq_false_iff_ne.mpr c20
             have c20b1 : ((Int.tmod x0_4 60) != 0) = true := bne_iff_ne.mpr c20
             replace H := Option.bind_eq_some_iff.mp H
             obtain ⟨t116, A230, H⟩ := H
             replace H : (if 1 + t116.size ≤ 9223372036854775807 then (if ((x4_4 ++ t113) ++ ((⟨#[58]⟩ : ByteArray) ++ t115)).size + ((⟨#[58]⟩ : ByteArray) ++ t116).size ≤ 9223372036854775807 then (some (((x4_4 ++ t113) ++ ((⟨#[58]⟩ : ByteArray) ++ t115)) ++ ((⟨#[58]⟩ : ByteArray) ++ t116), 0)) else (none)) else (none)) = some (r1, r2) := H
             have A23 := Aside0.mk A230
             clear A230
             by_cases c24 : 1 + t116.size ≤ 9223372036854775807
             ·rw [if_pos c24] at H
              have c24b0 := eq_true c24
              have c24b1 : decide (1 + t116.size ≤ 9223372036854775807) = true := decide_eq_true c24
              try have c24b2 : (9223372036854775807 < 1 + t116.size) = False := eq_false (Nat.not_lt.2 c24)
              by_cases c25 : ((x4_4 ++ t113) ++ ((⟨#[58]⟩ : ByteArray) ++ t115)).size + ((⟨#[58]⟩ : ByteArray) ++ t116).size ≤ 9223372036854775807
              ·rw [if_pos c25] at H
               have c25b0 := eq_true c25
               have c25b1 : decide (((x4_4 ++ t113) ++ ((⟨#[58]⟩ : ByteArray) ++ t115)).size + ((⟨#[58]⟩ : ByteArray) ++ t116).size ≤ 9223372036854775807) = true := decide_eq_true c25
               try have c25b3 : (9223372036854775807 < ((x4_4.size + t113.size) + (1 + t115.size)) + (1 + t116.size)) = False := eq_false (Nat.not_lt.2 (by have h_ := c25; simp only [ByteArray.size_append, show (⟨#[58]⟩ : ByteArray).size = 1 from rfl] at h_; omega))
               try have c25b2 : (9223372036854775807 < ((x4_4 ++ t113) ++ ((⟨#[58]⟩ : ByteArray) ++ t115)).size + ((⟨#[58]⟩ : ByteArray) ++ t116).size) = False := eq_false (Nat.not_lt.2 c25)
               simp only [Option.some.injEq, Prod.mk.injEq] at H
               obtain ⟨rfl, rfl⟩ := H
               go_wp2_with (first | ((with_reducible refine gate_callee (f := 15) rfl ?_); refine goesL_ (some 19) rfl rfl Tryd.func15 (by kernel_rfl) rfl #[.int .i64 (wrap64 (Int.tdiv x0_4 3600)), .int .i64 1] rfl (by (try simp only [List.map_toArray, List.map_cons, List.map_nil]); first | done | rfl | (simp only [List.length_drop, List.length_take]; rfl)) ?_; (with_reducible refine (num_Text.calls (wrap64 (Int.tdiv x0_4 3600)) 1 t113 _ ?sideG A7.out).mono ?_); (case sideG => first | exact GP_below HG.out (by repeat (first | (with_reducible first | exact HB.out | apply below_alloc | apply pw_below_drewN | apply below_drew1) | exact HB.out)) | repeat (first | exact HG.out | refine GP_alloc ?_ _ | refine GP_drewN ?_ _ | refine GP_drew ?_)); rintro e w26 ⟨rfl, hb⟩; refine ⟨_, rfl, ?_⟩; have n0_ := Aside0.mk (below_step (by repeat (first | (with_reducible first | exact HB.out | apply below_alloc | apply pw_below_drewN | apply below_drew1) | exact HB.out)) hb); clear HB; have HB := n0_; clear n0_; (try clear hb); (try clear hb2); (try clear hk); (try clear hi)) | ((with_reducible refine gate_callee (f := 15) rfl ?_); refine goesL_ (some 28) rfl rfl Tryd.func15 (by kernel_rfl) rfl #[.int .i64 (wrap64 (Int.tdiv (Int.tmod x0_4 3600) 60)), .int .i64 2] rfl (by (try simp only [List.map_toArray, List.map_cons, List.map_nil]); first | done | rfl | (simp only [List.length_drop, List.length_take]; rfl)) ?_; (with_reducible refine (num_Text.calls (wrap64 (Int.tdiv (Int.tmod x0_4 3600) 60)) 2 t115 _ ?sideG A17.out).mono ?_); (case sideG => first | exact GP_below HG.out (by repeat (first | (with_reducible first | exact HB.out | apply below_alloc | apply pw_below_drewN | apply below_drew1) | exact HB.out)) | repeat (first | exact HG.out | refine GP_alloc ?_ _ | refine GP_drewN ?_ _ | refine GP_drew ?_)); rintro e w27 ⟨rfl, hb⟩; refine ⟨_, rfl, ?_⟩; have n0_ := Aside0.mk (below_step (by repeat (first | (with_reducible first | exact HB.out | apply below_alloc | apply pw_below_drewN | apply below_drew1) | exact HB.out)) hb); clear HB; have HB := n0_; clear n0_; (try clear hb); (try clear hb2); (try clear hk); (try clear hi)) | ((with_reducible refine gate_callee (f := 15) rfl ?_); refine goesL_ (some 37) rfl rfl Tryd.func15 (by kernel_rfl) rfl #[.int .i64 (Int.tmod x0_4 60), .int .i64 2] rfl (by (try simp only [List.map_toArray, List.map_cons, List.map_nil]); first | done | rfl | (simp only [List.length_drop, List.length_take]; rfl)) ?_; (with_reducible refine (num_Text.calls (Int.tmod x0_4 60) 2 t116 _ ?sideG A23.out).mono ?_); (case sideG => first | exact GP_below HG.out (by repeat (first | (with_reducible first | exact HB.out | apply below_alloc | apply pw_below_drewN | apply below_drew1) | exact HB.out)) | repeat (first | exact HG.out | refine GP_alloc ?_ _ | refine GP_drewN ?_ _ | refine GP_drew ?_)); rintro e w28 ⟨rfl, hb⟩; refine ⟨_, rfl, ?_⟩; have n0_ := Aside0.mk (below_step (by repeat (first | (with_reducible first | exact HB.out | apply below_alloc | apply pw_below_drewN | apply below_drew1) | exact HB.out)) hb); clear HB; have HB := n0_; clear n0_; (try clear hb); (try clear hb2); (try clear hk); (try clear hi)))
               go_ret2
               exact ⟨by first | rfl | (simp [errW_none, errW_some] <;> rfl) | (simp [*, errW_none, errW_some] <;> rfl), by repeat (first | (with_reducible first | exact HB.out | apply below_alloc | apply pw_below_drewN | apply below_drew1) | exact HB.out)⟩
              ·rw [if_neg c25] at H
               exact absurd H (by simp)
             ·rw [if_neg c24] at H
              exact absurd H (by simp)
           ·rw [if_neg c19] at H
            exact absurd H (by simp)
          ·rw [if_neg c18] at H
           exact absurd H (by simp)
        ·rw [if_neg c8] at H
         exact absurd H (by simp)
def clock_Split.f (a0 : Int) : Option (Int × Int) := if (Int.tmod a0 86400) < 0 then (some (wrap64 ((wrap64 (Int.tdiv a0 86400)) - 1), wrap64 ((Int.tmod a0 86400) + 86400))) else (some (wrap64 (Int.tdiv a0 86400), Int.tmod a0 86400))
set_option maxHeartbeats 8000000 in
set_option maxRecDepth 100000 in
theorem clock_Split.calls (a0 : Int) (r1 : Int) (r2 : Int) (w : World) (h : clock_Split.f a0 = some (r1, r2)) :
  Calls Tryd.prog 35 #[.int .i64 a0] w fun e w' => e = .returned (.tuple #[.int .i64 r1, .int .i64 r2]) ∧ Drawn0 w w' := by
 have H : (if (Int.tmod a0 86400) < 0 then (some (wrap64 ((wrap64 (Int.tdiv a0 86400)) - 1), wrap64 ((Int.tmod a0 86400) + 86400))) else (some (wrap64 (Int.tdiv a0 86400), Int.tmod a0 86400))) = some (r1, r2) := h
 clear h
 by_cases c2 : (Int.tmod a0 86400) < 0
 ·rw [if_pos c2] at H
  have c2b0 : decide ((Int.tmod a0 86400) < 0) = true := decide_eq_true c2
  clear c2
  simp only [Option.some.injEq, Prod.mk.injEq] at H
  obtain ⟨rfl, rfl⟩ := H
  go_enter Tryd.func35, Tryd.ntmps35
  go_wp2
  go_ret2
  exact ⟨by first | rfl | (simp; done) | (simp [*]; done), by repeat (first | exact Drawn0.refl _ | apply Drawn0.step)⟩
 ·rw [if_neg c2] at H
  have c2b0 : decide ((Int.tmod a0 86400) < 0) = false := decide_eq_false c2
  clear c2
  simp only [Option.some.injEq, Prod.mk.injEq] at H
  obtain ⟨rfl, rfl⟩ := H
  go_enter Tryd.func35, Tryd.ntmps35
  go_wp2
  go_ret2
  exact ⟨by first | rfl | (simp; done) | (simp [*]; done), by repeat (first | exact Drawn0.refl _ | apply Drawn0.step)⟩
def clock_Join.j0 : Nat → Int → Int → Bool → Option (Int × Bool)
 | 0, _, _, _ => none
 | k + 1, x7, x8, x28 => if x28 = true then (some (0, false)) else (if x8 > (wrap64 (Int.tdiv (wrap64 (4611686018427387904 - x7)) 86400)) then (some (0, false)) else (if x8 < (wrap64 (-(wrap64 (Int.tdiv (wrap64 (4611686018427387904 + x7)) 86400)))) then (some (0, false)) else (some (wrap64 ((wrap64 (x8 * 86400)) + x7), true))))
def clock_Join.f (k : Nat) (a0 : Int) (a1 : Int) : Option (Int × Bool) := (clock_Split.f a1).bind fun bt117 => (if ((decide (a0 ≥ 0)) == (decide (bt117.1 ≥ 0))) = true then (clock_Join.j0 k bt117.2 (wrap64 (a0 + bt117.1)) ((decide ((wrap64 (a0 + bt117.1)) ≥ 0)) != (decide (a0 ≥ 0)))) else (clock_Join.j0 k bt117.2 (wrap64 (a0 + bt117.1)) false))
theorem clock_Join.mono_l : ∀ k, (∀ y0 y1 y2, LeO (clock_Join.j0 k y0 y1 y2) (clock_Join.j0 (k + 1) y0 y1 y2))
 | 0 => fun _ _ _ r h => by simp [clock_Join.j0] at h
 | k + 1 => by
  have ih0 := clock_Join.mono_l k
  ·intro y0 y1 y2
   unfold clock_Join.j0
   repeat' first
   | (with_reducible exact ih0 _ _ _)
   | (with_reducible exact LeO.refl _)
   | (with_reducible exact LeO.none _)
   | (with_reducible refine LeO.ite ?_ ?_)
   | (with_reducible refine LeO.bind ?_ (fun _ => ?_))
   | exact ih0 _ _ _
   | exact LeO.none _
   | refine LeO.ite ?_ ?_
   | refine LeO.bind ?_ (fun _ => ?_)
theorem clock_Join.mono : ∀ a0 a1 k, LeO (clock_Join.f k a0 a1) (clock_Join.f (k + 1) a0 a1) := by
 intro a0 a1 k
 have ih0 := clock_Join.mono_l k
 unfold clock_Join.f
 repeat' first
   | (with_reducible exact ih0 _ _ _)
   | (with_reducible exact LeO.refl _)
   | (with_reducible exact LeO.none _)
   | (with_reducible refine LeO.ite ?_ ?_)
   | (with_reducible refine LeO.bind ?_ (fun _ => ?_))
   | exact ih0 _ _ _
   | exact LeO.none _
   | refine LeO.ite ?_ ?_
   | refine LeO.bind ?_ (fun _ => ?_)
set_option maxHeartbeats 8000000 in
set_option maxRecDepth 100000 in
theorem clock_Join.calls (k : Nat) (a0 : Int) (a1 : Int) (r1 : Int) (r2 : Bool) (w : World) (h : clock_Join.f k a0 a1 = some (r1, r2)) :
  Calls Tryd.prog 36 #[.int .i64 a0, .int .i64 a1] w fun e w' => e = .returned (.tuple #[.int .i64 r1, .bool r2]) ∧ Drawn0 w w' := by
 have H : ((clock_Split.f a1).bind fun bt117 => (if ((decide (a0 ≥ 0)) == (decide (bt117.1 ≥ 0))) = true then (clock_Join.j0 k bt117.2 (wrap64 (a0 + bt117.1)) ((decide ((wrap64 (a0 + bt117.1)) ≥ 0)) != (decide (a0 ≥ 0)))) else (clock_Join.j0 k bt117.2 (wrap64 (a0 + bt117.1)) false))) = some (r1, r2) := h
 clear h
 replace H := Option.bind_eq_some_iff.mp H
 obtain ⟨⟨t117, t118⟩, A30, H⟩ := H
 replace H : (if ((decide (a0 ≥ 0)) == (decide (t117 ≥ 0))) = true then (clock_Join.j0 k t118 (wrap64 (a0 + t117)) ((decide ((wrap64 (a0 + t117)) ≥ 0)) != (decide (a0 ≥ 0)))) else (clock_Join.j0 k t118 (wrap64 (a0 + t117)) false)) = some (r1, r2) := H
 have A3 := Aside0.mk A30
 clear A30
 have HC4 := Aside0.mk H
 clear H
 go_enter Tryd.func36, Tryd.ntmps36
 go_upto_region 3 with (first | ((with_reducible refine gate_callee (f := 35) rfl ?_); refine goesL_ (some 11) rfl rfl Tryd.func35 (by kernel_rfl) rfl #[.int .i64 a1] rfl (by (try simp only [List.map_toArray, List.map_cons, List.map_nil]); first | done | rfl | (simp only [List.length_drop, List.length_take]; rfl)) ?_; (with_reducible refine (clock_Split.calls a1 t117 t118 _ A3.out).mono ?_); rintro e w' ⟨rfl, ⟨nd, rfl⟩⟩; refine ⟨_, rfl, ?_⟩))
 (try simp only [Act.put, List.setIfInBounds_toArray, List.set_cons_zero, List.set_cons_succ])
 go_cut [28] (fun v28 wc => ∃ (kq : Nat) (x28_3 : Bool), v28 = .bool x28_3 ∧ Aside0 (clock_Join.j0 kq t118 (wrap64 (a0 + t117)) x28_3 = some (r1, r2)) ∧ Aside0 (kq ≤ k) ∧ Drawn0 w wc)
 case first =>
  have H := HC4.out
  clear HC4
  by_cases c5 : ((decide (a0 ≥ 0)) == (decide (t117 ≥ 0))) = true
  ·rw [if_pos c5] at H
   have c5b0 : ((decide (a0 ≥ 0)) == (decide (t117 ≥ 0))) = true := c5
   (try (have c5b1 : decide ((decide (a0 ≥ 0)) = (decide (t117 ≥ 0))) = true := by simpa using c5))
   (try (have c5b2 : ((decide (a0 ≥ 0)) == (decide (t117 ≥ 0))) = true := by simpa using c5))
   clear c5
   (first | rw [c5b0] | (simp only [i64_w, i32_w]; rw [c5b0]) | skip)
   have H' := Aside0.mk H
   clear H
   go_wp2
   go_meet
   case rel => exact ⟨_, (((decide ((wrap64 (a0 + t117)) ≥ 0)) != (decide (a0 ≥ 0)))), (by first | rfl | (simp; done) | (simp [*]; done)), H', ⟨by first | omega | exact Nat.le_refl _⟩, by repeat (first | exact Drawn0.refl _ | apply Drawn0.step)⟩
  ·rw [if_neg c5] at H
   have c5b0 : ((decide (a0 ≥ 0)) == (decide (t117 ≥ 0))) = false := by simpa using c5
   (try (have c5b1 : decide ((decide (a0 ≥ 0)) = (decide (t117 ≥ 0))) = false := by simpa using c5))
   (try (have c5b2 : ((decide (a0 ≥ 0)) == (decide (t117 ≥ 0))) = false := by simpa using c5))
   (try (have c5b3 : ¬ ((decide (a0 ≥ 0)) = (decide (t117 ≥ 0))) := by simpa using c5))
   clear c5
   (first | rw [c5b0] | (simp only [i64_w, i32_w]; rw [c5b0]) | skip)
   have H' := Aside0.mk H
   clear H
   go_wp2
   go_meet
   case rel => exact ⟨_, (false), (by first | rfl | (simp; done) | (simp [*]; done)), H', ⟨by first | omega | exact Nat.le_refl _⟩, by repeat (first | exact Drawn0.refl _ | apply Drawn0.step)⟩
 case rest =>
  clear HC4
  try clear p2
  try clear c3
  try clear c5
  try clear c5b0
  try clear c5b1
  try clear c5b2
  obtain ⟨kq, x28_3, rfl, HA, HJ3, ⟨mc3, rfl⟩⟩ := hcut
  cases kq with
  | zero => exact absurd HA.out (by simp [clock_Join.j0])
  | succ kj3 =>
   have H := HA.out
   clear HA
   simp only [clock_Join.j0] at H
   by_cases c6 : x28_3 = true
   ·subst c6
    have H1 : (some (0, false)) = some (r1, r2) := by rw [if_pos rfl] at H; exact H
    clear H
    have H := H1
    clear H1
    simp only [Option.some.injEq, Prod.mk.injEq] at H
    obtain ⟨rfl, rfl⟩ := H
    go_wp2
    go_ret2
    exact ⟨by first | rfl | (simp; done) | (simp [*]; done), by repeat (first | exact Drawn0.refl _ | apply Drawn0.step)⟩
   ·replace c6 := Bool.eq_false_iff.mpr c6
    subst c6
    have H1 : (if (wrap64 (a0 + t117)) > (wrap64 (Int.tdiv (wrap64 (4611686018427387904 - t118)) 86400)) then (some (0, false)) else (if (wrap64 (a0 + t117)) < (wrap64 (-(wrap64 (Int.tdiv (wrap64 (4611686018427387904 + t118)) 86400)))) then (some (0, false)) else (some (wrap64 ((wrap64 ((wrap64 (a0 + t117)) * 86400)) + t118), true)))) = some (r1, r2) := by rw [if_neg (show ¬ (false = true) by decide)] at H; exact H
    clear H
    have H := H1
    clear H1
    by_cases c7 : (wrap64 (a0 + t117)) > (wrap64 (Int.tdiv (wrap64 (4611686018427387904 - t118)) 86400))
    ·rw [if_pos c7] at H
     have c7b0 : decide ((wrap64 (Int.tdiv (wrap64 (4611686018427387904 - t118)) 86400)) < (wrap64 (a0 + t117))) = true := decide_eq_true c7
     clear c7
     simp only [Option.some.injEq, Prod.mk.injEq] at H
     obtain ⟨rfl, rfl⟩ := H
     go_wp2
     go_ret2
     exact ⟨by first | rfl | (simp; done) | (simp [*]; done), by repeat (first | exact Drawn0.refl _ | apply Drawn0.step)⟩
    ·rw [if_neg c7] at H
     have c7b0 : decide ((wrap64 (Int.tdiv (wrap64 (4611686018427387904 - t118)) 86400)) < (wrap64 (a0 + t117))) = false := decide_eq_false c7
     clear c7
     by_cases c8 : (wrap64 (a0 + t117)) < (wrap64 (-(wrap64 (Int.tdiv (wrap64 (4611686018427387904 + t118)) 86400))))
     ·rw [if_pos c8] at H
      have c8b0 : decide ((wrap64 (a0 + t117)) < (wrap64 (-(wrap64 (Int.tdiv (wrap64 (4611686018427387904 + t118)) 86400))))) = true := decide_eq_true c8
      clear c8
      simp only [Option.some.injEq, Prod.mk.injEq] at H
      obtain ⟨rfl, rfl⟩ := H
      go_wp2
      go_ret2
      exact ⟨by first | rfl | (simp; done) | (simp [*]; done), by repeat (first | exact Drawn0.refl _ | apply Drawn0.step)⟩
     ·rw [if_neg c8] at H
      have c8b0 : decide ((wrap64 (a0 + t117)) < (wrap64 (-(wrap64 (Int.tdiv (wrap64 (4611686018427387904 + t118)) 86400))))) = false := decide_eq_false c8
      clear c8
      simp only [Option.some.injEq, Prod.mk.injEq] at H
      obtain ⟨rfl, rfl⟩ := H
      go_wp2
      go_ret2
      exact ⟨by first | rfl | (simp; done) | (simp [*]; done), by repeat (first | exact Drawn0.refl _ | apply Drawn0.step)⟩
def solsticelaw04_wakes.f (k : Nat)  : Option (Bool) := (clock_Parse.f k (⟨#[45, 49, 58, 51, 48]⟩ : ByteArray)).bind fun bt119 => ((clock_Text.f k 3661).bind fun bt121 => ((clock_Split.f (-1)).bind fun bt123 => ((clock_Join.f k 1 (-1)).bind fun bt125 => (if bt119.2 = 0 then (if bt119.1 = (-5400) then (if bt121.2 = 0 then (if bt121.1.toList = ([49, 58, 48, 49, 58, 48, 49] : List UInt8) then (if bt123.1 = (-1) then (if bt123.2 = 86399 then (if bt125.2 = true then (some (bt125.1 == 86399)) else (some false)) else (some false)) else (some false)) else (some false)) else (some false)) else (some false)) else (some false)))))
theorem solsticelaw04_wakes.mono : ∀ k, LeO (solsticelaw04_wakes.f k ) (solsticelaw04_wakes.f (k + 1) ) := by
 intro  k
 unfold solsticelaw04_wakes.f
 repeat' first
   | (with_reducible exact clock_Join.mono _ _ _)
   | (with_reducible exact clock_Parse.mono _ _)
   | (with_reducible exact clock_Text.mono _ _)
   | (with_reducible exact LeO.refl _)
   | (with_reducible exact LeO.none _)
   | (with_reducible refine LeO.ite ?_ ?_)
   | (with_reducible refine LeO.bind ?_ (fun _ => ?_))
   | exact clock_Join.mono _ _ _
   | exact clock_Parse.mono _ _
   | exact clock_Text.mono _ _
   | exact LeO.none _
   | refine LeO.ite ?_ ?_
   | refine LeO.bind ?_ (fun _ => ?_)
set_option maxHeartbeats 8000000 in
set_option maxRecDepth 100000 in
theorem solsticelaw04_wakes.calls (k : Nat)  (r : Bool) (htrue : r = true) (w : World) (hG : GP w) (h : solsticelaw04_wakes.f k  = some r) :
  Calls Tryd.prog 39 #[] w fun e w' => e = .returned (.bool r) ∧ Below w.heap.size w w' := by
 have HG := Aside0.mk hG
 clear hG
 have HB := Aside0.mk (Below.refl w.heap.size w)
 have H : ((clock_Parse.f k (⟨#[45, 49, 58, 51, 48]⟩ : ByteArray)).bind fun bt119 => ((clock_Text.f k 3661).bind fun bt121 => ((clock_Split.f (-1)).bind fun bt123 => ((clock_Join.f k 1 (-1)).bind fun bt125 => (if bt119.2 = 0 then (if bt119.1 = (-5400) then (if bt121.2 = 0 then (if bt121.1.toList = ([49, 58, 48, 49, 58, 48, 49] : List UInt8) then (if bt123.1 = (-1) then (if bt123.2 = 86399 then (if bt125.2 = true then (some (bt125.1 == 86399)) else (some false)) else (some false)) else (some false)) else (some false)) else (some false)) else (some false)) else (some false)))))) = some r := h
 clear h
 replace H := Option.bind_eq_some_iff.mp H
 obtain ⟨⟨t119, t120⟩, A10, H⟩ := H
 replace H : ((clock_Text.f k 3661).bind fun bt121 => ((clock_Split.f (-1)).bind fun bt123 => ((clock_Join.f k 1 (-1)).bind fun bt125 => (if t120 = 0 then (if t119 = (-5400) then (if bt121.2 = 0 then (if bt121.1.toList = ([49, 58, 48, 49, 58, 48, 49] : List UInt8) then (if bt123.1 = (-1) then (if bt123.2 = 86399 then (if bt125.2 = true then (some (bt125.1 == 86399)) else (some false)) else (some false)) else (some false)) else (some false)) else (some false)) else (some false)) else (some false))))) = some r := H
 have A1 := Aside0.mk A10
 clear A10
 replace H := Option.bind_eq_some_iff.mp H
 obtain ⟨⟨t121, t122⟩, A20, H⟩ := H
 replace H : ((clock_Split.f (-1)).bind fun bt123 => ((clock_Join.f k 1 (-1)).bind fun bt125 => (if t120 = 0 then (if t119 = (-5400) then (if t122 = 0 then (if t121.toList = ([49, 58, 48, 49, 58, 48, 49] : List UInt8) then (if bt123.1 = (-1) then (if bt123.2 = 86399 then (if bt125.2 = true then (some (bt125.1 == 86399)) else (some false)) else (some false)) else (some false)) else (some false)) else (some false)) else (some false)) else (some false)))) = some r := H
 have A2 := Aside0.mk A20
 clear A20
 replace H := Option.bind_eq_some_iff.mp H
 obtain ⟨⟨t123, t124⟩, A30, H⟩ := H
 replace H : ((clock_Join.f k 1 (-1)).bind fun bt125 => (if t120 = 0 then (if t119 = (-5400) then (if t122 = 0 then (if t121.toList = ([49, 58, 48, 49, 58, 48, 49] : List UInt8) then (if t123 = (-1) then (if t124 = 86399 then (if bt125.2 = true then (some (bt125.1 == 86399)) else (some false)) else (some false)) else (some false)) else (some false)) else (some false)) else (some false)) else (some false))) = some r := H
 have A3 := Aside0.mk A30
 clear A30
 replace H := Option.bind_eq_some_iff.mp H
 obtain ⟨⟨t125, t126⟩, A40, H⟩ := H
 replace H : (if t120 = 0 then (if t119 = (-5400) then (if t122 = 0 then (if t121.toList = ([49, 58, 48, 49, 58, 48, 49] : List UInt8) then (if t123 = (-1) then (if t124 = 86399 then (if t126 = true then (some (t125 == 86399)) else (some false)) else (some false)) else (some false)) else (some false)) else (some false)) else (some false)) else (some false)) = some r := H
 have A4 := Aside0.mk A40
 clear A40
 by_cases c5 : t120 = 0
 ·rw [if_pos c5] at H
  have c5b0 : (t120 == 0) = true := beq_iff_eq.mpr c5
  have c5b1 : (t120 != 0) = false := bne_eq_false_iff_eq.mpr c5
  clear c5
  by_cases c6 : t119 = (-5400)
  ·rw [if_pos c6] at H
   have c6b0 : (t119 == (-5400)) = true := beq_iff_eq.mpr c6
   have c6b1 : (t119 != (-5400)) = false := bne_eq_false_iff_eq.mpr c6
   clear c6
   by_cases c7 : t122 = 0
   ·rw [if_pos c7] at H
    have c7b0 : (t122 == 0) = true := beq_iff_eq.mpr c7
    have c7b1 : (t122 != 0) = false := bne_eq_false_iff_eq.mpr c7
    clear c7
    by_cases c8 : t121.toList = ([49, 58, 48, 49, 58, 48, 49] : List UInt8)
    ·rw [if_pos c8] at H
     have c8b0 : (t121.toList == ([49, 58, 48, 49, 58, 48, 49] : List UInt8)) = true := beq_iff_eq.mpr c8
     have c8b1 : (t121.toList != ([49, 58, 48, 49, 58, 48, 49] : List UInt8)) = false := bne_eq_false_iff_eq.mpr c8
     clear c8
     by_cases c9 : t123 = (-1)
     ·rw [if_pos c9] at H
      have c9b0 : (t123 == (-1)) = true := beq_iff_eq.mpr c9
      have c9b1 : (t123 != (-1)) = false := bne_eq_false_iff_eq.mpr c9
      clear c9
      by_cases c10 : t124 = 86399
      ·rw [if_pos c10] at H
       have c10b0 : (t124 == 86399) = true := beq_iff_eq.mpr c10
       have c10b1 : (t124 != 86399) = false := bne_eq_false_iff_eq.mpr c10
       clear c10
       by_cases c11 : t126 = true
       ·subst c11
        have H1 : (some (t125 == 86399)) = some r := by rw [if_pos rfl] at H; exact H
        clear H
        have H := H1
        clear H1
        obtain rfl := Option.some.inj H
        go_enter Tryd.func39, Tryd.ntmps39
        go_wp2_with (first | ((with_reducible refine gate_callee (f := 33) rfl ?_); refine goesL_ (some 10) rfl rfl Tryd.func33 (by kernel_rfl) rfl #[.string (⟨#[45, 49, 58, 51, 48]⟩ : ByteArray)] rfl (by (try simp only [List.map_toArray, List.map_cons, List.map_nil]); first | done | rfl | (simp only [List.length_drop, List.length_take]; rfl)) ?_; (with_reducible refine (clock_Parse.calls k (⟨#[45, 49, 58, 51, 48]⟩ : ByteArray) t119 t120 _ ?sideG A1.out).mono ?_); (case sideG => first | exact GP_below HG.out (by repeat (first | (with_reducible first | exact HB.out | apply below_alloc | apply pw_below_drewN | apply below_drew1) | exact HB.out)) | repeat (first | exact HG.out | refine GP_alloc ?_ _ | refine GP_drewN ?_ _ | refine GP_drew ?_)); rintro e w12 ⟨rfl, hb⟩; refine ⟨_, rfl, ?_⟩; have n0_ := Aside0.mk (below_step (by repeat (first | (with_reducible first | exact HB.out | apply below_alloc | apply pw_below_drewN | apply below_drew1) | exact HB.out)) hb); clear HB; have HB := n0_; clear n0_; (try clear hb); (try clear hb2); (try clear hk); (try clear hi)) | ((with_reducible refine gate_callee (f := 34) rfl ?_); refine goesL_ (some 14) rfl rfl Tryd.func34 (by kernel_rfl) rfl #[.int .i64 3661] rfl (by (try simp only [List.map_toArray, List.map_cons, List.map_nil]); first | done | rfl | (simp only [List.length_drop, List.length_take]; rfl)) ?_; (with_reducible refine (clock_Text.calls k 3661 t121 t122 _ ?sideG A2.out).mono ?_); (case sideG => first | exact GP_below HG.out (by repeat (first | (with_reducible first | exact HB.out | apply below_alloc | apply pw_below_drewN | apply below_drew1) | exact HB.out)) | repeat (first | exact HG.out | refine GP_alloc ?_ _ | refine GP_drewN ?_ _ | refine GP_drew ?_)); rintro e w13 ⟨rfl, hb⟩; refine ⟨_, rfl, ?_⟩; have n0_ := Aside0.mk (below_step (by repeat (first | (with_reducible first | exact HB.out | apply below_alloc | apply pw_below_drewN | apply below_drew1) | exact HB.out)) hb); clear HB; have HB := n0_; clear n0_; (try clear hb); (try clear hb2); (try clear hk); (try clear hi)) | ((with_reducible refine gate_callee (f := 35) rfl ?_); refine goesL_ (some 18) rfl rfl Tryd.func35 (by kernel_rfl) rfl #[.int .i64 (-1)] rfl (by (try simp only [List.map_toArray, List.map_cons, List.map_nil]); first | done | rfl | (simp only [List.length_drop, List.length_take]; rfl)) ?_; (with_reducible refine (clock_Split.calls (-1) t123 t124 _ A3.out).mono ?_); rintro e w' ⟨rfl, ⟨nd, rfl⟩⟩; refine ⟨_, rfl, ?_⟩) | ((with_reducible refine gate_callee (f := 36) rfl ?_); refine goesL_ (some 22) rfl rfl Tryd.func36 (by kernel_rfl) rfl #[.int .i64 1, .int .i64 (-1)] rfl (by (try simp only [List.map_toArray, List.map_cons, List.map_nil]); first | done | rfl | (simp only [List.length_drop, List.length_take]; rfl)) ?_; (with_reducible refine (clock_Join.calls k 1 (-1) t125 true _ A4.out).mono ?_); rintro e w' ⟨rfl, ⟨nd, rfl⟩⟩; refine ⟨_, rfl, ?_⟩))
        go_ret
        exact ⟨by first | rfl | (simp [errW_none, errW_some] <;> rfl) | (simp [*, errW_none, errW_some] <;> rfl), by repeat (first | (with_reducible first | exact HB.out | apply below_alloc | apply pw_below_drewN | apply below_drew1) | exact HB.out)⟩
       ·replace c11 := Bool.eq_false_iff.mpr c11
        subst c11
        have H1 : (some false) = some r := by rw [if_neg (show ¬ (false = true) by decide)] at H; exact H
        clear H
        have H := H1
        clear H1
        obtain rfl := Option.some.inj H
        cases htrue
      ·rw [if_neg c10] at H
       have c10b0 : (t124 == 86399) = false := beq_eq_false_iff_ne.mpr c10
       have c10b1 : (t124 != 86399) = true := bne_iff_ne.mpr c10
       obtain rfl := Option.some.inj H
       cases htrue
     ·rw [if_neg c9] at H
      have c9b0 : (t123 == (-1)) = false := beq_eq_false_iff_ne.mpr c9
      have c9b1 : (t123 != (-1)) = true := bne_iff_ne.mpr c9
      obtain rfl := Option.some.inj H
      cases htrue
    ·rw [if_neg c8] at H
     have c8b0 : (t121.toList == ([49, 58, 48, 49, 58, 48, 49] : List UInt8)) = false := beq_eq_false_iff_ne.mpr c8
     have c8b1 : (t121.toList != ([49, 58, 48, 49, 58, 48, 49] : List UInt8)) = true := bne_iff_ne.mpr c8
     obtain rfl := Option.some.inj H
     cases htrue
   ·rw [if_neg c7] at H
    have c7b0 : (t122 == 0) = false := beq_eq_false_iff_ne.mpr c7
    have c7b1 : (t122 != 0) = true := bne_iff_ne.mpr c7
    obtain rfl := Option.some.inj H
    cases htrue
  ·rw [if_neg c6] at H
   have c6b0 : (t119 == (-5400)) = false := beq_eq_false_iff_ne.mpr c6
   have c6b1 : (t119 != (-5400)) = true := bne_iff_ne.mpr c6
   obtain rfl := Option.some.inj H
   cases htrue
 ·rw [if_neg c5] at H
  have c5b0 : (t120 == 0) = false := beq_eq_false_iff_ne.mpr c5
  have c5b1 : (t120 != 0) = true := bne_iff_ne.mpr c5
  obtain rfl := Option.some.inj H
  cases htrue
end Go.Proofs.YtlfohcjajmebjaaDoor.PClk