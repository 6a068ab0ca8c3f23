-- Printed by a program of this session's over the kit's printer; library functions by contracts off the shelf.
import Derived.Test.YtligbecmbefclaaDoorGP
import Derived.Test.YtligbecmbefclaaDoorPVexx0
import Derived.Test.YtligbecmbefclaaDoorPVexx1
namespace Go.Proofs.YtligbecmbefclaaDoor.PVex
open Go.RowKit Go.Proofs.YtligbecmbefclaaDoorW.PrintWords Go.Proofs.YtligbecmbefclaaDoorW.PrintLast Go.Proofs.YtligbecmbefclaaDoorW.PrintMore Go.Proofs.YtligbecmbefclaaDoor.Base
attribute [local go_sem] max2_int min2_int max_two min_two max_three min_three max_four min_four   -- for this text's walks alone
set_option linter.unusedVariables false
set_option linter.unusedSimpArgs false
mutual
def value_Offset.j0 : Nat → Int → Bool → Option (ByteArray × Int)
 | 0, _, _ => none
 | k + 1, x0, x11 => if x11 = true then (some ((⟨#[]⟩ : ByteArray), 19)) else (if x0 < 0 then (value_Offset.j1 k (wrap64 (-x0)) (⟨#[45]⟩ : ByteArray)) else (value_Offset.j1 k x0 (⟨#[43]⟩ : ByteArray)))
def value_Offset.j1 : Nat → Int → ByteArray → Option (ByteArray × Int)
 | 0, _, _ => none
 | k + 1, x0, x4 => (num_Text.f (wrap64 (Int.tdiv x0 3600)) 2).bind fun t167 => (if x4.size + t167.size ≤ 9223372036854775807 then ((num_Text.f (wrap64 (Int.tdiv (Int.tmod x0 3600) 60)) 2).bind fun t168 => (if (x4 ++ t167).size + t168.size ≤ 9223372036854775807 then (if (Int.tmod x0 60) = 0 then (some ((x4 ++ t167) ++ t168, 0)) else ((num_Text.f (Int.tmod x0 60) 2).bind fun t169 => (if ((x4 ++ t167) ++ t168).size + t169.size ≤ 9223372036854775807 then (some (((x4 ++ t167) ++ t168) ++ t169, 0)) else (none)))) else (none))) else (none))
end
def value_Offset.f (k : Nat) (a0 : Int) : Option (ByteArray × Int) := if a0 ≤ (-86400) then (value_Offset.j0 k a0 true) else (value_Offset.j0 k a0 (decide (a0 ≥ 86400)))
theorem value_Offset.mono_l : ∀ k, (∀ y0 y1, LeO (value_Offset.j0 k y0 y1) (value_Offset.j0 (k + 1) y0 y1)) ∧ (∀ y0 y1, LeO (value_Offset.j1 k y0 y1) (value_Offset.j1 (k + 1) y0 y1))
 | 0 => ⟨fun _ _ r h => by simp [value_Offset.j0] at h, fun _ _ r h => by simp [value_Offset.j1] at h⟩
 | k + 1 => by
  obtain ⟨ih0, ih1⟩ := value_Offset.mono_l k
  refine ⟨?_, ?_⟩
  ·intro y0 y1
   unfold value_Offset.j0
   repeat' first
   | (with_reducible exact ih0 _ _)
   | (with_reducible exact ih1 _ _)
   | (with_reducible exact LeO.refl _)
   | (with_reducible exact LeO.none _)
   | (with_reducible refine LeO.ite ?_ ?_)
   | (with_reducible refine LeO.bind ?_ (fun _ => ?_))
   | exact ih0 _ _
   | exact ih1 _ _
   | exact LeO.none _
   | refine LeO.ite ?_ ?_
   | refine LeO.bind ?_ (fun _ => ?_)
  ·intro y0 y1
   unfold value_Offset.j1
   repeat' first
   | (with_reducible exact ih0 _ _)
   | (with_reducible exact ih1 _ _)
   | (with_reducible exact LeO.refl _)
   | (with_reducible exact LeO.none _)
   | (with_reducible refine LeO.ite ?_ ?_)
   | (with_reducible refine LeO.bind ?_ (fun _ => ?_))
   | exact ih0 _ _
   | exact ih1 _ _
   | exact LeO.none _
   | refine LeO.ite ?_ ?_
   | refine LeO.bind ?_ (fun _ => ?_)
theorem value_Offset.mono : ∀ a0 k, LeO (value_Offset.f k a0) (value_Offset.f (k + 1) a0) := by
 (intro a0 k); (obtain ⟨ih0, ih1⟩ := value_Offset.mono_l k); (unfold value_Offset.f)
 repeat' first
   | (with_reducible exact ih0 _ _)
   | (with_reducible exact ih1 _ _)
   | (with_reducible exact LeO.refl _)
   | (with_reducible exact LeO.none _)
   | (with_reducible refine LeO.ite ?_ ?_)
   | (with_reducible refine LeO.bind ?_ (fun _ => ?_))
   | exact ih0 _ _
   | exact ih1 _ _
   | exact LeO.none _
   | refine LeO.ite ?_ ?_
   | refine LeO.bind ?_ (fun _ => ?_)
set_option maxHeartbeats 8000000 in
set_option maxRecDepth 100000 in
theorem value_Offset.calls (k : Nat) (a0 : Int) (r1 : ByteArray) (r2 : Int) (w : World) (hG : GP w) (h : value_Offset.f k a0 = some (r1, r2)) :
  Calls Tryd.prog 9 #[.int .i64 a0] w fun e w' => e = .returned (.tuple #[.string r1, .int .i64 r2]) ∧ Below w.heap.size w w' := by
 (have HG := aM hG); clear hG; (have HB := aM (Below.refl w.heap.size w)); (have H : (if a0 ≤ (-86400) then (value_Offset.j0 k a0 true) else (value_Offset.j0 k a0 (decide (a0 ≥ 86400)))) = some (r1, r2) := h); clear h; (have HC2 := aM H); clear H; (go_enter Tryd.func9, Tryd.ntmps9); (go_upto_region 1 with (fail)); (go_cut [11] (fun v11 wc => ∃ (kq : Nat) (x11_1 : Bool), v11 = .bool x11_1 ∧ Aside0 (value_Offset.j0 kq a0 x11_1 = some (r1, r2)) ∧ Aside0 (kq ≤ k) ∧ Aside0 (Below w.heap.size w wc)))
 case first =>
  (have H := HC2.out); clear HC2; (by_cases c3 : a0 ≤ (-86400))
  ·(rw [if_pos c3] at H); (have c3b0 : decide (a0 ≤ (-86400)) = true := dE c3); clear c3; ((first | rw [c3b0] | (simp only [i64_w, i32_w]; rw [c3b0]) | skip)); (have H' := aM H); clear H; (go_wp2); (go_meet)
   case rel => exact ⟨_, (true), (by first | rfl | (simp; done) | (simp [*]; done)), H', ⟨by first | omega | exact Nat.le_refl _⟩, ⟨by repeat (first | (with_reducible first | exact HB.out | apply lA | apply lN | apply lW) | exact HB.out)⟩⟩
  ·(rw [if_neg c3] at H); (have c3b0 : decide (a0 ≤ (-86400)) = false := decide_eq_false c3); clear c3; ((first | rw [c3b0] | (simp only [i64_w, i32_w]; rw [c3b0]) | skip)); (have H' := aM H); clear H; (go_wp2); (go_meet)
   case rel => exact ⟨_, (decide (a0 ≥ 86400)), (by first | rfl | (simp; done) | (simp [*]; done)), H', ⟨by first | omega | exact Nat.le_refl _⟩, ⟨by repeat (first | (with_reducible first | exact HB.out | apply lA | apply lN | apply lW) | exact HB.out)⟩⟩
 case rest =>
  as_aux_lemma =>
   clear HC2; (try clear p2); (try clear c3); (try clear c3b0); (obtain ⟨kq, x11_1, rfl, HA, HJ1, HB⟩ := hcut)
   cases kq with
   | zero => exact absurd HA.out (by simp [value_Offset.j0])
   | succ kj1 =>
    (have H := HA.out); clear HA; (simp only [value_Offset.j0] at H); (by_cases c4 : x11_1 = true)
    ·subst c4; (have H1 : (some ((⟨#[]⟩ : ByteArray), 19)) = some (r1, r2) := by rw [if_pos rfl] at H; exact H); clear H; (have H := H1); clear H1; (simp only [Option.some.injEq, Prod.mk.injEq] at H); (obtain ⟨rfl, rfl⟩ := H); (go_wp2); (go_ret2); (exact ⟨by first | rfl | (simp [errW_none, errW_some] <;> rfl) | (simp [*, errW_none, errW_some] <;> rfl), by repeat (first | (with_reducible first | exact HB.out | apply lA | apply lN | apply lW) | exact HB.out)⟩)
    ·(replace c4 := Bool.eq_false_iff.mpr c4); subst c4; (have H1 : (if a0 < 0 then (value_Offset.j1 kj1 (wrap64 (-a0)) (⟨#[45]⟩ : ByteArray)) else (value_Offset.j1 kj1 a0 (⟨#[43]⟩ : ByteArray))) = some (r1, r2) := by rw [if_neg (show ¬ (false = true) by decide)] at H; exact H); clear H; (have H := H1); clear H1; (have HC5 := aM H); clear H; (go_upto_if 13 with (fail)); (go_cut [0, 4] (fun v0 v4 wc => ∃ (kq : Nat) (x0_4 : Int) (x4_4 : ByteArray), v0 = .int .i64 x0_4 ∧ v4 = .string x4_4 ∧ Aside0 (value_Offset.j1 kq x0_4 x4_4 = some (r1, r2)) ∧ Aside0 (kq ≤ kj1) ∧ Aside0 (Below w.heap.size w wc)))
     case first =>
      (have H := HC5.out); clear HC5; (by_cases c6 : a0 < 0)
      ·(rw [if_pos c6] at H); (have c6b0 : decide (a0 < 0) = true := dE c6); clear c6; ((first | rw [c6b0] | (simp only [i64_w, i32_w]; rw [c6b0]) | skip)); (have H' := aM H); clear H; (go_wp2); (go_meet)
       case rel => exact ⟨_, (wrap64 (-a0)), ((⟨#[45]⟩ : ByteArray)), (by first | rfl | (simp; done) | (simp [*]; done)), (by first | rfl | (simp; done) | (simp [*]; done)), H', ⟨by have := HJ1.out; first | omega | exact Nat.le_refl _⟩, ⟨by repeat (first | (with_reducible first | exact HB.out | apply lA | apply lN | apply lW) | exact HB.out)⟩⟩
      ·(rw [if_neg c6] at H); (have c6b0 : decide (a0 < 0) = false := decide_eq_false c6); clear c6; ((first | rw [c6b0] | (simp only [i64_w, i32_w]; rw [c6b0]) | skip)); (have H' := aM H); clear H; (go_wp2); (go_meet)
       case rel => exact ⟨_, (a0), ((⟨#[43]⟩ : ByteArray)), (by first | rfl | (simp; done) | (simp [*]; done)), (by first | rfl | (simp; done) | (simp [*]; done)), H', ⟨by have := HJ1.out; first | omega | exact Nat.le_refl _⟩, ⟨by repeat (first | (with_reducible first | exact HB.out | apply lA | apply lN | apply lW) | exact HB.out)⟩⟩
     case rest =>
      clear HC5; (try clear p2); (try clear c3); (try clear c3b0); (try clear c4); (try clear c6); (try clear c6b0); (try clear p6); (try clear p2); (obtain ⟨kq, x0_4, x4_4, rfl, rfl, HA, HJ4, HB⟩ := hcut)
      cases kq with
      | zero => exact absurd HA.out (by simp [value_Offset.j1])
      | succ kj4 =>
       (have H := HA.out); clear HA; (simp only [value_Offset.j1] at H); (replace H := Option.bind_eq_some_iff.mp H); (obtain ⟨t167, A70, H⟩ := H); (replace H : (if x4_4.size + t167.size ≤ 9223372036854775807 then ((num_Text.f (wrap64 (Int.tdiv (Int.tmod x0_4 3600) 60)) 2).bind fun t168 => (if (x4_4 ++ t167).size + t168.size ≤ 9223372036854775807 then (if (Int.tmod x0_4 60) = 0 then (some ((x4_4 ++ t167) ++ t168, 0)) else ((num_Text.f (Int.tmod x0_4 60) 2).bind fun t169 => (if ((x4_4 ++ t167) ++ t168).size + t169.size ≤ 9223372036854775807 then (some (((x4_4 ++ t167) ++ t168) ++ t169, 0)) else (none)))) else (none))) else (none)) = some (r1, r2) := H); (have A7 := aM A70); clear A70; (by_cases c8 : x4_4.size + t167.size ≤ 9223372036854775807)
       ·(rw [if_pos c8] at H); (have c8b0 := eq_true c8); (have c8b1 : decide (x4_4.size + t167.size ≤ 9223372036854775807) = true := dE c8); (try have c8b2 : (9223372036854775807 < x4_4.size + t167.size) = False := eq_false (Nat.not_lt.2 c8)); (replace H := Option.bind_eq_some_iff.mp H); (obtain ⟨t168, A90, H⟩ := H); (replace H : (if (x4_4 ++ t167).size + t168.size ≤ 9223372036854775807 then (if (Int.tmod x0_4 60) = 0 then (some ((x4_4 ++ t167) ++ t168, 0)) else ((num_Text.f (Int.tmod x0_4 60) 2).bind fun t169 => (if ((x4_4 ++ t167) ++ t168).size + t169.size ≤ 9223372036854775807 then (some (((x4_4 ++ t167) ++ t168) ++ t169, 0)) else (none)))) else (none)) = some (r1, r2) := H); (have A9 := aM A90); clear A90; (by_cases c10 : (x4_4 ++ t167).size + t168.size ≤ 9223372036854775807)
        ·(rw [if_pos c10] at H); (have c10b0 := eq_true c10); (have c10b1 : decide ((x4_4 ++ t167).size + t168.size ≤ 9223372036854775807) = true := dE c10); (try have c10b3 : (9223372036854775807 < (x4_4.size + t167.size) + t168.size) = False := eq_false (Nat.not_lt.2 (by have h_ := c10; simp only [ByteArray.size_append] at h_; omega))); (try have c10b2 : (9223372036854775807 < (x4_4 ++ t167).size + t168.size) = False := eq_false (Nat.not_lt.2 c10)); (by_cases c11 : (Int.tmod x0_4 60) = 0)
         ·(rw [if_pos c11] at H); (have c11b0 : ((Int.tmod x0_4 60) == 0) = true := beq_iff_eq.mpr c11); (have c11b1 : ((Int.tmod x0_4 60) != 0) = false := bne_eq_false_iff_eq.mpr c11); clear c11; (simp only [Option.some.injEq, Prod.mk.injEq] at H); (obtain ⟨rfl, rfl⟩ := H); (go_wp2_with (first | ((with_reducible refine gate_callee (f := 23) rfl ?_); refine goesL_ (some 19) rfl rfl Tryd.func23 (by kernel_rfl) rfl #[.int .i64 (wrap64 (Int.tdiv x0_4 3600)), .int .i64 2] rfl (by (try simp only [List.map_toArray, List.map_cons, List.map_nil]); first | done | rfl | (simp only [List.length_drop, List.length_take]; rfl)) ?_; (with_reducible refine (num_Text.calls (wrap64 (Int.tdiv x0_4 3600)) 2 t167 _ ?sideG A7.out).mono ?_); (case sideG => first | exact GP_below HG.out (by repeat (first | (with_reducible first | exact HB.out | apply lA | apply lN | apply lW) | exact HB.out)) | repeat (first | exact HG.out | refine GP_alloc ?_ _ | refine GP_drewN ?_ _ | refine GP_drew ?_)); rintro e w12 ⟨rfl, hb⟩; refine ⟨_, rfl, ?_⟩; have n0_ := aM (below_step (by repeat (first | (with_reducible first | exact HB.out | apply lA | apply lN | apply lW) | exact HB.out)) hb); clear HB; have HB := n0_; clear n0_; (try clear hb); (try clear hb2); (try clear hk); (try clear hi)) | ((with_reducible refine gate_callee (f := 23) rfl ?_); refine goesL_ (some 24) rfl rfl Tryd.func23 (by kernel_rfl) rfl #[.int .i64 (wrap64 (Int.tdiv (Int.tmod x0_4 3600) 60)), .int .i64 2] rfl (by (try simp only [List.map_toArray, List.map_cons, List.map_nil]); first | done | rfl | (simp only [List.length_drop, List.length_take]; rfl)) ?_; (with_reducible refine (num_Text.calls (wrap64 (Int.tdiv (Int.tmod x0_4 3600) 60)) 2 t168 _ ?sideG A9.out).mono ?_); (case sideG => first | exact GP_below HG.out (by repeat (first | (with_reducible first | exact HB.out | apply lA | apply lN | apply lW) | exact HB.out)) | repeat (first | exact HG.out | refine GP_alloc ?_ _ | refine GP_drewN ?_ _ | refine GP_drew ?_)); rintro e w13 ⟨rfl, hb⟩; refine ⟨_, rfl, ?_⟩; have n0_ := aM (below_step (by repeat (first | (with_reducible first | exact HB.out | apply lA | apply lN | apply lW) | exact HB.out)) hb); clear HB; have HB := n0_; clear n0_; (try clear hb); (try clear hb2); (try clear hk); (try clear hi)))); (go_ret2); (exact ⟨by first | rfl | (simp [errW_none, errW_some] <;> rfl) | (simp [*, errW_none, errW_some] <;> rfl), by repeat (first | (with_reducible first | exact HB.out | apply lA | apply lN | apply lW) | exact HB.out)⟩)
         ·(rw [if_neg c11] at H); (have c11b0 : ((Int.tmod x0_4 60) == 0) = false := beq_eq_false_iff_ne.mpr c11); (have c11b1 : ((Int.tmod x0_4 60) != 0) = true := bne_iff_ne.mpr c11); (replace H := Option.bind_eq_some_iff.mp H); (obtain ⟨t169, A140, H⟩ := H); (replace H : (if ((x4_4 ++ t167) ++ t168).size + t169.size ≤ 9223372036854775807 then (some (((x4_4 ++ t167) ++ t168) ++ t169, 0)) else (none)) = some (r1, r2) := H); (have A14 := aM A140); clear A140; (by_cases c15 : ((x4_4 ++ t167) ++ t168).size + t169.size ≤ 9223372036854775807)
          ·(rw [if_pos c15] at H); (have c15b0 := eq_true c15); (have c15b1 : decide (((x4_4 ++ t167) ++ t168).size + t169.size ≤ 9223372036854775807) = true := dE c15); (try have c15b3 : (9223372036854775807 < ((x4_4.size + t167.size) + t168.size) + t169.size) = False := eq_false (Nat.not_lt.2 (by have h_ := c15; simp only [ByteArray.size_append] at h_; omega))); (try have c15b2 : (9223372036854775807 < ((x4_4 ++ t167) ++ t168).size + t169.size) = False := eq_false (Nat.not_lt.2 c15)); (simp only [Option.some.injEq, Prod.mk.injEq] at H); (obtain ⟨rfl, rfl⟩ := H); (go_wp2_with (first | ((with_reducible refine gate_callee (f := 23) rfl ?_); refine goesL_ (some 19) rfl rfl Tryd.func23 (by kernel_rfl) rfl #[.int .i64 (wrap64 (Int.tdiv x0_4 3600)), .int .i64 2] rfl (by (try simp only [List.map_toArray, List.map_cons, List.map_nil]); first | done | rfl | (simp only [List.length_drop, List.length_take]; rfl)) ?_; (with_reducible refine (num_Text.calls (wrap64 (Int.tdiv x0_4 3600)) 2 t167 _ ?sideG A7.out).mono ?_); (case sideG => first | exact GP_below HG.out (by repeat (first | (with_reducible first | exact HB.out | apply lA | apply lN | apply lW) | exact HB.out)) | repeat (first | exact HG.out | refine GP_alloc ?_ _ | refine GP_drewN ?_ _ | refine GP_drew ?_)); rintro e w16 ⟨rfl, hb⟩; refine ⟨_, rfl, ?_⟩; have n0_ := aM (below_step (by repeat (first | (with_reducible first | exact HB.out | apply lA | apply lN | apply lW) | exact HB.out)) hb); clear HB; have HB := n0_; clear n0_; (try clear hb); (try clear hb2); (try clear hk); (try clear hi)) | ((with_reducible refine gate_callee (f := 23) rfl ?_); refine goesL_ (some 24) rfl rfl Tryd.func23 (by kernel_rfl) rfl #[.int .i64 (wrap64 (Int.tdiv (Int.tmod x0_4 3600) 60)), .int .i64 2] rfl (by (try simp only [List.map_toArray, List.map_cons, List.map_nil]); first | done | rfl | (simp only [List.length_drop, List.length_take]; rfl)) ?_; (with_reducible refine (num_Text.calls (wrap64 (Int.tdiv (Int.tmod x0_4 3600) 60)) 2 t168 _ ?sideG A9.out).mono ?_); (case sideG => first | exact GP_below HG.out (by repeat (first | (with_reducible first | exact HB.out | apply lA | apply lN | apply lW) | exact HB.out)) | repeat (first | exact HG.out | refine GP_alloc ?_ _ | refine GP_drewN ?_ _ | refine GP_drew ?_)); rintro e w17 ⟨rfl, hb⟩; refine ⟨_, rfl, ?_⟩; have n0_ := aM (below_step (by repeat (first | (with_reducible first | exact HB.out | apply lA | apply lN | apply lW) | exact HB.out)) hb); clear HB; have HB := n0_; clear n0_; (try clear hb); (try clear hb2); (try clear hk); (try clear hi)) | ((with_reducible refine gate_callee (f := 23) rfl ?_); refine goesL_ (some 32) rfl rfl Tryd.func23 (by kernel_rfl) rfl #[.int .i64 (Int.tmod x0_4 60), .int .i64 2] rfl (by (try simp only [List.map_toArray, List.map_cons, List.map_nil]); first | done | rfl | (simp only [List.length_drop, List.length_take]; rfl)) ?_; (with_reducible refine (num_Text.calls (Int.tmod x0_4 60) 2 t169 _ ?sideG A14.out).mono ?_); (case sideG => first | exact GP_below HG.out (by repeat (first | (with_reducible first | exact HB.out | apply lA | apply lN | apply lW) | exact HB.out)) | repeat (first | exact HG.out | refine GP_alloc ?_ _ | refine GP_drewN ?_ _ | refine GP_drew ?_)); rintro e w18 ⟨rfl, hb⟩; refine ⟨_, rfl, ?_⟩; have n0_ := aM (below_step (by repeat (first | (with_reducible first | exact HB.out | apply lA | apply lN | apply lW) | exact HB.out)) hb); clear HB; have HB := n0_; clear n0_; (try clear hb); (try clear hb2); (try clear hk); (try clear hi)))); (go_ret2); (exact ⟨by first | rfl | (simp [errW_none, errW_some] <;> rfl) | (simp [*, errW_none, errW_some] <;> rfl), by repeat (first | (with_reducible first | exact HB.out | apply lA | apply lN | apply lW) | exact HB.out)⟩)
          ·(rw [if_neg c15] at H); (exact absurd H (by simp))
        ·(rw [if_neg c10] at H); (exact absurd H (by simp))
       ·(rw [if_neg c8] at H); (exact absurd H (by simp))
end Go.Proofs.YtligbecmbefclaaDoor.PVex