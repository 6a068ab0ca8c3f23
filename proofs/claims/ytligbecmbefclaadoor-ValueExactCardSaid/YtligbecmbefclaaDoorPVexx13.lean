-- Printed by a program of this session's over the kit's printer; library functions by contracts off the shelf.
import Derived.Test.YtligbecmbefclaaDoorGP
import Derived.Test.YtligbecmbefclaaDoorPVexx0
import Derived.Test.YtligbecmbefclaaDoorPVexx11
namespace Go.Proofs.YtligbecmbefclaaDoor.PVex
open Go.RowKit Go.Proofs.YtligbecmbefclaaDoorW.PrintWords Go.Proofs.YtligbecmbefclaaDoorW.PrintLast Go.Proofs.YtligbecmbefclaaDoorW.PrintMore Go.Proofs.YtligbecmbefclaaDoor.Base
attribute [local go_sem] max2_int min2_int max_two min_two max_three min_three max_four min_four   -- for this text's walks alone
set_option linter.unusedVariables false
set_option linter.unusedSimpArgs false
mutual
def solsticeref16_Times.l0 : Nat → ByteArray → List Int → Bool → Int → Int → Option (List Int × Bool × Bool)
 | 0, _, _, _, _, _ => none
 | k + 1, x0, x5, x6, x7, x8 => if x8 ≤ (x0.size : Int) then (if x8 < (x0.size : Int) then (if 0 ≤ x8 then (solsticeref16_Times.j1 k x0 x5 x6 x7 x8 ((bt x0 x8) != 44)) else (none)) else (solsticeref16_Times.j1 k x0 x5 x6 x7 x8 false)) else (some (x5, x6, true))
def solsticeref16_Times.j1 : Nat → ByteArray → List Int → Bool → Int → Int → Bool → Option (List Int × Bool × Bool)
 | 0, _, _, _, _, _, _ => none
 | k + 1, x0, x5, x6, x7, x8, x27 => if x27 = true then (solsticeref16_Times.l0 k x0 x5 x6 x7 (wrap64 (x8 + 1))) else (if 0 ≤ x7 then (if x7 ≤ x8 then (if x8 ≤ (x0.size : Int) then ((solsticeref16_ParseTime.f k (x0.extract (x7 : Int).toNat (x8 : Int).toNat)).bind fun bt239 => (if bt239.2.2 = true then (if (x5.length : Int) > 0 then (if (bt239.2.1 != x6) = true then (some (([] : List Int), false, false)) else (if x5.length < 17592186044416 then (solsticeref16_Times.l0 k x0 (x5 ++ [bt239.1]) bt239.2.1 (wrap64 (x8 + 1)) (wrap64 (x8 + 1))) else (none))) else (if x5.length < 17592186044416 then (solsticeref16_Times.l0 k x0 (x5 ++ [bt239.1]) bt239.2.1 (wrap64 (x8 + 1)) (wrap64 (x8 + 1))) else (none))) else (some (([] : List Int), false, false)))) else (none)) else (none)) else (none))
end
def solsticeref16_Times.f (k : Nat) (a0 : ByteArray) : Option (List Int × Bool × Bool) := solsticeref16_Times.l0 k a0 ([] : List Int) false 0 0
theorem solsticeref16_Times.mono_l : ∀ k, (∀ y0 y1 y2 y3 y4, LeO (solsticeref16_Times.l0 k y0 y1 y2 y3 y4) (solsticeref16_Times.l0 (k + 1) y0 y1 y2 y3 y4)) ∧ (∀ y0 y1 y2 y3 y4 y5, LeO (solsticeref16_Times.j1 k y0 y1 y2 y3 y4 y5) (solsticeref16_Times.j1 (k + 1) y0 y1 y2 y3 y4 y5))
 | 0 => ⟨fun _ _ _ _ _ r h => by simp [solsticeref16_Times.l0] at h, fun _ _ _ _ _ _ r h => by simp [solsticeref16_Times.j1] at h⟩
 | k + 1 => by
  obtain ⟨ih0, ih1⟩ := solsticeref16_Times.mono_l k
  refine ⟨?_, ?_⟩
  ·intro y0 y1 y2 y3 y4
   unfold solsticeref16_Times.l0
   repeat' first
   | (with_reducible exact ih0 _ _ _ _ _)
   | (with_reducible exact ih1 _ _ _ _ _ _)
   | (with_reducible exact solsticeref16_ParseTime.mono _ _)
   | (with_reducible exact LeO.refl _)
   | (with_reducible exact LeO.none _)
   | (with_reducible refine LeO.ite ?_ ?_)
   | (with_reducible refine LeO.bind ?_ (fun _ => ?_))
   | exact ih0 _ _ _ _ _
   | exact ih1 _ _ _ _ _ _
   | exact solsticeref16_ParseTime.mono _ _
   | exact LeO.none _
   | refine LeO.ite ?_ ?_
   | refine LeO.bind ?_ (fun _ => ?_)
  ·intro y0 y1 y2 y3 y4 y5
   unfold solsticeref16_Times.j1
   repeat' first
   | (with_reducible exact ih0 _ _ _ _ _)
   | (with_reducible exact ih1 _ _ _ _ _ _)
   | (with_reducible exact solsticeref16_ParseTime.mono _ _)
   | (with_reducible exact LeO.refl _)
   | (with_reducible exact LeO.none _)
   | (with_reducible refine LeO.ite ?_ ?_)
   | (with_reducible refine LeO.bind ?_ (fun _ => ?_))
   | exact ih0 _ _ _ _ _
   | exact ih1 _ _ _ _ _ _
   | exact solsticeref16_ParseTime.mono _ _
   | exact LeO.none _
   | refine LeO.ite ?_ ?_
   | refine LeO.bind ?_ (fun _ => ?_)
theorem solsticeref16_Times.mono : ∀ a0 k, LeO (solsticeref16_Times.f k a0) (solsticeref16_Times.f (k + 1) a0) := by
 (intro a0 k); (obtain ⟨ih0, ih1⟩ := solsticeref16_Times.mono_l k); (unfold solsticeref16_Times.f)
 repeat' first
   | (with_reducible exact ih0 _ _ _ _ _)
   | (with_reducible exact ih1 _ _ _ _ _ _)
   | (with_reducible exact solsticeref16_ParseTime.mono _ _)
   | (with_reducible exact LeO.refl _)
   | (with_reducible exact LeO.none _)
   | (with_reducible refine LeO.ite ?_ ?_)
   | (with_reducible refine LeO.bind ?_ (fun _ => ?_))
   | exact ih0 _ _ _ _ _
   | exact ih1 _ _ _ _ _ _
   | exact solsticeref16_ParseTime.mono _ _
   | exact LeO.none _
   | refine LeO.ite ?_ ?_
   | refine LeO.bind ?_ (fun _ => ?_)
set_option maxHeartbeats 8000000 in
set_option maxRecDepth 100000 in
theorem solsticeref16_Times.calls (k : Nat) (a0 : ByteArray) (r1 : List Int) (r2 : Bool) (r3 : Bool) (w : World) (h : solsticeref16_Times.f k a0 = some (r1, r2, r3)) :
  Calls Tryd.prog 14 #[.string a0] w fun e w' => ∃ v0_ : Value, e = .returned (.tuple #[v0_, .bool r2, .bool r3]) ∧ Kd.R (Kd.int .i64) 3 w' w.heap.size (fun _ => True) v0_ r1 ∧ Below w.heap.size w w' := by
 (have HB := aM (Below.refl w.heap.size w)); (have H : (solsticeref16_Times.l0 k a0 ([] : List Int) false 0 0) = some (r1, r2, r3) := h); clear h; (have H' := aM H); clear H; (go_enter Tryd.func14, Tryd.ntmps14); (go_wp2); (go_loopg [5, 6, 7, 8] k (fun kq v5 v6 v7 v8 w' => ∃ (x5_1 : List Int) (x6_1 : Bool) (x7_1 : Int) (x8_1 : Int), v6 = .bool x6_1 ∧ v7 = .int .i64 x7_1 ∧ v8 = .int .i64 x8_1 ∧ Aside0 (solsticeref16_Times.l0 kq a0 x5_1 x6_1 x7_1 x8_1 = some (r1, r2, r3)) ∧ Aside0 (kq ≤ k) ∧ Aside0 (Kd.R (Kd.int .i64) 3 w' w.heap.size (fun _ => True) v5 x5_1) ∧ Aside0 (Below w.heap.size w w')))
 case atStart => exact ⟨(([] : List Int)), (false), (0), (0), (by first | rfl | (simp; done) | (simp [*]; done)), (by first | rfl | (simp; done) | (simp [*]; done)), (by first | rfl | (simp; done) | (simp [*]; done)), H', ⟨Nat.le_refl _⟩, ⟨by first | exact Kd.R_nil _ _ _ _ _ | exact Kd.N_nil _ _ _ _ _ | exact Kd.V_nil _ _ _ _ _ | exact Kd.Q_nil _ _ _ _ _ | exact Kd.S_nil _ _ _ _ _⟩, ⟨by repeat (first | (with_reducible first | exact HB.out | apply lA | apply lN | apply lW) | exact HB.out)⟩⟩
 case round =>
  as_aux_lemma =>
   clear H'; (try clear c1); (obtain ⟨x5_1, x6_1, x7_1, x8_1, rfl, rfl, rfl, HA, HK1, HO_5, HB⟩ := hrel)
   cases gk with
   | zero => exact absurd HA.out (by simp [solsticeref16_Times.l0])
   | succ k1 =>
    (have H := HA.out); clear HA; (simp only [solsticeref16_Times.l0] at H); (by_cases c2 : x8_1 ≤ (a0.size : Int))
    ·(rw [if_pos c2] at H); (have c2b0 : decide (x8_1 ≤ (a0.size : Int)) = true := dE c2); clear c2; (have HC3 := aM H); clear H; (go_upto_region 7 with (fail)); (go_cut [27] (fun v27 wc => ∃ (kq : Nat) (x27_2 : Bool), v27 = .bool x27_2 ∧ Aside0 (solsticeref16_Times.j1 kq a0 x5_1 x6_1 x7_1 x8_1 x27_2 = some (r1, r2, r3)) ∧ Aside0 (kq ≤ k1) ∧ Aside0 (Kd.R (Kd.int .i64) 3 wc w.heap.size (fun _ => True) u5 x5_1) ∧ Aside0 (Below w.heap.size w wc)))
     case first =>
      (have H := HC3.out); clear HC3; (by_cases c4 : x8_1 < (a0.size : Int))
      ·(rw [if_pos c4] at H); (have c4b0 : decide (x8_1 < (a0.size : Int)) = true := dE c4); clear c4; ((first | rw [c4b0] | (simp only [i64_w, i32_w]; rw [c4b0]) | skip)); (by_cases c5 : 0 ≤ x8_1)
       ·(rw [if_pos c5] at H); (have c5b0 : decide (0 ≤ x8_1) = true := dE c5); clear c5; (have H' := aM H); clear H; (have p6 : 0 ≤ (x8_1 : Int) := oD (by first | (with_reducible assumption) | assumption)); (have q6 : x8_1 < (a0.size : Int) := oD (by first | (with_reducible assumption) | assumption)); (have hx6 := bt_at a0 x8_1); (replace p6 := eq_true p6); (replace q6 := eq_true q6); (go_wp2); (go_meet)
        case rel => exact ⟨_, (((bt a0 x8_1) != 44)), (by first | rfl | (simp; done) | (simp [*]; done)), H', ⟨by have := HK1.out; first | omega | exact Nat.le_refl _⟩, ⟨by (with_reducible repeat (first | apply Kd.R_alloc | apply Kd.R_drewN | apply Kd.R_drew)); exact HO_5.out⟩, ⟨by repeat (first | (with_reducible first | exact HB.out | apply lA | apply lN | apply lW) | exact HB.out)⟩⟩
       ·(rw [if_neg c5] at H); (exact absurd H (by simp))
      ·(rw [if_neg c4] at H); (have c4b0 : decide (x8_1 < (a0.size : Int)) = false := decide_eq_false c4); clear c4; ((first | rw [c4b0] | (simp only [i64_w, i32_w]; rw [c4b0]) | skip)); (have H' := aM H); clear H; (go_wp2); (go_meet)
       case rel => exact ⟨_, (false), (by first | rfl | (simp; done) | (simp [*]; done)), H', ⟨by have := HK1.out; first | omega | exact Nat.le_refl _⟩, ⟨by (with_reducible repeat (first | apply Kd.R_alloc | apply Kd.R_drewN | apply Kd.R_drew)); exact HO_5.out⟩, ⟨by repeat (first | (with_reducible first | exact HB.out | apply lA | apply lN | apply lW) | exact HB.out)⟩⟩
     case rest =>
      as_aux_lemma =>
       clear HC3; (try clear c1); (try clear c2); (try clear c2b0); (try clear p2); (try clear c4); (try clear c4b0); (try clear c5); (try clear c5b0); (try clear p6); (try clear q6); (try clear hx6); (try clear p6); (try clear q6); (obtain ⟨kq, x27_2, rfl, HA, HJ2, HO_5, HB⟩ := hcut)
       cases kq with
       | zero => exact absurd HA.out (by simp [solsticeref16_Times.j1])
       | succ kj2 =>
        (have H := HA.out); clear HA; (simp only [solsticeref16_Times.j1] at H); (by_cases c7 : x27_2 = true)
        ·subst c7; (have H1 : (solsticeref16_Times.l0 kj2 a0 x5_1 x6_1 x7_1 (wrap64 (x8_1 + 1))) = some (r1, r2, r3) := by rw [if_pos rfl] at H; exact H); clear H; (have H := H1); clear H1; (have H' := aM H); clear H; (go_wp2); (go_roundg kj2)
         case measure => have := HK1.out; have := HJ2.out; omega
         case rel => exact ⟨(x5_1), (x6_1), (x7_1), (wrap64 (x8_1 + 1)), (by first | rfl | (simp; done) | (simp [*]; done)), (by first | rfl | (simp; done) | (simp [*]; done)), (by first | rfl | (simp; done) | (simp [*]; done)), H', ⟨by have := HK1.out; have := HJ2.out; omega⟩, ⟨by (with_reducible repeat (first | apply Kd.R_alloc | apply Kd.R_drewN | apply Kd.R_drew)); exact HO_5.out⟩, ⟨by repeat (first | (with_reducible first | exact HB.out | apply lA | apply lN | apply lW) | exact HB.out)⟩⟩
        ·(replace c7 := Bool.eq_false_iff.mpr c7); subst c7; (have H1 : (if 0 ≤ x7_1 then (if x7_1 ≤ x8_1 then (if x8_1 ≤ (a0.size : Int) then ((solsticeref16_ParseTime.f kj2 (a0.extract (x7_1 : Int).toNat (x8_1 : Int).toNat)).bind fun bt239 => (if bt239.2.2 = true then (if (x5_1.length : Int) > 0 then (if (bt239.2.1 != x6_1) = true then (some (([] : List Int), false, false)) else (if x5_1.length < 17592186044416 then (solsticeref16_Times.l0 kj2 a0 (x5_1 ++ [bt239.1]) bt239.2.1 (wrap64 (x8_1 + 1)) (wrap64 (x8_1 + 1))) else (none))) else (if x5_1.length < 17592186044416 then (solsticeref16_Times.l0 kj2 a0 (x5_1 ++ [bt239.1]) bt239.2.1 (wrap64 (x8_1 + 1)) (wrap64 (x8_1 + 1))) else (none))) else (some (([] : List Int), false, false)))) else (none)) else (none)) else (none)) = some (r1, r2, r3) := by rw [if_neg (show ¬ (false = true) by decide)] at H; exact H); clear H; (have H := H1); clear H1; (by_cases c8 : 0 ≤ x7_1)
         ·(rw [if_pos c8] at H); (have c8b0 := eq_true c8); (have c8b1 : decide (0 ≤ x7_1) = true := dE c8); clear c8; (by_cases c9 : x7_1 ≤ x8_1)
          ·(rw [if_pos c9] at H); (have c9b0 := eq_true c9); (have c9b1 : decide (x7_1 ≤ x8_1) = true := dE c9); clear c9; (by_cases c10 : x8_1 ≤ (a0.size : Int))
           ·(rw [if_pos c10] at H); (have c10b0 := eq_true c10); (have c10b1 : decide (x8_1 ≤ (a0.size : Int)) = true := dE c10); clear c10; (replace H := Option.bind_eq_some_iff.mp H); (obtain ⟨⟨t239, t240, t241⟩, A110, H⟩ := H); (replace H : (if t241 = true then (if (x5_1.length : Int) > 0 then (if (t240 != x6_1) = true then (some (([] : List Int), false, false)) else (if x5_1.length < 17592186044416 then (solsticeref16_Times.l0 kj2 a0 (x5_1 ++ [t239]) t240 (wrap64 (x8_1 + 1)) (wrap64 (x8_1 + 1))) else (none))) else (if x5_1.length < 17592186044416 then (solsticeref16_Times.l0 kj2 a0 (x5_1 ++ [t239]) t240 (wrap64 (x8_1 + 1)) (wrap64 (x8_1 + 1))) else (none))) else (some (([] : List Int), false, false))) = some (r1, r2, r3) := H); (have A11 := aM A110); clear A110; (by_cases c12 : t241 = true)
            ·subst c12; (have H1 : (if (x5_1.length : Int) > 0 then (if (t240 != x6_1) = true then (some (([] : List Int), false, false)) else (if x5_1.length < 17592186044416 then (solsticeref16_Times.l0 kj2 a0 (x5_1 ++ [t239]) t240 (wrap64 (x8_1 + 1)) (wrap64 (x8_1 + 1))) else (none))) else (if x5_1.length < 17592186044416 then (solsticeref16_Times.l0 kj2 a0 (x5_1 ++ [t239]) t240 (wrap64 (x8_1 + 1)) (wrap64 (x8_1 + 1))) else (none))) = some (r1, r2, r3) := by rw [if_pos rfl] at H; exact H); clear H; (have H := H1); clear H1; (by_cases c13 : (x5_1.length : Int) > 0)
             ·(rw [if_pos c13] at H); (have c13b0 : decide (0 < (x5_1.length : Int)) = true := dE c13); (have c13b1 : decide (0 < x5_1.length) = true := dE (by omega)); clear c13; (by_cases c14 : (t240 != x6_1) = true)
              ·(rw [if_pos c14] at H); (have c14b0 : (t240 != x6_1) = true := c14); ((try (have c14b1 : decide (t240 = x6_1) = false := by simpa using c14))); ((try (have c14b2 : (t240 == x6_1) = false := by simpa using c14))); ((try (have c14b3 : ¬ (t240 = x6_1) := by simpa using c14))); clear c14; (simp only [Option.some.injEq, Prod.mk.injEq] at H); (obtain ⟨rfl, rfl, rfl⟩ := H); (go_wp2_with (first | ((with_reducible refine gate_callee (f := 12) rfl ?_); refine goesL_ (some 33) rfl rfl Tryd.func12 (by kernel_rfl) rfl #[.string (a0.extract (x7_1 : Int).toNat (x8_1 : Int).toNat)] rfl (by (try simp only [List.map_toArray, List.map_cons, List.map_nil]); first | done | rfl | (simp only [List.length_drop, List.length_take]; rfl)) ?_; (with_reducible refine (solsticeref16_ParseTime.calls kj2 (a0.extract (x7_1 : Int).toNat (x8_1 : Int).toNat) t239 t240 true _ A11.out).mono ?_); rintro e w15 ⟨rfl, hb⟩; refine ⟨_, rfl, ?_⟩; have n0_ := aM (Kd.R_below (by (with_reducible repeat (first | apply Kd.R_alloc | apply Kd.R_drewN | apply Kd.R_drew)); exact HO_5.out) hb); have n1_ := aM (below_step (by repeat (first | (with_reducible first | exact HB.out | apply lA | apply lN | apply lW) | exact HB.out)) hb); clear HO_5; clear HB; have HO_5 := n0_; have HB := n1_; clear n0_ n1_; (try clear hb); (try clear hb2); (try clear hk); (try clear hi); obtain ⟨Ao16, co16, eo16⟩ := Kd.R_slice HO_5.out; subst eo16))); (go_ret3); (exact ⟨_, by first | rfl | (simp [errW_none, errW_some] <;> rfl) | (simp [*, errW_none, errW_some] <;> rfl), by first | exact Kd.R_nil _ _ _ _ _ | exact Kd.N_nil _ _ _ _ _ | exact Kd.V_nil _ _ _ _ _ | exact Kd.Q_nil _ _ _ _ _ | exact Kd.S_nil _ _ _ _ _, by repeat (first | (with_reducible first | exact HB.out | apply lA | apply lN | apply lW) | exact HB.out)⟩)
              ·(rw [if_neg c14] at H); (have c14b0 : (t240 != x6_1) = false := by simpa using c14); ((try (have c14b1 : decide (t240 = x6_1) = true := by simpa using c14))); ((try (have c14b2 : (t240 == x6_1) = true := by simpa using c14))); clear c14; (by_cases c17 : x5_1.length < 17592186044416)
               ·(rw [if_pos c17] at H); (have LMc17 := aM c17); clear c17; (obtain ⟨y242, hy242⟩ : ∃ y_ : List Int, y_ = (x5_1 ++ [t239]) := ⟨_, rfl⟩); (replace H : (solsticeref16_Times.l0 kj2 a0 y242 t240 (wrap64 (x8_1 + 1)) (wrap64 (x8_1 + 1))) = some (r1, r2, r3) := by first | (rw [hy242]; with_reducible exact H) | (have H2_ := (Option.bind_some _ _).symm.trans H; rw [hy242]; with_reducible exact H2_) | (have H2_ := (Option.bind_some _ _).symm.trans H; with_reducible exact H2_) | with_reducible exact H | (rw [hy242]; exact H) | exact H); (have Ny242 := aM hy242); clear hy242; (have H' := aM H); clear H; (go_wp2_with (first | ((with_reducible refine gate_callee (f := 12) rfl ?_); refine goesL_ (some 33) rfl rfl Tryd.func12 (by kernel_rfl) rfl #[.string (a0.extract (x7_1 : Int).toNat (x8_1 : Int).toNat)] rfl (by (try simp only [List.map_toArray, List.map_cons, List.map_nil]); first | done | rfl | (simp only [List.length_drop, List.length_take]; rfl)) ?_; (with_reducible refine (solsticeref16_ParseTime.calls kj2 (a0.extract (x7_1 : Int).toNat (x8_1 : Int).toNat) t239 t240 true _ A11.out).mono ?_); rintro e w18 ⟨rfl, hb⟩; refine ⟨_, rfl, ?_⟩; have n0_ := aM (Kd.R_below (by (with_reducible repeat (first | apply Kd.R_alloc | apply Kd.R_drewN | apply Kd.R_drew)); exact HO_5.out) hb); have n1_ := aM (below_step (by repeat (first | (with_reducible first | exact HB.out | apply lA | apply lN | apply lW) | exact HB.out)) hb); clear HO_5; clear HB; have HO_5 := n0_; have HB := n1_; clear n0_ n1_; (try clear hb); (try clear hb2); (try clear hk); (try clear hi); obtain ⟨Ao19, co19, eo19⟩ := Kd.R_slice HO_5.out; subst eo19) | ((with_reducible refine gate_builtin (b := .append) (xs := #[.tmp 49, .tmp 51]) rfl ?_); (try (refine gate_guard (by rfl) ?_; dsimp only)); at_builtin; refine Kd.R_append (Kd.int .i64) (w0 := w) w.heap.size rfl (.tmp 49) (.tmp 51) 30 3 (.int .i64 0) 8 rfl Tryd.underlying30 info3 rfl (by decide) (by omega) (.slice Ao19 x5_1.length co19) x5_1 t239 [.int .i64 t239] (fun _ => True) (fun _ => False) rfl rfl ?aP (fun _ hk => hk.elim) ?aF ?aO ?aB ?aS ?aL ?_; (case aP => exact rfl); (case aB => exact (by repeat (first | (with_reducible first | exact HB.out | apply lA | apply lN | apply lW) | exact HB.out))); (case aF => exact (fun _ _ => trivial)); (case aO => exact (by (with_reducible repeat (first | apply Kd.R_alloc | apply Kd.R_drewN | apply Kd.R_drew)); exact HO_5.out)); (case aS => exact (below_size (by repeat (first | (with_reducible first | exact HB.out | apply lA | apply lN | apply lW) | exact HB.out)))); (case aL => have := LMc17.out; omega); intro v243 w20 ho hb hg hat; rw [← Ny242.out] at ho; have n0_ := aM (hb); have n1_ := aM (ho); clear HB; clear HO_5; have HB := n0_; have HO244 := n1_; clear n0_ n1_; clear ho hb hg hat))); (go_roundg kj2)
                case measure => have := HK1.out; have := HJ2.out; omega
                case rel => exact ⟨(y242), (t240), (wrap64 (x8_1 + 1)), (wrap64 (x8_1 + 1)), (by first | rfl | (simp; done) | (simp [*]; done)), (by first | rfl | (simp; done) | (simp [*]; done)), (by first | rfl | (simp; done) | (simp [*]; done)), H', ⟨by have := HK1.out; have := HJ2.out; omega⟩, ⟨by (with_reducible repeat (first | apply Kd.R_alloc | apply Kd.R_drewN | apply Kd.R_drew)); exact HO244.out⟩, ⟨by repeat (first | (with_reducible first | exact HB.out | apply lA | apply lN | apply lW) | exact HB.out)⟩⟩
               ·(rw [if_neg c17] at H); (exact absurd H (by simp))
             ·(rw [if_neg c13] at H); (have c13b0 : decide (0 < (x5_1.length : Int)) = false := decide_eq_false c13); (have c13b1 : decide (0 < x5_1.length) = false := decide_eq_false (by omega)); clear c13; (by_cases c21 : x5_1.length < 17592186044416)
              ·(rw [if_pos c21] at H); (have LMc21 := aM c21); clear c21; (obtain ⟨y245, hy245⟩ : ∃ y_ : List Int, y_ = (x5_1 ++ [t239]) := ⟨_, rfl⟩); (replace H : (solsticeref16_Times.l0 kj2 a0 y245 t240 (wrap64 (x8_1 + 1)) (wrap64 (x8_1 + 1))) = some (r1, r2, r3) := by first | (rw [hy245]; with_reducible exact H) | (have H2_ := (Option.bind_some _ _).symm.trans H; rw [hy245]; with_reducible exact H2_) | (have H2_ := (Option.bind_some _ _).symm.trans H; with_reducible exact H2_) | with_reducible exact H | (rw [hy245]; exact H) | exact H); (have Ny245 := aM hy245); clear hy245; (have H' := aM H); clear H; (go_wp2_with (first | ((with_reducible refine gate_callee (f := 12) rfl ?_); refine goesL_ (some 33) rfl rfl Tryd.func12 (by kernel_rfl) rfl #[.string (a0.extract (x7_1 : Int).toNat (x8_1 : Int).toNat)] rfl (by (try simp only [List.map_toArray, List.map_cons, List.map_nil]); first | done | rfl | (simp only [List.length_drop, List.length_take]; rfl)) ?_; (with_reducible refine (solsticeref16_ParseTime.calls kj2 (a0.extract (x7_1 : Int).toNat (x8_1 : Int).toNat) t239 t240 true _ A11.out).mono ?_); rintro e w22 ⟨rfl, hb⟩; refine ⟨_, rfl, ?_⟩; have n0_ := aM (Kd.R_below (by (with_reducible repeat (first | apply Kd.R_alloc | apply Kd.R_drewN | apply Kd.R_drew)); exact HO_5.out) hb); have n1_ := aM (below_step (by repeat (first | (with_reducible first | exact HB.out | apply lA | apply lN | apply lW) | exact HB.out)) hb); clear HO_5; clear HB; have HO_5 := n0_; have HB := n1_; clear n0_ n1_; (try clear hb); (try clear hb2); (try clear hk); (try clear hi); obtain ⟨Ao23, co23, eo23⟩ := Kd.R_slice HO_5.out; subst eo23) | ((with_reducible refine gate_builtin (b := .append) (xs := #[.tmp 49, .tmp 51]) rfl ?_); (try (refine gate_guard (by rfl) ?_; dsimp only)); at_builtin; refine Kd.R_append (Kd.int .i64) (w0 := w) w.heap.size rfl (.tmp 49) (.tmp 51) 30 3 (.int .i64 0) 8 rfl Tryd.underlying30 info3 rfl (by decide) (by omega) (.slice Ao23 x5_1.length co23) x5_1 t239 [.int .i64 t239] (fun _ => True) (fun _ => False) rfl rfl ?aP (fun _ hk => hk.elim) ?aF ?aO ?aB ?aS ?aL ?_; (case aP => exact rfl); (case aB => exact (by repeat (first | (with_reducible first | exact HB.out | apply lA | apply lN | apply lW) | exact HB.out))); (case aF => exact (fun _ _ => trivial)); (case aO => exact (by (with_reducible repeat (first | apply Kd.R_alloc | apply Kd.R_drewN | apply Kd.R_drew)); exact HO_5.out)); (case aS => exact (below_size (by repeat (first | (with_reducible first | exact HB.out | apply lA | apply lN | apply lW) | exact HB.out)))); (case aL => have := LMc21.out; omega); intro v246 w24 ho hb hg hat; rw [← Ny245.out] at ho; have n0_ := aM (hb); have n1_ := aM (ho); clear HB; clear HO_5; have HB := n0_; have HO247 := n1_; clear n0_ n1_; clear ho hb hg hat))); (go_roundg kj2)
               case measure => have := HK1.out; have := HJ2.out; omega
               case rel => exact ⟨(y245), (t240), (wrap64 (x8_1 + 1)), (wrap64 (x8_1 + 1)), (by first | rfl | (simp; done) | (simp [*]; done)), (by first | rfl | (simp; done) | (simp [*]; done)), (by first | rfl | (simp; done) | (simp [*]; done)), H', ⟨by have := HK1.out; have := HJ2.out; omega⟩, ⟨by (with_reducible repeat (first | apply Kd.R_alloc | apply Kd.R_drewN | apply Kd.R_drew)); exact HO247.out⟩, ⟨by repeat (first | (with_reducible first | exact HB.out | apply lA | apply lN | apply lW) | exact HB.out)⟩⟩
              ·(rw [if_neg c21] at H); (exact absurd H (by simp))
            ·(replace c12 := Bool.eq_false_iff.mpr c12); subst c12; (have H1 : (some (([] : List Int), false, false)) = some (r1, r2, r3) := by rw [if_neg (show ¬ (false = true) by decide)] at H; exact H); clear H; (have H := H1); clear H1; (simp only [Option.some.injEq, Prod.mk.injEq] at H); (obtain ⟨rfl, rfl, rfl⟩ := H); (go_wp2_with (first | ((with_reducible refine gate_callee (f := 12) rfl ?_); refine goesL_ (some 33) rfl rfl Tryd.func12 (by kernel_rfl) rfl #[.string (a0.extract (x7_1 : Int).toNat (x8_1 : Int).toNat)] rfl (by (try simp only [List.map_toArray, List.map_cons, List.map_nil]); first | done | rfl | (simp only [List.length_drop, List.length_take]; rfl)) ?_; (with_reducible refine (solsticeref16_ParseTime.calls kj2 (a0.extract (x7_1 : Int).toNat (x8_1 : Int).toNat) t239 t240 false _ A11.out).mono ?_); rintro e w25 ⟨rfl, hb⟩; refine ⟨_, rfl, ?_⟩; have n0_ := aM (Kd.R_below (by (with_reducible repeat (first | apply Kd.R_alloc | apply Kd.R_drewN | apply Kd.R_drew)); exact HO_5.out) hb); have n1_ := aM (below_step (by repeat (first | (with_reducible first | exact HB.out | apply lA | apply lN | apply lW) | exact HB.out)) hb); clear HO_5; clear HB; have HO_5 := n0_; have HB := n1_; clear n0_ n1_; (try clear hb); (try clear hb2); (try clear hk); (try clear hi)))); (go_ret3); (exact ⟨_, by first | rfl | (simp [errW_none, errW_some] <;> rfl) | (simp [*, errW_none, errW_some] <;> rfl), by first | exact Kd.R_nil _ _ _ _ _ | exact Kd.N_nil _ _ _ _ _ | exact Kd.V_nil _ _ _ _ _ | exact Kd.Q_nil _ _ _ _ _ | exact Kd.S_nil _ _ _ _ _, by repeat (first | (with_reducible first | exact HB.out | apply lA | apply lN | apply lW) | exact HB.out)⟩)
           ·(rw [if_neg c10] at H); (exact absurd H (by simp))
          ·(rw [if_neg c9] at H); (exact absurd H (by simp))
         ·(rw [if_neg c8] at H); (exact absurd H (by simp))
    ·(rw [if_neg c2] at H); (have c2b0 : decide (x8_1 ≤ (a0.size : Int)) = false := decide_eq_false c2); clear c2; (simp only [Option.some.injEq, Prod.mk.injEq] at H); (obtain ⟨rfl, rfl, rfl⟩ := H); (go_wp2); (go_ret3); (exact ⟨_, by first | rfl | (simp [errW_none, errW_some] <;> rfl) | (simp [*, errW_none, errW_some] <;> rfl), by (with_reducible repeat (first | apply Kd.R_alloc | apply Kd.R_drewN | apply Kd.R_drew)); exact HO_5.out, by repeat (first | (with_reducible first | exact HB.out | apply lA | apply lN | apply lW) | exact HB.out)⟩)
def solsticekeep_Ints.l0 : Nat → List Int → List Int → Int → Option (Bool)
 | 0, _, _, _ => none
 | k + 1, x0, x1, x5 => if x5 < (x0.length : Int) then (if 0 ≤ x5 then (if x5 < (x1.length : Int) then (if (rd x0 x5) = (rd x1 x5) then (solsticekeep_Ints.l0 k x0 x1 (wrap64 (x5 + 1))) else (some false)) else (none)) else (none)) else (some true)
def solsticekeep_Ints.f (k : Nat) (l0 : List Int) (l1 : List Int) : Option (Bool) := if (l0.length : Int) = (l1.length : Int) then (solsticekeep_Ints.l0 k l0 l1 0) else (some false)
theorem solsticekeep_Ints.mono_l : ∀ k, (∀ y0 y1 y2, LeO (solsticekeep_Ints.l0 k y0 y1 y2) (solsticekeep_Ints.l0 (k + 1) y0 y1 y2))
 | 0 => fun _ _ _ r h => by simp [solsticekeep_Ints.l0] at h
 | k + 1 => by
  have ih0 := solsticekeep_Ints.mono_l k
  ·intro y0 y1 y2
   unfold solsticekeep_Ints.l0
   repeat' first
   | (with_reducible exact ih0 _ _ _)
   | (with_reducible exact LeO.refl _)
   | (with_reducible exact LeO.none _)
   | (with_reducible refine LeO.ite ?_ ?_)
   | (with_reducible refine LeO.bind ?_ (fun _ => ?_))
   | exact ih0 _ _ _
   | exact LeO.none _
   | refine LeO.ite ?_ ?_
   | refine LeO.bind ?_ (fun _ => ?_)
theorem solsticekeep_Ints.mono : ∀ a0 a1 k, LeO (solsticekeep_Ints.f k a0 a1) (solsticekeep_Ints.f (k + 1) a0 a1) := by
 (intro a0 a1 k); (have ih0 := solsticekeep_Ints.mono_l k); (unfold solsticekeep_Ints.f)
 repeat' first
   | (with_reducible exact ih0 _ _ _)
   | (with_reducible exact LeO.refl _)
   | (with_reducible exact LeO.none _)
   | (with_reducible refine LeO.ite ?_ ?_)
   | (with_reducible refine LeO.bind ?_ (fun _ => ?_))
   | exact ih0 _ _ _
   | exact LeO.none _
   | refine LeO.ite ?_ ?_
   | refine LeO.bind ?_ (fun _ => ?_)
set_option maxHeartbeats 8000000 in
set_option maxRecDepth 100000 in
theorem solsticekeep_Ints.calls (k : Nat) (A0 : Option Addr) (c0 : Nat) (l0 : List Int) (A1 : Option Addr) (c1 : Nat) (l1 : List Int) (r : Bool) (w : World) (hr0 : Kd.C (Kd.int .i64) w A0 l0.length l0) (hc0 : l0.length ≤ c0) (hr1 : Kd.C (Kd.int .i64) w A1 l1.length l1) (hc1 : l1.length ≤ c1) (h : solsticekeep_Ints.f k l0 l1 = some r) :
  Calls Tryd.prog 15 #[.slice A0 l0.length c0, .slice A1 l1.length c1] w fun e w' => e = .returned (.bool r) ∧ Drawn0 w w' := by
 (have HR0 := aM hr0); (have HC0 := aM hc0); clear hr0 hc0; (have HR1 := aM hr1); (have HC1 := aM hc1); clear hr1 hc1; (have H : (if (l0.length : Int) = (l1.length : Int) then (solsticekeep_Ints.l0 k l0 l1 0) else (some false)) = some r := h); clear h; (by_cases c3 : (l0.length : Int) = (l1.length : Int))
 ·(rw [if_pos c3] at H); (have c3b0 : ((l0.length : Int) == (l1.length : Int)) = true := beq_iff_eq.mpr c3); (have c3b1 : ((l0.length : Int) != (l1.length : Int)) = false := bne_eq_false_iff_eq.mpr c3); (have c3b2 : (l0.length == l1.length) = true := by first | simpa using c3 | (simp at c3 ⊢; omega)); clear c3; (have H' := aM H); clear H; (go_enter Tryd.func15, Tryd.ntmps15); (go_wp2); (repeat (go_quiet (fail); try go_wp2)); (go_loopg [5] k (fun kq v5 w' => ∃ (x5_1 : Int), v5 = .int .i64 x5_1 ∧ Aside0 (solsticekeep_Ints.l0 kq l0 l1 x5_1 = some r) ∧ Aside0 (kq ≤ k) ∧ Drawn0 w w'))
  case atStart => exact ⟨(0), (by first | rfl | (simp; done) | (simp [*]; done)), H', ⟨Nat.le_refl _⟩, by repeat (first | exact Drawn0.refl _ | apply Drawn0.step)⟩
  case round =>
   clear H'; (try clear c1); (try clear p2); (try clear c3); (try clear c3b0); (try clear c3b1); (try clear c3b2); (obtain ⟨x5_1, rfl, HA, HK1, ⟨m1, rfl⟩⟩ := hrel)
   cases gk with
   | zero => exact absurd HA.out (by simp [solsticekeep_Ints.l0])
   | succ k1 =>
    (have H := HA.out); clear HA; (simp only [solsticekeep_Ints.l0] at H); (by_cases c4 : x5_1 < (l0.length : Int))
    ·(rw [if_pos c4] at H); (have c4b0 : decide (x5_1 < (l0.length : Int)) = true := dE c4); clear c4; (by_cases c5 : 0 ≤ x5_1)
     ·(rw [if_pos c5] at H); (have c5b0 : decide (0 ≤ x5_1) = true := dE c5); clear c5; (by_cases c6 : x5_1 < (l1.length : Int))
      ·(rw [if_pos c6] at H); (have c6b0 : decide (x5_1 < (l1.length : Int)) = true := dE c6); clear c6; (by_cases c7 : (rd l0 x5_1) = (rd l1 x5_1))
       ·(rw [if_pos c7] at H); (have c7b0 : ((rd l0 x5_1) == (rd l1 x5_1)) = true := beq_iff_eq.mpr c7); (have c7b1 : ((rd l0 x5_1) != (rd l1 x5_1)) = false := bne_eq_false_iff_eq.mpr c7); clear c7; (have H' := aM H); clear H; (have p248 : 0 ≤ (x5_1 : Int) := oD (by first | (with_reducible assumption) | assumption)); (have q248 : x5_1 < (l0.length : Int) := oD (by first | (with_reducible assumption) | assumption)); (obtain ⟨ad248, e248, hx248_0⟩ := Kd.at_int HR0.out x5_1 p248 q248)
        cases e248
        (replace p248 := eq_true p248); (replace q248 := eq_true q248); (have p249 : 0 ≤ (x5_1 : Int) := oD (by first | (with_reducible assumption) | assumption)); (have q249 : x5_1 < (l1.length : Int) := oD (by first | (with_reducible assumption) | assumption)); (obtain ⟨ad249, e249, hx249_0⟩ := Kd.at_int HR1.out x5_1 p249 q249)
        cases e249
        (replace p249 := eq_true p249); (replace q249 := eq_true q249); (go_wp2); (repeat (go_quiet (fail); try go_wp2)); (go_roundg k1)
        case measure => have := HK1.out; omega
        case rel => exact ⟨(wrap64 (x5_1 + 1)), (by first | rfl | (simp; done) | (simp [*]; done)), H', ⟨by have := HK1.out; omega⟩, by repeat (first | exact Drawn0.refl _ | apply Drawn0.step)⟩
       ·(rw [if_neg c7] at H); (have c7b0 : ((rd l0 x5_1) == (rd l1 x5_1)) = false := beq_eq_false_iff_ne.mpr c7); (have c7b1 : ((rd l0 x5_1) != (rd l1 x5_1)) = true := bne_iff_ne.mpr c7); (obtain rfl := Option.some.inj H); (have p248 : 0 ≤ (x5_1 : Int) := oD (by first | (with_reducible assumption) | assumption)); (have q248 : x5_1 < (l0.length : Int) := oD (by first | (with_reducible assumption) | assumption)); (obtain ⟨ad248, e248, hx248_0⟩ := Kd.at_int HR0.out x5_1 p248 q248)
        cases e248
        (replace p248 := eq_true p248); (replace q248 := eq_true q248); (have p249 : 0 ≤ (x5_1 : Int) := oD (by first | (with_reducible assumption) | assumption)); (have q249 : x5_1 < (l1.length : Int) := oD (by first | (with_reducible assumption) | assumption)); (obtain ⟨ad249, e249, hx249_0⟩ := Kd.at_int HR1.out x5_1 p249 q249)
        cases e249
        (replace p249 := eq_true p249); (replace q249 := eq_true q249); (go_wp2); (repeat (go_quiet (fail); try go_wp2)); (go_ret); (exact ⟨by first | rfl | (simp; done) | (simp [*]; done), by repeat (first | exact Drawn0.refl _ | apply Drawn0.step)⟩)
      ·(rw [if_neg c6] at H); (exact absurd H (by simp))
     ·(rw [if_neg c5] at H); (exact absurd H (by simp))
    ·(rw [if_neg c4] at H); (have c4b0 : decide (x5_1 < (l0.length : Int)) = false := decide_eq_false c4); clear c4; (obtain rfl := Option.some.inj H); (go_wp2); (repeat (go_quiet (fail); try go_wp2)); (go_ret); (exact ⟨by first | rfl | (simp; done) | (simp [*]; done), by repeat (first | exact Drawn0.refl _ | apply Drawn0.step)⟩)
 ·(rw [if_neg c3] at H); (have c3b0 : ((l0.length : Int) == (l1.length : Int)) = false := beq_eq_false_iff_ne.mpr c3); (have c3b1 : ((l0.length : Int) != (l1.length : Int)) = true := bne_iff_ne.mpr c3); (have c3b2 : (l0.length == l1.length) = false := by first | simpa using c3 | (simp at c3 ⊢; omega)); (obtain rfl := Option.some.inj H); (go_enter Tryd.func15, Tryd.ntmps15); (go_wp2); (repeat (go_quiet (fail); try go_wp2)); (go_ret); (exact ⟨by first | rfl | (simp; done) | (simp [*]; done), by repeat (first | exact Drawn0.refl _ | apply Drawn0.step)⟩)
mutual
def solsticeref01_Text.j0 : Nat → Int → Int → Bool → Option (ByteArray)
 | 0, _, _, _ => none
 | k + 1, x0, x1, x13 => if x13 = true then (solsticeref01_Text.j1 k x0 0) else (solsticeref01_Text.j1 k x0 x1)
def solsticeref01_Text.j1 : Nat → Int → Int → Option (ByteArray)
 | 0, _, _ => none
 | k + 1, x0, x1 => solsticeref01_Text.l0 k x0 x1 (⟨#[]⟩ : ByteArray)
def solsticeref01_Text.l0 : Nat → Int → Int → ByteArray → Option (ByteArray)
 | 0, _, _, _ => none
 | k + 1, x0, x1, x5 => if x0 > 0 then ((some (([(wrap64 (48 + (Int.tmod x0 10))) % 256] : List Int) : List Int)).bind fun y250 => (if (strOfNums y250).size + x5.size ≤ 9223372036854775807 then (solsticeref01_Text.l0 k (wrap64 (Int.tdiv x0 10)) x1 ((strOfNums y250) ++ x5)) else (none))) else (if (x5.size : Int) = 0 then ((some (([(wrap64 (48 + (Int.tmod x0 10))) % 256] : List Int) : List Int)).bind fun y253 => (if (strOfNums y253).size + x5.size ≤ 9223372036854775807 then (solsticeref01_Text.l0 k (wrap64 (Int.tdiv x0 10)) x1 ((strOfNums y253) ++ x5)) else (none))) else (solsticeref01_Text.l1 k x1 x5))
def solsticeref01_Text.l1 : Nat → Int → ByteArray → Option (ByteArray)
 | 0, _, _ => none
 | k + 1, x1, x5 => if (x5.size : Int) < x1 then (if 1 + x5.size ≤ 9223372036854775807 then (solsticeref01_Text.l1 k x1 ((⟨#[48]⟩ : ByteArray) ++ x5)) else (none)) else (some x5)
end
def solsticeref01_Text.f (k : Nat) (a0 : Int) (a1 : Int) : Option (ByteArray) := if a0 < 0 then (some (⟨#[]⟩ : ByteArray)) else (if a1 < 0 then (solsticeref01_Text.j0 k a0 a1 true) else (solsticeref01_Text.j0 k a0 a1 (decide (a1 > 20))))
theorem solsticeref01_Text.mono_l : ∀ k, (∀ y0 y1 y2, LeO (solsticeref01_Text.j0 k y0 y1 y2) (solsticeref01_Text.j0 (k + 1) y0 y1 y2)) ∧ (∀ y0 y1, LeO (solsticeref01_Text.j1 k y0 y1) (solsticeref01_Text.j1 (k + 1) y0 y1)) ∧ (∀ y0 y1 y2, LeO (solsticeref01_Text.l0 k y0 y1 y2) (solsticeref01_Text.l0 (k + 1) y0 y1 y2)) ∧ (∀ y0 y1, LeO (solsticeref01_Text.l1 k y0 y1) (solsticeref01_Text.l1 (k + 1) y0 y1))
 | 0 => ⟨fun _ _ _ r h => by simp [solsticeref01_Text.j0] at h, fun _ _ r h => by simp [solsticeref01_Text.j1] at h, fun _ _ _ r h => by simp [solsticeref01_Text.l0] at h, fun _ _ r h => by simp [solsticeref01_Text.l1] at h⟩
 | k + 1 => by
  obtain ⟨ih0, ih1, ih2, ih3⟩ := solsticeref01_Text.mono_l k
  refine ⟨?_, ?_, ?_, ?_⟩
  ·intro y0 y1 y2
   unfold solsticeref01_Text.j0
   repeat' first
   | (with_reducible exact ih0 _ _ _)
   | (with_reducible exact ih1 _ _)
   | (with_reducible exact ih2 _ _ _)
   | (with_reducible exact ih3 _ _)
   | (with_reducible exact LeO.refl _)
   | (with_reducible exact LeO.none _)
   | (with_reducible refine LeO.ite ?_ ?_)
   | (with_reducible refine LeO.bind ?_ (fun _ => ?_))
   | exact ih0 _ _ _
   | exact ih1 _ _
   | exact ih2 _ _ _
   | exact ih3 _ _
   | exact LeO.none _
   | refine LeO.ite ?_ ?_
   | refine LeO.bind ?_ (fun _ => ?_)
  ·intro y0 y1
   unfold solsticeref01_Text.j1
   repeat' first
   | (with_reducible exact ih0 _ _ _)
   | (with_reducible exact ih1 _ _)
   | (with_reducible exact ih2 _ _ _)
   | (with_reducible exact ih3 _ _)
   | (with_reducible exact LeO.refl _)
   | (with_reducible exact LeO.none _)
   | (with_reducible refine LeO.ite ?_ ?_)
   | (with_reducible refine LeO.bind ?_ (fun _ => ?_))
   | exact ih0 _ _ _
   | exact ih1 _ _
   | exact ih2 _ _ _
   | exact ih3 _ _
   | exact LeO.none _
   | refine LeO.ite ?_ ?_
   | refine LeO.bind ?_ (fun _ => ?_)
  ·intro y0 y1 y2
   unfold solsticeref01_Text.l0
   repeat' first
   | (with_reducible exact ih0 _ _ _)
   | (with_reducible exact ih1 _ _)
   | (with_reducible exact ih2 _ _ _)
   | (with_reducible exact ih3 _ _)
   | (with_reducible exact LeO.refl _)
   | (with_reducible exact LeO.none _)
   | (with_reducible refine LeO.ite ?_ ?_)
   | (with_reducible refine LeO.bind ?_ (fun _ => ?_))
   | exact ih0 _ _ _
   | exact ih1 _ _
   | exact ih2 _ _ _
   | exact ih3 _ _
   | exact LeO.none _
   | refine LeO.ite ?_ ?_
   | refine LeO.bind ?_ (fun _ => ?_)
  ·intro y0 y1
   unfold solsticeref01_Text.l1
   repeat' first
   | (with_reducible exact ih0 _ _ _)
   | (with_reducible exact ih1 _ _)
   | (with_reducible exact ih2 _ _ _)
   | (with_reducible exact ih3 _ _)
   | (with_reducible exact LeO.refl _)
   | (with_reducible exact LeO.none _)
   | (with_reducible refine LeO.ite ?_ ?_)
   | (with_reducible refine LeO.bind ?_ (fun _ => ?_))
   | exact ih0 _ _ _
   | exact ih1 _ _
   | exact ih2 _ _ _
   | exact ih3 _ _
   | exact LeO.none _
   | refine LeO.ite ?_ ?_
   | refine LeO.bind ?_ (fun _ => ?_)
theorem solsticeref01_Text.mono : ∀ a0 a1 k, LeO (solsticeref01_Text.f k a0 a1) (solsticeref01_Text.f (k + 1) a0 a1) := by
 (intro a0 a1 k); (obtain ⟨ih0, ih1, ih2, ih3⟩ := solsticeref01_Text.mono_l k); (unfold solsticeref01_Text.f)
 repeat' first
   | (with_reducible exact ih0 _ _ _)
   | (with_reducible exact ih1 _ _)
   | (with_reducible exact ih2 _ _ _)
   | (with_reducible exact ih3 _ _)
   | (with_reducible exact LeO.refl _)
   | (with_reducible exact LeO.none _)
   | (with_reducible refine LeO.ite ?_ ?_)
   | (with_reducible refine LeO.bind ?_ (fun _ => ?_))
   | exact ih0 _ _ _
   | exact ih1 _ _
   | exact ih2 _ _ _
   | exact ih3 _ _
   | exact LeO.none _
   | refine LeO.ite ?_ ?_
   | refine LeO.bind ?_ (fun _ => ?_)
set_option maxHeartbeats 8000000 in
set_option maxRecDepth 100000 in
theorem solsticeref01_Text.calls (k : Nat) (a0 : Int) (a1 : Int) (r : ByteArray) (w : World) (h : solsticeref01_Text.f k a0 a1 = some r) :
  Calls Tryd.prog 32 #[.int .i64 a0, .int .i64 a1] w fun e w' => e = .returned (.string r) ∧ Below w.heap.size w w' := by
 (have HB := aM (Below.refl w.heap.size w)); (have H : (if a0 < 0 then (some (⟨#[]⟩ : ByteArray)) else (if a1 < 0 then (solsticeref01_Text.j0 k a0 a1 true) else (solsticeref01_Text.j0 k a0 a1 (decide (a1 > 20))))) = some r := h); clear h; (by_cases c3 : a0 < 0)
 ·(rw [if_pos c3] at H); (have c3b0 : decide (a0 < 0) = true := dE c3); clear c3; (obtain rfl := Option.some.inj H); (go_enter Tryd.func32, Tryd.ntmps32); (go_wp2); (go_ret); (exact ⟨by first | rfl | (simp [errW_none, errW_some] <;> rfl) | (simp [*, errW_none, errW_some] <;> rfl), by repeat (first | (with_reducible first | exact HB.out | apply lA | apply lN | apply lW) | exact HB.out)⟩)
 ·(rw [if_neg c3] at H); (have c3b0 : decide (a0 < 0) = false := decide_eq_false c3); clear c3; (have HC4 := aM H); clear H; (go_enter Tryd.func32, Tryd.ntmps32); (go_upto_region 3 with (fail)); (go_cut [13] (fun v13 wc => ∃ (kq : Nat) (x13_3 : Bool), v13 = .bool x13_3 ∧ Aside0 (solsticeref01_Text.j0 kq a0 a1 x13_3 = some r) ∧ Aside0 (kq ≤ k) ∧ Aside0 (Below w.heap.size w wc)))
  case first =>
   (have H := HC4.out); clear HC4; (by_cases c5 : a1 < 0)
   ·(rw [if_pos c5] at H); (have c5b0 : decide (a1 < 0) = true := dE c5); clear c5; ((first | rw [c5b0] | (simp only [i64_w, i32_w]; rw [c5b0]) | skip)); (have H' := aM H); clear H; (go_wp2); (go_meet)
    case rel => exact ⟨_, (true), (by first | rfl | (simp; done) | (simp [*]; done)), H', ⟨by first | omega | exact Nat.le_refl _⟩, ⟨by repeat (first | (with_reducible first | exact HB.out | apply lA | apply lN | apply lW) | exact HB.out)⟩⟩
   ·(rw [if_neg c5] at H); (have c5b0 : decide (a1 < 0) = false := decide_eq_false c5); clear c5; ((first | rw [c5b0] | (simp only [i64_w, i32_w]; rw [c5b0]) | skip)); (have H' := aM H); clear H; (go_wp2); (go_meet)
    case rel => exact ⟨_, (decide (a1 > 20)), (by first | rfl | (simp; done) | (simp [*]; done)), H', ⟨by first | omega | exact Nat.le_refl _⟩, ⟨by repeat (first | (with_reducible first | exact HB.out | apply lA | apply lN | apply lW) | exact HB.out)⟩⟩
  case rest =>
   as_aux_lemma =>
    clear HC4; (try clear p2); (try clear c3); (try clear c3b0); (try clear c5); (try clear c5b0); (obtain ⟨kq, x13_3, rfl, HA, HJ3, HB⟩ := hcut)
    cases kq with
    | zero => exact absurd HA.out (by simp [solsticeref01_Text.j0])
    | succ kj3 =>
     (have H := HA.out); clear HA; (simp only [solsticeref01_Text.j0] at H); (have HC6 := aM H); clear H; (go_upto_if 13 with (fail)); (go_cut [1] (fun v1 wc => ∃ (kq : Nat) (x1_5 : Int), v1 = .int .i64 x1_5 ∧ Aside0 (solsticeref01_Text.j1 kq a0 x1_5 = some r) ∧ Aside0 (kq ≤ kj3) ∧ Aside0 (Below w.heap.size w wc)))
     case first =>
      (have H := HC6.out); clear HC6; (by_cases c7 : x13_3 = true)
      ·subst c7; (have H1 : (solsticeref01_Text.j1 kj3 a0 0) = some r := by rw [if_pos rfl] at H; exact H); clear H; (have H := H1); clear H1; (have H' := aM H); clear H; (go_wp2); (go_meet)
       case rel => exact ⟨_, (0), (by first | rfl | (simp; done) | (simp [*]; done)), H', ⟨by have := HJ3.out; first | omega | exact Nat.le_refl _⟩, ⟨by repeat (first | (with_reducible first | exact HB.out | apply lA | apply lN | apply lW) | exact HB.out)⟩⟩
      ·(replace c7 := Bool.eq_false_iff.mpr c7); subst c7; (have H1 : (solsticeref01_Text.j1 kj3 a0 a1) = some r := by rw [if_neg (show ¬ (false = true) by decide)] at H; exact H); clear H; (have H := H1); clear H1; (have H' := aM H); clear H; (go_wp2); (go_meet)
       case rel => exact ⟨_, (a1), (by first | rfl | (simp; done) | (simp [*]; done)), H', ⟨by have := HJ3.out; first | omega | exact Nat.le_refl _⟩, ⟨by repeat (first | (with_reducible first | exact HB.out | apply lA | apply lN | apply lW) | exact HB.out)⟩⟩
     case rest =>
      as_aux_lemma =>
       clear HC6; (try clear p2); (try clear c3); (try clear c3b0); (try clear c5); (try clear c5b0); (try clear c7); (try clear p2); (obtain ⟨kq, x1_5, rfl, HA, HJ5, HB⟩ := hcut)
       cases kq with
       | zero => exact absurd HA.out (by simp [solsticeref01_Text.j1])
       | succ kj5 =>
        (have H := HA.out); clear HA; (simp only [solsticeref01_Text.j1] at H); (have H' := aM H); clear H; (go_wp2); (go_loopg [0, 5] kj5 (fun kq v0 v5 w' => ∃ (x0_3 : Int) (x5_3 : ByteArray), v0 = .int .i64 x0_3 ∧ v5 = .string x5_3 ∧ Aside0 (solsticeref01_Text.l0 kq x0_3 x1_5 x5_3 = some r) ∧ Aside0 (kq ≤ kj5) ∧ Aside0 (Below w.heap.size w w')))
        case atStart => exact ⟨(a0), ((⟨#[]⟩ : ByteArray)), (by first | rfl | (simp; done) | (simp [*]; done)), (by first | rfl | (simp; done) | (simp [*]; done)), H', ⟨Nat.le_refl _⟩, ⟨by repeat (first | (with_reducible first | exact HB.out | apply lA | apply lN | apply lW) | exact HB.out)⟩⟩
        case round =>
         as_aux_lemma =>
          clear H'; (try clear p2); (try clear c3); (try clear c3b0); (try clear c5); (try clear c5b0); (try clear c7); (try clear p2); (obtain ⟨x0_3, x5_3, rfl, rfl, HA, HK3, HB⟩ := hrel)
          cases gk with
          | zero => exact absurd HA.out (by simp [solsticeref01_Text.l0])
          | succ k3 =>
           (have H := HA.out); clear HA; (simp only [solsticeref01_Text.l0] at H); (by_cases c8 : x0_3 > 0)
           ·(rw [if_pos c8] at H); (have c8b0 : decide (0 < x0_3) = true := dE c8); clear c8; (obtain ⟨y250, hy250⟩ : ∃ y_ : List Int, y_ = (([(wrap64 (48 + (Int.tmod x0_3 10))) % 256] : List Int)) := ⟨_, rfl⟩); (replace H : (if (strOfNums y250).size + x5_3.size ≤ 9223372036854775807 then (solsticeref01_Text.l0 k3 (wrap64 (Int.tdiv x0_3 10)) x1_5 ((strOfNums y250) ++ x5_3)) else (none)) = some r := by first | (rw [hy250]; with_reducible exact H) | (have H2_ := (Option.bind_some _ _).symm.trans H; rw [hy250]; with_reducible exact H2_) | (have H2_ := (Option.bind_some _ _).symm.trans H; with_reducible exact H2_) | with_reducible exact H | (rw [hy250]; exact H) | exact H); (have Ny250 := aM hy250); clear hy250; (by_cases c9 : (strOfNums y250).size + x5_3.size ≤ 9223372036854775807)
            ·(rw [if_pos c9] at H); (have c9b0 := eq_true c9); (have c9b1 : decide ((strOfNums y250).size + x5_3.size ≤ 9223372036854775807) = true := dE c9); (try have c9b2 : (9223372036854775807 < (strOfNums y250).size + x5_3.size) = False := eq_false (Nat.not_lt.2 c9)); (have H' := aM H); clear H; (go_wp2_with (first | ((with_reducible refine gate_dst (N := 25) rfl ?_); (try (refine gate_guard (by rfl) ?_; dsimp only)); refine Kd.R_lit (Kd.int .u8) _ 5 ?hg (N := 25) ?hd (xs := ([(wrap64 (48 + (Int.tmod x0_3 10))) % 256] : List Int)) (inner := [.int .u8 ((wrap64 (48 + (Int.tmod x0_3 10))) % 256)]) (ok := fun _ => True) (okp := fun _ => True) ?hr ?hp (fun _ hk => hk) trivial (Below.refl _ _) (Nat.le_refl _) (by simp) ?_; (case hd => rfl); (case hg => rfl); (case hr => first | (go_simp; done) | (go_simp; rfl)); (case hp => exact (Reps.one (show Kd.M (Kd.int .u8) _ _ _ ((wrap64 (48 + (Int.tmod x0_3 10))) % 256) [.int .u8 ((wrap64 (48 + (Int.tmod x0_3 10))) % 256)] from rfl) (Reps.none _ _))); intro v251 w10 ho11 hb hg_ hnew_; clear hg_ hnew_; (first | rw [← Ny250.out] at ho11 | (simp only [Int.reduceToNat] at ho11; rw [← Ny250.out] at ho11)); have n0_ := aM (Kd.R_lower ho11 (below_size (by repeat (first | (with_reducible first | exact HB.out | apply lA | apply lN | apply lW) | exact HB.out)))); have n1_ := aM (below_step (by repeat (first | (with_reducible first | exact HB.out | apply lA | apply lN | apply lW) | exact HB.out)) hb); clear HB; have HO252 := n0_; have HB := n1_; clear n0_ n1_; clear hb ho11; have hcv12 := own_string (P := Tryd.prog) Tryd.underlying77 Tryd.underlying5 Tryd.underlying9 (Kd.own_of_R HO252.out)))); (go_roundg k3)
             case measure => have := HJ3.out; have := HJ5.out; have := HK3.out; omega
             case rel => exact ⟨(wrap64 (Int.tdiv x0_3 10)), ((strOfNums y250) ++ x5_3), (by first | rfl | (simp; done) | (simp [*]; done)), (by first | rfl | (simp; done) | (simp [*]; done)), H', ⟨by have := HJ3.out; have := HJ5.out; have := HK3.out; omega⟩, ⟨by repeat (first | (with_reducible first | exact HB.out | apply lA | apply lN | apply lW) | exact HB.out)⟩⟩
            ·(rw [if_neg c9] at H); (exact absurd H (by simp))
           ·(rw [if_neg c8] at H); (have c8b0 : decide (0 < x0_3) = false := decide_eq_false c8); clear c8; (by_cases c13 : (x5_3.size : Int) = 0)
            ·(rw [if_pos c13] at H); (have c13b0 : ((x5_3.size : Int) == 0) = true := beq_iff_eq.mpr c13); (have c13b1 : ((x5_3.size : Int) != 0) = false := bne_eq_false_iff_eq.mpr c13); clear c13; (obtain ⟨y253, hy253⟩ : ∃ y_ : List Int, y_ = (([(wrap64 (48 + (Int.tmod x0_3 10))) % 256] : List Int)) := ⟨_, rfl⟩); (replace H : (if (strOfNums y253).size + x5_3.size ≤ 9223372036854775807 then (solsticeref01_Text.l0 k3 (wrap64 (Int.tdiv x0_3 10)) x1_5 ((strOfNums y253) ++ x5_3)) else (none)) = some r := by first | (rw [hy253]; with_reducible exact H) | (have H2_ := (Option.bind_some _ _).symm.trans H; rw [hy253]; with_reducible exact H2_) | (have H2_ := (Option.bind_some _ _).symm.trans H; with_reducible exact H2_) | with_reducible exact H | (rw [hy253]; exact H) | exact H); (have Ny253 := aM hy253); clear hy253; (by_cases c14 : (strOfNums y253).size + x5_3.size ≤ 9223372036854775807)
             ·(rw [if_pos c14] at H); (have c14b0 := eq_true c14); (have c14b1 : decide ((strOfNums y253).size + x5_3.size ≤ 9223372036854775807) = true := dE c14); (try have c14b2 : (9223372036854775807 < (strOfNums y253).size + x5_3.size) = False := eq_false (Nat.not_lt.2 c14)); (have H' := aM H); clear H; (go_wp2_with (first | ((with_reducible refine gate_dst (N := 25) rfl ?_); (try (refine gate_guard (by rfl) ?_; dsimp only)); refine Kd.R_lit (Kd.int .u8) _ 5 ?hg (N := 25) ?hd (xs := ([(wrap64 (48 + (Int.tmod x0_3 10))) % 256] : List Int)) (inner := [.int .u8 ((wrap64 (48 + (Int.tmod x0_3 10))) % 256)]) (ok := fun _ => True) (okp := fun _ => True) ?hr ?hp (fun _ hk => hk) trivial (Below.refl _ _) (Nat.le_refl _) (by simp) ?_; (case hd => rfl); (case hg => rfl); (case hr => first | (go_simp; done) | (go_simp; rfl)); (case hp => exact (Reps.one (show Kd.M (Kd.int .u8) _ _ _ ((wrap64 (48 + (Int.tmod x0_3 10))) % 256) [.int .u8 ((wrap64 (48 + (Int.tmod x0_3 10))) % 256)] from rfl) (Reps.none _ _))); intro v254 w15 ho16 hb hg_ hnew_; clear hg_ hnew_; (first | rw [← Ny253.out] at ho16 | (simp only [Int.reduceToNat] at ho16; rw [← Ny253.out] at ho16)); have n0_ := aM (Kd.R_lower ho16 (below_size (by repeat (first | (with_reducible first | exact HB.out | apply lA | apply lN | apply lW) | exact HB.out)))); have n1_ := aM (below_step (by repeat (first | (with_reducible first | exact HB.out | apply lA | apply lN | apply lW) | exact HB.out)) hb); clear HB; have HO255 := n0_; have HB := n1_; clear n0_ n1_; clear hb ho16; have hcv17 := own_string (P := Tryd.prog) Tryd.underlying77 Tryd.underlying5 Tryd.underlying9 (Kd.own_of_R HO255.out)))); (go_roundg k3)
              case measure => have := HJ3.out; have := HJ5.out; have := HK3.out; omega
              case rel => exact ⟨(wrap64 (Int.tdiv x0_3 10)), ((strOfNums y253) ++ x5_3), (by first | rfl | (simp; done) | (simp [*]; done)), (by first | rfl | (simp; done) | (simp [*]; done)), H', ⟨by have := HJ3.out; have := HJ5.out; have := HK3.out; omega⟩, ⟨by repeat (first | (with_reducible first | exact HB.out | apply lA | apply lN | apply lW) | exact HB.out)⟩⟩
             ·(rw [if_neg c14] at H); (exact absurd H (by simp))
            ·(rw [if_neg c13] at H); (have c13b0 : ((x5_3.size : Int) == 0) = false := beq_eq_false_iff_ne.mpr c13); (have c13b1 : ((x5_3.size : Int) != 0) = true := bne_iff_ne.mpr c13); (have H' := aM H); clear H; (go_wp2); (go_loopg [5] k3 (fun kq v5 w' => ∃ (x5_4 : ByteArray), v5 = .string x5_4 ∧ Aside0 (solsticeref01_Text.l1 kq x1_5 x5_4 = some r) ∧ Aside0 (kq ≤ k3) ∧ Aside0 (Below w.heap.size w w')))
             case atStart => exact ⟨(x5_3), (by first | rfl | (simp; done) | (simp [*]; done)), H', ⟨Nat.le_refl _⟩, ⟨by repeat (first | (with_reducible first | exact HB.out | apply lA | apply lN | apply lW) | exact HB.out)⟩⟩
             case round =>
              clear H'; (try clear c1); (try clear hcv1); (try clear p2); (try clear c3); (try clear c3b0); (try clear c5); (try clear c5b0); (try clear p6); (try clear c7); (try clear c8); (try clear c8b0); (try clear c9); (try clear c9b0); (try clear c9b1); (try clear c9b2); (try clear hcv12); (try clear c13); (try clear c13b0); (try clear c13b1); (try clear c14); (try clear c14b0); (try clear c14b1); (try clear c14b2); (try clear hcv17); (try clear p2); (obtain ⟨x5_4, rfl, HA, HK4, HB⟩ := hrel)
              cases gk with
              | zero => exact absurd HA.out (by simp [solsticeref01_Text.l1])
              | succ k4 =>
               (have H := HA.out); clear HA; (simp only [solsticeref01_Text.l1] at H); (by_cases c18 : (x5_4.size : Int) < x1_5)
               ·(rw [if_pos c18] at H); (have c18b0 : decide ((x5_4.size : Int) < x1_5) = true := dE c18); clear c18; (by_cases c19 : 1 + x5_4.size ≤ 9223372036854775807)
                ·(rw [if_pos c19] at H); (have c19b0 := eq_true c19); (have c19b1 : decide (1 + x5_4.size ≤ 9223372036854775807) = true := dE c19); (try have c19b2 : (9223372036854775807 < 1 + x5_4.size) = False := eq_false (Nat.not_lt.2 c19)); (have H' := aM H); clear H; (go_wp2); (go_roundg k4)
                 case measure => have := HJ3.out; have := HJ5.out; have := HK3.out; have := HK4.out; omega
                 case rel => exact ⟨((⟨#[48]⟩ : ByteArray) ++ x5_4), (by first | rfl | (simp; done) | (simp [*]; done)), H', ⟨by have := HJ3.out; have := HJ5.out; have := HK3.out; have := HK4.out; omega⟩, ⟨by repeat (first | (with_reducible first | exact HB.out | apply lA | apply lN | apply lW) | exact HB.out)⟩⟩
                ·(rw [if_neg c19] at H); (exact absurd H (by simp))
               ·(rw [if_neg c18] at H); (have c18b0 : decide ((x5_4.size : Int) < x1_5) = false := decide_eq_false c18); clear c18; (obtain rfl := Option.some.inj H); (go_wp2); (go_ret); (exact ⟨by first | rfl | (simp [errW_none, errW_some] <;> rfl) | (simp [*, errW_none, errW_some] <;> rfl), by repeat (first | (with_reducible first | exact HB.out | apply lA | apply lN | apply lW) | exact HB.out)⟩)
end Go.Proofs.YtligbecmbefclaaDoor.PVex