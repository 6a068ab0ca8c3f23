-- Printed by a program of this session's over the kit's printer; library functions by contracts off the shelf.
import Derived.Test.YtdgeokpbedllaaaDoorGP
import Derived.Test.YtdgeokpbedllaaaDoorPTrex0
namespace Go.Proofs.YtdgeokpbedllaaaDoor.PTre
open Go.RowKit Go.Proofs.YtdgeokpbedllaaaDoorW.PrintWords Go.Proofs.YtdgeokpbedllaaaDoorW.PrintLast Go.Proofs.YtdgeokpbedllaaaDoorW.PrintMore Go.Proofs.YtdgeokpbedllaaaDoor.Base
attribute [local go_sem] max2_int min2_int max_two min_two max_three min_three max_four min_four   -- for this text's walks alone
set_option linter.unusedVariables false
set_option linter.unusedSimpArgs false
mutual
def tree_Kids.j0 : Nat → List (S40) → Int → Bool → Option (List Int)
 | 0, _, _, _ => none
 | k + 1, x0, x1, x15 => if x15 = true then (some ([] : List Int)) else (if 0 ≤ x1 then (if x1 < (x0.length : Int) then (if ((rd_T40 x0 x1).f2) < 0 then (tree_Kids.j1 k x0 x1 ((rd_T40 x0 x1).f2) true) else (tree_Kids.j1 k x0 x1 ((rd_T40 x0 x1).f2) (decide (((rd_T40 x0 x1).f2) ≥ (wrap64 ((x0.length : Int) - x1)))))) else (none)) else (none))
def tree_Kids.j1 : Nat → List (S40) → Int → Int → Bool → Option (List Int)
 | 0, _, _, _, _ => none
 | k + 1, x0, x1, x5, x30 => if x30 = true then (some ([] : List Int)) else (tree_Kids.l0 k x0 x1 x5 ([] : List Int) (wrap64 (x1 + 1)))
def tree_Kids.l0 : Nat → List (S40) → Int → Int → List Int → Int → Option (List Int)
 | 0, _, _, _, _, _ => none
 | k + 1, x0, x1, x5, x6, x7 => if x7 ≤ (wrap64 (x1 + x5)) then (if 0 ≤ x7 then (if x7 < (x0.length : Int) then (if ((rd_T40 x0 x7).f2) < 0 then (some ([] : List Int)) else (if ((rd_T40 x0 x7).f2) > (wrap64 ((wrap64 (x1 + x5)) - x7)) then (some ([] : List Int)) else (if x6.length < 17592186044416 then (tree_Kids.l0 k x0 x1 x5 (x6 ++ [x7]) (wrap64 (x7 + (wrap64 (1 + ((rd_T40 x0 x7).f2)))))) else (none)))) else (none)) else (none)) else (some x6)
end
def tree_Kids.f (k : Nat) (l0 : List (S40)) (a1 : Int) : Option (List Int) := if a1 < 0 then (tree_Kids.j0 k l0 a1 true) else (tree_Kids.j0 k l0 a1 (decide (a1 ≥ (l0.length : Int))))
theorem tree_Kids.mono_l : ∀ k, (∀ y0 y1 y2, LeO (tree_Kids.j0 k y0 y1 y2) (tree_Kids.j0 (k + 1) y0 y1 y2)) ∧ (∀ y0 y1 y2 y3, LeO (tree_Kids.j1 k y0 y1 y2 y3) (tree_Kids.j1 (k + 1) y0 y1 y2 y3)) ∧ (∀ y0 y1 y2 y3 y4, LeO (tree_Kids.l0 k y0 y1 y2 y3 y4) (tree_Kids.l0 (k + 1) y0 y1 y2 y3 y4))
 | 0 => ⟨fun _ _ _ r h => by simp [tree_Kids.j0] at h, fun _ _ _ _ r h => by simp [tree_Kids.j1] at h, fun _ _ _ _ _ r h => by simp [tree_Kids.l0] at h⟩
 | k + 1 => by
  obtain ⟨ih0, ih1, ih2⟩ := tree_Kids.mono_l k
  refine ⟨?_, ?_, ?_⟩
  ·intro y0 y1 y2
   unfold tree_Kids.j0
   repeat' first
   | (with_reducible exact ih0 _ _ _)
   | (with_reducible exact ih1 _ _ _ _)
   | (with_reducible exact ih2 _ _ _ _ _)
   | (with_reducible exact LeO.refl _)
   | (with_reducible exact LeO.none _)
   | (with_reducible refine LeO.ite ?_ ?_)
   | (with_reducible refine LeO.bind ?_ (fun _ => ?_))
   | exact ih0 _ _ _
   | exact ih1 _ _ _ _
   | exact ih2 _ _ _ _ _
   | exact LeO.none _
   | refine LeO.ite ?_ ?_
   | refine LeO.bind ?_ (fun _ => ?_)
  ·intro y0 y1 y2 y3
   unfold tree_Kids.j1
   repeat' first
   | (with_reducible exact ih0 _ _ _)
   | (with_reducible exact ih1 _ _ _ _)
   | (with_reducible exact ih2 _ _ _ _ _)
   | (with_reducible exact LeO.refl _)
   | (with_reducible exact LeO.none _)
   | (with_reducible refine LeO.ite ?_ ?_)
   | (with_reducible refine LeO.bind ?_ (fun _ => ?_))
   | exact ih0 _ _ _
   | exact ih1 _ _ _ _
   | exact ih2 _ _ _ _ _
   | exact LeO.none _
   | refine LeO.ite ?_ ?_
   | refine LeO.bind ?_ (fun _ => ?_)
  ·intro y0 y1 y2 y3 y4
   unfold tree_Kids.l0
   repeat' first
   | (with_reducible exact ih0 _ _ _)
   | (with_reducible exact ih1 _ _ _ _)
   | (with_reducible exact ih2 _ _ _ _ _)
   | (with_reducible exact LeO.refl _)
   | (with_reducible exact LeO.none _)
   | (with_reducible refine LeO.ite ?_ ?_)
   | (with_reducible refine LeO.bind ?_ (fun _ => ?_))
   | exact ih0 _ _ _
   | exact ih1 _ _ _ _
   | exact ih2 _ _ _ _ _
   | exact LeO.none _
   | refine LeO.ite ?_ ?_
   | refine LeO.bind ?_ (fun _ => ?_)
theorem tree_Kids.mono : ∀ a0 a1 k, LeO (tree_Kids.f k a0 a1) (tree_Kids.f (k + 1) a0 a1) := by
 (intro a0 a1 k); (obtain ⟨ih0, ih1, ih2⟩ := tree_Kids.mono_l k); (unfold tree_Kids.f)
 repeat' first
   | (with_reducible exact ih0 _ _ _)
   | (with_reducible exact ih1 _ _ _ _)
   | (with_reducible exact ih2 _ _ _ _ _)
   | (with_reducible exact LeO.refl _)
   | (with_reducible exact LeO.none _)
   | (with_reducible refine LeO.ite ?_ ?_)
   | (with_reducible refine LeO.bind ?_ (fun _ => ?_))
   | exact ih0 _ _ _
   | exact ih1 _ _ _ _
   | exact ih2 _ _ _ _ _
   | exact LeO.none _
   | refine LeO.ite ?_ ?_
   | refine LeO.bind ?_ (fun _ => ?_)
set_option maxHeartbeats 8000000 in
set_option maxRecDepth 100000 in
theorem tree_Kids.calls (k : Nat) (A0 : Option Addr) (c0 : Nat) (l0 : List (S40)) (a1 : Int) (r : List Int) (w : World) (hr0 : Kd.C k40 w A0 l0.length l0) (hc0 : l0.length ≤ c0) (h : tree_Kids.f k l0 a1 = some r) :
  Calls Tryd.prog 15 #[.slice A0 l0.length c0, .int .i64 a1] w fun e w' => ∃ v0_ : Value, e = .returned (v0_) ∧ Kd.R (Kd.int .i64) 3 w' w.heap.size (fun _ => True) v0_ r ∧ Below w.heap.size w w' := by
 (have HR0 := aM hr0); (have HC0 := aM hc0); clear hr0 hc0; (have HB := aM (Below.refl w.heap.size w)); (have H : (if a1 < 0 then (tree_Kids.j0 k l0 a1 true) else (tree_Kids.j0 k l0 a1 (decide (a1 ≥ (l0.length : Int))))) = some r := h); clear h; (have HC3 := aM H); clear H; (go_enter Tryd.func15, Tryd.ntmps15); (go_upto_region 1 with (fail)); (go_cut [15] (fun v15 wc => ∃ (kq : Nat) (x15_2 : Bool), v15 = .bool x15_2 ∧ Aside0 (tree_Kids.j0 kq l0 a1 x15_2 = some r) ∧ Aside0 (kq ≤ k) ∧ Aside0 (Below w.heap.size w wc)))
 case first =>
  (have H := HC3.out); clear HC3; (by_cases c4 : a1 < 0)
  ·(rw [if_pos c4] at H); (have c4b0 : decide (a1 < 0) = true := dE c4); clear c4; ((first | rw [c4b0] | (simp only [i64_w, i32_w]; rw [c4b0]) | skip)); (have H' := aM H); clear H; (go_wp2); (go_meet)
   case rel => exact ⟨_, (true), (by first | rfl | (simp; done) | (simp [*]; done)), H', ⟨by first | omega | exact Nat.le_refl _⟩, ⟨by repeat (first | (with_reducible first | exact HB.out | apply lA | apply lN | apply lW) | exact HB.out)⟩⟩
  ·(rw [if_neg c4] at H); (have c4b0 : decide (a1 < 0) = false := decide_eq_false c4); clear c4; ((first | rw [c4b0] | (simp only [i64_w, i32_w]; rw [c4b0]) | skip)); (have H' := aM H); clear H; (go_wp2); (go_meet)
   case rel => exact ⟨_, (decide (a1 ≥ (l0.length : Int))), (by first | rfl | (simp; done) | (simp [*]; done)), H', ⟨by first | omega | exact Nat.le_refl _⟩, ⟨by repeat (first | (with_reducible first | exact HB.out | apply lA | apply lN | apply lW) | exact HB.out)⟩⟩
 case rest =>
  as_aux_lemma =>
   clear HC3; (try clear c1); (try clear p2); (try clear c4); (try clear c4b0); (obtain ⟨kq, x15_2, rfl, HA, HJ2, HB⟩ := hcut)
   cases kq with
   | zero => exact absurd HA.out (by simp [tree_Kids.j0])
   | succ kj2 =>
    (have H := HA.out); clear HA; (simp only [tree_Kids.j0] at H); (by_cases c5 : x15_2 = true)
    ·subst c5; (have H1 : (some ([] : List Int)) = some r := by rw [if_pos rfl] at H; exact H); clear H; (have H := H1); clear H1; (obtain rfl := Option.some.inj H); (go_wp2); (go_ret); (exact ⟨_, by first | rfl | (simp [errW_none, errW_some] <;> rfl) | (simp [*, errW_none, errW_some] <;> rfl), by first | exact Kd.R_nil _ _ _ _ _ | exact Kd.N_nil _ _ _ _ _ | exact Kd.V_nil _ _ _ _ _ | exact Kd.Q_nil _ _ _ _ _ | exact Kd.S_nil _ _ _ _ _, by repeat (first | (with_reducible first | exact HB.out | apply lA | apply lN | apply lW) | exact HB.out)⟩)
    ·(replace c5 := Bool.eq_false_iff.mpr c5); subst c5; (have H1 : (if 0 ≤ a1 then (if a1 < (l0.length : Int) then (if ((rd_T40 l0 a1).f2) < 0 then (tree_Kids.j1 kj2 l0 a1 ((rd_T40 l0 a1).f2) true) else (tree_Kids.j1 kj2 l0 a1 ((rd_T40 l0 a1).f2) (decide (((rd_T40 l0 a1).f2) ≥ (wrap64 ((l0.length : Int) - a1)))))) else (none)) else (none)) = some r := by rw [if_neg (show ¬ (false = true) by decide)] at H; exact H); clear H; (have H := H1); clear H1; (by_cases c6 : 0 ≤ a1)
     ·(rw [if_pos c6] at H); (have c6b0 : decide (0 ≤ a1) = true := dE c6); clear c6; (by_cases c7 : a1 < (l0.length : Int))
      ·(rw [if_pos c7] at H); (have c7b0 : decide (a1 < (l0.length : Int)) = true := dE c7); clear c7; (have HC8 := aM H); clear H; (have p231 : 0 ≤ (a1 : Int) := oD (by first | (with_reducible assumption) | assumption)); (have q231 : a1 < (l0.length : Int) := oD (by first | (with_reducible assumption) | assumption)); (obtain ⟨ad231, A231_1, c231_1, e231, hx231_0, hx231_1, hx231_2, hl231_1, hi231_1⟩ := at_T40 HR0.out a1 p231 q231)
       cases e231
       (replace hx231_0 := (HB.out.cell (World.block_lt_of_cell? w _ hx231_0)).trans hx231_0); (replace hx231_1 := (HB.out.cell (World.block_lt_of_cell? w _ hx231_1)).trans hx231_1); (replace hx231_2 := (HB.out.cell (World.block_lt_of_cell? w _ hx231_2)).trans hx231_2); (have HR231_1 := aM hi231_1); (have HC231_1 := aM hl231_1); clear hi231_1 hl231_1; (replace p231 := eq_true p231); (replace q231 := eq_true q231); (go_upto_region 4 with (fail)); (go_cut [30] (fun v30 wc => ∃ (kq : Nat) (x30_7 : Bool), v30 = .bool x30_7 ∧ Aside0 (tree_Kids.j1 kq l0 a1 ((rd_T40 l0 a1).f2) x30_7 = some r) ∧ Aside0 (kq ≤ kj2) ∧ Aside0 (Below w.heap.size w wc)))
       case first =>
        (have H := HC8.out); clear HC8; (by_cases c9 : ((rd_T40 l0 a1).f2) < 0)
        ·(rw [if_pos c9] at H); (have c9b0 : decide (((rd_T40 l0 a1).f2) < 0) = true := dE c9); clear c9; ((first | rw [c9b0] | (simp only [i64_w, i32_w]; rw [c9b0]) | skip)); (have H' := aM H); clear H; (go_wp2); (go_meet)
         case rel => exact ⟨_, (true), (by first | rfl | (simp; done) | (simp [*]; done)), H', ⟨by have := HJ2.out; first | omega | exact Nat.le_refl _⟩, ⟨by repeat (first | (with_reducible first | exact HB.out | apply lA | apply lN | apply lW) | exact HB.out)⟩⟩
        ·(rw [if_neg c9] at H); (have c9b0 : decide (((rd_T40 l0 a1).f2) < 0) = false := decide_eq_false c9); clear c9; ((first | rw [c9b0] | (simp only [i64_w, i32_w]; rw [c9b0]) | skip)); (have H' := aM H); clear H; (go_wp2); (go_meet)
         case rel => exact ⟨_, (decide (((rd_T40 l0 a1).f2) ≥ (wrap64 ((l0.length : Int) - a1)))), (by first | rfl | (simp; done) | (simp [*]; done)), H', ⟨by have := HJ2.out; first | omega | exact Nat.le_refl _⟩, ⟨by repeat (first | (with_reducible first | exact HB.out | apply lA | apply lN | apply lW) | exact HB.out)⟩⟩
       case rest =>
        as_aux_lemma =>
         clear HC8; (try clear c1); (try clear c2); (try clear p2); (try clear q2); (try clear hx2); (try clear c4); (try clear c4b0); (try clear c5); (try clear c6); (try clear c6b0); (try clear p6); (try clear c7); (try clear c7b0); (try clear c9); (try clear c9b0); (try clear hx231_0); (try clear hx231_1); (try clear hx231_2); (try clear p2); (try clear p231); (try clear q231); (obtain ⟨kq, x30_7, rfl, HA, HJ7, HB⟩ := hcut)
         cases kq with
         | zero => exact absurd HA.out (by simp [tree_Kids.j1])
         | succ kj7 =>
          (have H := HA.out); clear HA; (simp only [tree_Kids.j1] at H); (by_cases c10 : x30_7 = true)
          ·subst c10; (have H1 : (some ([] : List Int)) = some r := by rw [if_pos rfl] at H; exact H); clear H; (have H := H1); clear H1; (obtain rfl := Option.some.inj H); (go_wp2); (go_ret); (exact ⟨_, by first | rfl | (simp [errW_none, errW_some] <;> rfl) | (simp [*, errW_none, errW_some] <;> rfl), by first | exact Kd.R_nil _ _ _ _ _ | exact Kd.N_nil _ _ _ _ _ | exact Kd.V_nil _ _ _ _ _ | exact Kd.Q_nil _ _ _ _ _ | exact Kd.S_nil _ _ _ _ _, by repeat (first | (with_reducible first | exact HB.out | apply lA | apply lN | apply lW) | exact HB.out)⟩)
          ·(replace c10 := Bool.eq_false_iff.mpr c10); subst c10; (have H1 : (tree_Kids.l0 kj7 l0 a1 ((rd_T40 l0 a1).f2) ([] : List Int) (wrap64 (a1 + 1))) = some r := by rw [if_neg (show ¬ (false = true) by decide)] at H; exact H); clear H; (have H := H1); clear H1; (have H' := aM H); clear H; (go_wp2); (go_loopg [6, 7] kj7 (fun kq v6 v7 w' => ∃ (x6_3 : List Int) (x7_3 : Int), v7 = .int .i64 x7_3 ∧ Aside0 (tree_Kids.l0 kq l0 a1 ((rd_T40 l0 a1).f2) x6_3 x7_3 = some r) ∧ Aside0 (kq ≤ kj7) ∧ Aside0 (Kd.R (Kd.int .i64) 3 w' w.heap.size (fun _ => True) v6 x6_3) ∧ Aside0 (Below w.heap.size w w')))
           case atStart => exact ⟨(([] : List Int)), (wrap64 (a1 + 1)), (by first | rfl | (simp; done) | (simp [*]; done)), H', ⟨Nat.le_refl _⟩, ⟨by first | exact Kd.R_nil _ _ _ _ _ | exact Kd.N_nil _ _ _ _ _ | exact Kd.V_nil _ _ _ _ _ | exact Kd.Q_nil _ _ _ _ _ | exact Kd.S_nil _ _ _ _ _⟩, ⟨by repeat (first | (with_reducible first | exact HB.out | apply lA | apply lN | apply lW) | exact HB.out)⟩⟩
           case round =>
            as_aux_lemma =>
             clear H'; (try clear c1); (try clear c2); (try clear p2); (try clear q2); (try clear hx2); (try clear c4); (try clear c4b0); (try clear c5); (try clear c6); (try clear c6b0); (try clear p6); (try clear c7); (try clear c7b0); (try clear c9); (try clear c9b0); (try clear c10); (try clear hx231_0); (try clear hx231_1); (try clear hx231_2); (try clear p2); (try clear p231); (try clear p6); (try clear q2); (try clear q231); (obtain ⟨x6_3, x7_3, rfl, HA, HK3, HO_6, HB⟩ := hrel)
             cases gk with
             | zero => exact absurd HA.out (by simp [tree_Kids.l0])
             | succ k3 =>
              (have H := HA.out); clear HA; (simp only [tree_Kids.l0] at H); (by_cases c11 : x7_3 ≤ (wrap64 (a1 + ((rd_T40 l0 a1).f2))))
              ·(rw [if_pos c11] at H); (have c11b0 : decide (x7_3 ≤ (wrap64 (a1 + ((rd_T40 l0 a1).f2)))) = true := dE c11); clear c11; (by_cases c12 : 0 ≤ x7_3)
               ·(rw [if_pos c12] at H); (have c12b0 : decide (0 ≤ x7_3) = true := dE c12); clear c12; (by_cases c13 : x7_3 < (l0.length : Int))
                ·(rw [if_pos c13] at H); (have c13b0 : decide (x7_3 < (l0.length : Int)) = true := dE c13); clear c13; (by_cases c14 : ((rd_T40 l0 x7_3).f2) < 0)
                 ·(rw [if_pos c14] at H); (have c14b0 : decide (((rd_T40 l0 x7_3).f2) < 0) = true := dE c14); clear c14; (obtain rfl := Option.some.inj H); (have p232 : 0 ≤ (x7_3 : Int) := oD (by first | (with_reducible assumption) | assumption)); (have q232 : x7_3 < (l0.length : Int) := oD (by first | (with_reducible assumption) | assumption)); (obtain ⟨ad232, A232_1, c232_1, e232, hx232_0, hx232_1, hx232_2, hl232_1, hi232_1⟩ := at_T40 HR0.out x7_3 p232 q232); (obtain rfl : ad231 = ad232 := (by injection e232)); (replace hx232_0 := (HB.out.cell (World.block_lt_of_cell? w _ hx232_0)).trans hx232_0); (replace hx232_1 := (HB.out.cell (World.block_lt_of_cell? w _ hx232_1)).trans hx232_1); (replace hx232_2 := (HB.out.cell (World.block_lt_of_cell? w _ hx232_2)).trans hx232_2); (have HR232_1 := aM hi232_1); (have HC232_1 := aM hl232_1); clear hi232_1 hl232_1; (replace p232 := eq_true p232); (replace q232 := eq_true q232); (go_wp2); (go_ret); (exact ⟨_, by first | rfl | (simp [errW_none, errW_some] <;> rfl) | (simp [*, errW_none, errW_some] <;> rfl), by first | exact Kd.R_nil _ _ _ _ _ | exact Kd.N_nil _ _ _ _ _ | exact Kd.V_nil _ _ _ _ _ | exact Kd.Q_nil _ _ _ _ _ | exact Kd.S_nil _ _ _ _ _, by repeat (first | (with_reducible first | exact HB.out | apply lA | apply lN | apply lW) | exact HB.out)⟩)
                 ·(rw [if_neg c14] at H); (have c14b0 : decide (((rd_T40 l0 x7_3).f2) < 0) = false := decide_eq_false c14); clear c14; (by_cases c15 : ((rd_T40 l0 x7_3).f2) > (wrap64 ((wrap64 (a1 + ((rd_T40 l0 a1).f2))) - x7_3)))
                  ·(rw [if_pos c15] at H); (have c15b0 : decide ((wrap64 ((wrap64 (a1 + ((rd_T40 l0 a1).f2))) - x7_3)) < ((rd_T40 l0 x7_3).f2)) = true := dE c15); clear c15; (obtain rfl := Option.some.inj H); (have p232 : 0 ≤ (x7_3 : Int) := oD (by first | (with_reducible assumption) | assumption)); (have q232 : x7_3 < (l0.length : Int) := oD (by first | (with_reducible assumption) | assumption)); (obtain ⟨ad232, A232_1, c232_1, e232, hx232_0, hx232_1, hx232_2, hl232_1, hi232_1⟩ := at_T40 HR0.out x7_3 p232 q232); (obtain rfl : ad231 = ad232 := (by injection e232)); (replace hx232_0 := (HB.out.cell (World.block_lt_of_cell? w _ hx232_0)).trans hx232_0); (replace hx232_1 := (HB.out.cell (World.block_lt_of_cell? w _ hx232_1)).trans hx232_1); (replace hx232_2 := (HB.out.cell (World.block_lt_of_cell? w _ hx232_2)).trans hx232_2); (have HR232_1 := aM hi232_1); (have HC232_1 := aM hl232_1); clear hi232_1 hl232_1; (replace p232 := eq_true p232); (replace q232 := eq_true q232); (have p233 : 0 ≤ (x7_3 : Int) := oD (by first | (with_reducible assumption) | assumption)); (have q233 : x7_3 < (l0.length : Int) := oD (by first | (with_reducible assumption) | assumption)); (obtain ⟨ad233, A233_1, c233_1, e233, hx233_0, hx233_1, hx233_2, hl233_1, hi233_1⟩ := at_T40 HR0.out x7_3 p233 q233); (obtain rfl : ad231 = ad233 := (by injection e233)); (replace hx233_0 := (HB.out.cell (World.block_lt_of_cell? w _ hx233_0)).trans hx233_0); (replace hx233_1 := (HB.out.cell (World.block_lt_of_cell? w _ hx233_1)).trans hx233_1); (replace hx233_2 := (HB.out.cell (World.block_lt_of_cell? w _ hx233_2)).trans hx233_2); (have HR233_1 := aM hi233_1); (have HC233_1 := aM hl233_1); clear hi233_1 hl233_1; (replace p233 := eq_true p233); (replace q233 := eq_true q233); (have ea_ := Option.some.inj (hx232_1.symm.trans hx233_1)); (injection ea_ with ea_ en_ ec_); subst ea_; subst ec_; clear en_; (go_wp2); (go_ret); (exact ⟨_, by first | rfl | (simp [errW_none, errW_some] <;> rfl) | (simp [*, errW_none, errW_some] <;> rfl), by first | exact Kd.R_nil _ _ _ _ _ | exact Kd.N_nil _ _ _ _ _ | exact Kd.V_nil _ _ _ _ _ | exact Kd.Q_nil _ _ _ _ _ | exact Kd.S_nil _ _ _ _ _, by repeat (first | (with_reducible first | exact HB.out | apply lA | apply lN | apply lW) | exact HB.out)⟩)
                  ·(rw [if_neg c15] at H); (have c15b0 : decide ((wrap64 ((wrap64 (a1 + ((rd_T40 l0 a1).f2))) - x7_3)) < ((rd_T40 l0 x7_3).f2)) = false := decide_eq_false c15); clear c15; (by_cases c16 : x6_3.length < 17592186044416)
                   ·(rw [if_pos c16] at H); (have LMc16 := aM c16); clear c16; (obtain ⟨y234, hy234⟩ : ∃ y_ : List Int, y_ = (x6_3 ++ [x7_3]) := ⟨_, rfl⟩); (replace H : (tree_Kids.l0 k3 l0 a1 ((rd_T40 l0 a1).f2) y234 (wrap64 (x7_3 + (wrap64 (1 + ((rd_T40 l0 x7_3).f2)))))) = some r := by first | (rw [hy234]; with_reducible exact H) | (have H2_ := (Option.bind_some _ _).symm.trans H; rw [hy234]; with_reducible exact H2_) | (have H2_ := (Option.bind_some _ _).symm.trans H; with_reducible exact H2_) | with_reducible exact H | (rw [hy234]; exact H) | exact H); (have Ny234 := aM hy234); clear hy234; (have H' := aM H); clear H; (have p232 : 0 ≤ (x7_3 : Int) := oD (by first | (with_reducible assumption) | assumption)); (have q232 : x7_3 < (l0.length : Int) := oD (by first | (with_reducible assumption) | assumption)); (obtain ⟨ad232, A232_1, c232_1, e232, hx232_0, hx232_1, hx232_2, hl232_1, hi232_1⟩ := at_T40 HR0.out x7_3 p232 q232); (obtain rfl : ad231 = ad232 := (by injection e232)); (replace hx232_0 := (HB.out.cell (World.block_lt_of_cell? w _ hx232_0)).trans hx232_0); (replace hx232_1 := (HB.out.cell (World.block_lt_of_cell? w _ hx232_1)).trans hx232_1); (replace hx232_2 := (HB.out.cell (World.block_lt_of_cell? w _ hx232_2)).trans hx232_2); (have HR232_1 := aM hi232_1); (have HC232_1 := aM hl232_1); clear hi232_1 hl232_1; (replace p232 := eq_true p232); (replace q232 := eq_true q232); (have p233 : 0 ≤ (x7_3 : Int) := oD (by first | (with_reducible assumption) | assumption)); (have q233 : x7_3 < (l0.length : Int) := oD (by first | (with_reducible assumption) | assumption)); (obtain ⟨ad233, A233_1, c233_1, e233, hx233_0, hx233_1, hx233_2, hl233_1, hi233_1⟩ := at_T40 HR0.out x7_3 p233 q233); (obtain rfl : ad231 = ad233 := (by injection e233)); (replace hx233_0 := (HB.out.cell (World.block_lt_of_cell? w _ hx233_0)).trans hx233_0); (replace hx233_1 := (HB.out.cell (World.block_lt_of_cell? w _ hx233_1)).trans hx233_1); (replace hx233_2 := (HB.out.cell (World.block_lt_of_cell? w _ hx233_2)).trans hx233_2); (have HR233_1 := aM hi233_1); (have HC233_1 := aM hl233_1); clear hi233_1 hl233_1; (replace p233 := eq_true p233); (replace q233 := eq_true q233); (have ea_ := Option.some.inj (hx232_1.symm.trans hx233_1)); (injection ea_ with ea_ en_ ec_); subst ea_; subst ec_; clear en_; (go_wp2_with (first | ((with_reducible refine gate_builtin (b := .append) (xs := #[.tmp 65, .tmp 67]) rfl ?_); (try (refine gate_guard (by rfl) ?_; dsimp only)); at_builtin; refine Kd.R_append (Kd.int .i64) (w0 := w) w.heap.size rfl (.tmp 65) (.tmp 67) 32 3 (.int .i64 0) 8 rfl Tryd.underlying32 info3 rfl (by decide) (by omega) u6 x6_3 x7_3 [.int .i64 x7_3] (fun _ => True) (fun _ => False) rfl rfl ?aP (fun _ hk => hk.elim) ?aF ?aO ?aB ?aS ?aL ?_; (case aP => exact rfl); (case aB => exact (by repeat (first | (with_reducible first | exact HB.out | apply lA | apply lN | apply lW) | exact HB.out))); (case aF => exact (fun _ _ => trivial)); (case aO => exact (by (with_reducible repeat (first | apply Kd.R_alloc | apply Kd.R_drewN | apply Kd.R_drew)); exact HO_6.out)); (case aS => exact (below_size (by repeat (first | (with_reducible first | exact HB.out | apply lA | apply lN | apply lW) | exact HB.out)))); (case aL => have := LMc16.out; omega); intro v235 w17 ho hb hg hat; rw [← Ny234.out] at ho; have n0_ := aM (hb); have n1_ := aM (ho); clear HB; clear HO_6; have HB := n0_; have HO236 := n1_; clear n0_ n1_; clear ho hb hg hat; have p237 : 0 ≤ (x7_3 : Int) := oD (by first | (with_reducible assumption) | assumption); have q237 : x7_3 < (l0.length : Int) := oD (by first | (with_reducible assumption) | assumption); obtain ⟨ad237, A237_1, c237_1, e237, hx237_0, hx237_1, hx237_2, hl237_1, hi237_1⟩ := at_T40 HR0.out x7_3 p237 q237; obtain rfl : ad231 = ad237 := (by injection e237); replace hx237_0 := (HB.out.cell (World.block_lt_of_cell? w _ hx237_0)).trans hx237_0; replace hx237_1 := (HB.out.cell (World.block_lt_of_cell? w _ hx237_1)).trans hx237_1; replace hx237_2 := (HB.out.cell (World.block_lt_of_cell? w _ hx237_2)).trans hx237_2; have HR237_1 := aM hi237_1; have HC237_1 := aM hl237_1; clear hi237_1 hl237_1; replace p237 := eq_true p237; replace q237 := eq_true q237))); (go_roundg k3)
                    case measure => have := HJ2.out; have := HJ7.out; have := HK3.out; omega
                    case rel => exact ⟨(y234), (wrap64 (x7_3 + (wrap64 (1 + ((rd_T40 l0 x7_3).f2))))), (by first | rfl | (simp; done) | (simp [*]; done)), H', ⟨by have := HJ2.out; have := HJ7.out; have := HK3.out; omega⟩, ⟨by (with_reducible repeat (first | apply Kd.R_alloc | apply Kd.R_drewN | apply Kd.R_drew)); exact HO236.out⟩, ⟨by repeat (first | (with_reducible first | exact HB.out | apply lA | apply lN | apply lW) | exact HB.out)⟩⟩
                   ·(rw [if_neg c16] at H); (exact absurd H (by simp))
                ·(rw [if_neg c13] at H); (exact absurd H (by simp))
               ·(rw [if_neg c12] at H); (exact absurd H (by simp))
              ·(rw [if_neg c11] at H); (have c11b0 : decide (x7_3 ≤ (wrap64 (a1 + ((rd_T40 l0 a1).f2)))) = false := decide_eq_false c11); clear c11; (obtain rfl := Option.some.inj H); (go_wp2); (go_ret); (exact ⟨_, by first | rfl | (simp [errW_none, errW_some] <;> rfl) | (simp [*, errW_none, errW_some] <;> rfl), by (with_reducible repeat (first | apply Kd.R_alloc | apply Kd.R_drewN | apply Kd.R_drew)); exact HO_6.out, by repeat (first | (with_reducible first | exact HB.out | apply lA | apply lN | apply lW) | exact HB.out)⟩)
      ·(rw [if_neg c7] at H); (exact absurd H (by simp))
     ·(rw [if_neg c6] at H); (exact absurd H (by simp))
def strings_Join.f (l0 : List ByteArray) (a1 : ByteArray) : Option (ByteArray) :=
 if l0.length ≤ 140737488355328 ∧ (Lib.join (l0.map (·.data.toList)) a1.data.toList).length ≤ 140737488355328 then some ⟨(Lib.join (l0.map (·.data.toList)) a1.data.toList).toArray⟩ else none
theorem strings_Join.calls (A0 : Option Addr) (c0 : Nat) (l0 : List ByteArray) (a1 : ByteArray) (r : ByteArray) (w : World) (hr0 : Kd.C Kd.string w A0 l0.length l0) (hc0 : l0.length ≤ c0) (h : strings_Join.f l0 a1 = some r) :
  Calls Tryd.prog 24 #[.slice A0 l0.length c0, .string a1] w fun e w' => e = .returned (.string r) ∧ Below w.heap.size w w' := by
 (unfold strings_Join.f at h); (split at h)
 ·(rename_i hb); (obtain rfl := Option.some.inj h)
  rcases Nat.eq_zero_or_pos l0.length with h0 | h0
  ·(obtain rfl := List.eq_nil_of_length_eq_zero h0); (exact (Tryd.strings_Join_none A0 c0 a1 w).mono fun e w' ⟨he, hw⟩ => ⟨he, hw ▸ Below.refl _ _⟩)
  ·(obtain ⟨⟨bk, o, sp⟩, hA, hcell⟩ := Kd.at_string hr0 0 (by omega) (by omega)); (have hcell' : w.cell? ⟨bk, o, sp⟩ = some (.string (rdOf ByteArray.empty l0 0)) := hcell); (have hbk : bk < w.heap.size := World.block_lt_of_cell? w _ hcell')
   obtain rfl : sp = none := by
    (unfold World.cell? at hcell'); (split at hcell')
    ·rcases sp with _ | sp
     ·rfl
     ·simp at hcell'
    ·cases hcell'
   subst hA; (refine Tryd.strings_Join bk o c0 l0 a1 w (fun j x hx => ?_) hbk hb.1 hc0 hb.2); (have hj : j < l0.length := (List.getElem?_eq_some_iff.1 hx).1); (obtain ⟨ad, hA, hc⟩ := Kd.at_string hr0 (j : Int) (by omega) (by omega)); (obtain rfl := Option.some.inj hA); (have e1 : (⟨bk, o, none⟩ : Addr).add j = ⟨bk, o + j, none⟩ := by unfold Addr.add; split <;> simp_all); (rw [Int.toNat_natCast, e1] at hc); (rw [hc]); (have e2 : rdOf ByteArray.empty l0 (j : Int) = x := by unfold rdOf; rw [Int.toNat_natCast, List.getD_eq_getElem?_getD, hx]; rfl); (rw [e2])
 ·cases h
end Go.Proofs.YtdgeokpbedllaaaDoor.PTre