-- Printed by a program of this session's over the kit's printer; library functions by contracts off the shelf.
import Derived.Test.YtdgeokpbedllaaaDoorGP
import Derived.Test.YtdgeokpbedllaaaDoorPTrex0
import Derived.Test.YtdgeokpbedllaaaDoorPTrex16
namespace Go.Proofs.YtdgeokpbedllaaaDoor.PTre
open Go.RowKit Go.Proofs.YtdgeokpbedllaaaDoorW.PrintWords Go.Proofs.YtdgeokpbedllaaaDoorW.PrintLast Go.Proofs.YtdgeokpbedllaaaDoorW.PrintMore Go.Proofs.YtdgeokpbedllaaaDoor.Base
attribute [local go_sem] max2_int min2_int max_two min_two max_three min_three max_four min_four   -- for this text's walks alone
set_option linter.unusedVariables false
set_option linter.unusedSimpArgs false
mutual
def solsticekeep_Comps.l0 : Nat → List (S40) → List (S40) → Int → Option (Bool)
 | 0, _, _, _ => none
 | k + 1, x0, x1, x5 => if x5 < (x0.length : Int) then (if 0 ≤ x5 then (if x5 < (x1.length : Int) then (if ((rd_T40 x0 x5).f0).toList = ((rd_T40 x1 x5).f0).toList then (if ((rd_T40 x0 x5).f2) = ((rd_T40 x1 x5).f2) then (solsticekeep_Comps.j1 k x0 x1 x5 ((((rd_T40 x0 x5).f1).length : Int) != (((rd_T40 x1 x5).f1).length : Int))) else (solsticekeep_Comps.j1 k x0 x1 x5 true)) else (solsticekeep_Comps.j1 k x0 x1 x5 true)) else (none)) else (none)) else (some true)
def solsticekeep_Comps.j1 : Nat → List (S40) → List (S40) → Int → Bool → Option (Bool)
 | 0, _, _, _, _ => none
 | k + 1, x0, x1, x5, x56 => if x56 = true then (some false) else (solsticekeep_Comps.l1 k x0 x1 x5 0)
def solsticekeep_Comps.l1 : Nat → List (S40) → List (S40) → Int → Int → Option (Bool)
 | 0, _, _, _, _ => none
 | k + 1, x0, x1, x5, x6 => if 0 ≤ x5 then (if x5 < (x0.length : Int) then (if x6 < (((rd_T40 x0 x5).f1).length : Int) then (if 0 ≤ x6 then (if x5 < (x1.length : Int) then (if x6 < (((rd_T40 x1 x5).f1).length : Int) then ((solsticekeep_Line.f k ((rd_T44 ((rd_T40 x0 x5).f1) x6).f0) ((rd_T44 ((rd_T40 x0 x5).f1) x6).f1) ((rd_T44 ((rd_T40 x0 x5).f1) x6).f2) ((rd_T44 ((rd_T40 x1 x5).f1) x6).f0) ((rd_T44 ((rd_T40 x1 x5).f1) x6).f1) ((rd_T44 ((rd_T40 x1 x5).f1) x6).f2)).bind fun t304 => (if t304 = true then (solsticekeep_Comps.l1 k x0 x1 x5 (wrap64 (x6 + 1))) else (some false))) else (none)) else (none)) else (none)) else (solsticekeep_Comps.l0 k x0 x1 (wrap64 (x5 + 1)))) else (none)) else (none)
end
def solsticekeep_Comps.f (k : Nat) (l0 : List (S40)) (l1 : List (S40)) : Option (Bool) := if (l0.length : Int) = (l1.length : Int) then (solsticekeep_Comps.l0 k l0 l1 0) else (some false)
theorem solsticekeep_Comps.mono_l : ∀ k, (∀ y0 y1 y2, LeO (solsticekeep_Comps.l0 k y0 y1 y2) (solsticekeep_Comps.l0 (k + 1) y0 y1 y2)) ∧ (∀ y0 y1 y2 y3, LeO (solsticekeep_Comps.j1 k y0 y1 y2 y3) (solsticekeep_Comps.j1 (k + 1) y0 y1 y2 y3)) ∧ (∀ y0 y1 y2 y3, LeO (solsticekeep_Comps.l1 k y0 y1 y2 y3) (solsticekeep_Comps.l1 (k + 1) y0 y1 y2 y3))
 | 0 => ⟨fun _ _ _ r h => by simp [solsticekeep_Comps.l0] at h, fun _ _ _ _ r h => by simp [solsticekeep_Comps.j1] at h, fun _ _ _ _ r h => by simp [solsticekeep_Comps.l1] at h⟩
 | k + 1 => by
  obtain ⟨ih0, ih1, ih2⟩ := solsticekeep_Comps.mono_l k
  refine ⟨?_, ?_, ?_⟩ <;> intros
  all_goals first | unfold solsticekeep_Comps.l0 | unfold solsticekeep_Comps.j1 | unfold solsticekeep_Comps.l1
  all_goals repeat' first | (with_reducible first | exact ih0 _ _ _ | exact ih1 _ _ _ _ | exact ih2 _ _ _ _ | exact solsticekeep_Line.mono _ _ _ _ _ _ _ | exact LeO.refl _ | exact LeO.none _ | refine LeO.ite ?_ ?_ | refine LeO.bind ?_ (fun _ => ?_))
theorem solsticekeep_Comps.mono : ∀ a0 a1 k, LeO (solsticekeep_Comps.f k a0 a1) (solsticekeep_Comps.f (k + 1) a0 a1) := by
 (intro a0 a1 k); (obtain ⟨ih0, ih1, ih2⟩ := solsticekeep_Comps.mono_l k); (unfold solsticekeep_Comps.f)
 repeat' first | (with_reducible first | exact ih0 _ _ _ | exact ih1 _ _ _ _ | exact ih2 _ _ _ _ | exact solsticekeep_Line.mono _ _ _ _ _ _ _ | exact LeO.refl _ | exact LeO.none _ | refine LeO.ite ?_ ?_ | refine LeO.bind ?_ (fun _ => ?_))
def solsticekeep_Comps.T6 : Bool × List (List Nat × List Nat) := (true, [([], []), ([], []), ([0, 1], [0, 1]), ([2], [2]), ([3], [3]), ([], []), ([], []), ([5, 6], [5, 6]), ([7], [7]), ([8], [8]), ([4, 9], [4, 9]), ([10], [10]), ([11], [11]), ([11], [11]), ([12, 13, 11], [11, 12, 13]), ([14, 11], [11, 14]), ([15, 11], [11, 15]), ([11], [11]), ([11], [11]), ([17, 18, 11], [11, 17, 18]), ([19, 11], [11, 19]), ([20, 11], [11, 20]), ([16, 21, 11], [11, 16, 21]), ([11, 22], [11, 22]), ([23, 11], [23]), ([24], [24]), ([24], [24]), ([25, 26, 24], [24, 25, 26]), ([27, 24], [24, 27]), ([28, 24], [24, 28]), ([29, 24], [24, 29]), ([24], [24]), ([24], [24]), ([31, 32, 24], [24, 31, 32]), ([33, 24], [24, 33]), ([34, 24], [24, 34]), ([35, 24], [24, 35]), ([30, 36, 24], [24, 30, 36]), ([24, 37], [24, 37])])
def solsticekeep_Comps.B6 : List Nat := [0, 0, 3, 7, 15, 0, 0, 96, 224, 480, 1023, 2047, 4095, 4095, 16383, 32767, 65535, 4095, 4095, 397311, 921599, 1970175, 4194303, 8388607, 16777215, 33554431, 33554431, 134217727, 268435455, 536870911, 1073741823, 33554431, 33554431, 6476005375, 15065939967, 32245809151, 66605547519, 137438953471, 274877906943]
theorem solsticekeep_Comps.tab6 : rtab .any (opsOf Tryd.f13 6) = solsticekeep_Comps.T6 := by kernel_rfl
theorem solsticekeep_Comps.bits6 : waitsOk solsticekeep_Comps.T6.2 solsticekeep_Comps.B6 = true := by kernel_rfl
def solsticekeep_Comps.T11 : Bool × List (List Nat × List Nat) := (true, [([], []), ([], []), ([0, 1], [0, 1]), ([2], [2]), ([3], [3]), ([], []), ([4, 5], [4, 5]), ([6], [6]), ([], []), ([], []), ([8, 9], [8, 9]), ([10], [10]), ([11], [11]), ([], []), ([12, 13], [12, 13]), ([14], [14]), ([7, 15], [7, 15]), ([16], [16])])
def solsticekeep_Comps.B11 : List Nat := [0, 0, 3, 7, 15, 0, 63, 127, 0, 0, 768, 1792, 3840, 0, 16128, 32512, 65535, 131071]
theorem solsticekeep_Comps.tab11 : rtab .any (opsOf Tryd.f13 11) = solsticekeep_Comps.T11 := by kernel_rfl
theorem solsticekeep_Comps.bits11 : waitsOk solsticekeep_Comps.T11.2 solsticekeep_Comps.B11 = true := by kernel_rfl
set_option maxHeartbeats 8000000 in
set_option maxRecDepth 100000 in
theorem solsticekeep_Comps.calls (k : Nat) (A0 : Option Addr) (c0 : Nat) (l0 : List (S40)) (A1 : Option Addr) (c1 : Nat) (l1 : List (S40)) (r : Bool) (w : World) (hr0 : Kd.C k40 w A0 l0.length l0) (hc0 : l0.length ≤ c0) (hr1 : Kd.C k40 w A1 l1.length l1) (hc1 : l1.length ≤ c1) (h : solsticekeep_Comps.f k l0 l1 = some r) :
  Calls Tryd.prog 13 #[.slice A0 l0.length c0, .slice A1 l1.length c1] w fun e w' => e = .returned (.bool r) ∧ Below w.heap.size w w' := by
 (have hu44 := Tryd.underlying44); (have HR0 := aM hr0); (have HC0 := aM hc0); clear hr0 hc0; (have HR1 := aM hr1); (have HC1 := aM hc1); clear hr1 hc1; (have HB := aM (Below.refl w.heap.size w)); (have H : (if (l0.length : Int) = (l1.length : Int) then (solsticekeep_Comps.l0 k l0 l1 0) else (some false)) = some r := h); clear h; (by_cases c3 : (l0.length : Int) = (l1.length : Int))
 ·(rw [if_pos c3] at H); (have c3b0 : ((l0.length : Int) == (l1.length : Int)) = true := beq_iff_eq.mpr c3); (have c3b1 : ((l0.length : Int) != (l1.length : Int)) = false := bne_eq_false_iff_eq.mpr c3); (have c3b2 : (l0.length == l1.length) = true := by first | simpa using c3 | (simp at c3 ⊢; omega)); clear c3; (have H' := aM H); clear H; (go_enter Tryd.func13, Tryd.ntmps13); (go_wp2); (go_loopg [5] k (fun kq v5 w' => ∃ (x5_1 : Int), v5 = .int .i64 x5_1 ∧ Aside0 (solsticekeep_Comps.l0 kq l0 l1 x5_1 = some r) ∧ Aside0 (kq ≤ k) ∧ Aside0 (Below w.heap.size w w')))
  case atStart => exact ⟨(0), (by first | rfl | (simp; done) | (simp [*]; done)), H', ⟨Nat.le_refl _⟩, ⟨by with_reducible repeat (first | exact HB.out | apply lA | apply lN | apply lW)⟩⟩
  case round =>
   as_aux_lemma =>
    clear H'; (try clear c1); (try clear p2); (try clear c3); (try clear c3b0); (try clear c3b1); (try clear c3b2); (obtain ⟨x5_1, rfl, HA, HK1, HB⟩ := hrel)
    cases gk with
    | zero => exact absurd HA.out (by simp [solsticekeep_Comps.l0])
    | succ k1 =>
     (have H := HA.out); clear HA; (simp only [solsticekeep_Comps.l0] at H); (by_cases c4 : x5_1 < (l0.length : Int))
     ·(rw [if_pos c4] at H); (have c4b0 : decide (x5_1 < (l0.length : Int)) = true := dE c4); clear c4; (have HC5 := aM H); clear H; (go_upto_region 6 with (fail)); (go_cut [56] (fun v56 wc => ∃ (kq : Nat) (x56_4 : Bool), v56 = .bool x56_4 ∧ Aside0 (solsticekeep_Comps.j1 kq l0 l1 x5_1 x56_4 = some r) ∧ Aside0 (kq ≤ k1) ∧ Aside0 (Below w.heap.size w wc)))
      case first =>
       as_aux_lemma =>
        (have H := HC5.out); clear HC5; (by_cases c6 : 0 ≤ x5_1)
        ·(rw [if_pos c6] at H); (have c6b0 : decide (0 ≤ x5_1) = true := dE c6); clear c6; ((first | rw [c6b0] | (simp only [i64_w, i32_w]; rw [c6b0]) | skip)); (by_cases c7 : x5_1 < (l1.length : Int))
         ·(rw [if_pos c7] at H); (have c7b0 : decide (x5_1 < (l1.length : Int)) = true := dE c7); clear c7; (by_cases c8 : ((rd_T40 l0 x5_1).f0).toList = ((rd_T40 l1 x5_1).f0).toList)
          ·(rw [if_pos c8] at H); (have c8b0 : (((rd_T40 l0 x5_1).f0).toList == ((rd_T40 l1 x5_1).f0).toList) = true := beq_iff_eq.mpr c8); (have c8b1 : (((rd_T40 l0 x5_1).f0).toList != ((rd_T40 l1 x5_1).f0).toList) = false := bne_eq_false_iff_eq.mpr c8); clear c8; (by_cases c9 : ((rd_T40 l0 x5_1).f2) = ((rd_T40 l1 x5_1).f2))
           ·(rw [if_pos c9] at H); (have c9b0 : (((rd_T40 l0 x5_1).f2) == ((rd_T40 l1 x5_1).f2)) = true := beq_iff_eq.mpr c9); (have c9b1 : (((rd_T40 l0 x5_1).f2) != ((rd_T40 l1 x5_1).f2)) = false := bne_eq_false_iff_eq.mpr c9); clear c9; (have H' := aM H); clear H; (try go_wp2); (have n0_ := aM (lW HB.out)); clear HB; (have HB := n0_); clear n0_; (have p293 : 0 ≤ (x5_1 : Int) := oD ‹_›); (have q293 : x5_1 < (l0.length : Int) := oD ‹_›); (obtain ⟨ad293, A293_1, c293_1, e293, hx293_0, hx293_1, hx293_2, hl293_1, hi293_1⟩ := at_T40 HR0.out x5_1 p293 q293); (have hw293_2 := hx293_2); (have hw293_1 := hx293_1); (have hw293_0 := hx293_0)
            cases e293
            (replace hx293_0 := cl_ HB.out hx293_0); (replace hx293_1 := cl_ HB.out hx293_1); (replace hx293_2 := cl_ HB.out hx293_2); (have HR293_1 := aM hi293_1); (have HC293_1 := aM hl293_1); clear hi293_1 hl293_1; (replace p293 := eq_true p293); (replace q293 := eq_true q293); (have p294 : 0 ≤ (x5_1 : Int) := oD ‹_›); (have q294 : x5_1 < (l1.length : Int) := oD ‹_›); (obtain ⟨ad294, A294_1, c294_1, e294, hx294_0, hx294_1, hx294_2, hl294_1, hi294_1⟩ := at_T40 HR1.out x5_1 p294 q294); (have hw294_2 := hx294_2); (have hw294_1 := hx294_1); (have hw294_0 := hx294_0)
            cases e294
            (replace hx294_0 := cl_ HB.out hx294_0); (replace hx294_1 := cl_ HB.out hx294_1); (replace hx294_2 := cl_ HB.out hx294_2); (have HR294_1 := aM hi294_1); (have HC294_1 := aM hl294_1); clear hi294_1 hl294_1; (replace p294 := eq_true p294); (replace q294 := eq_true q294); (have p295 : 0 ≤ (x5_1 : Int) := oD ‹_›); (have q295 : x5_1 < (l0.length : Int) := oD ‹_›); (obtain ⟨ad295, A295_1, c295_1, e295, hx295_0, hx295_1, hx295_2, hl295_1, hi295_1⟩ := at_T40 HR0.out x5_1 p295 q295); (have hw295_2 := hx295_2); (have hw295_1 := hx295_1); (have hw295_0 := hx295_0); (obtain rfl : ad293 = ad295 := (by injection e295)); (replace hx295_0 := cl_ HB.out hx295_0); (replace hx295_1 := cl_ HB.out hx295_1); (replace hx295_2 := cl_ HB.out hx295_2); (have HR295_1 := aM hi295_1); (have HC295_1 := aM hl295_1); clear hi295_1 hl295_1; (replace p295 := eq_true p295); (replace q295 := eq_true q295); (have ea_ := Option.some.inj (hx293_1.symm.trans hx295_1)); (injection ea_ with ea_ en_ ec_); subst ea_; subst ec_; clear en_; (have p296 : 0 ≤ (x5_1 : Int) := oD ‹_›); (have q296 : x5_1 < (l1.length : Int) := oD ‹_›); (obtain ⟨ad296, A296_1, c296_1, e296, hx296_0, hx296_1, hx296_2, hl296_1, hi296_1⟩ := at_T40 HR1.out x5_1 p296 q296); (have hw296_2 := hx296_2); (have hw296_1 := hx296_1); (have hw296_0 := hx296_0); (obtain rfl : ad294 = ad296 := (by injection e296)); (replace hx296_0 := cl_ HB.out hx296_0); (replace hx296_1 := cl_ HB.out hx296_1); (replace hx296_2 := cl_ HB.out hx296_2); (have HR296_1 := aM hi296_1); (have HC296_1 := aM hl296_1); clear hi296_1 hl296_1; (replace p296 := eq_true p296); (replace q296 := eq_true q296); (have ea_ := Option.some.inj (hx294_1.symm.trans hx296_1)); (injection ea_ with ea_ en_ ec_); subst ea_; subst ec_; clear en_; (have p297 : 0 ≤ (x5_1 : Int) := oD ‹_›); (have q297 : x5_1 < (l0.length : Int) := oD ‹_›); (obtain ⟨ad297, A297_1, c297_1, e297, hx297_0, hx297_1, hx297_2, hl297_1, hi297_1⟩ := at_T40 HR0.out x5_1 p297 q297); (have hw297_2 := hx297_2); (have hw297_1 := hx297_1); (have hw297_0 := hx297_0); (obtain rfl : ad293 = ad297 := (by injection e297)); (replace hx297_0 := cl_ HB.out hx297_0); (replace hx297_1 := cl_ HB.out hx297_1); (replace hx297_2 := cl_ HB.out hx297_2); (have HR297_1 := aM hi297_1); (have HC297_1 := aM hl297_1); clear hi297_1 hl297_1; (replace p297 := eq_true p297); (replace q297 := eq_true q297); (have ea_ := Option.some.inj (hx293_1.symm.trans hx297_1)); (injection ea_ with ea_ en_ ec_); subst ea_; subst ec_; clear en_; (have p298 : 0 ≤ (x5_1 : Int) := oD ‹_›); (have q298 : x5_1 < (l1.length : Int) := oD ‹_›); (obtain ⟨ad298, A298_1, c298_1, e298, hx298_0, hx298_1, hx298_2, hl298_1, hi298_1⟩ := at_T40 HR1.out x5_1 p298 q298); (have hw298_2 := hx298_2); (have hw298_1 := hx298_1); (have hw298_0 := hx298_0); (obtain rfl : ad294 = ad298 := (by injection e298)); (replace hx298_0 := cl_ HB.out hx298_0); (replace hx298_1 := cl_ HB.out hx298_1); (replace hx298_2 := cl_ HB.out hx298_2); (have HR298_1 := aM hi298_1); (have HC298_1 := aM hl298_1); clear hi298_1 hl298_1; (replace p298 := eq_true p298); (replace q298 := eq_true q298); (have ea_ := Option.some.inj (hx294_1.symm.trans hx298_1)); (injection ea_ with ea_ en_ ec_); subst ea_; subst ec_; clear en_; (refine start_ (n := 39) (S := fun w' => w'.cell? (ad293.add ((x5_1).toNat * 3)) = some (.string ((rd_T40 l0 x5_1).f0)) ∧ w'.cell? ⟨(ad293.add ((x5_1).toNat * 3)).block, (ad293.add ((x5_1).toNat * 3)).off + 1, none⟩ = some (.slice A293_1 ((rd_T40 l0 x5_1).f1).length c293_1) ∧ w'.cell? ⟨(ad293.add ((x5_1).toNat * 3)).block, (ad293.add ((x5_1).toNat * 3)).off + 2, none⟩ = some (.int .i64 ((rd_T40 l0 x5_1).f2)) ∧ w'.cell? (ad294.add ((x5_1).toNat * 3)) = some (.string ((rd_T40 l1 x5_1).f0)) ∧ w'.cell? ⟨(ad294.add ((x5_1).toNat * 3)).block, (ad294.add ((x5_1).toNat * 3)).off + 1, none⟩ = some (.slice A294_1 ((rd_T40 l1 x5_1).f1).length c294_1) ∧ w'.cell? ⟨(ad294.add ((x5_1).toNat * 3)).block, (ad294.add ((x5_1).toNat * 3)).off + 2, none⟩ = some (.int .i64 ((rd_T40 l1 x5_1).f2)) ∧ w'.cell? (ad293.add ((x5_1).toNat * 3)) = some (.string ((rd_T40 l0 x5_1).f0)) ∧ w'.cell? ⟨(ad293.add ((x5_1).toNat * 3)).block, (ad293.add ((x5_1).toNat * 3)).off + 1, none⟩ = some (.slice A293_1 ((rd_T40 l0 x5_1).f1).length c293_1) ∧ w'.cell? ⟨(ad293.add ((x5_1).toNat * 3)).block, (ad293.add ((x5_1).toNat * 3)).off + 2, none⟩ = some (.int .i64 ((rd_T40 l0 x5_1).f2)) ∧ w'.cell? (ad294.add ((x5_1).toNat * 3)) = some (.string ((rd_T40 l1 x5_1).f0)) ∧ w'.cell? ⟨(ad294.add ((x5_1).toNat * 3)).block, (ad294.add ((x5_1).toNat * 3)).off + 1, none⟩ = some (.slice A294_1 ((rd_T40 l1 x5_1).f1).length c294_1) ∧ w'.cell? ⟨(ad294.add ((x5_1).toNat * 3)).block, (ad294.add ((x5_1).toNat * 3)).off + 2, none⟩ = some (.int .i64 ((rd_T40 l1 x5_1).f2)) ∧ w'.cell? (ad293.add ((x5_1).toNat * 3)) = some (.string ((rd_T40 l0 x5_1).f0)) ∧ w'.cell? ⟨(ad293.add ((x5_1).toNat * 3)).block, (ad293.add ((x5_1).toNat * 3)).off + 1, none⟩ = some (.slice A293_1 ((rd_T40 l0 x5_1).f1).length c293_1) ∧ w'.cell? ⟨(ad293.add ((x5_1).toNat * 3)).block, (ad293.add ((x5_1).toNat * 3)).off + 2, none⟩ = some (.int .i64 ((rd_T40 l0 x5_1).f2)) ∧ w'.cell? (ad294.add ((x5_1).toNat * 3)) = some (.string ((rd_T40 l1 x5_1).f0)) ∧ w'.cell? ⟨(ad294.add ((x5_1).toNat * 3)).block, (ad294.add ((x5_1).toNat * 3)).off + 1, none⟩ = some (.slice A294_1 ((rd_T40 l1 x5_1).f1).length c294_1) ∧ w'.cell? ⟨(ad294.add ((x5_1).toNat * 3)).block, (ad294.add ((x5_1).toNat * 3)).off + 2, none⟩ = some (.int .i64 ((rd_T40 l1 x5_1).f2))) (ds := []) #[O,O,O,O,O,O,O,O,O,O,O,O,O,O,O,O,O,O,O,O,O,O,O,O,O,O,O,O,O,O,O,O,O,O,O,O,O,O,O] (by kernel_rfl) rfl rfl ⟨(cl_ HB.out hw293_0), (cl_ HB.out hw293_1), (cl_ HB.out hw293_2), (cl_ HB.out hw294_0), (cl_ HB.out hw294_1), (cl_ HB.out hw294_2), (cl_ HB.out hw295_0), (cl_ HB.out hw295_1), (cl_ HB.out hw295_2), (cl_ HB.out hw296_0), (cl_ HB.out hw296_1), (cl_ HB.out hw296_2), (cl_ HB.out hw297_0), (cl_ HB.out hw297_1), (cl_ HB.out hw297_2), (cl_ HB.out hw298_0), (cl_ HB.out hw298_1), (cl_ HB.out hw298_2)⟩ (fun hHeld => ?_); refine with_tabW solsticekeep_Comps.tab6 solsticekeep_Comps.bits6 (fun HT_ HW_ => ?_)); (generalize wr.drew = w10 at HB HR293_1 HR294_1 HR295_1 HR296_1 HR297_1 HR298_1 hx293_0 hx293_1 hx293_2 hx294_0 hx294_1 hx294_2 hx295_0 hx295_1 hx295_2 hx296_0 hx296_1 hx296_2 hx297_0 hx297_1 hx297_2 hx298_0 hx298_1 hx298_2 hHeld ⊢); (refine pu_ (i := 0) (N := some 18) (v := ?_) (a' := ?_) #[I,O,O,O,O,O,O,O,O,O,O,O,O,O,O,O,O,O,O,O,O,O,O,O,O,O,O,O,O,O,O,O,O,O,O,O,O,O,O] rfl rfl HT_.out (by kernel_rfl) (fun _ _ _ h => h) (Or.inl ⟨by rfl, ?_⟩) ?_ ?_); (rotate_left)
            ·(intro w'); (go_simp); (with_reducible rfl)
            rotate_left
            ·(simp only [Act.put, sTA, sCZ, sCS, i64_w, i32_w]); (rfl)
            (refine pu_ (i := 1) (N := some 19) (v := ?_) (a' := ?_) #[I,I,O,O,O,O,O,O,O,O,O,O,O,O,O,O,O,O,O,O,O,O,O,O,O,O,O,O,O,O,O,O,O,O,O,O,O,O,O] rfl rfl HT_.out (by kernel_rfl) (fun _ _ _ h => h) (Or.inl ⟨by rfl, ?_⟩) ?_ ?_); (rotate_left)
            ·(intro w'); (go_simp); (with_reducible rfl)
            rotate_left
            ·(simp only [Act.put, sTA, sCZ, sCS, i64_w, i32_w]); (rfl)
            (refine pu_ (i := 2) (N := some 20) (v := ?_) (a' := ?_) #[I,I,I,O,O,O,O,O,O,O,O,O,O,O,O,O,O,O,O,O,O,O,O,O,O,O,O,O,O,O,O,O,O,O,O,O,O,O,O] rfl rfl HT_.out (by kernel_rfl) (fun _ _ _ h => h) (Or.inl ⟨by rfl, ?_⟩) ?_ ?_); (rotate_left)
            ·(intro w'); (go_simp); (with_reducible rfl)
            rotate_left
            ·(simp only [Act.put, sTA, sCZ, sCS, i64_w, i32_w]); (rfl)
            (refine pu_ (i := 3) (N := some 21) (v := ?_) (a' := ?_) #[I,I,I,I,O,O,O,O,O,O,O,O,O,O,O,O,O,O,O,O,O,O,O,O,O,O,O,O,O,O,O,O,O,O,O,O,O,O,O] rfl rfl HT_.out (by kernel_rfl) (fun _ _ _ h => h) (Or.inl ⟨by rfl, ?_⟩) ?_ ?_); (rotate_left)
            ·(intro w'); (go_simp); (with_reducible rfl)
            rotate_left
            ·(simp only [Act.put, sTA, sCZ, sCS, i64_w, i32_w]); (rfl)
            (refine pu_ (i := 5) (N := some 23) (v := ?_) (a' := ?_) #[I,I,I,I,O,I,O,O,O,O,O,O,O,O,O,O,O,O,O,O,O,O,O,O,O,O,O,O,O,O,O,O,O,O,O,O,O,O,O] rfl rfl HT_.out (by kernel_rfl) (fun _ _ _ h => h) (Or.inl ⟨by rfl, ?_⟩) ?_ ?_); (rotate_left)
            ·(intro w'); (go_simp); (with_reducible rfl)
            rotate_left
            ·(simp only [Act.put, sTA, sCZ, sCS, i64_w, i32_w]); (rfl)
            (refine pu_ (i := 6) (N := some 24) (v := ?_) (a' := ?_) #[I,I,I,I,O,I,I,O,O,O,O,O,O,O,O,O,O,O,O,O,O,O,O,O,O,O,O,O,O,O,O,O,O,O,O,O,O,O,O] rfl rfl HT_.out (by kernel_rfl) (fun _ _ _ h => h) (Or.inl ⟨by rfl, ?_⟩) ?_ ?_); (rotate_left)
            ·(intro w'); (go_simp); (with_reducible rfl)
            rotate_left
            ·(simp only [Act.put, sTA, sCZ, sCS, i64_w, i32_w]); (rfl)
            (refine pu_ (i := 7) (N := some 25) (v := ?_) (a' := ?_) #[I,I,I,I,O,I,I,I,O,O,O,O,O,O,O,O,O,O,O,O,O,O,O,O,O,O,O,O,O,O,O,O,O,O,O,O,O,O,O] rfl rfl HT_.out (by kernel_rfl) (fun _ _ _ h => h) (Or.inl ⟨by rfl, ?_⟩) ?_ ?_); (rotate_left)
            ·(intro w'); (go_simp); (with_reducible rfl)
            rotate_left
            ·(simp only [Act.put, sTA, sCZ, sCS, i64_w, i32_w]); (rfl)
            (refine pu_ (i := 8) (N := some 26) (v := ?_) (a' := ?_) #[I,I,I,I,O,I,I,I,I,O,O,O,O,O,O,O,O,O,O,O,O,O,O,O,O,O,O,O,O,O,O,O,O,O,O,O,O,O,O] rfl rfl HT_.out (by kernel_rfl) (fun _ _ _ h => h) (Or.inl ⟨by rfl, ?_⟩) ?_ ?_); (rotate_left)
            ·(intro w'); (go_simp); (with_reducible rfl)
            rotate_left
            ·(simp only [Act.put, sTA, sCZ, sCS, i64_w, i32_w]); (rfl)
            (refine take_ (i := 4) (N := some 22) (v := ?_) (a' := ?_) #[I,I,I,I,I,I,I,I,I,O,O,O,O,O,O,O,O,O,O,O,O,O,O,O,O,O,O,O,O,O,O,O,O,O,O,O,O,O,O] rfl rfl (take_ofW HT_.out HW_.out (by kernel_rfl)) (fun _ _ _ h => h) (Or.inl ⟨by rfl, ?_⟩) hHeld ?_ ?_); (rotate_left)
            ·(rintro w' ⟨s0, s1, s2, s3, s4, s5, s6, s7, s8, s9, s10, s11, s12, s13, s14, s15, s16, s17⟩); (go_simp); (with_reducible rfl)
            rotate_left
            ·(simp only [Act.put, sTA, sCZ, sCS, i64_w, i32_w]); (rfl)
            (refine take_ (i := 9) (N := some 27) (v := ?_) (a' := ?_) #[I,I,I,I,I,I,I,I,I,I,O,O,O,O,O,O,O,O,O,O,O,O,O,O,O,O,O,O,O,O,O,O,O,O,O,O,O,O,O] rfl rfl (take_ofW HT_.out HW_.out (by kernel_rfl)) (fun _ _ _ h => h) (Or.inl ⟨by rfl, ?_⟩) hHeld ?_ ?_); (rotate_left)
            ·(rintro w' ⟨s0, s1, s2, s3, s4, s5, s6, s7, s8, s9, s10, s11, s12, s13, s14, s15, s16, s17⟩); (go_simp); (with_reducible rfl)
            rotate_left
            ·(simp only [Act.put, sTA, sCZ, sCS, i64_w, i32_w]); (rfl)
            (refine pu_ (i := 10) (N := some 28) (v := ?_) (a' := ?_) #[I,I,I,I,I,I,I,I,I,I,I,O,O,O,O,O,O,O,O,O,O,O,O,O,O,O,O,O,O,O,O,O,O,O,O,O,O,O,O] rfl rfl HT_.out (by kernel_rfl) (fun _ _ _ h => h) (Or.inl ⟨by rfl, ?_⟩) ?_ ?_); (rotate_left)
            ·(intro w'); (go_simp); (with_reducible rfl)
            rotate_left
            ·(simp only [Act.put, sTA, sCZ, sCS, i64_w, i32_w]); (rfl)
            (refine pu_ (i := 11) (N := some 29) (v := ?_) (a' := ?_) #[I,I,I,I,I,I,I,I,I,I,I,I,O,O,O,O,O,O,O,O,O,O,O,O,O,O,O,O,O,O,O,O,O,O,O,O,O,O,O] rfl rfl HT_.out (by kernel_rfl) (fun _ _ _ h => h) (Or.inl ⟨by rfl, ?_⟩) ?_ ?_); (rotate_left)
            ·(intro w'); (go_simp); (with_reducible rfl)
            rotate_left
            ·(simp only [Act.put, sTA, sCZ, sCS, i64_w, i32_w]); (rfl)
            (refine pu_ (i := 12) (N := some 30) (v := ?_) (a' := ?_) #[I,I,I,I,I,I,I,I,I,I,I,I,I,O,O,O,O,O,O,O,O,O,O,O,O,O,O,O,O,O,O,O,O,O,O,O,O,O,O] rfl rfl HT_.out (by kernel_rfl) (fun _ _ _ h => h) (Or.inl ⟨by rfl, ?_⟩) ?_ ?_); (rotate_left)
            ·(intro w'); (go_simp); (with_reducible rfl)
            rotate_left
            ·(simp only [Act.put, sTA, sCZ, sCS, i64_w, i32_w]); (rfl)
            (refine pu_ (i := 13) (N := some 31) (v := ?_) (a' := ?_) #[I,I,I,I,I,I,I,I,I,I,I,I,I,I,O,O,O,O,O,O,O,O,O,O,O,O,O,O,O,O,O,O,O,O,O,O,O,O,O] rfl rfl HT_.out (by kernel_rfl) (fun _ _ _ h => h) (Or.inl ⟨by rfl, ?_⟩) ?_ ?_); (rotate_left)
            ·(intro w'); (go_simp); (with_reducible rfl)
            rotate_left
            ·(simp only [Act.put, sTA, sCZ, sCS, i64_w, i32_w]); (rfl)
            (refine pu_ (i := 14) (N := some 32) (v := ?_) (a' := ?_) #[I,I,I,I,I,I,I,I,I,I,I,I,I,I,I,O,O,O,O,O,O,O,O,O,O,O,O,O,O,O,O,O,O,O,O,O,O,O,O] rfl rfl HT_.out (by kernel_rfl) (fun _ _ _ h => h) (Or.inl ⟨by rfl, ?_⟩) ?_ ?_); (rotate_left)
            ·(intro w'); (go_simp); (with_reducible rfl)
            rotate_left
            ·(simp only [Act.put, sTA, sCZ, sCS, i64_w, i32_w]); (rfl)
            (refine pu_ (i := 15) (N := some 33) (v := ?_) (a' := ?_) #[I,I,I,I,I,I,I,I,I,I,I,I,I,I,I,I,O,O,O,O,O,O,O,O,O,O,O,O,O,O,O,O,O,O,O,O,O,O,O] rfl rfl HT_.out (by kernel_rfl) (fun _ _ _ h => h) (Or.inl ⟨by rfl, ?_⟩) ?_ ?_); (rotate_left)
            ·(intro w'); (go_simp); (with_reducible rfl)
            rotate_left
            ·(simp only [Act.put, sTA, sCZ, sCS, i64_w, i32_w]); (rfl)
            (refine pu_ (i := 17) (N := some 35) (v := ?_) (a' := ?_) #[I,I,I,I,I,I,I,I,I,I,I,I,I,I,I,I,O,I,O,O,O,O,O,O,O,O,O,O,O,O,O,O,O,O,O,O,O,O,O] rfl rfl HT_.out (by kernel_rfl) (fun _ _ _ h => h) (Or.inl ⟨by rfl, ?_⟩) ?_ ?_); (rotate_left)
            ·(intro w'); (go_simp); (with_reducible rfl)
            rotate_left
            ·(simp only [Act.put, sTA, sCZ, sCS, i64_w, i32_w]); (rfl)
            (refine pu_ (i := 18) (N := some 36) (v := ?_) (a' := ?_) #[I,I,I,I,I,I,I,I,I,I,I,I,I,I,I,I,O,I,I,O,O,O,O,O,O,O,O,O,O,O,O,O,O,O,O,O,O,O,O] rfl rfl HT_.out (by kernel_rfl) (fun _ _ _ h => h) (Or.inl ⟨by rfl, ?_⟩) ?_ ?_); (rotate_left)
            ·(intro w'); (go_simp); (with_reducible rfl)
            rotate_left
            ·(simp only [Act.put, sTA, sCZ, sCS, i64_w, i32_w]); (rfl)
            (refine pu_ (i := 19) (N := some 37) (v := ?_) (a' := ?_) #[I,I,I,I,I,I,I,I,I,I,I,I,I,I,I,I,O,I,I,I,O,O,O,O,O,O,O,O,O,O,O,O,O,O,O,O,O,O,O] rfl rfl HT_.out (by kernel_rfl) (fun _ _ _ h => h) (Or.inl ⟨by rfl, ?_⟩) ?_ ?_); (rotate_left)
            ·(intro w'); (go_simp); (with_reducible rfl)
            rotate_left
            ·(simp only [Act.put, sTA, sCZ, sCS, i64_w, i32_w]); (rfl)
            (refine pu_ (i := 20) (N := some 38) (v := ?_) (a' := ?_) #[I,I,I,I,I,I,I,I,I,I,I,I,I,I,I,I,O,I,I,I,I,O,O,O,O,O,O,O,O,O,O,O,O,O,O,O,O,O,O] rfl rfl HT_.out (by kernel_rfl) (fun _ _ _ h => h) (Or.inl ⟨by rfl, ?_⟩) ?_ ?_); (rotate_left)
            ·(intro w'); (go_simp); (with_reducible rfl)
            rotate_left
            ·(simp only [Act.put, sTA, sCZ, sCS, i64_w, i32_w]); (rfl)
            (refine take_ (i := 16) (N := some 34) (v := ?_) (a' := ?_) #[I,I,I,I,I,I,I,I,I,I,I,I,I,I,I,I,I,I,I,I,I,O,O,O,O,O,O,O,O,O,O,O,O,O,O,O,O,O,O] rfl rfl (take_ofW HT_.out HW_.out (by kernel_rfl)) (fun _ _ _ h => h) (Or.inl ⟨by rfl, ?_⟩) hHeld ?_ ?_); (rotate_left)
            ·(rintro w' ⟨s0, s1, s2, s3, s4, s5, s6, s7, s8, s9, s10, s11, s12, s13, s14, s15, s16, s17⟩); (go_simp); (with_reducible rfl)
            rotate_left
            ·(simp only [Act.put, sTA, sCZ, sCS, i64_w, i32_w]); (rfl)
            (refine take_ (i := 21) (N := some 39) (v := ?_) (a' := ?_) #[I,I,I,I,I,I,I,I,I,I,I,I,I,I,I,I,I,I,I,I,I,I,O,O,O,O,O,O,O,O,O,O,O,O,O,O,O,O,O] rfl rfl (take_ofW HT_.out HW_.out (by kernel_rfl)) (fun _ _ _ h => h) (Or.inl ⟨by rfl, ?_⟩) hHeld ?_ ?_); (rotate_left)
            ·(rintro w' ⟨s0, s1, s2, s3, s4, s5, s6, s7, s8, s9, s10, s11, s12, s13, s14, s15, s16, s17⟩); (go_simp); (with_reducible rfl)
            rotate_left
            ·(simp only [Act.put, sTA, sCZ, sCS, i64_w, i32_w]); (rfl)
            (refine pu_ (i := 22) (N := some 40) (v := ?_) (a' := ?_) #[I,I,I,I,I,I,I,I,I,I,I,I,I,I,I,I,I,I,I,I,I,I,I,O,O,O,O,O,O,O,O,O,O,O,O,O,O,O,O] rfl rfl HT_.out (by kernel_rfl) (fun _ _ _ h => h) (Or.inl ⟨by rfl, ?_⟩) ?_ ?_); (rotate_left)
            ·(intro w'); (go_simp); (with_reducible rfl)
            rotate_left
            ·(simp only [Act.put, sTA, sCZ, sCS, i64_w, i32_w]); (rfl)
            (refine pu_ (i := 23) (N := some 41) (v := ?_) (a' := ?_) #[I,I,I,I,I,I,I,I,I,I,I,I,I,I,I,I,I,I,I,I,I,I,I,I,O,O,O,O,O,O,O,O,O,O,O,O,O,O,O] rfl rfl HT_.out (by kernel_rfl) (fun _ _ _ h => h) (Or.inl ⟨by rfl, ?_⟩) ?_ ?_); (rotate_left)
            ·(intro w'); (go_simp); (with_reducible rfl)
            rotate_left
            ·(simp only [Act.put, sTA, sCZ, sCS, i64_w, i32_w]); (rfl)
            (refine pu_ (i := 24) (N := some 42) (v := ?_) (a' := ?_) #[I,I,I,I,I,I,I,I,I,I,I,I,I,I,I,I,I,I,I,I,I,I,I,I,I,O,O,O,O,O,O,O,O,O,O,O,O,O,O] rfl rfl HT_.out (by kernel_rfl) (fun _ _ _ h => h) (Or.inl ⟨by rfl, ?_⟩) ?_ ?_); (rotate_left)
            ·(intro w'); (go_simp); (with_reducible rfl)
            rotate_left
            ·(simp only [Act.put, sTA, sCZ, sCS, i64_w, i32_w]); (rfl)
            (refine pu_ (i := 25) (N := some 43) (v := ?_) (a' := ?_) #[I,I,I,I,I,I,I,I,I,I,I,I,I,I,I,I,I,I,I,I,I,I,I,I,I,I,O,O,O,O,O,O,O,O,O,O,O,O,O] rfl rfl HT_.out (by kernel_rfl) (fun _ _ _ h => h) (Or.inl ⟨by rfl, ?_⟩) ?_ ?_); (rotate_left)
            ·(intro w'); (go_simp); (with_reducible rfl)
            rotate_left
            ·(simp only [Act.put, sTA, sCZ, sCS, i64_w, i32_w]); (rfl)
            (refine pu_ (i := 26) (N := some 44) (v := ?_) (a' := ?_) #[I,I,I,I,I,I,I,I,I,I,I,I,I,I,I,I,I,I,I,I,I,I,I,I,I,I,I,O,O,O,O,O,O,O,O,O,O,O,O] rfl rfl HT_.out (by kernel_rfl) (fun _ _ _ h => h) (Or.inl ⟨by rfl, ?_⟩) ?_ ?_); (rotate_left)
            ·(intro w'); (go_simp); (with_reducible rfl)
            rotate_left
            ·(simp only [Act.put, sTA, sCZ, sCS, i64_w, i32_w]); (rfl)
            (refine pu_ (i := 27) (N := some 45) (v := ?_) (a' := ?_) #[I,I,I,I,I,I,I,I,I,I,I,I,I,I,I,I,I,I,I,I,I,I,I,I,I,I,I,I,O,O,O,O,O,O,O,O,O,O,O] rfl rfl HT_.out (by kernel_rfl) (fun _ _ _ h => h) (Or.inl ⟨by rfl, ?_⟩) ?_ ?_); (rotate_left)
            ·(intro w'); (go_simp); (with_reducible rfl)
            rotate_left
            ·(simp only [Act.put, sTA, sCZ, sCS, i64_w, i32_w]); (rfl)
            (refine pu_ (i := 28) (N := some 46) (v := ?_) (a' := ?_) #[I,I,I,I,I,I,I,I,I,I,I,I,I,I,I,I,I,I,I,I,I,I,I,I,I,I,I,I,I,O,O,O,O,O,O,O,O,O,O] rfl rfl HT_.out (by kernel_rfl) (fun _ _ _ h => h) (Or.inl ⟨by rfl, ?_⟩) ?_ ?_); (rotate_left)
            ·(intro w'); (go_simp); (with_reducible rfl)
            rotate_left
            ·(simp only [Act.put, sTA, sCZ, sCS, i64_w, i32_w]); (rfl)
            (refine pu_ (i := 31) (N := some 49) (v := ?_) (a' := ?_) #[I,I,I,I,I,I,I,I,I,I,I,I,I,I,I,I,I,I,I,I,I,I,I,I,I,I,I,I,I,O,O,I,O,O,O,O,O,O,O] rfl rfl HT_.out (by kernel_rfl) (fun _ _ _ h => h) (Or.inl ⟨by rfl, ?_⟩) ?_ ?_); (rotate_left)
            ·(intro w'); (go_simp); (with_reducible rfl)
            rotate_left
            ·(simp only [Act.put, sTA, sCZ, sCS, i64_w, i32_w]); (rfl)
            (refine pu_ (i := 32) (N := some 50) (v := ?_) (a' := ?_) #[I,I,I,I,I,I,I,I,I,I,I,I,I,I,I,I,I,I,I,I,I,I,I,I,I,I,I,I,I,O,O,I,I,O,O,O,O,O,O] rfl rfl HT_.out (by kernel_rfl) (fun _ _ _ h => h) (Or.inl ⟨by rfl, ?_⟩) ?_ ?_); (rotate_left)
            ·(intro w'); (go_simp); (with_reducible rfl)
            rotate_left
            ·(simp only [Act.put, sTA, sCZ, sCS, i64_w, i32_w]); (rfl)
            (refine pu_ (i := 33) (N := some 51) (v := ?_) (a' := ?_) #[I,I,I,I,I,I,I,I,I,I,I,I,I,I,I,I,I,I,I,I,I,I,I,I,I,I,I,I,I,O,O,I,I,I,O,O,O,O,O] rfl rfl HT_.out (by kernel_rfl) (fun _ _ _ h => h) (Or.inl ⟨by rfl, ?_⟩) ?_ ?_); (rotate_left)
            ·(intro w'); (go_simp); (with_reducible rfl)
            rotate_left
            ·(simp only [Act.put, sTA, sCZ, sCS, i64_w, i32_w]); (rfl)
            (refine pu_ (i := 34) (N := some 52) (v := ?_) (a' := ?_) #[I,I,I,I,I,I,I,I,I,I,I,I,I,I,I,I,I,I,I,I,I,I,I,I,I,I,I,I,I,O,O,I,I,I,I,O,O,O,O] rfl rfl HT_.out (by kernel_rfl) (fun _ _ _ h => h) (Or.inl ⟨by rfl, ?_⟩) ?_ ?_); (rotate_left)
            ·(intro w'); (go_simp); (with_reducible rfl)
            rotate_left
            ·(simp only [Act.put, sTA, sCZ, sCS, i64_w, i32_w]); (rfl)
            (refine take_ (i := 29) (N := some 47) (v := ?_) (a' := ?_) #[I,I,I,I,I,I,I,I,I,I,I,I,I,I,I,I,I,I,I,I,I,I,I,I,I,I,I,I,I,I,O,I,I,I,I,O,O,O,O] rfl rfl (take_ofW HT_.out HW_.out (by kernel_rfl)) (fun _ _ _ h => h) (Or.inl ⟨by rfl, ?_⟩) hHeld ?_ ?_); (rotate_left)
            ·(rintro w' ⟨s0, s1, s2, s3, s4, s5, s6, s7, s8, s9, s10, s11, s12, s13, s14, s15, s16, s17⟩); (go_simp); (with_reducible rfl)
            rotate_left
            ·(simp only [Act.put, sTA, sCZ, sCS, i64_w, i32_w]); (rfl)
            (refine pu_ (i := 30) (N := some 48) (v := ?_) (a' := ?_) #[I,I,I,I,I,I,I,I,I,I,I,I,I,I,I,I,I,I,I,I,I,I,I,I,I,I,I,I,I,I,I,I,I,I,I,O,O,O,O] rfl rfl HT_.out (by kernel_rfl) (fun _ _ _ h => h) (Or.inl ⟨by rfl, ?_⟩) ?_ ?_); (rotate_left)
            ·(intro w'); (go_simp); (with_reducible rfl)
            rotate_left
            ·(simp only [Act.put, sTA, sCZ, sCS, i64_w, i32_w]); (rfl)
            (refine take_ (i := 35) (N := some 53) (v := ?_) (a' := ?_) #[I,I,I,I,I,I,I,I,I,I,I,I,I,I,I,I,I,I,I,I,I,I,I,I,I,I,I,I,I,I,I,I,I,I,I,I,O,O,O] rfl rfl (take_ofW HT_.out HW_.out (by kernel_rfl)) (fun _ _ _ h => h) (Or.inl ⟨by rfl, ?_⟩) hHeld ?_ ?_); (rotate_left)
            ·(rintro w' ⟨s0, s1, s2, s3, s4, s5, s6, s7, s8, s9, s10, s11, s12, s13, s14, s15, s16, s17⟩); (go_simp); (with_reducible rfl)
            rotate_left
            ·(simp only [Act.put, sTA, sCZ, sCS, i64_w, i32_w]); (rfl)
            (refine pu_ (i := 36) (N := some 54) (v := ?_) (a' := ?_) #[I,I,I,I,I,I,I,I,I,I,I,I,I,I,I,I,I,I,I,I,I,I,I,I,I,I,I,I,I,I,I,I,I,I,I,I,I,O,O] rfl rfl HT_.out (by kernel_rfl) (fun _ _ _ h => h) (Or.inl ⟨by rfl, ?_⟩) ?_ ?_); (rotate_left)
            ·(intro w'); (go_simp); (with_reducible rfl)
            rotate_left
            ·(simp only [Act.put, sTA, sCZ, sCS, i64_w, i32_w]); (rfl)
            (refine pu_ (i := 37) (N := some 55) (v := ?_) (a' := ?_) #[I,I,I,I,I,I,I,I,I,I,I,I,I,I,I,I,I,I,I,I,I,I,I,I,I,I,I,I,I,I,I,I,I,I,I,I,I,I,O] rfl rfl HT_.out (by kernel_rfl) (fun _ _ _ h => h) (Or.inl ⟨by rfl, ?_⟩) ?_ ?_); (rotate_left)
            ·(intro w'); (go_simp); (with_reducible rfl)
            rotate_left
            ·(simp only [Act.put, sTA, sCZ, sCS, i64_w, i32_w]); (rfl)
            (refine pu_ (i := 38) (N := some 56) (v := ?_) (a' := ?_) #[I,I,I,I,I,I,I,I,I,I,I,I,I,I,I,I,I,I,I,I,I,I,I,I,I,I,I,I,I,I,I,I,I,I,I,I,I,I,I] rfl rfl HT_.out (by kernel_rfl) (fun _ _ _ h => h) (Or.inl ⟨by rfl, ?_⟩) ?_ ?_); (rotate_left)
            ·(intro w'); (go_simp); (with_reducible rfl)
            rotate_left
            ·(simp only [Act.put, sTA, sCZ, sCS, i64_w, i32_w]); (rfl)
            (refine done_ (done_of HT_.out (by kernel_rfl)) ?_); (try go_wp2); (go_meet)
            case rel => exact ⟨_, (((((rd_T40 l0 x5_1).f1).length : Int) != (((rd_T40 l1 x5_1).f1).length : Int))), (by first | rfl | (simp; done) | (simp [*]; done)), H', ⟨by have := HK1.out; first | omega | exact Nat.le_refl _⟩, ⟨by with_reducible repeat (first | exact HB.out | apply lA | apply lN | apply lW)⟩⟩
           ·(rw [if_neg c9] at H); (have c9b0 : (((rd_T40 l0 x5_1).f2) == ((rd_T40 l1 x5_1).f2)) = false := beq_eq_false_iff_ne.mpr c9); (have c9b1 : (((rd_T40 l0 x5_1).f2) != ((rd_T40 l1 x5_1).f2)) = true := bne_iff_ne.mpr c9); (have H' := aM H); clear H; (try go_wp2); (have n0_ := aM (lW HB.out)); clear HB; (have HB := n0_); clear n0_; (have p293 : 0 ≤ (x5_1 : Int) := oD ‹_›); (have q293 : x5_1 < (l0.length : Int) := oD ‹_›); (obtain ⟨ad293, A293_1, c293_1, e293, hx293_0, hx293_1, hx293_2, hl293_1, hi293_1⟩ := at_T40 HR0.out x5_1 p293 q293); (have hw293_2 := hx293_2); (have hw293_1 := hx293_1); (have hw293_0 := hx293_0)
            cases e293
            (replace hx293_0 := cl_ HB.out hx293_0); (replace hx293_1 := cl_ HB.out hx293_1); (replace hx293_2 := cl_ HB.out hx293_2); (have HR293_1 := aM hi293_1); (have HC293_1 := aM hl293_1); clear hi293_1 hl293_1; (replace p293 := eq_true p293); (replace q293 := eq_true q293); (have p294 : 0 ≤ (x5_1 : Int) := oD ‹_›); (have q294 : x5_1 < (l1.length : Int) := oD ‹_›); (obtain ⟨ad294, A294_1, c294_1, e294, hx294_0, hx294_1, hx294_2, hl294_1, hi294_1⟩ := at_T40 HR1.out x5_1 p294 q294); (have hw294_2 := hx294_2); (have hw294_1 := hx294_1); (have hw294_0 := hx294_0)
            cases e294
            (replace hx294_0 := cl_ HB.out hx294_0); (replace hx294_1 := cl_ HB.out hx294_1); (replace hx294_2 := cl_ HB.out hx294_2); (have HR294_1 := aM hi294_1); (have HC294_1 := aM hl294_1); clear hi294_1 hl294_1; (replace p294 := eq_true p294); (replace q294 := eq_true q294); (have p295 : 0 ≤ (x5_1 : Int) := oD ‹_›); (have q295 : x5_1 < (l0.length : Int) := oD ‹_›); (obtain ⟨ad295, A295_1, c295_1, e295, hx295_0, hx295_1, hx295_2, hl295_1, hi295_1⟩ := at_T40 HR0.out x5_1 p295 q295); (have hw295_2 := hx295_2); (have hw295_1 := hx295_1); (have hw295_0 := hx295_0); (obtain rfl : ad293 = ad295 := (by injection e295)); (replace hx295_0 := cl_ HB.out hx295_0); (replace hx295_1 := cl_ HB.out hx295_1); (replace hx295_2 := cl_ HB.out hx295_2); (have HR295_1 := aM hi295_1); (have HC295_1 := aM hl295_1); clear hi295_1 hl295_1; (replace p295 := eq_true p295); (replace q295 := eq_true q295); (have ea_ := Option.some.inj (hx293_1.symm.trans hx295_1)); (injection ea_ with ea_ en_ ec_); subst ea_; subst ec_; clear en_; (have p296 : 0 ≤ (x5_1 : Int) := oD ‹_›); (have q296 : x5_1 < (l1.length : Int) := oD ‹_›); (obtain ⟨ad296, A296_1, c296_1, e296, hx296_0, hx296_1, hx296_2, hl296_1, hi296_1⟩ := at_T40 HR1.out x5_1 p296 q296); (have hw296_2 := hx296_2); (have hw296_1 := hx296_1); (have hw296_0 := hx296_0); (obtain rfl : ad294 = ad296 := (by injection e296)); (replace hx296_0 := cl_ HB.out hx296_0); (replace hx296_1 := cl_ HB.out hx296_1); (replace hx296_2 := cl_ HB.out hx296_2); (have HR296_1 := aM hi296_1); (have HC296_1 := aM hl296_1); clear hi296_1 hl296_1; (replace p296 := eq_true p296); (replace q296 := eq_true q296); (have ea_ := Option.some.inj (hx294_1.symm.trans hx296_1)); (injection ea_ with ea_ en_ ec_); subst ea_; subst ec_; clear en_; (refine start_ (n := 39) (S := fun w' => w'.cell? (ad293.add ((x5_1).toNat * 3)) = some (.string ((rd_T40 l0 x5_1).f0)) ∧ w'.cell? ⟨(ad293.add ((x5_1).toNat * 3)).block, (ad293.add ((x5_1).toNat * 3)).off + 1, none⟩ = some (.slice A293_1 ((rd_T40 l0 x5_1).f1).length c293_1) ∧ w'.cell? ⟨(ad293.add ((x5_1).toNat * 3)).block, (ad293.add ((x5_1).toNat * 3)).off + 2, none⟩ = some (.int .i64 ((rd_T40 l0 x5_1).f2)) ∧ w'.cell? (ad294.add ((x5_1).toNat * 3)) = some (.string ((rd_T40 l1 x5_1).f0)) ∧ w'.cell? ⟨(ad294.add ((x5_1).toNat * 3)).block, (ad294.add ((x5_1).toNat * 3)).off + 1, none⟩ = some (.slice A294_1 ((rd_T40 l1 x5_1).f1).length c294_1) ∧ w'.cell? ⟨(ad294.add ((x5_1).toNat * 3)).block, (ad294.add ((x5_1).toNat * 3)).off + 2, none⟩ = some (.int .i64 ((rd_T40 l1 x5_1).f2)) ∧ w'.cell? (ad293.add ((x5_1).toNat * 3)) = some (.string ((rd_T40 l0 x5_1).f0)) ∧ w'.cell? ⟨(ad293.add ((x5_1).toNat * 3)).block, (ad293.add ((x5_1).toNat * 3)).off + 1, none⟩ = some (.slice A293_1 ((rd_T40 l0 x5_1).f1).length c293_1) ∧ w'.cell? ⟨(ad293.add ((x5_1).toNat * 3)).block, (ad293.add ((x5_1).toNat * 3)).off + 2, none⟩ = some (.int .i64 ((rd_T40 l0 x5_1).f2)) ∧ w'.cell? (ad294.add ((x5_1).toNat * 3)) = some (.string ((rd_T40 l1 x5_1).f0)) ∧ w'.cell? ⟨(ad294.add ((x5_1).toNat * 3)).block, (ad294.add ((x5_1).toNat * 3)).off + 1, none⟩ = some (.slice A294_1 ((rd_T40 l1 x5_1).f1).length c294_1) ∧ w'.cell? ⟨(ad294.add ((x5_1).toNat * 3)).block, (ad294.add ((x5_1).toNat * 3)).off + 2, none⟩ = some (.int .i64 ((rd_T40 l1 x5_1).f2))) (ds := []) #[O,O,O,O,O,O,O,O,O,O,O,O,O,O,O,O,O,O,O,O,O,O,O,O,O,O,O,O,O,O,O,O,O,O,O,O,O,O,O] (by kernel_rfl) rfl rfl ⟨(cl_ HB.out hw293_0), (cl_ HB.out hw293_1), (cl_ HB.out hw293_2), (cl_ HB.out hw294_0), (cl_ HB.out hw294_1), (cl_ HB.out hw294_2), (cl_ HB.out hw295_0), (cl_ HB.out hw295_1), (cl_ HB.out hw295_2), (cl_ HB.out hw296_0), (cl_ HB.out hw296_1), (cl_ HB.out hw296_2)⟩ (fun hHeld => ?_); refine with_tabW solsticekeep_Comps.tab6 solsticekeep_Comps.bits6 (fun HT_ HW_ => ?_)); (generalize wr.drew = w11 at HB HR293_1 HR294_1 HR295_1 HR296_1 hx293_0 hx293_1 hx293_2 hx294_0 hx294_1 hx294_2 hx295_0 hx295_1 hx295_2 hx296_0 hx296_1 hx296_2 hHeld ⊢); (refine pu_ (i := 0) (N := some 18) (v := ?_) (a' := ?_) #[I,O,O,O,O,O,O,O,O,O,O,O,O,O,O,O,O,O,O,O,O,O,O,O,O,O,O,O,O,O,O,O,O,O,O,O,O,O,O] rfl rfl HT_.out (by kernel_rfl) (fun _ _ _ h => h) (Or.inl ⟨by rfl, ?_⟩) ?_ ?_); (rotate_left)
            ·(intro w'); (go_simp); (with_reducible rfl)
            rotate_left
            ·(simp only [Act.put, sTA, sCZ, sCS, i64_w, i32_w]); (rfl)
            (refine pu_ (i := 1) (N := some 19) (v := ?_) (a' := ?_) #[I,I,O,O,O,O,O,O,O,O,O,O,O,O,O,O,O,O,O,O,O,O,O,O,O,O,O,O,O,O,O,O,O,O,O,O,O,O,O] rfl rfl HT_.out (by kernel_rfl) (fun _ _ _ h => h) (Or.inl ⟨by rfl, ?_⟩) ?_ ?_); (rotate_left)
            ·(intro w'); (go_simp); (with_reducible rfl)
            rotate_left
            ·(simp only [Act.put, sTA, sCZ, sCS, i64_w, i32_w]); (rfl)
            (refine pu_ (i := 2) (N := some 20) (v := ?_) (a' := ?_) #[I,I,I,O,O,O,O,O,O,O,O,O,O,O,O,O,O,O,O,O,O,O,O,O,O,O,O,O,O,O,O,O,O,O,O,O,O,O,O] rfl rfl HT_.out (by kernel_rfl) (fun _ _ _ h => h) (Or.inl ⟨by rfl, ?_⟩) ?_ ?_); (rotate_left)
            ·(intro w'); (go_simp); (with_reducible rfl)
            rotate_left
            ·(simp only [Act.put, sTA, sCZ, sCS, i64_w, i32_w]); (rfl)
            (refine pu_ (i := 3) (N := some 21) (v := ?_) (a' := ?_) #[I,I,I,I,O,O,O,O,O,O,O,O,O,O,O,O,O,O,O,O,O,O,O,O,O,O,O,O,O,O,O,O,O,O,O,O,O,O,O] rfl rfl HT_.out (by kernel_rfl) (fun _ _ _ h => h) (Or.inl ⟨by rfl, ?_⟩) ?_ ?_); (rotate_left)
            ·(intro w'); (go_simp); (with_reducible rfl)
            rotate_left
            ·(simp only [Act.put, sTA, sCZ, sCS, i64_w, i32_w]); (rfl)
            (refine pu_ (i := 5) (N := some 23) (v := ?_) (a' := ?_) #[I,I,I,I,O,I,O,O,O,O,O,O,O,O,O,O,O,O,O,O,O,O,O,O,O,O,O,O,O,O,O,O,O,O,O,O,O,O,O] rfl rfl HT_.out (by kernel_rfl) (fun _ _ _ h => h) (Or.inl ⟨by rfl, ?_⟩) ?_ ?_); (rotate_left)
            ·(intro w'); (go_simp); (with_reducible rfl)
            rotate_left
            ·(simp only [Act.put, sTA, sCZ, sCS, i64_w, i32_w]); (rfl)
            (refine pu_ (i := 6) (N := some 24) (v := ?_) (a' := ?_) #[I,I,I,I,O,I,I,O,O,O,O,O,O,O,O,O,O,O,O,O,O,O,O,O,O,O,O,O,O,O,O,O,O,O,O,O,O,O,O] rfl rfl HT_.out (by kernel_rfl) (fun _ _ _ h => h) (Or.inl ⟨by rfl, ?_⟩) ?_ ?_); (rotate_left)
            ·(intro w'); (go_simp); (with_reducible rfl)
            rotate_left
            ·(simp only [Act.put, sTA, sCZ, sCS, i64_w, i32_w]); (rfl)
            (refine pu_ (i := 7) (N := some 25) (v := ?_) (a' := ?_) #[I,I,I,I,O,I,I,I,O,O,O,O,O,O,O,O,O,O,O,O,O,O,O,O,O,O,O,O,O,O,O,O,O,O,O,O,O,O,O] rfl rfl HT_.out (by kernel_rfl) (fun _ _ _ h => h) (Or.inl ⟨by rfl, ?_⟩) ?_ ?_); (rotate_left)
            ·(intro w'); (go_simp); (with_reducible rfl)
            rotate_left
            ·(simp only [Act.put, sTA, sCZ, sCS, i64_w, i32_w]); (rfl)
            (refine pu_ (i := 8) (N := some 26) (v := ?_) (a' := ?_) #[I,I,I,I,O,I,I,I,I,O,O,O,O,O,O,O,O,O,O,O,O,O,O,O,O,O,O,O,O,O,O,O,O,O,O,O,O,O,O] rfl rfl HT_.out (by kernel_rfl) (fun _ _ _ h => h) (Or.inl ⟨by rfl, ?_⟩) ?_ ?_); (rotate_left)
            ·(intro w'); (go_simp); (with_reducible rfl)
            rotate_left
            ·(simp only [Act.put, sTA, sCZ, sCS, i64_w, i32_w]); (rfl)
            (refine take_ (i := 4) (N := some 22) (v := ?_) (a' := ?_) #[I,I,I,I,I,I,I,I,I,O,O,O,O,O,O,O,O,O,O,O,O,O,O,O,O,O,O,O,O,O,O,O,O,O,O,O,O,O,O] rfl rfl (take_ofW HT_.out HW_.out (by kernel_rfl)) (fun _ _ _ h => h) (Or.inl ⟨by rfl, ?_⟩) hHeld ?_ ?_); (rotate_left)
            ·(rintro w' ⟨s0, s1, s2, s3, s4, s5, s6, s7, s8, s9, s10, s11⟩); (go_simp); (with_reducible rfl)
            rotate_left
            ·(simp only [Act.put, sTA, sCZ, sCS, i64_w, i32_w]); (rfl)
            (refine take_ (i := 9) (N := some 27) (v := ?_) (a' := ?_) #[I,I,I,I,I,I,I,I,I,I,O,O,O,O,O,O,O,O,O,O,O,O,O,O,O,O,O,O,O,O,O,O,O,O,O,O,O,O,O] rfl rfl (take_ofW HT_.out HW_.out (by kernel_rfl)) (fun _ _ _ h => h) (Or.inl ⟨by rfl, ?_⟩) hHeld ?_ ?_); (rotate_left)
            ·(rintro w' ⟨s0, s1, s2, s3, s4, s5, s6, s7, s8, s9, s10, s11⟩); (go_simp); (with_reducible rfl)
            rotate_left
            ·(simp only [Act.put, sTA, sCZ, sCS, i64_w, i32_w]); (rfl)
            (refine pu_ (i := 10) (N := some 28) (v := ?_) (a' := ?_) #[I,I,I,I,I,I,I,I,I,I,I,O,O,O,O,O,O,O,O,O,O,O,O,O,O,O,O,O,O,O,O,O,O,O,O,O,O,O,O] rfl rfl HT_.out (by kernel_rfl) (fun _ _ _ h => h) (Or.inl ⟨by rfl, ?_⟩) ?_ ?_); (rotate_left)
            ·(intro w'); (go_simp); (with_reducible rfl)
            rotate_left
            ·(simp only [Act.put, sTA, sCZ, sCS, i64_w, i32_w]); (rfl)
            (refine pu_ (i := 11) (N := some 29) (v := ?_) (a' := ?_) #[I,I,I,I,I,I,I,I,I,I,I,I,O,O,O,O,O,O,O,O,O,O,O,O,O,O,O,O,O,O,O,O,O,O,O,O,O,O,O] rfl rfl HT_.out (by kernel_rfl) (fun _ _ _ h => h) (Or.inl ⟨by rfl, ?_⟩) ?_ ?_); (rotate_left)
            ·(intro w'); (go_simp); (with_reducible rfl)
            rotate_left
            ·(simp only [Act.put, sTA, sCZ, sCS, i64_w, i32_w]); (rfl)
            (refine pu_ (i := 12) (N := some 30) (v := ?_) (a' := ?_) #[I,I,I,I,I,I,I,I,I,I,I,I,I,O,O,O,O,O,O,O,O,O,O,O,O,O,O,O,O,O,O,O,O,O,O,O,O,O,O] rfl rfl HT_.out (by kernel_rfl) (fun _ _ _ h => h) (Or.inl ⟨by rfl, ?_⟩) ?_ ?_); (rotate_left)
            ·(intro w'); (go_simp); (with_reducible rfl)
            rotate_left
            ·(simp only [Act.put, sTA, sCZ, sCS, i64_w, i32_w]); (rfl)
            (refine pu_ (i := 13) (N := some 31) (v := ?_) (a' := ?_) #[I,I,I,I,I,I,I,I,I,I,I,I,I,I,O,O,O,O,O,O,O,O,O,O,O,O,O,O,O,O,O,O,O,O,O,O,O,O,O] rfl rfl HT_.out (by kernel_rfl) (fun _ _ _ h => h) (Or.inl ⟨by rfl, ?_⟩) ?_ ?_); (rotate_left)
            ·(intro w'); (go_simp); (with_reducible rfl)
            rotate_left
            ·(simp only [Act.put, sTA, sCZ, sCS, i64_w, i32_w]); (rfl)
            (refine pu_ (i := 14) (N := some 32) (v := ?_) (a' := ?_) #[I,I,I,I,I,I,I,I,I,I,I,I,I,I,I,O,O,O,O,O,O,O,O,O,O,O,O,O,O,O,O,O,O,O,O,O,O,O,O] rfl rfl HT_.out (by kernel_rfl) (fun _ _ _ h => h) (Or.inl ⟨by rfl, ?_⟩) ?_ ?_); (rotate_left)
            ·(intro w'); (go_simp); (with_reducible rfl)
            rotate_left
            ·(simp only [Act.put, sTA, sCZ, sCS, i64_w, i32_w]); (rfl)
            (refine pu_ (i := 15) (N := some 33) (v := ?_) (a' := ?_) #[I,I,I,I,I,I,I,I,I,I,I,I,I,I,I,I,O,O,O,O,O,O,O,O,O,O,O,O,O,O,O,O,O,O,O,O,O,O,O] rfl rfl HT_.out (by kernel_rfl) (fun _ _ _ h => h) (Or.inl ⟨by rfl, ?_⟩) ?_ ?_); (rotate_left)
            ·(intro w'); (go_simp); (with_reducible rfl)
            rotate_left
            ·(simp only [Act.put, sTA, sCZ, sCS, i64_w, i32_w]); (rfl)
            (refine pu_ (i := 17) (N := some 35) (v := ?_) (a' := ?_) #[I,I,I,I,I,I,I,I,I,I,I,I,I,I,I,I,O,I,O,O,O,O,O,O,O,O,O,O,O,O,O,O,O,O,O,O,O,O,O] rfl rfl HT_.out (by kernel_rfl) (fun _ _ _ h => h) (Or.inl ⟨by rfl, ?_⟩) ?_ ?_); (rotate_left)
            ·(intro w'); (go_simp); (with_reducible rfl)
            rotate_left
            ·(simp only [Act.put, sTA, sCZ, sCS, i64_w, i32_w]); (rfl)
            (refine pu_ (i := 18) (N := some 36) (v := ?_) (a' := ?_) #[I,I,I,I,I,I,I,I,I,I,I,I,I,I,I,I,O,I,I,O,O,O,O,O,O,O,O,O,O,O,O,O,O,O,O,O,O,O,O] rfl rfl HT_.out (by kernel_rfl) (fun _ _ _ h => h) (Or.inl ⟨by rfl, ?_⟩) ?_ ?_); (rotate_left)
            ·(intro w'); (go_simp); (with_reducible rfl)
            rotate_left
            ·(simp only [Act.put, sTA, sCZ, sCS, i64_w, i32_w]); (rfl)
            (refine pu_ (i := 19) (N := some 37) (v := ?_) (a' := ?_) #[I,I,I,I,I,I,I,I,I,I,I,I,I,I,I,I,O,I,I,I,O,O,O,O,O,O,O,O,O,O,O,O,O,O,O,O,O,O,O] rfl rfl HT_.out (by kernel_rfl) (fun _ _ _ h => h) (Or.inl ⟨by rfl, ?_⟩) ?_ ?_); (rotate_left)
            ·(intro w'); (go_simp); (with_reducible rfl)
            rotate_left
            ·(simp only [Act.put, sTA, sCZ, sCS, i64_w, i32_w]); (rfl)
            (refine pu_ (i := 20) (N := some 38) (v := ?_) (a' := ?_) #[I,I,I,I,I,I,I,I,I,I,I,I,I,I,I,I,O,I,I,I,I,O,O,O,O,O,O,O,O,O,O,O,O,O,O,O,O,O,O] rfl rfl HT_.out (by kernel_rfl) (fun _ _ _ h => h) (Or.inl ⟨by rfl, ?_⟩) ?_ ?_); (rotate_left)
            ·(intro w'); (go_simp); (with_reducible rfl)
            rotate_left
            ·(simp only [Act.put, sTA, sCZ, sCS, i64_w, i32_w]); (rfl)
            (refine take_ (i := 16) (N := some 34) (v := ?_) (a' := ?_) #[I,I,I,I,I,I,I,I,I,I,I,I,I,I,I,I,I,I,I,I,I,O,O,O,O,O,O,O,O,O,O,O,O,O,O,O,O,O,O] rfl rfl (take_ofW HT_.out HW_.out (by kernel_rfl)) (fun _ _ _ h => h) (Or.inl ⟨by rfl, ?_⟩) hHeld ?_ ?_); (rotate_left)
            ·(rintro w' ⟨s0, s1, s2, s3, s4, s5, s6, s7, s8, s9, s10, s11⟩); (go_simp); (with_reducible rfl)
            rotate_left
            ·(simp only [Act.put, sTA, sCZ, sCS, i64_w, i32_w]); (rfl)
            (refine take_ (i := 21) (N := some 39) (v := ?_) (a' := ?_) #[I,I,I,I,I,I,I,I,I,I,I,I,I,I,I,I,I,I,I,I,I,I,O,O,O,O,O,O,O,O,O,O,O,O,O,O,O,O,O] rfl rfl (take_ofW HT_.out HW_.out (by kernel_rfl)) (fun _ _ _ h => h) (Or.inl ⟨by rfl, ?_⟩) hHeld ?_ ?_); (rotate_left)
            ·(rintro w' ⟨s0, s1, s2, s3, s4, s5, s6, s7, s8, s9, s10, s11⟩); (go_simp); (with_reducible rfl)
            rotate_left
            ·(simp only [Act.put, sTA, sCZ, sCS, i64_w, i32_w]); (rfl)
            (refine pu_ (i := 22) (N := some 40) (v := ?_) (a' := ?_) #[I,I,I,I,I,I,I,I,I,I,I,I,I,I,I,I,I,I,I,I,I,I,I,O,O,O,O,O,O,O,O,O,O,O,O,O,O,O,O] rfl rfl HT_.out (by kernel_rfl) (fun _ _ _ h => h) (Or.inl ⟨by rfl, ?_⟩) ?_ ?_); (rotate_left)
            ·(intro w'); (go_simp); (with_reducible rfl)
            rotate_left
            ·(simp only [Act.put, sTA, sCZ, sCS, i64_w, i32_w]); (rfl)
            (refine pu_ (i := 23) (N := some 41) (v := ?_) (a' := ?_) #[I,I,I,I,I,I,I,I,I,I,I,I,I,I,I,I,I,I,I,I,I,I,I,I,O,O,O,O,O,O,O,O,O,O,O,O,O,O,O] rfl rfl HT_.out (by kernel_rfl) (fun _ _ _ h => h) (Or.inl ⟨by rfl, ?_⟩) ?_ ?_); (rotate_left)
            ·(intro w'); (go_simp); (with_reducible rfl)
            rotate_left
            ·(simp only [Act.put, sTA, sCZ, sCS, i64_w, i32_w]); (rfl)
            (refine pu_ (i := 24) (N := some 42) (v := ?_) (a' := ?_) #[I,I,I,I,I,I,I,I,I,I,I,I,I,I,I,I,I,I,I,I,I,I,I,I,I,O,O,O,O,O,O,O,O,O,O,O,O,O,O] rfl rfl HT_.out (by kernel_rfl) (fun _ _ _ h => h) (Or.inl ⟨by rfl, ?_⟩) ?_ ?_); (rotate_left)
            ·(intro w'); (go_simp); (with_reducible rfl)
            rotate_left
            ·(simp only [Act.put, sTA, sCZ, sCS, i64_w, i32_w]); (rfl)
            (refine pure_ (i := 25) (N := some 43) (v := undef) (a' := ?_) #[I,I,I,I,I,I,I,I,I,I,I,I,I,I,I,I,I,I,I,I,I,I,I,I,I,I,O,O,O,O,O,O,O,O,O,O,O,O,O] rfl rfl (any_of HT_.out (by kernel_rfl)) (fun _ _ _ h => h) (Or.inr ⟨by rfl, rfl⟩) ?_ ?_); (rotate_left)
            ·(simp only [Act.put, sTA, sCZ, sCS, i64_w, i32_w]); (rfl)
            (refine pure_ (i := 26) (N := some 44) (v := undef) (a' := ?_) #[I,I,I,I,I,I,I,I,I,I,I,I,I,I,I,I,I,I,I,I,I,I,I,I,I,I,I,O,O,O,O,O,O,O,O,O,O,O,O] rfl rfl (any_of HT_.out (by kernel_rfl)) (fun _ _ _ h => h) (Or.inr ⟨by rfl, rfl⟩) ?_ ?_); (rotate_left)
            ·(simp only [Act.put, sTA, sCZ, sCS, i64_w, i32_w]); (rfl)
            (refine pure_ (i := 27) (N := some 45) (v := undef) (a' := ?_) #[I,I,I,I,I,I,I,I,I,I,I,I,I,I,I,I,I,I,I,I,I,I,I,I,I,I,I,I,O,O,O,O,O,O,O,O,O,O,O] rfl rfl (any_of HT_.out (by kernel_rfl)) (fun _ _ _ h => h) (Or.inr ⟨by rfl, rfl⟩) ?_ ?_); (rotate_left)
            ·(simp only [Act.put, sTA, sCZ, sCS, i64_w, i32_w]); (rfl)
            (refine pure_ (i := 28) (N := some 46) (v := undef) (a' := ?_) #[I,I,I,I,I,I,I,I,I,I,I,I,I,I,I,I,I,I,I,I,I,I,I,I,I,I,I,I,I,O,O,O,O,O,O,O,O,O,O] rfl rfl (any_of HT_.out (by kernel_rfl)) (fun _ _ _ h => h) (Or.inr ⟨by rfl, rfl⟩) ?_ ?_); (rotate_left)
            ·(simp only [Act.put, sTA, sCZ, sCS, i64_w, i32_w]); (rfl)
            (refine pure_ (i := 29) (N := some 47) (v := undef) (a' := ?_) #[I,I,I,I,I,I,I,I,I,I,I,I,I,I,I,I,I,I,I,I,I,I,I,I,I,I,I,I,I,I,O,O,O,O,O,O,O,O,O] rfl rfl (any_of HT_.out (by kernel_rfl)) (fun _ _ _ h => h) (Or.inr ⟨by rfl, rfl⟩) ?_ ?_); (rotate_left)
            ·(simp only [Act.put, sTA, sCZ, sCS, i64_w, i32_w]); (rfl)
            (refine pure_ (i := 30) (N := some 48) (v := undef) (a' := ?_) #[I,I,I,I,I,I,I,I,I,I,I,I,I,I,I,I,I,I,I,I,I,I,I,I,I,I,I,I,I,I,I,O,O,O,O,O,O,O,O] rfl rfl (any_of HT_.out (by kernel_rfl)) (fun _ _ _ h => h) (Or.inr ⟨by rfl, rfl⟩) ?_ ?_); (rotate_left)
            ·(simp only [Act.put, sTA, sCZ, sCS, i64_w, i32_w]); (rfl)
            (refine pure_ (i := 31) (N := some 49) (v := undef) (a' := ?_) #[I,I,I,I,I,I,I,I,I,I,I,I,I,I,I,I,I,I,I,I,I,I,I,I,I,I,I,I,I,I,I,I,O,O,O,O,O,O,O] rfl rfl (any_of HT_.out (by kernel_rfl)) (fun _ _ _ h => h) (Or.inr ⟨by rfl, rfl⟩) ?_ ?_); (rotate_left)
            ·(simp only [Act.put, sTA, sCZ, sCS, i64_w, i32_w]); (rfl)
            (refine pure_ (i := 32) (N := some 50) (v := undef) (a' := ?_) #[I,I,I,I,I,I,I,I,I,I,I,I,I,I,I,I,I,I,I,I,I,I,I,I,I,I,I,I,I,I,I,I,I,O,O,O,O,O,O] rfl rfl (any_of HT_.out (by kernel_rfl)) (fun _ _ _ h => h) (Or.inr ⟨by rfl, rfl⟩) ?_ ?_); (rotate_left)
            ·(simp only [Act.put, sTA, sCZ, sCS, i64_w, i32_w]); (rfl)
            (refine pure_ (i := 33) (N := some 51) (v := undef) (a' := ?_) #[I,I,I,I,I,I,I,I,I,I,I,I,I,I,I,I,I,I,I,I,I,I,I,I,I,I,I,I,I,I,I,I,I,I,O,O,O,O,O] rfl rfl (any_of HT_.out (by kernel_rfl)) (fun _ _ _ h => h) (Or.inr ⟨by rfl, rfl⟩) ?_ ?_); (rotate_left)
            ·(simp only [Act.put, sTA, sCZ, sCS, i64_w, i32_w]); (rfl)
            (refine pure_ (i := 34) (N := some 52) (v := undef) (a' := ?_) #[I,I,I,I,I,I,I,I,I,I,I,I,I,I,I,I,I,I,I,I,I,I,I,I,I,I,I,I,I,I,I,I,I,I,I,O,O,O,O] rfl rfl (any_of HT_.out (by kernel_rfl)) (fun _ _ _ h => h) (Or.inr ⟨by rfl, rfl⟩) ?_ ?_); (rotate_left)
            ·(simp only [Act.put, sTA, sCZ, sCS, i64_w, i32_w]); (rfl)
            (refine pure_ (i := 35) (N := some 53) (v := undef) (a' := ?_) #[I,I,I,I,I,I,I,I,I,I,I,I,I,I,I,I,I,I,I,I,I,I,I,I,I,I,I,I,I,I,I,I,I,I,I,I,O,O,O] rfl rfl (any_of HT_.out (by kernel_rfl)) (fun _ _ _ h => h) (Or.inr ⟨by rfl, rfl⟩) ?_ ?_); (rotate_left)
            ·(simp only [Act.put, sTA, sCZ, sCS, i64_w, i32_w]); (rfl)
            (refine pure_ (i := 36) (N := some 54) (v := undef) (a' := ?_) #[I,I,I,I,I,I,I,I,I,I,I,I,I,I,I,I,I,I,I,I,I,I,I,I,I,I,I,I,I,I,I,I,I,I,I,I,I,O,O] rfl rfl (any_of HT_.out (by kernel_rfl)) (fun _ _ _ h => h) (Or.inr ⟨by rfl, rfl⟩) ?_ ?_); (rotate_left)
            ·(simp only [Act.put, sTA, sCZ, sCS, i64_w, i32_w]); (rfl)
            (refine pure_ (i := 37) (N := some 55) (v := undef) (a' := ?_) #[I,I,I,I,I,I,I,I,I,I,I,I,I,I,I,I,I,I,I,I,I,I,I,I,I,I,I,I,I,I,I,I,I,I,I,I,I,I,O] rfl rfl (any_of HT_.out (by kernel_rfl)) (fun _ _ _ h => h) (Or.inr ⟨by rfl, rfl⟩) ?_ ?_); (rotate_left)
            ·(simp only [Act.put, sTA, sCZ, sCS, i64_w, i32_w]); (rfl)
            (refine pu_ (i := 38) (N := some 56) (v := ?_) (a' := ?_) #[I,I,I,I,I,I,I,I,I,I,I,I,I,I,I,I,I,I,I,I,I,I,I,I,I,I,I,I,I,I,I,I,I,I,I,I,I,I,I] rfl rfl HT_.out (by kernel_rfl) (fun _ _ _ h => h) (Or.inl ⟨by rfl, ?_⟩) ?_ ?_); (rotate_left)
            ·(intro w'); (go_simp); (with_reducible rfl)
            rotate_left
            ·(simp only [Act.put, sTA, sCZ, sCS, i64_w, i32_w]); (rfl)
            (refine done_ (done_of HT_.out (by kernel_rfl)) ?_); (try go_wp2); (go_meet)
            case rel => exact ⟨_, (true), (by first | rfl | (simp; done) | (simp [*]; done)), H', ⟨by have := HK1.out; first | omega | exact Nat.le_refl _⟩, ⟨by with_reducible repeat (first | exact HB.out | apply lA | apply lN | apply lW)⟩⟩
          ·(rw [if_neg c8] at H); (have c8b0 : (((rd_T40 l0 x5_1).f0).toList == ((rd_T40 l1 x5_1).f0).toList) = false := beq_eq_false_iff_ne.mpr c8); (have c8b1 : (((rd_T40 l0 x5_1).f0).toList != ((rd_T40 l1 x5_1).f0).toList) = true := bne_iff_ne.mpr c8); (have H' := aM H); clear H; (try go_wp2); (have n0_ := aM (lW HB.out)); clear HB; (have HB := n0_); clear n0_; (have p293 : 0 ≤ (x5_1 : Int) := oD ‹_›); (have q293 : x5_1 < (l0.length : Int) := oD ‹_›); (obtain ⟨ad293, A293_1, c293_1, e293, hx293_0, hx293_1, hx293_2, hl293_1, hi293_1⟩ := at_T40 HR0.out x5_1 p293 q293); (have hw293_2 := hx293_2); (have hw293_1 := hx293_1); (have hw293_0 := hx293_0)
           cases e293
           (replace hx293_0 := cl_ HB.out hx293_0); (replace hx293_1 := cl_ HB.out hx293_1); (replace hx293_2 := cl_ HB.out hx293_2); (have HR293_1 := aM hi293_1); (have HC293_1 := aM hl293_1); clear hi293_1 hl293_1; (replace p293 := eq_true p293); (replace q293 := eq_true q293); (have p294 : 0 ≤ (x5_1 : Int) := oD ‹_›); (have q294 : x5_1 < (l1.length : Int) := oD ‹_›); (obtain ⟨ad294, A294_1, c294_1, e294, hx294_0, hx294_1, hx294_2, hl294_1, hi294_1⟩ := at_T40 HR1.out x5_1 p294 q294); (have hw294_2 := hx294_2); (have hw294_1 := hx294_1); (have hw294_0 := hx294_0)
           cases e294
           (replace hx294_0 := cl_ HB.out hx294_0); (replace hx294_1 := cl_ HB.out hx294_1); (replace hx294_2 := cl_ HB.out hx294_2); (have HR294_1 := aM hi294_1); (have HC294_1 := aM hl294_1); clear hi294_1 hl294_1; (replace p294 := eq_true p294); (replace q294 := eq_true q294); (refine start_ (n := 39) (S := fun w' => w'.cell? (ad293.add ((x5_1).toNat * 3)) = some (.string ((rd_T40 l0 x5_1).f0)) ∧ w'.cell? ⟨(ad293.add ((x5_1).toNat * 3)).block, (ad293.add ((x5_1).toNat * 3)).off + 1, none⟩ = some (.slice A293_1 ((rd_T40 l0 x5_1).f1).length c293_1) ∧ w'.cell? ⟨(ad293.add ((x5_1).toNat * 3)).block, (ad293.add ((x5_1).toNat * 3)).off + 2, none⟩ = some (.int .i64 ((rd_T40 l0 x5_1).f2)) ∧ w'.cell? (ad294.add ((x5_1).toNat * 3)) = some (.string ((rd_T40 l1 x5_1).f0)) ∧ w'.cell? ⟨(ad294.add ((x5_1).toNat * 3)).block, (ad294.add ((x5_1).toNat * 3)).off + 1, none⟩ = some (.slice A294_1 ((rd_T40 l1 x5_1).f1).length c294_1) ∧ w'.cell? ⟨(ad294.add ((x5_1).toNat * 3)).block, (ad294.add ((x5_1).toNat * 3)).off + 2, none⟩ = some (.int .i64 ((rd_T40 l1 x5_1).f2))) (ds := []) #[O,O,O,O,O,O,O,O,O,O,O,O,O,O,O,O,O,O,O,O,O,O,O,O,O,O,O,O,O,O,O,O,O,O,O,O,O,O,O] (by kernel_rfl) rfl rfl ⟨(cl_ HB.out hw293_0), (cl_ HB.out hw293_1), (cl_ HB.out hw293_2), (cl_ HB.out hw294_0), (cl_ HB.out hw294_1), (cl_ HB.out hw294_2)⟩ (fun hHeld => ?_); refine with_tabW solsticekeep_Comps.tab6 solsticekeep_Comps.bits6 (fun HT_ HW_ => ?_)); (generalize wr.drew = w12 at HB HR293_1 HR294_1 hx293_0 hx293_1 hx293_2 hx294_0 hx294_1 hx294_2 hHeld ⊢); (refine pu_ (i := 0) (N := some 18) (v := ?_) (a' := ?_) #[I,O,O,O,O,O,O,O,O,O,O,O,O,O,O,O,O,O,O,O,O,O,O,O,O,O,O,O,O,O,O,O,O,O,O,O,O,O,O] rfl rfl HT_.out (by kernel_rfl) (fun _ _ _ h => h) (Or.inl ⟨by rfl, ?_⟩) ?_ ?_); (rotate_left)
           ·(intro w'); (go_simp); (with_reducible rfl)
           rotate_left
           ·(simp only [Act.put, sTA, sCZ, sCS, i64_w, i32_w]); (rfl)
           (refine pu_ (i := 1) (N := some 19) (v := ?_) (a' := ?_) #[I,I,O,O,O,O,O,O,O,O,O,O,O,O,O,O,O,O,O,O,O,O,O,O,O,O,O,O,O,O,O,O,O,O,O,O,O,O,O] rfl rfl HT_.out (by kernel_rfl) (fun _ _ _ h => h) (Or.inl ⟨by rfl, ?_⟩) ?_ ?_); (rotate_left)
           ·(intro w'); (go_simp); (with_reducible rfl)
           rotate_left
           ·(simp only [Act.put, sTA, sCZ, sCS, i64_w, i32_w]); (rfl)
           (refine pu_ (i := 2) (N := some 20) (v := ?_) (a' := ?_) #[I,I,I,O,O,O,O,O,O,O,O,O,O,O,O,O,O,O,O,O,O,O,O,O,O,O,O,O,O,O,O,O,O,O,O,O,O,O,O] rfl rfl HT_.out (by kernel_rfl) (fun _ _ _ h => h) (Or.inl ⟨by rfl, ?_⟩) ?_ ?_); (rotate_left)
           ·(intro w'); (go_simp); (with_reducible rfl)
           rotate_left
           ·(simp only [Act.put, sTA, sCZ, sCS, i64_w, i32_w]); (rfl)
           (refine pu_ (i := 3) (N := some 21) (v := ?_) (a' := ?_) #[I,I,I,I,O,O,O,O,O,O,O,O,O,O,O,O,O,O,O,O,O,O,O,O,O,O,O,O,O,O,O,O,O,O,O,O,O,O,O] rfl rfl HT_.out (by kernel_rfl) (fun _ _ _ h => h) (Or.inl ⟨by rfl, ?_⟩) ?_ ?_); (rotate_left)
           ·(intro w'); (go_simp); (with_reducible rfl)
           rotate_left
           ·(simp only [Act.put, sTA, sCZ, sCS, i64_w, i32_w]); (rfl)
           (refine pu_ (i := 5) (N := some 23) (v := ?_) (a' := ?_) #[I,I,I,I,O,I,O,O,O,O,O,O,O,O,O,O,O,O,O,O,O,O,O,O,O,O,O,O,O,O,O,O,O,O,O,O,O,O,O] rfl rfl HT_.out (by kernel_rfl) (fun _ _ _ h => h) (Or.inl ⟨by rfl, ?_⟩) ?_ ?_); (rotate_left)
           ·(intro w'); (go_simp); (with_reducible rfl)
           rotate_left
           ·(simp only [Act.put, sTA, sCZ, sCS, i64_w, i32_w]); (rfl)
           (refine pu_ (i := 6) (N := some 24) (v := ?_) (a' := ?_) #[I,I,I,I,O,I,I,O,O,O,O,O,O,O,O,O,O,O,O,O,O,O,O,O,O,O,O,O,O,O,O,O,O,O,O,O,O,O,O] rfl rfl HT_.out (by kernel_rfl) (fun _ _ _ h => h) (Or.inl ⟨by rfl, ?_⟩) ?_ ?_); (rotate_left)
           ·(intro w'); (go_simp); (with_reducible rfl)
           rotate_left
           ·(simp only [Act.put, sTA, sCZ, sCS, i64_w, i32_w]); (rfl)
           (refine pu_ (i := 7) (N := some 25) (v := ?_) (a' := ?_) #[I,I,I,I,O,I,I,I,O,O,O,O,O,O,O,O,O,O,O,O,O,O,O,O,O,O,O,O,O,O,O,O,O,O,O,O,O,O,O] rfl rfl HT_.out (by kernel_rfl) (fun _ _ _ h => h) (Or.inl ⟨by rfl, ?_⟩) ?_ ?_); (rotate_left)
           ·(intro w'); (go_simp); (with_reducible rfl)
           rotate_left
           ·(simp only [Act.put, sTA, sCZ, sCS, i64_w, i32_w]); (rfl)
           (refine pu_ (i := 8) (N := some 26) (v := ?_) (a' := ?_) #[I,I,I,I,O,I,I,I,I,O,O,O,O,O,O,O,O,O,O,O,O,O,O,O,O,O,O,O,O,O,O,O,O,O,O,O,O,O,O] rfl rfl HT_.out (by kernel_rfl) (fun _ _ _ h => h) (Or.inl ⟨by rfl, ?_⟩) ?_ ?_); (rotate_left)
           ·(intro w'); (go_simp); (with_reducible rfl)
           rotate_left
           ·(simp only [Act.put, sTA, sCZ, sCS, i64_w, i32_w]); (rfl)
           (refine take_ (i := 4) (N := some 22) (v := ?_) (a' := ?_) #[I,I,I,I,I,I,I,I,I,O,O,O,O,O,O,O,O,O,O,O,O,O,O,O,O,O,O,O,O,O,O,O,O,O,O,O,O,O,O] rfl rfl (take_ofW HT_.out HW_.out (by kernel_rfl)) (fun _ _ _ h => h) (Or.inl ⟨by rfl, ?_⟩) hHeld ?_ ?_); (rotate_left)
           ·(rintro w' ⟨s0, s1, s2, s3, s4, s5⟩); (go_simp); (with_reducible rfl)
           rotate_left
           ·(simp only [Act.put, sTA, sCZ, sCS, i64_w, i32_w]); (rfl)
           (refine take_ (i := 9) (N := some 27) (v := ?_) (a' := ?_) #[I,I,I,I,I,I,I,I,I,I,O,O,O,O,O,O,O,O,O,O,O,O,O,O,O,O,O,O,O,O,O,O,O,O,O,O,O,O,O] rfl rfl (take_ofW HT_.out HW_.out (by kernel_rfl)) (fun _ _ _ h => h) (Or.inl ⟨by rfl, ?_⟩) hHeld ?_ ?_); (rotate_left)
           ·(rintro w' ⟨s0, s1, s2, s3, s4, s5⟩); (go_simp); (with_reducible rfl)
           rotate_left
           ·(simp only [Act.put, sTA, sCZ, sCS, i64_w, i32_w]); (rfl)
           (refine pu_ (i := 10) (N := some 28) (v := ?_) (a' := ?_) #[I,I,I,I,I,I,I,I,I,I,I,O,O,O,O,O,O,O,O,O,O,O,O,O,O,O,O,O,O,O,O,O,O,O,O,O,O,O,O] rfl rfl HT_.out (by kernel_rfl) (fun _ _ _ h => h) (Or.inl ⟨by rfl, ?_⟩) ?_ ?_); (rotate_left)
           ·(intro w'); (go_simp); (with_reducible rfl)
           rotate_left
           ·(simp only [Act.put, sTA, sCZ, sCS, i64_w, i32_w]); (rfl)
           (refine pu_ (i := 11) (N := some 29) (v := ?_) (a' := ?_) #[I,I,I,I,I,I,I,I,I,I,I,I,O,O,O,O,O,O,O,O,O,O,O,O,O,O,O,O,O,O,O,O,O,O,O,O,O,O,O] rfl rfl HT_.out (by kernel_rfl) (fun _ _ _ h => h) (Or.inl ⟨by rfl, ?_⟩) ?_ ?_); (rotate_left)
           ·(intro w'); (go_simp); (with_reducible rfl)
           rotate_left
           ·(simp only [Act.put, sTA, sCZ, sCS, i64_w, i32_w]); (rfl)
           (refine pure_ (i := 12) (N := some 30) (v := undef) (a' := ?_) #[I,I,I,I,I,I,I,I,I,I,I,I,I,O,O,O,O,O,O,O,O,O,O,O,O,O,O,O,O,O,O,O,O,O,O,O,O,O,O] rfl rfl (any_of HT_.out (by kernel_rfl)) (fun _ _ _ h => h) (Or.inr ⟨by rfl, rfl⟩) ?_ ?_); (rotate_left)
           ·(simp only [Act.put, sTA, sCZ, sCS, i64_w, i32_w]); (rfl)
           (refine pure_ (i := 13) (N := some 31) (v := undef) (a' := ?_) #[I,I,I,I,I,I,I,I,I,I,I,I,I,I,O,O,O,O,O,O,O,O,O,O,O,O,O,O,O,O,O,O,O,O,O,O,O,O,O] rfl rfl (any_of HT_.out (by kernel_rfl)) (fun _ _ _ h => h) (Or.inr ⟨by rfl, rfl⟩) ?_ ?_); (rotate_left)
           ·(simp only [Act.put, sTA, sCZ, sCS, i64_w, i32_w]); (rfl)
           (refine pure_ (i := 14) (N := some 32) (v := undef) (a' := ?_) #[I,I,I,I,I,I,I,I,I,I,I,I,I,I,I,O,O,O,O,O,O,O,O,O,O,O,O,O,O,O,O,O,O,O,O,O,O,O,O] rfl rfl (any_of HT_.out (by kernel_rfl)) (fun _ _ _ h => h) (Or.inr ⟨by rfl, rfl⟩) ?_ ?_); (rotate_left)
           ·(simp only [Act.put, sTA, sCZ, sCS, i64_w, i32_w]); (rfl)
           (refine pure_ (i := 15) (N := some 33) (v := undef) (a' := ?_) #[I,I,I,I,I,I,I,I,I,I,I,I,I,I,I,I,O,O,O,O,O,O,O,O,O,O,O,O,O,O,O,O,O,O,O,O,O,O,O] rfl rfl (any_of HT_.out (by kernel_rfl)) (fun _ _ _ h => h) (Or.inr ⟨by rfl, rfl⟩) ?_ ?_); (rotate_left)
           ·(simp only [Act.put, sTA, sCZ, sCS, i64_w, i32_w]); (rfl)
           (refine pure_ (i := 16) (N := some 34) (v := undef) (a' := ?_) #[I,I,I,I,I,I,I,I,I,I,I,I,I,I,I,I,I,O,O,O,O,O,O,O,O,O,O,O,O,O,O,O,O,O,O,O,O,O,O] rfl rfl (any_of HT_.out (by kernel_rfl)) (fun _ _ _ h => h) (Or.inr ⟨by rfl, rfl⟩) ?_ ?_); (rotate_left)
           ·(simp only [Act.put, sTA, sCZ, sCS, i64_w, i32_w]); (rfl)
           (refine pure_ (i := 17) (N := some 35) (v := undef) (a' := ?_) #[I,I,I,I,I,I,I,I,I,I,I,I,I,I,I,I,I,I,O,O,O,O,O,O,O,O,O,O,O,O,O,O,O,O,O,O,O,O,O] rfl rfl (any_of HT_.out (by kernel_rfl)) (fun _ _ _ h => h) (Or.inr ⟨by rfl, rfl⟩) ?_ ?_); (rotate_left)
           ·(simp only [Act.put, sTA, sCZ, sCS, i64_w, i32_w]); (rfl)
           (refine pure_ (i := 18) (N := some 36) (v := undef) (a' := ?_) #[I,I,I,I,I,I,I,I,I,I,I,I,I,I,I,I,I,I,I,O,O,O,O,O,O,O,O,O,O,O,O,O,O,O,O,O,O,O,O] rfl rfl (any_of HT_.out (by kernel_rfl)) (fun _ _ _ h => h) (Or.inr ⟨by rfl, rfl⟩) ?_ ?_); (rotate_left)
           ·(simp only [Act.put, sTA, sCZ, sCS, i64_w, i32_w]); (rfl)
           (refine pure_ (i := 19) (N := some 37) (v := undef) (a' := ?_) #[I,I,I,I,I,I,I,I,I,I,I,I,I,I,I,I,I,I,I,I,O,O,O,O,O,O,O,O,O,O,O,O,O,O,O,O,O,O,O] rfl rfl (any_of HT_.out (by kernel_rfl)) (fun _ _ _ h => h) (Or.inr ⟨by rfl, rfl⟩) ?_ ?_); (rotate_left)
           ·(simp only [Act.put, sTA, sCZ, sCS, i64_w, i32_w]); (rfl)
           (refine pure_ (i := 20) (N := some 38) (v := undef) (a' := ?_) #[I,I,I,I,I,I,I,I,I,I,I,I,I,I,I,I,I,I,I,I,I,O,O,O,O,O,O,O,O,O,O,O,O,O,O,O,O,O,O] rfl rfl (any_of HT_.out (by kernel_rfl)) (fun _ _ _ h => h) (Or.inr ⟨by rfl, rfl⟩) ?_ ?_); (rotate_left)
           ·(simp only [Act.put, sTA, sCZ, sCS, i64_w, i32_w]); (rfl)
           (refine pure_ (i := 21) (N := some 39) (v := undef) (a' := ?_) #[I,I,I,I,I,I,I,I,I,I,I,I,I,I,I,I,I,I,I,I,I,I,O,O,O,O,O,O,O,O,O,O,O,O,O,O,O,O,O] rfl rfl (any_of HT_.out (by kernel_rfl)) (fun _ _ _ h => h) (Or.inr ⟨by rfl, rfl⟩) ?_ ?_); (rotate_left)
           ·(simp only [Act.put, sTA, sCZ, sCS, i64_w, i32_w]); (rfl)
           (refine pure_ (i := 22) (N := some 40) (v := undef) (a' := ?_) #[I,I,I,I,I,I,I,I,I,I,I,I,I,I,I,I,I,I,I,I,I,I,I,O,O,O,O,O,O,O,O,O,O,O,O,O,O,O,O] rfl rfl (any_of HT_.out (by kernel_rfl)) (fun _ _ _ h => h) (Or.inr ⟨by rfl, rfl⟩) ?_ ?_); (rotate_left)
           ·(simp only [Act.put, sTA, sCZ, sCS, i64_w, i32_w]); (rfl)
           (refine pu_ (i := 23) (N := some 41) (v := ?_) (a' := ?_) #[I,I,I,I,I,I,I,I,I,I,I,I,I,I,I,I,I,I,I,I,I,I,I,I,O,O,O,O,O,O,O,O,O,O,O,O,O,O,O] rfl rfl HT_.out (by kernel_rfl) (fun _ _ _ h => h) (Or.inl ⟨by rfl, ?_⟩) ?_ ?_); (rotate_left)
           ·(intro w'); (go_simp); (with_reducible rfl)
           rotate_left
           ·(simp only [Act.put, sTA, sCZ, sCS, i64_w, i32_w]); (rfl)
           (refine pu_ (i := 24) (N := some 42) (v := ?_) (a' := ?_) #[I,I,I,I,I,I,I,I,I,I,I,I,I,I,I,I,I,I,I,I,I,I,I,I,I,O,O,O,O,O,O,O,O,O,O,O,O,O,O] rfl rfl HT_.out (by kernel_rfl) (fun _ _ _ h => h) (Or.inl ⟨by rfl, ?_⟩) ?_ ?_); (rotate_left)
           ·(intro w'); (go_simp); (with_reducible rfl)
           rotate_left
           ·(simp only [Act.put, sTA, sCZ, sCS, i64_w, i32_w]); (rfl)
           (refine pure_ (i := 25) (N := some 43) (v := undef) (a' := ?_) #[I,I,I,I,I,I,I,I,I,I,I,I,I,I,I,I,I,I,I,I,I,I,I,I,I,I,O,O,O,O,O,O,O,O,O,O,O,O,O] rfl rfl (any_of HT_.out (by kernel_rfl)) (fun _ _ _ h => h) (Or.inr ⟨by rfl, rfl⟩) ?_ ?_); (rotate_left)
           ·(simp only [Act.put, sTA, sCZ, sCS, i64_w, i32_w]); (rfl)
           (refine pure_ (i := 26) (N := some 44) (v := undef) (a' := ?_) #[I,I,I,I,I,I,I,I,I,I,I,I,I,I,I,I,I,I,I,I,I,I,I,I,I,I,I,O,O,O,O,O,O,O,O,O,O,O,O] rfl rfl (any_of HT_.out (by kernel_rfl)) (fun _ _ _ h => h) (Or.inr ⟨by rfl, rfl⟩) ?_ ?_); (rotate_left)
           ·(simp only [Act.put, sTA, sCZ, sCS, i64_w, i32_w]); (rfl)
           (refine pure_ (i := 27) (N := some 45) (v := undef) (a' := ?_) #[I,I,I,I,I,I,I,I,I,I,I,I,I,I,I,I,I,I,I,I,I,I,I,I,I,I,I,I,O,O,O,O,O,O,O,O,O,O,O] rfl rfl (any_of HT_.out (by kernel_rfl)) (fun _ _ _ h => h) (Or.inr ⟨by rfl, rfl⟩) ?_ ?_); (rotate_left)
           ·(simp only [Act.put, sTA, sCZ, sCS, i64_w, i32_w]); (rfl)
           (refine pure_ (i := 28) (N := some 46) (v := undef) (a' := ?_) #[I,I,I,I,I,I,I,I,I,I,I,I,I,I,I,I,I,I,I,I,I,I,I,I,I,I,I,I,I,O,O,O,O,O,O,O,O,O,O] rfl rfl (any_of HT_.out (by kernel_rfl)) (fun _ _ _ h => h) (Or.inr ⟨by rfl, rfl⟩) ?_ ?_); (rotate_left)
           ·(simp only [Act.put, sTA, sCZ, sCS, i64_w, i32_w]); (rfl)
           (refine pure_ (i := 29) (N := some 47) (v := undef) (a' := ?_) #[I,I,I,I,I,I,I,I,I,I,I,I,I,I,I,I,I,I,I,I,I,I,I,I,I,I,I,I,I,I,O,O,O,O,O,O,O,O,O] rfl rfl (any_of HT_.out (by kernel_rfl)) (fun _ _ _ h => h) (Or.inr ⟨by rfl, rfl⟩) ?_ ?_); (rotate_left)
           ·(simp only [Act.put, sTA, sCZ, sCS, i64_w, i32_w]); (rfl)
           (refine pure_ (i := 30) (N := some 48) (v := undef) (a' := ?_) #[I,I,I,I,I,I,I,I,I,I,I,I,I,I,I,I,I,I,I,I,I,I,I,I,I,I,I,I,I,I,I,O,O,O,O,O,O,O,O] rfl rfl (any_of HT_.out (by kernel_rfl)) (fun _ _ _ h => h) (Or.inr ⟨by rfl, rfl⟩) ?_ ?_); (rotate_left)
           ·(simp only [Act.put, sTA, sCZ, sCS, i64_w, i32_w]); (rfl)
           (refine pure_ (i := 31) (N := some 49) (v := undef) (a' := ?_) #[I,I,I,I,I,I,I,I,I,I,I,I,I,I,I,I,I,I,I,I,I,I,I,I,I,I,I,I,I,I,I,I,O,O,O,O,O,O,O] rfl rfl (any_of HT_.out (by kernel_rfl)) (fun _ _ _ h => h) (Or.inr ⟨by rfl, rfl⟩) ?_ ?_); (rotate_left)
           ·(simp only [Act.put, sTA, sCZ, sCS, i64_w, i32_w]); (rfl)
           (refine pure_ (i := 32) (N := some 50) (v := undef) (a' := ?_) #[I,I,I,I,I,I,I,I,I,I,I,I,I,I,I,I,I,I,I,I,I,I,I,I,I,I,I,I,I,I,I,I,I,O,O,O,O,O,O] rfl rfl (any_of HT_.out (by kernel_rfl)) (fun _ _ _ h => h) (Or.inr ⟨by rfl, rfl⟩) ?_ ?_); (rotate_left)
           ·(simp only [Act.put, sTA, sCZ, sCS, i64_w, i32_w]); (rfl)
           (refine pure_ (i := 33) (N := some 51) (v := undef) (a' := ?_) #[I,I,I,I,I,I,I,I,I,I,I,I,I,I,I,I,I,I,I,I,I,I,I,I,I,I,I,I,I,I,I,I,I,I,O,O,O,O,O] rfl rfl (any_of HT_.out (by kernel_rfl)) (fun _ _ _ h => h) (Or.inr ⟨by rfl, rfl⟩) ?_ ?_); (rotate_left)
           ·(simp only [Act.put, sTA, sCZ, sCS, i64_w, i32_w]); (rfl)
           (refine pure_ (i := 34) (N := some 52) (v := undef) (a' := ?_) #[I,I,I,I,I,I,I,I,I,I,I,I,I,I,I,I,I,I,I,I,I,I,I,I,I,I,I,I,I,I,I,I,I,I,I,O,O,O,O] rfl rfl (any_of HT_.out (by kernel_rfl)) (fun _ _ _ h => h) (Or.inr ⟨by rfl, rfl⟩) ?_ ?_); (rotate_left)
           ·(simp only [Act.put, sTA, sCZ, sCS, i64_w, i32_w]); (rfl)
           (refine pure_ (i := 35) (N := some 53) (v := undef) (a' := ?_) #[I,I,I,I,I,I,I,I,I,I,I,I,I,I,I,I,I,I,I,I,I,I,I,I,I,I,I,I,I,I,I,I,I,I,I,I,O,O,O] rfl rfl (any_of HT_.out (by kernel_rfl)) (fun _ _ _ h => h) (Or.inr ⟨by rfl, rfl⟩) ?_ ?_); (rotate_left)
           ·(simp only [Act.put, sTA, sCZ, sCS, i64_w, i32_w]); (rfl)
           (refine pure_ (i := 36) (N := some 54) (v := undef) (a' := ?_) #[I,I,I,I,I,I,I,I,I,I,I,I,I,I,I,I,I,I,I,I,I,I,I,I,I,I,I,I,I,I,I,I,I,I,I,I,I,O,O] rfl rfl (any_of HT_.out (by kernel_rfl)) (fun _ _ _ h => h) (Or.inr ⟨by rfl, rfl⟩) ?_ ?_); (rotate_left)
           ·(simp only [Act.put, sTA, sCZ, sCS, i64_w, i32_w]); (rfl)
           (refine pure_ (i := 37) (N := some 55) (v := undef) (a' := ?_) #[I,I,I,I,I,I,I,I,I,I,I,I,I,I,I,I,I,I,I,I,I,I,I,I,I,I,I,I,I,I,I,I,I,I,I,I,I,I,O] rfl rfl (any_of HT_.out (by kernel_rfl)) (fun _ _ _ h => h) (Or.inr ⟨by rfl, rfl⟩) ?_ ?_); (rotate_left)
           ·(simp only [Act.put, sTA, sCZ, sCS, i64_w, i32_w]); (rfl)
           (refine pu_ (i := 38) (N := some 56) (v := ?_) (a' := ?_) #[I,I,I,I,I,I,I,I,I,I,I,I,I,I,I,I,I,I,I,I,I,I,I,I,I,I,I,I,I,I,I,I,I,I,I,I,I,I,I] rfl rfl HT_.out (by kernel_rfl) (fun _ _ _ h => h) (Or.inl ⟨by rfl, ?_⟩) ?_ ?_); (rotate_left)
           ·(intro w'); (go_simp); (with_reducible rfl)
           rotate_left
           ·(simp only [Act.put, sTA, sCZ, sCS, i64_w, i32_w]); (rfl)
           (refine done_ (done_of HT_.out (by kernel_rfl)) ?_); (try go_wp2); (go_meet)
           case rel => exact ⟨_, (true), (by first | rfl | (simp; done) | (simp [*]; done)), H', ⟨by have := HK1.out; first | omega | exact Nat.le_refl _⟩, ⟨by with_reducible repeat (first | exact HB.out | apply lA | apply lN | apply lW)⟩⟩
         ·(rw [if_neg c7] at H); (exact absurd H (by simp))
        ·(rw [if_neg c6] at H); (exact absurd H (by simp))
      case rest =>
       as_aux_lemma =>
        clear HC5; (try clear c2); (try clear p2); (try clear q2); (try clear hx2); (try clear c6); (try clear c7); (try clear c8); (try clear c8b0); (try clear c8b1); (try clear hx293_0); (try clear hx293_1); (try clear hx293_2); (try clear hx294_0); (try clear hx294_1); (try clear hx294_2); (try clear hx295_0); (try clear hx295_1); (try clear hx295_2); (try clear hx296_0); (try clear hx296_1); (try clear hx296_2); (try clear p293); (try clear p294); (try clear p295); (try clear p296); (try clear q293); (try clear q294); (try clear q295); (try clear q296); (obtain ⟨kq, x56_4, rfl, HA, HJ4, HB⟩ := hcut)
        cases kq with
        | zero => exact absurd HA.out (by simp [solsticekeep_Comps.j1])
        | succ kj4 =>
         (have H := HA.out); clear HA; (simp only [solsticekeep_Comps.j1] at H); (by_cases c13 : x56_4 = true)
         ·subst c13; (have H1 : (some false) = some r := by rw [if_pos rfl] at H; exact H); clear H; (have H := H1); clear H1; (obtain rfl := Option.some.inj H); (go_wp2); (go_ret); (exact ⟨by first | rfl | (simp [errW_none, errW_some] <;> rfl) | (simp [*, errW_none, errW_some] <;> rfl), by with_reducible repeat (first | exact HB.out | apply lA | apply lN | apply lW)⟩)
         ·(replace c13 := Bool.eq_false_iff.mpr c13); subst c13; (have H1 : (solsticekeep_Comps.l1 kj4 l0 l1 x5_1 0) = some r := by rw [if_neg (show ¬ (false = true) by decide)] at H; exact H); clear H; (have H := H1); clear H1; (have H' := aM H); clear H; (go_wp2); (go_loopg [6] kj4 (fun kq v6 w' => ∃ (x6_3 : Int), v6 = .int .i64 x6_3 ∧ Aside0 (solsticekeep_Comps.l1 kq l0 l1 x5_1 x6_3 = some r) ∧ Aside0 (kq ≤ kj4) ∧ Aside0 (Below w.heap.size w w')))
          case atStart => exact ⟨(0), (by first | rfl | (simp; done) | (simp [*]; done)), H', ⟨Nat.le_refl _⟩, ⟨by with_reducible repeat (first | exact HB.out | apply lA | apply lN | apply lW)⟩⟩
          case round =>
           as_aux_lemma =>
            clear H'; (try clear c1); (try clear c2); (try clear p2); (try clear q2); (try clear hx2); (try clear c6); (try clear c7); (try clear c8); (try clear c8b0); (try clear c8b1); (try clear c13); (try clear hx293_0); (try clear hx293_1); (try clear hx293_2); (try clear hx294_0); (try clear hx294_1); (try clear hx294_2); (try clear hx295_0); (try clear hx295_1); (try clear hx295_2); (try clear hx296_0); (try clear hx296_1); (try clear hx296_2); (try clear p2); (try clear p293); (try clear p294); (try clear p295); (try clear p296); (try clear q2); (try clear q293); (try clear q294); (try clear q295); (try clear q296); (obtain ⟨x6_3, rfl, HA, HK3, HB⟩ := hrel)
            cases gk with
            | zero => exact absurd HA.out (by simp [solsticekeep_Comps.l1])
            | succ k3 =>
             (have H := HA.out); clear HA; (simp only [solsticekeep_Comps.l1] at H); (by_cases c14 : 0 ≤ x5_1)
             ·(rw [if_pos c14] at H); (have c14b0 : decide (0 ≤ x5_1) = true := dE c14); clear c14; (by_cases c15 : x5_1 < (l0.length : Int))
              ·(rw [if_pos c15] at H); (have c15b0 : decide (x5_1 < (l0.length : Int)) = true := dE c15); clear c15; (by_cases c16 : x6_3 < (((rd_T40 l0 x5_1).f1).length : Int))
               ·(rw [if_pos c16] at H); (have c16b0 : decide (x6_3 < (((rd_T40 l0 x5_1).f1).length : Int)) = true := dE c16); clear c16; (by_cases c17 : 0 ≤ x6_3)
                ·(rw [if_pos c17] at H); (have c17b0 : decide (0 ≤ x6_3) = true := dE c17); clear c17; (by_cases c18 : x5_1 < (l1.length : Int))
                 ·(rw [if_pos c18] at H); (have c18b0 : decide (x5_1 < (l1.length : Int)) = true := dE c18); clear c18; (by_cases c19 : x6_3 < (((rd_T40 l1 x5_1).f1).length : Int))
                  ·(rw [if_pos c19] at H); (have c19b0 : decide (x6_3 < (((rd_T40 l1 x5_1).f1).length : Int)) = true := dE c19); clear c19; (replace H := Option.bind_eq_some_iff.mp H); (obtain ⟨t304, A200, H⟩ := H); (replace H : (if t304 = true then (solsticekeep_Comps.l1 k3 l0 l1 x5_1 (wrap64 (x6_3 + 1))) else (some false)) = some r := H); (have A20 := aM A200); clear A200; (by_cases c21 : t304 = true)
                   ·subst c21; (have H1 : (solsticekeep_Comps.l1 k3 l0 l1 x5_1 (wrap64 (x6_3 + 1))) = some r := by rw [if_pos rfl] at H; exact H); clear H; (have H := H1); clear H1; (have H' := aM H); clear H; (have p299 : 0 ≤ (x5_1 : Int) := oD ‹_›); (have q299 : x5_1 < (l0.length : Int) := oD ‹_›); (obtain ⟨ad299, A299_1, c299_1, e299, hx299_0, hx299_1, hx299_2, hl299_1, hi299_1⟩ := at_T40 HR0.out x5_1 p299 q299)
                    cases e299
                    (replace hx299_0 := cl_ HB.out hx299_0); (replace hx299_1 := cl_ HB.out hx299_1); (replace hx299_2 := cl_ HB.out hx299_2); (have HR299_1 := aM hi299_1); (have HC299_1 := aM hl299_1); clear hi299_1 hl299_1; (replace p299 := eq_true p299); (replace q299 := eq_true q299); (try go_wp2); (have n0_ := aM (lW HB.out)); clear HB; (have HB := n0_); clear n0_; (have p300 : 0 ≤ (x5_1 : Int) := oD ‹_›); (have q300 : x5_1 < (l0.length : Int) := oD ‹_›); (obtain ⟨ad300, A300_1, c300_1, e300, hx300_0, hx300_1, hx300_2, hl300_1, hi300_1⟩ := at_T40 HR0.out x5_1 p300 q300); (have hw300_2 := hx300_2); (have hw300_1 := hx300_1); (have hw300_0 := hx300_0); (obtain rfl : ad299 = ad300 := (by injection e300)); (replace hx300_0 := cl_ HB.out hx300_0); (replace hx300_1 := cl_ HB.out hx300_1); (replace hx300_2 := cl_ HB.out hx300_2); (have HR300_1 := aM hi300_1); (have HC300_1 := aM hl300_1); clear hi300_1 hl300_1; (replace p300 := eq_true p300); (replace q300 := eq_true q300); (have p301 : 0 ≤ (x6_3 : Int) := oD ‹_›); (have q301 : x6_3 < (((rd_T40 l0 x5_1).f1).length : Int) := oD ‹_›); (obtain ⟨ad301, A301_1, c301_1, e301, hx301_0, hx301_1, hx301_2, hl301_1, hi301_1⟩ := at_T44 HR300_1.out x6_3 p301 q301); (have hw301_2 := hx301_2); (have hw301_1 := hx301_1); (have hw301_0 := hx301_0)
                    cases e301
                    (replace hx301_0 := cl_ HB.out hx301_0); (replace hx301_1 := cl_ HB.out hx301_1); (replace hx301_2 := cl_ HB.out hx301_2); (have HR301_1 := aM hi301_1); (have HC301_1 := aM hl301_1); clear hi301_1 hl301_1; (replace p301 := eq_true p301); (replace q301 := eq_true q301); (have p302 : 0 ≤ (x5_1 : Int) := oD ‹_›); (have q302 : x5_1 < (l1.length : Int) := oD ‹_›); (obtain ⟨ad302, A302_1, c302_1, e302, hx302_0, hx302_1, hx302_2, hl302_1, hi302_1⟩ := at_T40 HR1.out x5_1 p302 q302); (have hw302_2 := hx302_2); (have hw302_1 := hx302_1); (have hw302_0 := hx302_0)
                    cases e302
                    (replace hx302_0 := cl_ HB.out hx302_0); (replace hx302_1 := cl_ HB.out hx302_1); (replace hx302_2 := cl_ HB.out hx302_2); (have HR302_1 := aM hi302_1); (have HC302_1 := aM hl302_1); clear hi302_1 hl302_1; (replace p302 := eq_true p302); (replace q302 := eq_true q302); (have p303 : 0 ≤ (x6_3 : Int) := oD ‹_›); (have q303 : x6_3 < (((rd_T40 l1 x5_1).f1).length : Int) := oD ‹_›); (obtain ⟨ad303, A303_1, c303_1, e303, hx303_0, hx303_1, hx303_2, hl303_1, hi303_1⟩ := at_T44 HR302_1.out x6_3 p303 q303); (have hw303_2 := hx303_2); (have hw303_1 := hx303_1); (have hw303_0 := hx303_0)
                    cases e303
                    (replace hx303_0 := cl_ HB.out hx303_0); (replace hx303_1 := cl_ HB.out hx303_1); (replace hx303_2 := cl_ HB.out hx303_2); (have HR303_1 := aM hi303_1); (have HC303_1 := aM hl303_1); clear hi303_1 hl303_1; (replace p303 := eq_true p303); (replace q303 := eq_true q303); (refine start_ (n := 18) (S := fun w' => w'.cell? (ad299.add ((x5_1).toNat * 3)) = some (.string ((rd_T40 l0 x5_1).f0)) ∧ w'.cell? ⟨(ad299.add ((x5_1).toNat * 3)).block, (ad299.add ((x5_1).toNat * 3)).off + 1, none⟩ = some (.slice (some ad301) ((rd_T40 l0 x5_1).f1).length c300_1) ∧ w'.cell? ⟨(ad299.add ((x5_1).toNat * 3)).block, (ad299.add ((x5_1).toNat * 3)).off + 2, none⟩ = some (.int .i64 ((rd_T40 l0 x5_1).f2)) ∧ w'.cell? (ad301.add ((x6_3).toNat * 3)) = some (.string ((rd_T44 ((rd_T40 l0 x5_1).f1) x6_3).f0)) ∧ w'.cell? ⟨(ad301.add ((x6_3).toNat * 3)).block, (ad301.add ((x6_3).toNat * 3)).off + 1, none⟩ = some (.slice A301_1 ((rd_T44 ((rd_T40 l0 x5_1).f1) x6_3).f1).length c301_1) ∧ w'.cell? ⟨(ad301.add ((x6_3).toNat * 3)).block, (ad301.add ((x6_3).toNat * 3)).off + 2, none⟩ = some (.string ((rd_T44 ((rd_T40 l0 x5_1).f1) x6_3).f2)) ∧ w'.cell? (ad302.add ((x5_1).toNat * 3)) = some (.string ((rd_T40 l1 x5_1).f0)) ∧ w'.cell? ⟨(ad302.add ((x5_1).toNat * 3)).block, (ad302.add ((x5_1).toNat * 3)).off + 1, none⟩ = some (.slice (some ad303) ((rd_T40 l1 x5_1).f1).length c302_1) ∧ w'.cell? ⟨(ad302.add ((x5_1).toNat * 3)).block, (ad302.add ((x5_1).toNat * 3)).off + 2, none⟩ = some (.int .i64 ((rd_T40 l1 x5_1).f2)) ∧ w'.cell? (ad303.add ((x6_3).toNat * 3)) = some (.string ((rd_T44 ((rd_T40 l1 x5_1).f1) x6_3).f0)) ∧ w'.cell? ⟨(ad303.add ((x6_3).toNat * 3)).block, (ad303.add ((x6_3).toNat * 3)).off + 1, none⟩ = some (.slice A303_1 ((rd_T44 ((rd_T40 l1 x5_1).f1) x6_3).f1).length c303_1) ∧ w'.cell? ⟨(ad303.add ((x6_3).toNat * 3)).block, (ad303.add ((x6_3).toNat * 3)).off + 2, none⟩ = some (.string ((rd_T44 ((rd_T40 l1 x5_1).f1) x6_3).f2))) (ds := []) #[O,O,O,O,O,O,O,O,O,O,O,O,O,O,O,O,O,O] (by kernel_rfl) rfl rfl ⟨(cl_ HB.out hw300_0), (cl_ HB.out hw300_1), (cl_ HB.out hw300_2), (cl_ HB.out hw301_0), (cl_ HB.out hw301_1), (cl_ HB.out hw301_2), (cl_ HB.out hw302_0), (cl_ HB.out hw302_1), (cl_ HB.out hw302_2), (cl_ HB.out hw303_0), (cl_ HB.out hw303_1), (cl_ HB.out hw303_2)⟩ (fun hHeld => ?_); refine with_tabW solsticekeep_Comps.tab11 solsticekeep_Comps.bits11 (fun HT_ HW_ => ?_)); (generalize wr.drew = w22 at HB HR300_1 HR301_1 HR302_1 HR303_1 hx300_0 hx300_1 hx300_2 hx301_0 hx301_1 hx301_2 hx302_0 hx302_1 hx302_2 hx303_0 hx303_1 hx303_2 hHeld ⊢); (refine pu_ (i := 0) (N := some 67) (v := ?_) (a' := ?_) #[I,O,O,O,O,O,O,O,O,O,O,O,O,O,O,O,O,O] rfl rfl HT_.out (by kernel_rfl) (fun _ _ _ h => h) (Or.inl ⟨by rfl, ?_⟩) ?_ ?_); (rotate_left)
                    ·(intro w'); (go_simp); (with_reducible rfl)
                    rotate_left
                    ·(simp only [Act.put, sTA, sCZ, sCS, i64_w, i32_w]); (rfl)
                    (refine pu_ (i := 1) (N := some 68) (v := ?_) (a' := ?_) #[I,I,O,O,O,O,O,O,O,O,O,O,O,O,O,O,O,O] rfl rfl HT_.out (by kernel_rfl) (fun _ _ _ h => h) (Or.inl ⟨by rfl, ?_⟩) ?_ ?_); (rotate_left)
                    ·(intro w'); (go_simp); (with_reducible rfl)
                    rotate_left
                    ·(simp only [Act.put, sTA, sCZ, sCS, i64_w, i32_w]); (rfl)
                    (refine pu_ (i := 2) (N := some 69) (v := ?_) (a' := ?_) #[I,I,I,O,O,O,O,O,O,O,O,O,O,O,O,O,O,O] rfl rfl HT_.out (by kernel_rfl) (fun _ _ _ h => h) (Or.inl ⟨by rfl, ?_⟩) ?_ ?_); (rotate_left)
                    ·(intro w'); (go_simp); (with_reducible rfl)
                    rotate_left
                    ·(simp only [Act.put, sTA, sCZ, sCS, i64_w, i32_w]); (rfl)
                    (refine pu_ (i := 3) (N := some 70) (v := ?_) (a' := ?_) #[I,I,I,I,O,O,O,O,O,O,O,O,O,O,O,O,O,O] rfl rfl HT_.out (by kernel_rfl) (fun _ _ _ h => h) (Or.inl ⟨by rfl, ?_⟩) ?_ ?_); (rotate_left)
                    ·(intro w'); (go_simp); (with_reducible rfl)
                    rotate_left
                    ·(simp only [Act.put, sTA, sCZ, sCS, i64_w, i32_w]); (rfl)
                    (refine pu_ (i := 5) (N := some 72) (v := ?_) (a' := ?_) #[I,I,I,I,O,I,O,O,O,O,O,O,O,O,O,O,O,O] rfl rfl HT_.out (by kernel_rfl) (fun _ _ _ h => h) (Or.inl ⟨by rfl, ?_⟩) ?_ ?_); (rotate_left)
                    ·(intro w'); (go_simp); (with_reducible rfl)
                    rotate_left
                    ·(simp only [Act.put, sTA, sCZ, sCS, i64_w, i32_w]); (rfl)
                    (refine pu_ (i := 8) (N := some 75) (v := ?_) (a' := ?_) #[I,I,I,I,O,I,O,O,I,O,O,O,O,O,O,O,O,O] rfl rfl HT_.out (by kernel_rfl) (fun _ _ _ h => h) (Or.inl ⟨by rfl, ?_⟩) ?_ ?_); (rotate_left)
                    ·(intro w'); (go_simp); (with_reducible rfl)
                    rotate_left
                    ·(simp only [Act.put, sTA, sCZ, sCS, i64_w, i32_w]); (rfl)
                    (refine pu_ (i := 9) (N := some 76) (v := ?_) (a' := ?_) #[I,I,I,I,O,I,O,O,I,I,O,O,O,O,O,O,O,O] rfl rfl HT_.out (by kernel_rfl) (fun _ _ _ h => h) (Or.inl ⟨by rfl, ?_⟩) ?_ ?_); (rotate_left)
                    ·(intro w'); (go_simp); (with_reducible rfl)
                    rotate_left
                    ·(simp only [Act.put, sTA, sCZ, sCS, i64_w, i32_w]); (rfl)
                    (refine pu_ (i := 10) (N := some 77) (v := ?_) (a' := ?_) #[I,I,I,I,O,I,O,O,I,I,I,O,O,O,O,O,O,O] rfl rfl HT_.out (by kernel_rfl) (fun _ _ _ h => h) (Or.inl ⟨by rfl, ?_⟩) ?_ ?_); (rotate_left)
                    ·(intro w'); (go_simp); (with_reducible rfl)
                    rotate_left
                    ·(simp only [Act.put, sTA, sCZ, sCS, i64_w, i32_w]); (rfl)
                    (refine pu_ (i := 11) (N := some 78) (v := ?_) (a' := ?_) #[I,I,I,I,O,I,O,O,I,I,I,I,O,O,O,O,O,O] rfl rfl HT_.out (by kernel_rfl) (fun _ _ _ h => h) (Or.inl ⟨by rfl, ?_⟩) ?_ ?_); (rotate_left)
                    ·(intro w'); (go_simp); (with_reducible rfl)
                    rotate_left
                    ·(simp only [Act.put, sTA, sCZ, sCS, i64_w, i32_w]); (rfl)
                    (refine pu_ (i := 13) (N := some 80) (v := ?_) (a' := ?_) #[I,I,I,I,O,I,O,O,I,I,I,I,O,I,O,O,O,O] rfl rfl HT_.out (by kernel_rfl) (fun _ _ _ h => h) (Or.inl ⟨by rfl, ?_⟩) ?_ ?_); (rotate_left)
                    ·(intro w'); (go_simp); (with_reducible rfl)
                    rotate_left
                    ·(simp only [Act.put, sTA, sCZ, sCS, i64_w, i32_w]); (rfl)
                    (refine take_ (i := 4) (N := some 71) (v := ?_) (a' := ?_) #[I,I,I,I,I,I,O,O,I,I,I,I,O,I,O,O,O,O] rfl rfl (take_ofW HT_.out HW_.out (by kernel_rfl)) (fun _ _ _ h => h) (Or.inl ⟨by rfl, ?_⟩) hHeld ?_ ?_); (rotate_left)
                    ·(rintro w' ⟨s0, s1, s2, s3, s4, s5, s6, s7, s8, s9, s10, s11⟩); (go_simp); (with_reducible rfl)
                    rotate_left
                    ·(simp only [Act.put, sTA, sCZ, sCS, i64_w, i32_w]); (rfl)
                    (refine pu_ (i := 6) (N := some 73) (v := ?_) (a' := ?_) #[I,I,I,I,I,I,I,O,I,I,I,I,O,I,O,O,O,O] rfl rfl HT_.out (by kernel_rfl) (fun _ _ _ h => h) (Or.inl ⟨by rfl, ?_⟩) ?_ ?_); (rotate_left)
                    ·(intro w'); (go_simp); (with_reducible rfl)
                    rotate_left
                    ·(simp only [Act.put, sTA, sCZ, sCS, i64_w, i32_w]); (rfl)
                    (refine take_ (i := 7) (N := some 74) (v := ?_) (a' := ?_) #[I,I,I,I,I,I,I,I,I,I,I,I,O,I,O,O,O,O] rfl rfl (take_ofW HT_.out HW_.out (by kernel_rfl)) (fun _ _ _ h => h) (Or.inl ⟨by rfl, ?_⟩) hHeld ?_ ?_); (rotate_left)
                    ·(rintro w' ⟨s0, s1, s2, s3, s4, s5, s6, s7, s8, s9, s10, s11⟩); (go_simp); (with_reducible rfl)
                    rotate_left
                    ·(simp only [Act.put, sTA, sCZ, sCS, i64_w, i32_w]); (rfl)
                    (refine take_ (i := 12) (N := some 79) (v := ?_) (a' := ?_) #[I,I,I,I,I,I,I,I,I,I,I,I,I,I,O,O,O,O] rfl rfl (take_ofW HT_.out HW_.out (by kernel_rfl)) (fun _ _ _ h => h) (Or.inl ⟨by rfl, ?_⟩) hHeld ?_ ?_); (rotate_left)
                    ·(rintro w' ⟨s0, s1, s2, s3, s4, s5, s6, s7, s8, s9, s10, s11⟩); (go_simp); (with_reducible rfl)
                    rotate_left
                    ·(simp only [Act.put, sTA, sCZ, sCS, i64_w, i32_w]); (rfl)
                    (refine pu_ (i := 14) (N := some 81) (v := ?_) (a' := ?_) #[I,I,I,I,I,I,I,I,I,I,I,I,I,I,I,O,O,O] rfl rfl HT_.out (by kernel_rfl) (fun _ _ _ h => h) (Or.inl ⟨by rfl, ?_⟩) ?_ ?_); (rotate_left)
                    ·(intro w'); (go_simp); (with_reducible rfl)
                    rotate_left
                    ·(simp only [Act.put, sTA, sCZ, sCS, i64_w, i32_w]); (rfl)
                    (refine take_ (i := 15) (N := some 82) (v := ?_) (a' := ?_) #[I,I,I,I,I,I,I,I,I,I,I,I,I,I,I,I,O,O] rfl rfl (take_ofW HT_.out HW_.out (by kernel_rfl)) (fun _ _ _ h => h) (Or.inl ⟨by rfl, ?_⟩) hHeld ?_ ?_); (rotate_left)
                    ·(rintro w' ⟨s0, s1, s2, s3, s4, s5, s6, s7, s8, s9, s10, s11⟩); (go_simp); (with_reducible rfl)
                    rotate_left
                    ·(simp only [Act.put, sTA, sCZ, sCS, i64_w, i32_w]); (rfl)
                    (refine one_ (i := 16) (N := some 83) #[I,I,I,I,I,I,I,I,I,I,I,I,I,I,I,I,I,O] rfl rfl (one_of HT_.out (by kernel_rfl)) (by decide) (fun K hK => ?_)); (refine goes_ Tryd.func32 (by kernel_rfl) rfl #[.agg #[.string ((rd_T44 ((rd_T40 l0 x5_1).f1) x6_3).f0), .slice A301_1 ((rd_T44 ((rd_T40 l0 x5_1).f1) x6_3).f1).length c301_1, .string ((rd_T44 ((rd_T40 l0 x5_1).f1) x6_3).f2)], .agg #[.string ((rd_T44 ((rd_T40 l1 x5_1).f1) x6_3).f0), .slice A303_1 ((rd_T44 ((rd_T40 l1 x5_1).f1) x6_3).f1).length c303_1, .string ((rd_T44 ((rd_T40 l1 x5_1).f1) x6_3).f2)]] (by rfl) rfl rfl (by (try simp only [mTA, mC, mN]); first | done | rfl | (simp only [lD, lT]; rfl)) ?_); (with_reducible refine (solsticekeep_Line.calls k3 ((rd_T44 ((rd_T40 l0 x5_1).f1) x6_3).f0) _ _ ((rd_T44 ((rd_T40 l0 x5_1).f1) x6_3).f1) ((rd_T44 ((rd_T40 l0 x5_1).f1) x6_3).f2) ((rd_T44 ((rd_T40 l1 x5_1).f1) x6_3).f0) _ _ ((rd_T44 ((rd_T40 l1 x5_1).f1) x6_3).f1) ((rd_T44 ((rd_T40 l1 x5_1).f1) x6_3).f2) true _ ?side1 ?side2 ?side3 ?side4 A20.out).mono ?_); ((case side1 => repeat (first | exact (Kd.C_below HR301_1.out HB.out) | (with_reducible refine Kd.C_alloc ?_ _) | (with_reducible refine Kd.C_drewN ?_ _) | (with_reducible refine Kd.C_drew ?_)))); ((case side2 => exact HC301_1.out)); ((case side3 => repeat (first | exact (Kd.C_below HR303_1.out HB.out) | (with_reducible refine Kd.C_alloc ?_ _) | (with_reducible refine Kd.C_drewN ?_ _) | (with_reducible refine Kd.C_drew ?_)))); ((case side4 => exact HC303_1.out)); (rintro e w23 ⟨rfl, hb⟩); (refine ⟨_, rfl, ?_⟩); (have n0_ := aM (below_step (by with_reducible repeat (first | exact HB.out | apply lA | apply lN | apply lW)) hb)); clear HB; (have HB := n0_); clear n0_; ((try clear hb)); ((try clear hb2)); ((try clear hk)); ((try clear hi)); (refine hK.out _ _ ⟨(cl_ HB.out hw300_0), (cl_ HB.out hw300_1), (cl_ HB.out hw300_2), (cl_ HB.out hw301_0), (cl_ HB.out hw301_1), (cl_ HB.out hw301_2), (cl_ HB.out hw302_0), (cl_ HB.out hw302_1), (cl_ HB.out hw302_2), (cl_ HB.out hw303_0), (cl_ HB.out hw303_1), (cl_ HB.out hw303_2)⟩ (fun hHeld => ?_)); clear hK K; (refine norm_ (a' := ?_) ?_ ?_); (rotate_left)
                    ·(show Act.put _ (some 83) _ = _); (simp only [Act.put, sTA, sCZ, sCS, i64_w, i32_w]); (rfl)
                    (refine pu_ (i := 17) (N := some 84) (v := ?_) (a' := ?_) #[I,I,I,I,I,I,I,I,I,I,I,I,I,I,I,I,I,I] rfl rfl HT_.out (by kernel_rfl) (fun _ _ _ h => h) (Or.inl ⟨by rfl, ?_⟩) ?_ ?_); (rotate_left)
                    ·(intro w'); (go_simp); (with_reducible rfl)
                    rotate_left
                    ·(simp only [Act.put, sTA, sCZ, sCS, i64_w, i32_w]); (rfl)
                    (refine done_ (done_of HT_.out (by kernel_rfl)) ?_); (try go_wp2); (go_roundg k3)
                    case measure => have := HK1.out; have := HJ4.out; have := HK3.out; omega
                    case rel => exact ⟨(wrap64 (x6_3 + 1)), (by first | rfl | (simp; done) | (simp [*]; done)), H', ⟨by have := HK1.out; have := HJ4.out; have := HK3.out; omega⟩, ⟨by with_reducible repeat (first | exact HB.out | apply lA | apply lN | apply lW)⟩⟩
                   ·(replace c21 := Bool.eq_false_iff.mpr c21); subst c21; (have H1 : (some false) = some r := by rw [if_neg (show ¬ (false = true) by decide)] at H; exact H); clear H; (have H := H1); clear H1; (obtain rfl := Option.some.inj H); (have p299 : 0 ≤ (x5_1 : Int) := oD ‹_›); (have q299 : x5_1 < (l0.length : Int) := oD ‹_›); (obtain ⟨ad299, A299_1, c299_1, e299, hx299_0, hx299_1, hx299_2, hl299_1, hi299_1⟩ := at_T40 HR0.out x5_1 p299 q299)
                    cases e299
                    (replace hx299_0 := cl_ HB.out hx299_0); (replace hx299_1 := cl_ HB.out hx299_1); (replace hx299_2 := cl_ HB.out hx299_2); (have HR299_1 := aM hi299_1); (have HC299_1 := aM hl299_1); clear hi299_1 hl299_1; (replace p299 := eq_true p299); (replace q299 := eq_true q299); (try go_wp2); (have n0_ := aM (lW HB.out)); clear HB; (have HB := n0_); clear n0_; (have p300 : 0 ≤ (x5_1 : Int) := oD ‹_›); (have q300 : x5_1 < (l0.length : Int) := oD ‹_›); (obtain ⟨ad300, A300_1, c300_1, e300, hx300_0, hx300_1, hx300_2, hl300_1, hi300_1⟩ := at_T40 HR0.out x5_1 p300 q300); (have hw300_2 := hx300_2); (have hw300_1 := hx300_1); (have hw300_0 := hx300_0); (obtain rfl : ad299 = ad300 := (by injection e300)); (replace hx300_0 := cl_ HB.out hx300_0); (replace hx300_1 := cl_ HB.out hx300_1); (replace hx300_2 := cl_ HB.out hx300_2); (have HR300_1 := aM hi300_1); (have HC300_1 := aM hl300_1); clear hi300_1 hl300_1; (replace p300 := eq_true p300); (replace q300 := eq_true q300); (have p301 : 0 ≤ (x6_3 : Int) := oD ‹_›); (have q301 : x6_3 < (((rd_T40 l0 x5_1).f1).length : Int) := oD ‹_›); (obtain ⟨ad301, A301_1, c301_1, e301, hx301_0, hx301_1, hx301_2, hl301_1, hi301_1⟩ := at_T44 HR300_1.out x6_3 p301 q301); (have hw301_2 := hx301_2); (have hw301_1 := hx301_1); (have hw301_0 := hx301_0)
                    cases e301
                    (replace hx301_0 := cl_ HB.out hx301_0); (replace hx301_1 := cl_ HB.out hx301_1); (replace hx301_2 := cl_ HB.out hx301_2); (have HR301_1 := aM hi301_1); (have HC301_1 := aM hl301_1); clear hi301_1 hl301_1; (replace p301 := eq_true p301); (replace q301 := eq_true q301); (have p302 : 0 ≤ (x5_1 : Int) := oD ‹_›); (have q302 : x5_1 < (l1.length : Int) := oD ‹_›); (obtain ⟨ad302, A302_1, c302_1, e302, hx302_0, hx302_1, hx302_2, hl302_1, hi302_1⟩ := at_T40 HR1.out x5_1 p302 q302); (have hw302_2 := hx302_2); (have hw302_1 := hx302_1); (have hw302_0 := hx302_0)
                    cases e302
                    (replace hx302_0 := cl_ HB.out hx302_0); (replace hx302_1 := cl_ HB.out hx302_1); (replace hx302_2 := cl_ HB.out hx302_2); (have HR302_1 := aM hi302_1); (have HC302_1 := aM hl302_1); clear hi302_1 hl302_1; (replace p302 := eq_true p302); (replace q302 := eq_true q302); (have p303 : 0 ≤ (x6_3 : Int) := oD ‹_›); (have q303 : x6_3 < (((rd_T40 l1 x5_1).f1).length : Int) := oD ‹_›); (obtain ⟨ad303, A303_1, c303_1, e303, hx303_0, hx303_1, hx303_2, hl303_1, hi303_1⟩ := at_T44 HR302_1.out x6_3 p303 q303); (have hw303_2 := hx303_2); (have hw303_1 := hx303_1); (have hw303_0 := hx303_0)
                    cases e303
                    (replace hx303_0 := cl_ HB.out hx303_0); (replace hx303_1 := cl_ HB.out hx303_1); (replace hx303_2 := cl_ HB.out hx303_2); (have HR303_1 := aM hi303_1); (have HC303_1 := aM hl303_1); clear hi303_1 hl303_1; (replace p303 := eq_true p303); (replace q303 := eq_true q303); (refine start_ (n := 18) (S := fun w' => w'.cell? (ad299.add ((x5_1).toNat * 3)) = some (.string ((rd_T40 l0 x5_1).f0)) ∧ w'.cell? ⟨(ad299.add ((x5_1).toNat * 3)).block, (ad299.add ((x5_1).toNat * 3)).off + 1, none⟩ = some (.slice (some ad301) ((rd_T40 l0 x5_1).f1).length c300_1) ∧ w'.cell? ⟨(ad299.add ((x5_1).toNat * 3)).block, (ad299.add ((x5_1).toNat * 3)).off + 2, none⟩ = some (.int .i64 ((rd_T40 l0 x5_1).f2)) ∧ w'.cell? (ad301.add ((x6_3).toNat * 3)) = some (.string ((rd_T44 ((rd_T40 l0 x5_1).f1) x6_3).f0)) ∧ w'.cell? ⟨(ad301.add ((x6_3).toNat * 3)).block, (ad301.add ((x6_3).toNat * 3)).off + 1, none⟩ = some (.slice A301_1 ((rd_T44 ((rd_T40 l0 x5_1).f1) x6_3).f1).length c301_1) ∧ w'.cell? ⟨(ad301.add ((x6_3).toNat * 3)).block, (ad301.add ((x6_3).toNat * 3)).off + 2, none⟩ = some (.string ((rd_T44 ((rd_T40 l0 x5_1).f1) x6_3).f2)) ∧ w'.cell? (ad302.add ((x5_1).toNat * 3)) = some (.string ((rd_T40 l1 x5_1).f0)) ∧ w'.cell? ⟨(ad302.add ((x5_1).toNat * 3)).block, (ad302.add ((x5_1).toNat * 3)).off + 1, none⟩ = some (.slice (some ad303) ((rd_T40 l1 x5_1).f1).length c302_1) ∧ w'.cell? ⟨(ad302.add ((x5_1).toNat * 3)).block, (ad302.add ((x5_1).toNat * 3)).off + 2, none⟩ = some (.int .i64 ((rd_T40 l1 x5_1).f2)) ∧ w'.cell? (ad303.add ((x6_3).toNat * 3)) = some (.string ((rd_T44 ((rd_T40 l1 x5_1).f1) x6_3).f0)) ∧ w'.cell? ⟨(ad303.add ((x6_3).toNat * 3)).block, (ad303.add ((x6_3).toNat * 3)).off + 1, none⟩ = some (.slice A303_1 ((rd_T44 ((rd_T40 l1 x5_1).f1) x6_3).f1).length c303_1) ∧ w'.cell? ⟨(ad303.add ((x6_3).toNat * 3)).block, (ad303.add ((x6_3).toNat * 3)).off + 2, none⟩ = some (.string ((rd_T44 ((rd_T40 l1 x5_1).f1) x6_3).f2))) (ds := []) #[O,O,O,O,O,O,O,O,O,O,O,O,O,O,O,O,O,O] (by kernel_rfl) rfl rfl ⟨(cl_ HB.out hw300_0), (cl_ HB.out hw300_1), (cl_ HB.out hw300_2), (cl_ HB.out hw301_0), (cl_ HB.out hw301_1), (cl_ HB.out hw301_2), (cl_ HB.out hw302_0), (cl_ HB.out hw302_1), (cl_ HB.out hw302_2), (cl_ HB.out hw303_0), (cl_ HB.out hw303_1), (cl_ HB.out hw303_2)⟩ (fun hHeld => ?_); refine with_tabW solsticekeep_Comps.tab11 solsticekeep_Comps.bits11 (fun HT_ HW_ => ?_)); (generalize wr.drew = w24 at HB HR300_1 HR301_1 HR302_1 HR303_1 hx300_0 hx300_1 hx300_2 hx301_0 hx301_1 hx301_2 hx302_0 hx302_1 hx302_2 hx303_0 hx303_1 hx303_2 hHeld ⊢); (refine pu_ (i := 0) (N := some 67) (v := ?_) (a' := ?_) #[I,O,O,O,O,O,O,O,O,O,O,O,O,O,O,O,O,O] rfl rfl HT_.out (by kernel_rfl) (fun _ _ _ h => h) (Or.inl ⟨by rfl, ?_⟩) ?_ ?_); (rotate_left)
                    ·(intro w'); (go_simp); (with_reducible rfl)
                    rotate_left
                    ·(simp only [Act.put, sTA, sCZ, sCS, i64_w, i32_w]); (rfl)
                    (refine pu_ (i := 1) (N := some 68) (v := ?_) (a' := ?_) #[I,I,O,O,O,O,O,O,O,O,O,O,O,O,O,O,O,O] rfl rfl HT_.out (by kernel_rfl) (fun _ _ _ h => h) (Or.inl ⟨by rfl, ?_⟩) ?_ ?_); (rotate_left)
                    ·(intro w'); (go_simp); (with_reducible rfl)
                    rotate_left
                    ·(simp only [Act.put, sTA, sCZ, sCS, i64_w, i32_w]); (rfl)
                    (refine pu_ (i := 2) (N := some 69) (v := ?_) (a' := ?_) #[I,I,I,O,O,O,O,O,O,O,O,O,O,O,O,O,O,O] rfl rfl HT_.out (by kernel_rfl) (fun _ _ _ h => h) (Or.inl ⟨by rfl, ?_⟩) ?_ ?_); (rotate_left)
                    ·(intro w'); (go_simp); (with_reducible rfl)
                    rotate_left
                    ·(simp only [Act.put, sTA, sCZ, sCS, i64_w, i32_w]); (rfl)
                    (refine pu_ (i := 3) (N := some 70) (v := ?_) (a' := ?_) #[I,I,I,I,O,O,O,O,O,O,O,O,O,O,O,O,O,O] rfl rfl HT_.out (by kernel_rfl) (fun _ _ _ h => h) (Or.inl ⟨by rfl, ?_⟩) ?_ ?_); (rotate_left)
                    ·(intro w'); (go_simp); (with_reducible rfl)
                    rotate_left
                    ·(simp only [Act.put, sTA, sCZ, sCS, i64_w, i32_w]); (rfl)
                    (refine pu_ (i := 5) (N := some 72) (v := ?_) (a' := ?_) #[I,I,I,I,O,I,O,O,O,O,O,O,O,O,O,O,O,O] rfl rfl HT_.out (by kernel_rfl) (fun _ _ _ h => h) (Or.inl ⟨by rfl, ?_⟩) ?_ ?_); (rotate_left)
                    ·(intro w'); (go_simp); (with_reducible rfl)
                    rotate_left
                    ·(simp only [Act.put, sTA, sCZ, sCS, i64_w, i32_w]); (rfl)
                    (refine pu_ (i := 8) (N := some 75) (v := ?_) (a' := ?_) #[I,I,I,I,O,I,O,O,I,O,O,O,O,O,O,O,O,O] rfl rfl HT_.out (by kernel_rfl) (fun _ _ _ h => h) (Or.inl ⟨by rfl, ?_⟩) ?_ ?_); (rotate_left)
                    ·(intro w'); (go_simp); (with_reducible rfl)
                    rotate_left
                    ·(simp only [Act.put, sTA, sCZ, sCS, i64_w, i32_w]); (rfl)
                    (refine pu_ (i := 9) (N := some 76) (v := ?_) (a' := ?_) #[I,I,I,I,O,I,O,O,I,I,O,O,O,O,O,O,O,O] rfl rfl HT_.out (by kernel_rfl) (fun _ _ _ h => h) (Or.inl ⟨by rfl, ?_⟩) ?_ ?_); (rotate_left)
                    ·(intro w'); (go_simp); (with_reducible rfl)
                    rotate_left
                    ·(simp only [Act.put, sTA, sCZ, sCS, i64_w, i32_w]); (rfl)
                    (refine pu_ (i := 10) (N := some 77) (v := ?_) (a' := ?_) #[I,I,I,I,O,I,O,O,I,I,I,O,O,O,O,O,O,O] rfl rfl HT_.out (by kernel_rfl) (fun _ _ _ h => h) (Or.inl ⟨by rfl, ?_⟩) ?_ ?_); (rotate_left)
                    ·(intro w'); (go_simp); (with_reducible rfl)
                    rotate_left
                    ·(simp only [Act.put, sTA, sCZ, sCS, i64_w, i32_w]); (rfl)
                    (refine pu_ (i := 11) (N := some 78) (v := ?_) (a' := ?_) #[I,I,I,I,O,I,O,O,I,I,I,I,O,O,O,O,O,O] rfl rfl HT_.out (by kernel_rfl) (fun _ _ _ h => h) (Or.inl ⟨by rfl, ?_⟩) ?_ ?_); (rotate_left)
                    ·(intro w'); (go_simp); (with_reducible rfl)
                    rotate_left
                    ·(simp only [Act.put, sTA, sCZ, sCS, i64_w, i32_w]); (rfl)
                    (refine pu_ (i := 13) (N := some 80) (v := ?_) (a' := ?_) #[I,I,I,I,O,I,O,O,I,I,I,I,O,I,O,O,O,O] rfl rfl HT_.out (by kernel_rfl) (fun _ _ _ h => h) (Or.inl ⟨by rfl, ?_⟩) ?_ ?_); (rotate_left)
                    ·(intro w'); (go_simp); (with_reducible rfl)
                    rotate_left
                    ·(simp only [Act.put, sTA, sCZ, sCS, i64_w, i32_w]); (rfl)
                    (refine take_ (i := 4) (N := some 71) (v := ?_) (a' := ?_) #[I,I,I,I,I,I,O,O,I,I,I,I,O,I,O,O,O,O] rfl rfl (take_ofW HT_.out HW_.out (by kernel_rfl)) (fun _ _ _ h => h) (Or.inl ⟨by rfl, ?_⟩) hHeld ?_ ?_); (rotate_left)
                    ·(rintro w' ⟨s0, s1, s2, s3, s4, s5, s6, s7, s8, s9, s10, s11⟩); (go_simp); (with_reducible rfl)
                    rotate_left
                    ·(simp only [Act.put, sTA, sCZ, sCS, i64_w, i32_w]); (rfl)
                    (refine pu_ (i := 6) (N := some 73) (v := ?_) (a' := ?_) #[I,I,I,I,I,I,I,O,I,I,I,I,O,I,O,O,O,O] rfl rfl HT_.out (by kernel_rfl) (fun _ _ _ h => h) (Or.inl ⟨by rfl, ?_⟩) ?_ ?_); (rotate_left)
                    ·(intro w'); (go_simp); (with_reducible rfl)
                    rotate_left
                    ·(simp only [Act.put, sTA, sCZ, sCS, i64_w, i32_w]); (rfl)
                    (refine take_ (i := 7) (N := some 74) (v := ?_) (a' := ?_) #[I,I,I,I,I,I,I,I,I,I,I,I,O,I,O,O,O,O] rfl rfl (take_ofW HT_.out HW_.out (by kernel_rfl)) (fun _ _ _ h => h) (Or.inl ⟨by rfl, ?_⟩) hHeld ?_ ?_); (rotate_left)
                    ·(rintro w' ⟨s0, s1, s2, s3, s4, s5, s6, s7, s8, s9, s10, s11⟩); (go_simp); (with_reducible rfl)
                    rotate_left
                    ·(simp only [Act.put, sTA, sCZ, sCS, i64_w, i32_w]); (rfl)
                    (refine take_ (i := 12) (N := some 79) (v := ?_) (a' := ?_) #[I,I,I,I,I,I,I,I,I,I,I,I,I,I,O,O,O,O] rfl rfl (take_ofW HT_.out HW_.out (by kernel_rfl)) (fun _ _ _ h => h) (Or.inl ⟨by rfl, ?_⟩) hHeld ?_ ?_); (rotate_left)
                    ·(rintro w' ⟨s0, s1, s2, s3, s4, s5, s6, s7, s8, s9, s10, s11⟩); (go_simp); (with_reducible rfl)
                    rotate_left
                    ·(simp only [Act.put, sTA, sCZ, sCS, i64_w, i32_w]); (rfl)
                    (refine pu_ (i := 14) (N := some 81) (v := ?_) (a' := ?_) #[I,I,I,I,I,I,I,I,I,I,I,I,I,I,I,O,O,O] rfl rfl HT_.out (by kernel_rfl) (fun _ _ _ h => h) (Or.inl ⟨by rfl, ?_⟩) ?_ ?_); (rotate_left)
                    ·(intro w'); (go_simp); (with_reducible rfl)
                    rotate_left
                    ·(simp only [Act.put, sTA, sCZ, sCS, i64_w, i32_w]); (rfl)
                    (refine take_ (i := 15) (N := some 82) (v := ?_) (a' := ?_) #[I,I,I,I,I,I,I,I,I,I,I,I,I,I,I,I,O,O] rfl rfl (take_ofW HT_.out HW_.out (by kernel_rfl)) (fun _ _ _ h => h) (Or.inl ⟨by rfl, ?_⟩) hHeld ?_ ?_); (rotate_left)
                    ·(rintro w' ⟨s0, s1, s2, s3, s4, s5, s6, s7, s8, s9, s10, s11⟩); (go_simp); (with_reducible rfl)
                    rotate_left
                    ·(simp only [Act.put, sTA, sCZ, sCS, i64_w, i32_w]); (rfl)
                    (refine one_ (i := 16) (N := some 83) #[I,I,I,I,I,I,I,I,I,I,I,I,I,I,I,I,I,O] rfl rfl (one_of HT_.out (by kernel_rfl)) (by decide) (fun K hK => ?_)); (refine goes_ Tryd.func32 (by kernel_rfl) rfl #[.agg #[.string ((rd_T44 ((rd_T40 l0 x5_1).f1) x6_3).f0), .slice A301_1 ((rd_T44 ((rd_T40 l0 x5_1).f1) x6_3).f1).length c301_1, .string ((rd_T44 ((rd_T40 l0 x5_1).f1) x6_3).f2)], .agg #[.string ((rd_T44 ((rd_T40 l1 x5_1).f1) x6_3).f0), .slice A303_1 ((rd_T44 ((rd_T40 l1 x5_1).f1) x6_3).f1).length c303_1, .string ((rd_T44 ((rd_T40 l1 x5_1).f1) x6_3).f2)]] (by rfl) rfl rfl (by (try simp only [mTA, mC, mN]); first | done | rfl | (simp only [lD, lT]; rfl)) ?_); (with_reducible refine (solsticekeep_Line.calls k3 ((rd_T44 ((rd_T40 l0 x5_1).f1) x6_3).f0) _ _ ((rd_T44 ((rd_T40 l0 x5_1).f1) x6_3).f1) ((rd_T44 ((rd_T40 l0 x5_1).f1) x6_3).f2) ((rd_T44 ((rd_T40 l1 x5_1).f1) x6_3).f0) _ _ ((rd_T44 ((rd_T40 l1 x5_1).f1) x6_3).f1) ((rd_T44 ((rd_T40 l1 x5_1).f1) x6_3).f2) false _ ?side1 ?side2 ?side3 ?side4 A20.out).mono ?_); ((case side1 => repeat (first | exact (Kd.C_below HR301_1.out HB.out) | (with_reducible refine Kd.C_alloc ?_ _) | (with_reducible refine Kd.C_drewN ?_ _) | (with_reducible refine Kd.C_drew ?_)))); ((case side2 => exact HC301_1.out)); ((case side3 => repeat (first | exact (Kd.C_below HR303_1.out HB.out) | (with_reducible refine Kd.C_alloc ?_ _) | (with_reducible refine Kd.C_drewN ?_ _) | (with_reducible refine Kd.C_drew ?_)))); ((case side4 => exact HC303_1.out)); (rintro e w25 ⟨rfl, hb⟩); (refine ⟨_, rfl, ?_⟩); (have n0_ := aM (below_step (by with_reducible repeat (first | exact HB.out | apply lA | apply lN | apply lW)) hb)); clear HB; (have HB := n0_); clear n0_; ((try clear hb)); ((try clear hb2)); ((try clear hk)); ((try clear hi)); (refine hK.out _ _ ⟨(cl_ HB.out hw300_0), (cl_ HB.out hw300_1), (cl_ HB.out hw300_2), (cl_ HB.out hw301_0), (cl_ HB.out hw301_1), (cl_ HB.out hw301_2), (cl_ HB.out hw302_0), (cl_ HB.out hw302_1), (cl_ HB.out hw302_2), (cl_ HB.out hw303_0), (cl_ HB.out hw303_1), (cl_ HB.out hw303_2)⟩ (fun hHeld => ?_)); clear hK K; (refine norm_ (a' := ?_) ?_ ?_); (rotate_left)
                    ·(show Act.put _ (some 83) _ = _); (simp only [Act.put, sTA, sCZ, sCS, i64_w, i32_w]); (rfl)
                    (refine pu_ (i := 17) (N := some 84) (v := ?_) (a' := ?_) #[I,I,I,I,I,I,I,I,I,I,I,I,I,I,I,I,I,I] rfl rfl HT_.out (by kernel_rfl) (fun _ _ _ h => h) (Or.inl ⟨by rfl, ?_⟩) ?_ ?_); (rotate_left)
                    ·(intro w'); (go_simp); (with_reducible rfl)
                    rotate_left
                    ·(simp only [Act.put, sTA, sCZ, sCS, i64_w, i32_w]); (rfl)
                    (refine done_ (done_of HT_.out (by kernel_rfl)) ?_); (try go_wp2); (go_ret); (exact ⟨by first | rfl | (simp [errW_none, errW_some] <;> rfl) | (simp [*, errW_none, errW_some] <;> rfl), by with_reducible repeat (first | exact HB.out | apply lA | apply lN | apply lW)⟩)
                  ·(rw [if_neg c19] at H); (exact absurd H (by simp))
                 ·(rw [if_neg c18] at H); (exact absurd H (by simp))
                ·(rw [if_neg c17] at H); (exact absurd H (by simp))
               ·(rw [if_neg c16] at H); (have c16b0 : decide (x6_3 < (((rd_T40 l0 x5_1).f1).length : Int)) = false := decide_eq_false c16); clear c16; (have H' := aM H); clear H; (have p299 : 0 ≤ (x5_1 : Int) := oD ‹_›); (have q299 : x5_1 < (l0.length : Int) := oD ‹_›); (obtain ⟨ad299, A299_1, c299_1, e299, hx299_0, hx299_1, hx299_2, hl299_1, hi299_1⟩ := at_T40 HR0.out x5_1 p299 q299)
                cases e299
                (replace hx299_0 := cl_ HB.out hx299_0); (replace hx299_1 := cl_ HB.out hx299_1); (replace hx299_2 := cl_ HB.out hx299_2); (have HR299_1 := aM hi299_1); (have HC299_1 := aM hl299_1); clear hi299_1 hl299_1; (replace p299 := eq_true p299); (replace q299 := eq_true q299); (go_wp2); (go_roundg k3)
                case measure => have := HK1.out; have := HJ4.out; have := HK3.out; omega
                case rel => exact ⟨(wrap64 (x5_1 + 1)), (by first | rfl | (simp; done) | (simp [*]; done)), H', ⟨by have := HK1.out; have := HJ4.out; have := HK3.out; omega⟩, ⟨by with_reducible repeat (first | exact HB.out | apply lA | apply lN | apply lW)⟩⟩
              ·(rw [if_neg c15] at H); (exact absurd H (by simp))
             ·(rw [if_neg c14] at H); (exact absurd H (by simp))
     ·(rw [if_neg c4] at H); (have c4b0 : decide (x5_1 < (l0.length : Int)) = false := decide_eq_false c4); clear c4; (obtain rfl := Option.some.inj H); (go_wp2); (go_ret); (exact ⟨by first | rfl | (simp [errW_none, errW_some] <;> rfl) | (simp [*, errW_none, errW_some] <;> rfl), by with_reducible repeat (first | exact HB.out | apply lA | apply lN | apply lW)⟩)
 ·(rw [if_neg c3] at H); (have c3b0 : ((l0.length : Int) == (l1.length : Int)) = false := beq_eq_false_iff_ne.mpr c3); (have c3b1 : ((l0.length : Int) != (l1.length : Int)) = true := bne_iff_ne.mpr c3); (have c3b2 : (l0.length == l1.length) = false := by first | simpa using c3 | (simp at c3 ⊢; omega)); (obtain rfl := Option.some.inj H); (go_enter Tryd.func13, Tryd.ntmps13); (go_wp2); (go_ret); (exact ⟨by first | rfl | (simp [errW_none, errW_some] <;> rfl) | (simp [*, errW_none, errW_some] <;> rfl), by with_reducible repeat (first | exact HB.out | apply lA | apply lN | apply lW)⟩)
end Go.Proofs.YtdgeokpbedllaaaDoor.PTre