-- Printed by a program of this session's over the kit's printer; library functions by contracts off the shelf.
import Derived.Test.YtookjnpmbenheaaPLinx0
import Derived.Test.YtookjnpmbenheaaPLinx8
namespace Go.Proofs.Ytookjnpmbenheaa.PLin
open Go.RowKit Go.Proofs.YtookjnpmbenheaaW.PrintWords Go.Proofs.YtookjnpmbenheaaW.PrintLast Go.Proofs.YtookjnpmbenheaaW.PrintMore
attribute [local go_sem] max2_int min2_int max_two min_two max_three min_three max_four min_four   -- for this text's walks alone
set_option linter.unusedVariables false
set_option linter.unusedSimpArgs false
mutual
def solsticeref16_Line.j0 : Nat → Bool → ByteArray → List (S54) → ByteArray → Option (Bool)
 | 0, _, _, _, _ => none
 | k + 1, x15, x200000, x200001, x200002 => if x15 = true then (some false) else (solsticeref16_Line.l0 k 0 x200000 x200001 x200002)
def solsticeref16_Line.l0 : Nat → Int → ByteArray → List (S54) → ByteArray → Option (Bool)
 | 0, _, _, _, _ => none
 | k + 1, x3, x200000, x200001, x200002 => if x3 < (x200001.length : Int) then (if 0 ≤ x3 then ((solsticeref16_Name.f k ((rd_T54 x200001 x3).f0)).bind fun t204 => (if t204 = true then (solsticeref16_Line.j2 k x3 ((((rd_T54 x200001 x3).f1).length : Int) == 0) x200000 x200001 x200002 ((rd_T54 x200001 x3).f0) ((rd_T54 x200001 x3).f1)) else (solsticeref16_Line.j2 k x3 true x200000 x200001 x200002 ((rd_T54 x200001 x3).f0) ((rd_T54 x200001 x3).f1)))) else (none)) else (some true)
def solsticeref16_Line.j2 : Nat → Int → Bool → ByteArray → List (S54) → ByteArray → ByteArray → List ByteArray → Option (Bool)
 | 0, _, _, _, _, _, _, _ => none
 | k + 1, x3, x37, x200000, x200001, x200002, x204000, x204001 => if x37 = true then (some false) else (solsticeref16_Line.l1 k x3 0 x200000 x200001 x200002 x204000 x204001)
def solsticeref16_Line.l1 : Nat → Int → Int → ByteArray → List (S54) → ByteArray → ByteArray → List ByteArray → Option (Bool)
 | 0, _, _, _, _, _, _, _ => none
 | k + 1, x3, x5, x200000, x200001, x200002, x204000, x204001 => if x5 < (x204001.length : Int) then (if 0 ≤ x5 then ((solsticeref16_clean.f k (rdOf ByteArray.empty x204001 x5) true).bind fun t206 => (if t206 = true then (solsticeref16_Line.l1 k x3 (wrap64 (x5 + 1)) x200000 x200001 x200002 x204000 x204001) else (some false))) else (none)) else (solsticeref16_Line.l0 k (wrap64 (x3 + 1)) x200000 x200001 x200002)
end
def solsticeref16_Line.f (k : Nat) (a0_0 : ByteArray) (l0_1 : List (S54)) (a0_2 : ByteArray) : Option (Bool) := (solsticeref16_Name.f k a0_0).bind fun t200 => (if t200 = true then ((solsticeref16_clean.f k a0_2 false).bind fun t201 => (solsticeref16_Line.j0 k (!t201) a0_0 l0_1 a0_2)) else (solsticeref16_Line.j0 k true a0_0 l0_1 a0_2))
theorem solsticeref16_Line.mono_l : ∀ k, (∀ y0 y1 y2 y3, LeO (solsticeref16_Line.j0 k y0 y1 y2 y3) (solsticeref16_Line.j0 (k + 1) y0 y1 y2 y3)) ∧ (∀ y0 y1 y2 y3, LeO (solsticeref16_Line.l0 k y0 y1 y2 y3) (solsticeref16_Line.l0 (k + 1) y0 y1 y2 y3)) ∧ (∀ y0 y1 y2 y3 y4 y5 y6, LeO (solsticeref16_Line.j2 k y0 y1 y2 y3 y4 y5 y6) (solsticeref16_Line.j2 (k + 1) y0 y1 y2 y3 y4 y5 y6)) ∧ (∀ y0 y1 y2 y3 y4 y5 y6, LeO (solsticeref16_Line.l1 k y0 y1 y2 y3 y4 y5 y6) (solsticeref16_Line.l1 (k + 1) y0 y1 y2 y3 y4 y5 y6))
 | 0 => ⟨fun _ _ _ _ r h => by simp [solsticeref16_Line.j0] at h, fun _ _ _ _ r h => by simp [solsticeref16_Line.l0] at h, fun _ _ _ _ _ _ _ r h => by simp [solsticeref16_Line.j2] at h, fun _ _ _ _ _ _ _ r h => by simp [solsticeref16_Line.l1] at h⟩
 | k + 1 => by
  obtain ⟨ih0, ih1, ih2, ih3⟩ := solsticeref16_Line.mono_l k
  refine ⟨?_, ?_, ?_, ?_⟩
  ·intro y0 y1 y2 y3
   unfold solsticeref16_Line.j0
   repeat' first
   | (with_reducible exact ih0 _ _ _ _)
   | (with_reducible exact ih1 _ _ _ _)
   | (with_reducible exact ih2 _ _ _ _ _ _ _)
   | (with_reducible exact ih3 _ _ _ _ _ _ _)
   | (with_reducible exact solsticeref16_Name.mono _ _)
   | (with_reducible exact solsticeref16_clean.mono _ _ _)
   | (with_reducible exact LeO.refl _)
   | (with_reducible exact LeO.none _)
   | (with_reducible refine LeO.ite ?_ ?_)
   | (with_reducible refine LeO.bind ?_ (fun _ => ?_))
   | exact ih0 _ _ _ _
   | exact ih1 _ _ _ _
   | exact ih2 _ _ _ _ _ _ _
   | exact ih3 _ _ _ _ _ _ _
   | exact solsticeref16_Name.mono _ _
   | exact solsticeref16_clean.mono _ _ _
   | exact LeO.none _
   | refine LeO.ite ?_ ?_
   | refine LeO.bind ?_ (fun _ => ?_)
  ·intro y0 y1 y2 y3
   unfold solsticeref16_Line.l0
   repeat' first
   | (with_reducible exact ih0 _ _ _ _)
   | (with_reducible exact ih1 _ _ _ _)
   | (with_reducible exact ih2 _ _ _ _ _ _ _)
   | (with_reducible exact ih3 _ _ _ _ _ _ _)
   | (with_reducible exact solsticeref16_Name.mono _ _)
   | (with_reducible exact solsticeref16_clean.mono _ _ _)
   | (with_reducible exact LeO.refl _)
   | (with_reducible exact LeO.none _)
   | (with_reducible refine LeO.ite ?_ ?_)
   | (with_reducible refine LeO.bind ?_ (fun _ => ?_))
   | exact ih0 _ _ _ _
   | exact ih1 _ _ _ _
   | exact ih2 _ _ _ _ _ _ _
   | exact ih3 _ _ _ _ _ _ _
   | exact solsticeref16_Name.mono _ _
   | exact solsticeref16_clean.mono _ _ _
   | exact LeO.none _
   | refine LeO.ite ?_ ?_
   | refine LeO.bind ?_ (fun _ => ?_)
  ·intro y0 y1 y2 y3 y4 y5 y6
   unfold solsticeref16_Line.j2
   repeat' first
   | (with_reducible exact ih0 _ _ _ _)
   | (with_reducible exact ih1 _ _ _ _)
   | (with_reducible exact ih2 _ _ _ _ _ _ _)
   | (with_reducible exact ih3 _ _ _ _ _ _ _)
   | (with_reducible exact solsticeref16_Name.mono _ _)
   | (with_reducible exact solsticeref16_clean.mono _ _ _)
   | (with_reducible exact LeO.refl _)
   | (with_reducible exact LeO.none _)
   | (with_reducible refine LeO.ite ?_ ?_)
   | (with_reducible refine LeO.bind ?_ (fun _ => ?_))
   | exact ih0 _ _ _ _
   | exact ih1 _ _ _ _
   | exact ih2 _ _ _ _ _ _ _
   | exact ih3 _ _ _ _ _ _ _
   | exact solsticeref16_Name.mono _ _
   | exact solsticeref16_clean.mono _ _ _
   | exact LeO.none _
   | refine LeO.ite ?_ ?_
   | refine LeO.bind ?_ (fun _ => ?_)
  ·intro y0 y1 y2 y3 y4 y5 y6
   unfold solsticeref16_Line.l1
   repeat' first
   | (with_reducible exact ih0 _ _ _ _)
   | (with_reducible exact ih1 _ _ _ _)
   | (with_reducible exact ih2 _ _ _ _ _ _ _)
   | (with_reducible exact ih3 _ _ _ _ _ _ _)
   | (with_reducible exact solsticeref16_Name.mono _ _)
   | (with_reducible exact solsticeref16_clean.mono _ _ _)
   | (with_reducible exact LeO.refl _)
   | (with_reducible exact LeO.none _)
   | (with_reducible refine LeO.ite ?_ ?_)
   | (with_reducible refine LeO.bind ?_ (fun _ => ?_))
   | exact ih0 _ _ _ _
   | exact ih1 _ _ _ _
   | exact ih2 _ _ _ _ _ _ _
   | exact ih3 _ _ _ _ _ _ _
   | exact solsticeref16_Name.mono _ _
   | exact solsticeref16_clean.mono _ _ _
   | exact LeO.none _
   | refine LeO.ite ?_ ?_
   | refine LeO.bind ?_ (fun _ => ?_)
theorem solsticeref16_Line.mono : ∀ a0 a1 a2 k, LeO (solsticeref16_Line.f k a0 a1 a2) (solsticeref16_Line.f (k + 1) a0 a1 a2) := by
 (intro a0 a1 a2 k); (obtain ⟨ih0, ih1, ih2, ih3⟩ := solsticeref16_Line.mono_l k); (unfold solsticeref16_Line.f)
 repeat' first
   | (with_reducible exact ih0 _ _ _ _)
   | (with_reducible exact ih1 _ _ _ _)
   | (with_reducible exact ih2 _ _ _ _ _ _ _)
   | (with_reducible exact ih3 _ _ _ _ _ _ _)
   | (with_reducible exact solsticeref16_Name.mono _ _)
   | (with_reducible exact solsticeref16_clean.mono _ _ _)
   | (with_reducible exact LeO.refl _)
   | (with_reducible exact LeO.none _)
   | (with_reducible refine LeO.ite ?_ ?_)
   | (with_reducible refine LeO.bind ?_ (fun _ => ?_))
   | exact ih0 _ _ _ _
   | exact ih1 _ _ _ _
   | exact ih2 _ _ _ _ _ _ _
   | exact ih3 _ _ _ _ _ _ _
   | exact solsticeref16_Name.mono _ _
   | exact solsticeref16_clean.mono _ _ _
   | exact LeO.none _
   | refine LeO.ite ?_ ?_
   | refine LeO.bind ?_ (fun _ => ?_)
set_option maxHeartbeats 8000000 in
set_option maxRecDepth 100000 in
theorem solsticeref16_Line.calls (k : Nat) (a0_0 : ByteArray) (A0_1 : Option Addr) (c0_1 : Nat) (l0_1 : List (S54)) (a0_2 : ByteArray) (r : Bool) (w : World) (hr0_1 : Kd.C k54 w A0_1 l0_1.length l0_1) (hc0_1 : l0_1.length ≤ c0_1) (h : solsticeref16_Line.f k a0_0 l0_1 a0_2 = some r) :
  Calls Try.prog 30 #[.agg #[.string a0_0, .slice A0_1 l0_1.length c0_1, .string a0_2]] w fun e w' => e = .returned (.bool r) ∧ Below w.heap.size w w' := by
 (have hu38 := Try.underlying38); (have hu54 := Try.underlying54); (have HR0_1 := aM hr0_1); (have HC0_1 := aM hc0_1); clear hr0_1 hc0_1; (have HB := aM (Below.refl w.heap.size w)); (have H : ((solsticeref16_Name.f k a0_0).bind fun t200 => (if t200 = true then ((solsticeref16_clean.f k a0_2 false).bind fun t201 => (solsticeref16_Line.j0 k (!t201) a0_0 l0_1 a0_2)) else (solsticeref16_Line.j0 k true a0_0 l0_1 a0_2))) = some r := h); clear h; (have HC2 := aM H); clear H; (go_enter Try.func30, Try.ntmps30); (go_upto_region 1 with (first | ((with_reducible refine gate_dst (N := 1) rfl ?_); (try (refine gate_guard (by rfl) ?_; dsimp only)); refine box_event ?hg (N := 1) ?hd (cs := #[.string a0_0, .slice A0_1 l0_1.length c0_1, .string a0_2]) (t := 38) ?hr ?_; (case hd => rfl); (case hg => rfl); (case hr => first | (go_simp; done) | (go_simp; rfl)); intro gb199 hg w3 hbox hb; have n0_ := aM (below_step (by repeat (first | (with_reducible first | exact HB.out | apply lA | apply lN | apply lW) | exact HB.out)) hb); have n1_ := aM (hbox); have n2_ := aM ((by rw [hg]; exact (below_size (by repeat (first | (with_reducible first | exact HB.out | apply lA | apply lN | apply lW) | exact HB.out))) : w.heap.size ≤ gb199)); have n3_ := aM ((by rw [hg]; exact (below_size (by repeat (first | (with_reducible first | exact HB.out | apply lA | apply lN | apply lW) | exact HB.out))) : w.heap.size ≤ gb199)); clear HB; have HB := n0_; have BK199 := n1_; have GW199 := n2_; have GE199 := n3_; clear n0_ n1_ n2_ n3_; clear hb hbox hg))); ((try simp only [Act.put, List.setIfInBounds_toArray, List.set_cons_zero, List.set_cons_succ])); (go_cut [15] (fun v15 wc => ∃ (kq : Nat) (x15_1 : Bool), v15 = .bool x15_1 ∧ Aside0 (solsticeref16_Line.j0 kq x15_1 a0_0 l0_1 a0_2 = some r) ∧ Aside0 (kq ≤ k) ∧ Aside0 (wc.heap[gb199]? = some (.cells #[.string a0_0, (.slice A0_1 l0_1.length c0_1), .string a0_2] 38 (0, 0))) ∧ Aside0 (Below w.heap.size w wc)))
 case first =>
  (have H := HC2.out); clear HC2; (replace H := Option.bind_eq_some_iff.mp H); (obtain ⟨t200, A40, H⟩ := H); (replace H : (if t200 = true then ((solsticeref16_clean.f k a0_2 false).bind fun t201 => (solsticeref16_Line.j0 k (!t201) a0_0 l0_1 a0_2)) else (solsticeref16_Line.j0 k true a0_0 l0_1 a0_2)) = some r := H); (have A4 := aM A40); clear A40; (by_cases c5 : t200 = true)
  ·subst c5; (have H1 : ((solsticeref16_clean.f k a0_2 false).bind fun t201 => (solsticeref16_Line.j0 k (!t201) a0_0 l0_1 a0_2)) = some r := by rw [if_pos rfl] at H; exact H); clear H; (have H := H1); clear H1; (replace H := Option.bind_eq_some_iff.mp H); (obtain ⟨t201, A60, H⟩ := H); (replace H : (solsticeref16_Line.j0 k (!t201) a0_0 l0_1 a0_2) = some r := H); (have A6 := aM A60); clear A60; (have H' := aM H); clear H; (have hcz7_0 : w3.cell? ⟨gb199, 0, none⟩ = some (.string a0_0) := (qC BK199.out 0).trans rfl); (have hcz7_1 : w3.cell? ⟨gb199, 1, none⟩ = some (.slice A0_1 l0_1.length c0_1) := (qC BK199.out 1).trans rfl); (have hcz7_2 : w3.cell? ⟨gb199, 2, none⟩ = some (.string a0_2) := (qC BK199.out 2).trans rfl); (have hfz7_0 := qF BK199.out 0); (have hfz7_1 := qF BK199.out 1); (have hfz7_2 := qF BK199.out 2); (go_wp2_with (first | ((with_reducible refine gate_callee (f := 49) rfl ?_); refine goesL_ (some 8) rfl rfl Try.func49 (by kernel_rfl) rfl #[.string a0_0] rfl (by (try simp only [List.map_toArray, List.map_cons, List.map_nil]); first | done | rfl | (simp only [List.length_drop, List.length_take]; rfl)) ?_; (with_reducible refine (solsticeref16_Name.calls k a0_0 true _ A4.out).mono ?_); rintro e w' ⟨rfl, ⟨nd, rfl⟩⟩; refine ⟨_, rfl, ?_⟩) | (go_at_call 50; (with_reducible refine (solsticeref16_clean.calls k a0_2 false t201 _ A6.out).mono ?_); rintro e w' ⟨rfl, ⟨nd, rfl⟩⟩))); (go_meet)
   case rel => exact ⟨_, (!t201), (by first | rfl | (simp; done) | (simp [*]; done)), H', ⟨by first | omega | exact Nat.le_refl _⟩, ⟨by (with_reducible repeat (first | refine qN ?_ _ | refine qW ?_ | refine qA ?_ _)); exact BK199.out⟩, ⟨by repeat (first | (with_reducible first | exact HB.out | apply lA | apply lN | apply lW | refine lS ?_ GE199.out) | exact HB.out)⟩⟩
  ·(replace c5 := Bool.eq_false_iff.mpr c5); subst c5; (have H1 : (solsticeref16_Line.j0 k true a0_0 l0_1 a0_2) = some r := by rw [if_neg (show ¬ (false = true) by decide)] at H; exact H); clear H; (have H := H1); clear H1; (have H' := aM H); clear H; (have hcz8_0 : w3.cell? ⟨gb199, 0, none⟩ = some (.string a0_0) := (qC BK199.out 0).trans rfl); (have hcz8_1 : w3.cell? ⟨gb199, 1, none⟩ = some (.slice A0_1 l0_1.length c0_1) := (qC BK199.out 1).trans rfl); (have hcz8_2 : w3.cell? ⟨gb199, 2, none⟩ = some (.string a0_2) := (qC BK199.out 2).trans rfl); (have hfz8_0 := qF BK199.out 0); (have hfz8_1 := qF BK199.out 1); (have hfz8_2 := qF BK199.out 2); (go_wp2_with (first | ((with_reducible refine gate_callee (f := 49) rfl ?_); refine goesL_ (some 8) rfl rfl Try.func49 (by kernel_rfl) rfl #[.string a0_0] rfl (by (try simp only [List.map_toArray, List.map_cons, List.map_nil]); first | done | rfl | (simp only [List.length_drop, List.length_take]; rfl)) ?_; (with_reducible refine (solsticeref16_Name.calls k a0_0 false _ A4.out).mono ?_); rintro e w' ⟨rfl, ⟨nd, rfl⟩⟩; refine ⟨_, rfl, ?_⟩))); (go_meet)
   case rel => exact ⟨_, (true), (by first | rfl | (simp; done) | (simp [*]; done)), H', ⟨by first | omega | exact Nat.le_refl _⟩, ⟨by (with_reducible repeat (first | refine qN ?_ _ | refine qW ?_ | refine qA ?_ _)); exact BK199.out⟩, ⟨by repeat (first | (with_reducible first | exact HB.out | apply lA | apply lN | apply lW | refine lS ?_ GE199.out) | exact HB.out)⟩⟩
 case rest =>
  as_aux_lemma =>
   clear HC2; (try clear p2); (try clear c3); (try clear c4); (try clear c5); (try clear hcz7_0); (try clear hcz7_1); (try clear hcz7_2); (try clear hcz8_0); (try clear hcz8_1); (try clear hcz8_2); (try clear hfz7_0); (try clear hfz7_1); (try clear hfz7_2); (try clear hfz8_0); (try clear hfz8_1); (try clear hfz8_2); (obtain ⟨kq, x15_1, rfl, HA, HJ1, BK199, HB⟩ := hcut)
   cases kq with
   | zero => exact absurd HA.out (by simp [solsticeref16_Line.j0])
   | succ kj1 =>
    (have H := HA.out); clear HA; (simp only [solsticeref16_Line.j0] at H); (by_cases c9 : x15_1 = true)
    ·subst c9; (have H1 : (some false) = some r := by rw [if_pos rfl] at H; exact H); clear H; (have H := H1); clear H1; (obtain rfl := Option.some.inj H); (go_wp2); (go_ret); (exact ⟨by first | rfl | (simp [errW_none, errW_some] <;> rfl) | (simp [*, errW_none, errW_some] <;> rfl), by repeat (first | (with_reducible first | exact HB.out | apply lA | apply lN | apply lW | refine lS ?_ GE199.out) | exact HB.out)⟩)
    ·(replace c9 := Bool.eq_false_iff.mpr c9); subst c9; (have H1 : (solsticeref16_Line.l0 kj1 0 a0_0 l0_1 a0_2) = some r := by rw [if_neg (show ¬ (false = true) by decide)] at H; exact H); clear H; (have H := H1); clear H1; (have H' := aM H); clear H; (go_wp2); (go_loopg [3] kj1 (fun kq v3 w' => ∃ (x3_2 : Int), v3 = .int .i64 x3_2 ∧ Aside0 (solsticeref16_Line.l0 kq x3_2 a0_0 l0_1 a0_2 = some r) ∧ Aside0 (kq ≤ kj1) ∧ Aside0 (w'.heap[gb199]? = some (.cells #[.string a0_0, (.slice A0_1 l0_1.length c0_1), .string a0_2] 38 (0, 0))) ∧ Aside0 (Below w.heap.size w w')))
     case atStart => exact ⟨(0), (by first | rfl | (simp; done) | (simp [*]; done)), H', ⟨Nat.le_refl _⟩, ⟨by (with_reducible repeat (first | refine qN ?_ _ | refine qW ?_ | refine qA ?_ _)); exact BK199.out⟩, ⟨by repeat (first | (with_reducible first | exact HB.out | apply lA | apply lN | apply lW | refine lS ?_ GE199.out) | exact HB.out)⟩⟩
     case round =>
      as_aux_lemma =>
       clear H'; (try clear p2); (try clear c3); (try clear c4); (try clear c5); (try clear c9); (try clear hcz7_0); (try clear hcz7_1); (try clear hcz7_2); (try clear hcz8_0); (try clear hcz8_1); (try clear hcz8_2); (try clear hfz7_0); (try clear hfz7_1); (try clear hfz7_2); (try clear hfz8_0); (try clear hfz8_1); (try clear hfz8_2); (try clear p2); (obtain ⟨x3_2, rfl, HA, HK2, BK199, HB⟩ := hrel)
       cases gk with
       | zero => exact absurd HA.out (by simp [solsticeref16_Line.l0])
       | succ k2 =>
        (have H := HA.out); clear HA; (simp only [solsticeref16_Line.l0] at H); (by_cases c10 : x3_2 < (l0_1.length : Int))
        ·(rw [if_pos c10] at H); (have c10b0 : decide (x3_2 < (l0_1.length : Int)) = true := dE c10); clear c10; (by_cases c11 : 0 ≤ x3_2)
         ·(rw [if_pos c11] at H); (have c11b0 : decide (0 ≤ x3_2) = true := dE c11); clear c11; (have HC12 := aM H); clear H; (have hcz13_0 : wr.cell? ⟨gb199, 0, none⟩ = some (.string a0_0) := (qC BK199.out 0).trans rfl); (have hcz13_1 : wr.cell? ⟨gb199, 1, none⟩ = some (.slice A0_1 l0_1.length c0_1) := (qC BK199.out 1).trans rfl); (have hcz13_2 : wr.cell? ⟨gb199, 2, none⟩ = some (.string a0_2) := (qC BK199.out 2).trans rfl); (have hfz13_0 := qF BK199.out 0); (have hfz13_1 := qF BK199.out 1); (have hfz13_2 := qF BK199.out 2); (have p202 : 0 ≤ (x3_2 : Int) := oD (by first | (with_reducible assumption) | assumption)); (have q202 : x3_2 < (l0_1.length : Int) := oD (by first | (with_reducible assumption) | assumption)); (obtain ⟨ad202, A202_1, c202_1, e202, hx202_0, hx202_1, hl202_1, hi202_1⟩ := at_T54 HR0_1.out x3_2 p202 q202)
          cases e202
          (replace hx202_0 := (HB.out.cell (World.block_lt_of_cell? w _ hx202_0)).trans hx202_0); (replace hx202_1 := (HB.out.cell (World.block_lt_of_cell? w _ hx202_1)).trans hx202_1); (have HR202_1 := aM hi202_1); (have HC202_1 := aM hl202_1); clear hi202_1 hl202_1; (replace p202 := eq_true p202); (replace q202 := eq_true q202); (go_upto_region 7 with (first | ((with_reducible refine gate_dst (N := 4) rfl ?_); (try (refine gate_guard (by rfl) ?_; dsimp only)); refine box_event ?hg (N := 4) ?hd (cs := #[.string (⟨#[]⟩ : ByteArray), .slice none 0 0]) (t := 54) ?hr ?_; (case hd => rfl); (case hg => rfl); (case hr => first | (go_simp; done) | (go_simp; rfl)); intro gb203 hg w14 hbox hb; have n0_ := aM (blk_below (g := gb199) (o := .cells #[.string a0_0, .slice (some ad202) l0_1.length c0_1, .string a0_2] 38 (0, 0)) (by (with_reducible repeat (first | refine qN ?_ _ | refine qW ?_ | refine qA ?_ _)); exact BK199.out) hb); have n1_ := aM (below_step (by repeat (first | (with_reducible first | exact HB.out | apply lA | apply lN | apply lW | refine lS ?_ GE199.out) | exact HB.out)) hb); have n2_ := aM (hbox); have n3_ := aM ((by rw [hg]; exact (below_size (by repeat (first | (with_reducible first | exact HB.out | apply lA | apply lN | apply lW | refine lS ?_ GE199.out) | exact HB.out))) : w.heap.size ≤ gb203)); have n4_ := aM ((by rw [hg]; exact (below_size (by repeat (first | (with_reducible first | exact HB.out | apply lA | apply lN | apply lW | refine lS ?_ GE199.out) | exact HB.out))) : w.heap.size ≤ gb203)); have n5_ := aM ((by rw [hg]; exact Nat.ne_of_lt (blk_lt (g := gb199) (o := .cells #[.string a0_0, .slice (some ad202) l0_1.length c0_1, .string a0_2] 38 (0, 0)) (by (with_reducible repeat (first | refine qN ?_ _ | refine qW ?_ | refine qA ?_ _)); exact BK199.out)) : gb199 ≠ gb203)); have n6_ := aM ((by rw [hg]; exact Nat.ne_of_gt (blk_lt (g := gb199) (o := .cells #[.string a0_0, .slice (some ad202) l0_1.length c0_1, .string a0_2] 38 (0, 0)) (by (with_reducible repeat (first | refine qN ?_ _ | refine qW ?_ | refine qA ?_ _)); exact BK199.out)) : gb203 ≠ gb199)); clear BK199; clear HB; have BK199 := n0_; have HB := n1_; have BK203 := n2_; have GW203 := n3_; have GE203 := n4_; have NB199_203 := n5_; have NB203_199 := n6_; clear n0_ n1_ n2_ n3_ n4_ n5_ n6_; clear hb hbox hg; have hnb15 := NB203_199.out; have hnc15 := NB199_203.out; have hcz16_0 : w14.cell? ⟨gb203, 0, none⟩ = some (.string (⟨#[]⟩ : ByteArray)) := (qC BK203.out 0).trans rfl; have hcz16_1 : w14.cell? ⟨gb203, 1, none⟩ = some (.slice none 0 0) := (qC BK203.out 1).trans rfl; have hfz16_0 := qF BK203.out 0; have hfz16_1 := qF BK203.out 1))); ((try simp only [Act.put, List.setIfInBounds_toArray, List.set_cons_zero, List.set_cons_succ])); (go_cut [37] (fun v37 wc => ∃ (kq : Nat) (x37_11 : Bool), v37 = .bool x37_11 ∧ Aside0 (solsticeref16_Line.j2 kq x3_2 x37_11 a0_0 l0_1 a0_2 ((rd_T54 l0_1 x3_2).f0) ((rd_T54 l0_1 x3_2).f1) = some r) ∧ Aside0 (kq ≤ k2) ∧ Aside0 (wc.heap[gb199]? = some (.cells #[.string a0_0, (.slice (some ad202) l0_1.length c0_1), .string a0_2] 38 (0, 0))) ∧ Aside0 (wc.heap[gb203]? = some (.cells #[.string ((rd_T54 l0_1 x3_2).f0), (.slice A202_1 ((rd_T54 l0_1 x3_2).f1).length c202_1)] 54 (0, 0))) ∧ Aside0 (Below w.heap.size w wc)))
          case first =>
           (have H := HC12.out); clear HC12; (replace H := Option.bind_eq_some_iff.mp H); (obtain ⟨t204, A170, H⟩ := H); (replace H : (if t204 = true then (solsticeref16_Line.j2 k2 x3_2 ((((rd_T54 l0_1 x3_2).f1).length : Int) == 0) a0_0 l0_1 a0_2 ((rd_T54 l0_1 x3_2).f0) ((rd_T54 l0_1 x3_2).f1)) else (solsticeref16_Line.j2 k2 x3_2 true a0_0 l0_1 a0_2 ((rd_T54 l0_1 x3_2).f0) ((rd_T54 l0_1 x3_2).f1))) = some r := H); (have A17 := aM A170); clear A170; (by_cases c18 : t204 = true)
           ·subst c18; (have H1 : (solsticeref16_Line.j2 k2 x3_2 ((((rd_T54 l0_1 x3_2).f1).length : Int) == 0) a0_0 l0_1 a0_2 ((rd_T54 l0_1 x3_2).f0) ((rd_T54 l0_1 x3_2).f1)) = some r := by rw [if_pos rfl] at H; exact H); clear H; (have H := H1); clear H1; (have H' := aM H); clear H; (have hnb19 := NB203_199.out); (have hnc19 := NB199_203.out); (have hcz20_0 : w14.cell? ⟨gb203, 0, none⟩ = some (.string (⟨#[]⟩ : ByteArray)) := (qC BK203.out 0).trans rfl); (have hcz20_1 : w14.cell? ⟨gb203, 1, none⟩ = some (.slice none 0 0) := (qC BK203.out 1).trans rfl); (have hfz20_0 := qF BK203.out 0); (have hfz20_1 := qF BK203.out 1); (go_wp2_with (first | ((with_reducible refine gate_callee (f := 49) rfl ?_); refine goesL_ (some 30) rfl rfl Try.func49 (by kernel_rfl) rfl #[.string ((rd_T54 l0_1 x3_2).f0)] rfl (by (try simp only [List.map_toArray, List.map_cons, List.map_nil]); first | done | rfl | (simp only [List.length_drop, List.length_take]; rfl)) ?_; (with_reducible refine (solsticeref16_Name.calls k2 ((rd_T54 l0_1 x3_2).f0) true _ A17.out).mono ?_); rintro e w' ⟨rfl, ⟨nd, rfl⟩⟩; refine ⟨_, rfl, ?_⟩))); (go_meet)
            case rel => exact ⟨_, (((((rd_T54 l0_1 x3_2).f1).length : Int) == 0)), (by first | rfl | (simp; done) | (simp [*]; done)), H', ⟨by have := HJ1.out; have := HK2.out; first | omega | exact Nat.le_refl _⟩, ⟨by (with_reducible repeat (first | refine qN ?_ _ | refine qW ?_ | refine qA ?_ _)); refine blk_far ?_ NB199_203.out _; (with_reducible repeat (first | refine qN ?_ _ | refine qW ?_ | refine qA ?_ _)); refine blk_far ?_ NB199_203.out _; (with_reducible repeat (first | refine qN ?_ _ | refine qW ?_ | refine qA ?_ _)); exact BK199.out⟩, ⟨by (with_reducible repeat (first | refine qN ?_ _ | refine qW ?_ | refine qA ?_ _)); refine blk_put (cs := #[.string ((rd_T54 l0_1 x3_2).f0), .slice none 0 0]) ?_ 1 _ rfl; (with_reducible repeat (first | refine qN ?_ _ | refine qW ?_ | refine qA ?_ _)); refine blk_put (cs := #[.string (⟨#[]⟩ : ByteArray), .slice none 0 0]) ?_ 0 _ rfl; (with_reducible repeat (first | refine qN ?_ _ | refine qW ?_ | refine qA ?_ _)); exact BK203.out⟩, ⟨by repeat (first | (with_reducible first | exact HB.out | apply lA | apply lN | apply lW | refine lS ?_ GE199.out | refine lS ?_ GE203.out) | exact HB.out)⟩⟩
           ·(replace c18 := Bool.eq_false_iff.mpr c18); subst c18; (have H1 : (solsticeref16_Line.j2 k2 x3_2 true a0_0 l0_1 a0_2 ((rd_T54 l0_1 x3_2).f0) ((rd_T54 l0_1 x3_2).f1)) = some r := by rw [if_neg (show ¬ (false = true) by decide)] at H; exact H); clear H; (have H := H1); clear H1; (have H' := aM H); clear H; (have hnb21 := NB203_199.out); (have hnc21 := NB199_203.out); (have hcz22_0 : w14.cell? ⟨gb203, 0, none⟩ = some (.string (⟨#[]⟩ : ByteArray)) := (qC BK203.out 0).trans rfl); (have hcz22_1 : w14.cell? ⟨gb203, 1, none⟩ = some (.slice none 0 0) := (qC BK203.out 1).trans rfl); (have hfz22_0 := qF BK203.out 0); (have hfz22_1 := qF BK203.out 1); (go_wp2_with (first | ((with_reducible refine gate_callee (f := 49) rfl ?_); refine goesL_ (some 30) rfl rfl Try.func49 (by kernel_rfl) rfl #[.string ((rd_T54 l0_1 x3_2).f0)] rfl (by (try simp only [List.map_toArray, List.map_cons, List.map_nil]); first | done | rfl | (simp only [List.length_drop, List.length_take]; rfl)) ?_; (with_reducible refine (solsticeref16_Name.calls k2 ((rd_T54 l0_1 x3_2).f0) false _ A17.out).mono ?_); rintro e w' ⟨rfl, ⟨nd, rfl⟩⟩; refine ⟨_, rfl, ?_⟩))); (go_meet)
            case rel => exact ⟨_, (true), (by first | rfl | (simp; done) | (simp [*]; done)), H', ⟨by have := HJ1.out; have := HK2.out; first | omega | exact Nat.le_refl _⟩, ⟨by (with_reducible repeat (first | refine qN ?_ _ | refine qW ?_ | refine qA ?_ _)); refine blk_far ?_ NB199_203.out _; (with_reducible repeat (first | refine qN ?_ _ | refine qW ?_ | refine qA ?_ _)); refine blk_far ?_ NB199_203.out _; (with_reducible repeat (first | refine qN ?_ _ | refine qW ?_ | refine qA ?_ _)); exact BK199.out⟩, ⟨by (with_reducible repeat (first | refine qN ?_ _ | refine qW ?_ | refine qA ?_ _)); refine blk_put (cs := #[.string ((rd_T54 l0_1 x3_2).f0), .slice none 0 0]) ?_ 1 _ rfl; (with_reducible repeat (first | refine qN ?_ _ | refine qW ?_ | refine qA ?_ _)); refine blk_put (cs := #[.string (⟨#[]⟩ : ByteArray), .slice none 0 0]) ?_ 0 _ rfl; (with_reducible repeat (first | refine qN ?_ _ | refine qW ?_ | refine qA ?_ _)); exact BK203.out⟩, ⟨by repeat (first | (with_reducible first | exact HB.out | apply lA | apply lN | apply lW | refine lS ?_ GE199.out | refine lS ?_ GE203.out) | exact HB.out)⟩⟩
          case rest =>
           as_aux_lemma =>
            clear HC12; (try clear c1); (try clear c2); (try clear p2); (try clear q2); (try clear hx2); (try clear c3); (try clear c4); (try clear c5); (try clear c9); (try clear c10); (try clear c10b0); (try clear c11); (try clear c11b0); (try clear c15); (try clear c18); (try clear c19); (try clear c20); (try clear p20); (try clear q20); (try clear hx20); (try clear c21); (try clear hcz13_0); (try clear hcz13_1); (try clear hcz13_2); (try clear hcz16_0); (try clear hcz16_1); (try clear hcz20_0); (try clear hcz20_1); (try clear hcz22_0); (try clear hcz22_1); (try clear hcz7_0); (try clear hcz7_1); (try clear hcz7_2); (try clear hcz8_0); (try clear hcz8_1); (try clear hcz8_2); (try clear hfz13_0); (try clear hfz13_1); (try clear hfz13_2); (try clear hfz16_0); (try clear hfz16_1); (try clear hfz20_0); (try clear hfz20_1); (try clear hfz22_0); (try clear hfz22_1); (try clear hfz7_0); (try clear hfz7_1); (try clear hfz7_2); (try clear hfz8_0); (try clear hfz8_1); (try clear hfz8_2); (try clear hx202_0); (try clear hx202_1); (try clear p2); (try clear p202); (try clear q202); (obtain ⟨kq, x37_11, rfl, HA, HJ11, BK199, BK203, HB⟩ := hcut)
            cases kq with
            | zero => exact absurd HA.out (by simp [solsticeref16_Line.j2])
            | succ kj11 =>
             (have H := HA.out); clear HA; (simp only [solsticeref16_Line.j2] at H); (by_cases c23 : x37_11 = true)
             ·subst c23; (have H1 : (some false) = some r := by rw [if_pos rfl] at H; exact H); clear H; (have H := H1); clear H1; (obtain rfl := Option.some.inj H); (go_wp2); (go_ret); (exact ⟨by first | rfl | (simp [errW_none, errW_some] <;> rfl) | (simp [*, errW_none, errW_some] <;> rfl), by repeat (first | (with_reducible first | exact HB.out | apply lA | apply lN | apply lW | refine lS ?_ GE199.out | refine lS ?_ GE203.out) | exact HB.out)⟩)
             ·(replace c23 := Bool.eq_false_iff.mpr c23); subst c23; (have H1 : (solsticeref16_Line.l1 kj11 x3_2 0 a0_0 l0_1 a0_2 ((rd_T54 l0_1 x3_2).f0) ((rd_T54 l0_1 x3_2).f1)) = some r := by rw [if_neg (show ¬ (false = true) by decide)] at H; exact H); clear H; (have H := H1); clear H1; (have H' := aM H); clear H; (go_wp2); (go_loopg [5] kj11 (fun kq v5 w' => ∃ (x5_4 : Int), v5 = .int .i64 x5_4 ∧ Aside0 (solsticeref16_Line.l1 kq x3_2 x5_4 a0_0 l0_1 a0_2 ((rd_T54 l0_1 x3_2).f0) ((rd_T54 l0_1 x3_2).f1) = some r) ∧ Aside0 (kq ≤ kj11) ∧ Aside0 (w'.heap[gb199]? = some (.cells #[.string a0_0, (.slice (some ad202) l0_1.length c0_1), .string a0_2] 38 (0, 0))) ∧ Aside0 (w'.heap[gb203]? = some (.cells #[.string ((rd_T54 l0_1 x3_2).f0), (.slice A202_1 ((rd_T54 l0_1 x3_2).f1).length c202_1)] 54 (0, 0))) ∧ Aside0 (Below w.heap.size w w')))
              case atStart => exact ⟨(0), (by first | rfl | (simp; done) | (simp [*]; done)), H', ⟨Nat.le_refl _⟩, ⟨by (with_reducible repeat (first | refine qN ?_ _ | refine qW ?_ | refine qA ?_ _)); exact BK199.out⟩, ⟨by (with_reducible repeat (first | refine qN ?_ _ | refine qW ?_ | refine qA ?_ _)); exact BK203.out⟩, ⟨by repeat (first | (with_reducible first | exact HB.out | apply lA | apply lN | apply lW | refine lS ?_ GE199.out | refine lS ?_ GE203.out) | exact HB.out)⟩⟩
              case round =>
               as_aux_lemma =>
                clear H'; (try clear c1); (try clear c2); (try clear p2); (try clear q2); (try clear hx2); (try clear c3); (try clear c4); (try clear c5); (try clear c9); (try clear c10); (try clear c10b0); (try clear c11); (try clear c11b0); (try clear c15); (try clear c18); (try clear c19); (try clear c20); (try clear p20); (try clear q20); (try clear hx20); (try clear c21); (try clear c23); (try clear hcz13_0); (try clear hcz13_1); (try clear hcz13_2); (try clear hcz16_0); (try clear hcz16_1); (try clear hcz20_0); (try clear hcz20_1); (try clear hcz22_0); (try clear hcz22_1); (try clear hcz7_0); (try clear hcz7_1); (try clear hcz7_2); (try clear hcz8_0); (try clear hcz8_1); (try clear hcz8_2); (try clear hfz13_0); (try clear hfz13_1); (try clear hfz13_2); (try clear hfz16_0); (try clear hfz16_1); (try clear hfz20_0); (try clear hfz20_1); (try clear hfz22_0); (try clear hfz22_1); (try clear hfz7_0); (try clear hfz7_1); (try clear hfz7_2); (try clear hfz8_0); (try clear hfz8_1); (try clear hfz8_2); (try clear hx202_0); (try clear hx202_1); (try clear p2); (try clear p20); (try clear p202); (try clear q2); (try clear q20); (try clear q202); (obtain ⟨x5_4, rfl, HA, HK4, BK199, BK203, HB⟩ := hrel)
                cases gk with
                | zero => exact absurd HA.out (by simp [solsticeref16_Line.l1])
                | succ k4 =>
                 (have H := HA.out); clear HA; (simp only [solsticeref16_Line.l1] at H); (by_cases c24 : x5_4 < (((rd_T54 l0_1 x3_2).f1).length : Int))
                 ·(rw [if_pos c24] at H); (have c24b0 : decide (x5_4 < (((rd_T54 l0_1 x3_2).f1).length : Int)) = true := dE c24); clear c24; (by_cases c25 : 0 ≤ x5_4)
                  ·(rw [if_pos c25] at H); (have c25b0 : decide (0 ≤ x5_4) = true := dE c25); clear c25; (replace H := Option.bind_eq_some_iff.mp H); (obtain ⟨t206, A260, H⟩ := H); (replace H : (if t206 = true then (solsticeref16_Line.l1 k4 x3_2 (wrap64 (x5_4 + 1)) a0_0 l0_1 a0_2 ((rd_T54 l0_1 x3_2).f0) ((rd_T54 l0_1 x3_2).f1)) else (some false)) = some r := H); (have A26 := aM A260); clear A260; (by_cases c27 : t206 = true)
                   ·subst c27; (have H1 : (solsticeref16_Line.l1 k4 x3_2 (wrap64 (x5_4 + 1)) a0_0 l0_1 a0_2 ((rd_T54 l0_1 x3_2).f0) ((rd_T54 l0_1 x3_2).f1)) = some r := by rw [if_pos rfl] at H; exact H); clear H; (have H := H1); clear H1; (have H' := aM H); clear H; (have hnb28 := NB203_199.out); (have hnc28 := NB199_203.out); (have hcz29_0 : wr.cell? ⟨gb203, 0, none⟩ = some (.string ((rd_T54 l0_1 x3_2).f0)) := (qC BK203.out 0).trans rfl); (have hcz29_1 : wr.cell? ⟨gb203, 1, none⟩ = some (.slice A202_1 ((rd_T54 l0_1 x3_2).f1).length c202_1) := (qC BK203.out 1).trans rfl); (have hfz29_0 := qF BK203.out 0); (have hfz29_1 := qF BK203.out 1); (have p205 : 0 ≤ (x5_4 : Int) := oD (by first | (with_reducible assumption) | assumption)); (have q205 : x5_4 < (((rd_T54 l0_1 x3_2).f1).length : Int) := oD (by first | (with_reducible assumption) | assumption)); (obtain ⟨ad205, e205, hx205_0⟩ := Kd.at_string HR202_1.out x5_4 p205 q205)
                    cases e205
                    (replace hx205_0 := (HB.out.cell (World.block_lt_of_cell? w _ hx205_0)).trans hx205_0); (replace p205 := eq_true p205); (replace q205 := eq_true q205); (go_wp2_with (first | ((with_reducible refine gate_callee (f := 50) rfl ?_); refine goesL_ (some 50) rfl rfl Try.func50 (by kernel_rfl) rfl #[.string (rdOf ByteArray.empty ((rd_T54 l0_1 x3_2).f1) x5_4), .bool true] rfl (by (try simp only [List.map_toArray, List.map_cons, List.map_nil]); first | done | rfl | (simp only [List.length_drop, List.length_take]; rfl)) ?_; (with_reducible refine (solsticeref16_clean.calls k4 (rdOf ByteArray.empty ((rd_T54 l0_1 x3_2).f1) x5_4) true true _ A26.out).mono ?_); rintro e w' ⟨rfl, ⟨nd, rfl⟩⟩; refine ⟨_, rfl, ?_⟩))); (go_roundg k4)
                    case measure => have := HJ1.out; have := HK2.out; have := HJ11.out; have := HK4.out; omega
                    case rel => exact ⟨(wrap64 (x5_4 + 1)), (by first | rfl | (simp; done) | (simp [*]; done)), H', ⟨by have := HJ1.out; have := HK2.out; have := HJ11.out; have := HK4.out; omega⟩, ⟨by (with_reducible repeat (first | refine qN ?_ _ | refine qW ?_ | refine qA ?_ _)); exact BK199.out⟩, ⟨by (with_reducible repeat (first | refine qN ?_ _ | refine qW ?_ | refine qA ?_ _)); exact BK203.out⟩, ⟨by repeat (first | (with_reducible first | exact HB.out | apply lA | apply lN | apply lW | refine lS ?_ GE199.out | refine lS ?_ GE203.out) | exact HB.out)⟩⟩
                   ·(replace c27 := Bool.eq_false_iff.mpr c27); subst c27; (have H1 : (some false) = some r := by rw [if_neg (show ¬ (false = true) by decide)] at H; exact H); clear H; (have H := H1); clear H1; (obtain rfl := Option.some.inj H); (have hnb30 := NB203_199.out); (have hnc30 := NB199_203.out); (have hcz31_0 : wr.cell? ⟨gb203, 0, none⟩ = some (.string ((rd_T54 l0_1 x3_2).f0)) := (qC BK203.out 0).trans rfl); (have hcz31_1 : wr.cell? ⟨gb203, 1, none⟩ = some (.slice A202_1 ((rd_T54 l0_1 x3_2).f1).length c202_1) := (qC BK203.out 1).trans rfl); (have hfz31_0 := qF BK203.out 0); (have hfz31_1 := qF BK203.out 1); (have p205 : 0 ≤ (x5_4 : Int) := oD (by first | (with_reducible assumption) | assumption)); (have q205 : x5_4 < (((rd_T54 l0_1 x3_2).f1).length : Int) := oD (by first | (with_reducible assumption) | assumption)); (obtain ⟨ad205, e205, hx205_0⟩ := Kd.at_string HR202_1.out x5_4 p205 q205)
                    cases e205
                    (replace hx205_0 := (HB.out.cell (World.block_lt_of_cell? w _ hx205_0)).trans hx205_0); (replace p205 := eq_true p205); (replace q205 := eq_true q205); (go_wp2_with (first | ((with_reducible refine gate_callee (f := 50) rfl ?_); refine goesL_ (some 50) rfl rfl Try.func50 (by kernel_rfl) rfl #[.string (rdOf ByteArray.empty ((rd_T54 l0_1 x3_2).f1) x5_4), .bool true] rfl (by (try simp only [List.map_toArray, List.map_cons, List.map_nil]); first | done | rfl | (simp only [List.length_drop, List.length_take]; rfl)) ?_; (with_reducible refine (solsticeref16_clean.calls k4 (rdOf ByteArray.empty ((rd_T54 l0_1 x3_2).f1) x5_4) true false _ A26.out).mono ?_); rintro e w' ⟨rfl, ⟨nd, rfl⟩⟩; refine ⟨_, rfl, ?_⟩))); (go_ret); (exact ⟨by first | rfl | (simp [errW_none, errW_some] <;> rfl) | (simp [*, errW_none, errW_some] <;> rfl), by repeat (first | (with_reducible first | exact HB.out | apply lA | apply lN | apply lW | refine lS ?_ GE199.out | refine lS ?_ GE203.out) | exact HB.out)⟩)
                  ·(rw [if_neg c25] at H); (exact absurd H (by simp))
                 ·(rw [if_neg c24] at H); (have c24b0 : decide (x5_4 < (((rd_T54 l0_1 x3_2).f1).length : Int)) = false := decide_eq_false c24); clear c24; (have H' := aM H); clear H; (have hnb32 := NB203_199.out); (have hnc32 := NB199_203.out); (have hcz33_0 : wr.cell? ⟨gb203, 0, none⟩ = some (.string ((rd_T54 l0_1 x3_2).f0)) := (qC BK203.out 0).trans rfl); (have hcz33_1 : wr.cell? ⟨gb203, 1, none⟩ = some (.slice A202_1 ((rd_T54 l0_1 x3_2).f1).length c202_1) := (qC BK203.out 1).trans rfl); (have hfz33_0 := qF BK203.out 0); (have hfz33_1 := qF BK203.out 1); (go_wp2); (go_roundg k4)
                  case measure => have := HJ1.out; have := HK2.out; have := HJ11.out; have := HK4.out; omega
                  case rel => exact ⟨(wrap64 (x3_2 + 1)), (by first | rfl | (simp; done) | (simp [*]; done)), H', ⟨by have := HJ1.out; have := HK2.out; have := HJ11.out; have := HK4.out; omega⟩, ⟨by (with_reducible repeat (first | refine qN ?_ _ | refine qW ?_ | refine qA ?_ _)); exact BK199.out⟩, ⟨by repeat (first | (with_reducible first | exact HB.out | apply lA | apply lN | apply lW | refine lS ?_ GE199.out | refine lS ?_ GE203.out) | exact HB.out)⟩⟩
         ·(rw [if_neg c11] at H); (exact absurd H (by simp))
        ·(rw [if_neg c10] at H); (have c10b0 : decide (x3_2 < (l0_1.length : Int)) = false := decide_eq_false c10); clear c10; (obtain rfl := Option.some.inj H); (have hcz34_0 : wr.cell? ⟨gb199, 0, none⟩ = some (.string a0_0) := (qC BK199.out 0).trans rfl); (have hcz34_1 : wr.cell? ⟨gb199, 1, none⟩ = some (.slice A0_1 l0_1.length c0_1) := (qC BK199.out 1).trans rfl); (have hcz34_2 : wr.cell? ⟨gb199, 2, none⟩ = some (.string a0_2) := (qC BK199.out 2).trans rfl); (have hfz34_0 := qF BK199.out 0); (have hfz34_1 := qF BK199.out 1); (have hfz34_2 := qF BK199.out 2); (go_wp2); (go_ret); (exact ⟨by first | rfl | (simp [errW_none, errW_some] <;> rfl) | (simp [*, errW_none, errW_some] <;> rfl), by repeat (first | (with_reducible first | exact HB.out | apply lA | apply lN | apply lW | refine lS ?_ GE199.out) | exact HB.out)⟩)
def solsticeref16_word.l0 : Nat → ByteArray → Int → Int → Option (ByteArray)
 | 0, _, _, _ => none
 | k + 1, x0, x1, x5 => if x5 < (x0.size : Int) then (if 0 ≤ x5 then (if (bt x0 x5) = 59 then (if 0 ≤ x1 then (if x1 ≤ x5 then (if x5 ≤ (x0.size : Int) then (some (x0.extract (x1 : Int).toNat (x5 : Int).toNat)) else (none)) else (none)) else (none)) else (if (bt x0 x5) = 58 then (if 0 ≤ x1 then (if x1 ≤ x5 then (if x5 ≤ (x0.size : Int) then (some (x0.extract (x1 : Int).toNat (x5 : Int).toNat)) else (none)) else (none)) else (none)) else (if (bt x0 x5) = 61 then (if 0 ≤ x1 then (if x1 ≤ x5 then (if x5 ≤ (x0.size : Int) then (some (x0.extract (x1 : Int).toNat (x5 : Int).toNat)) else (none)) else (none)) else (none)) else (solsticeref16_word.l0 k x0 x1 (wrap64 (x5 + 1)))))) else (none)) else (if 0 ≤ x1 then (if x1 ≤ x5 then (if x5 ≤ (x0.size : Int) then (some (x0.extract (x1 : Int).toNat (x5 : Int).toNat)) else (none)) else (none)) else (none))
def solsticeref16_word.f (k : Nat) (a0 : ByteArray) (a1 : Int) : Option (ByteArray) := solsticeref16_word.l0 k a0 a1 a1
theorem solsticeref16_word.mono_l : ∀ k, (∀ y0 y1 y2, LeO (solsticeref16_word.l0 k y0 y1 y2) (solsticeref16_word.l0 (k + 1) y0 y1 y2))
 | 0 => fun _ _ _ r h => by simp [solsticeref16_word.l0] at h
 | k + 1 => by
  have ih0 := solsticeref16_word.mono_l k
  ·intro y0 y1 y2
   unfold solsticeref16_word.l0
   repeat' first
   | (with_reducible exact ih0 _ _ _)
   | (with_reducible exact LeO.refl _)
   | (with_reducible exact LeO.none _)
   | (with_reducible refine LeO.ite ?_ ?_)
   | (with_reducible refine LeO.bind ?_ (fun _ => ?_))
   | exact ih0 _ _ _
   | exact LeO.none _
   | refine LeO.ite ?_ ?_
   | refine LeO.bind ?_ (fun _ => ?_)
theorem solsticeref16_word.mono : ∀ a0 a1 k, LeO (solsticeref16_word.f k a0 a1) (solsticeref16_word.f (k + 1) a0 a1) := by
 (intro a0 a1 k); (have ih0 := solsticeref16_word.mono_l k); (unfold solsticeref16_word.f)
 repeat' first
   | (with_reducible exact ih0 _ _ _)
   | (with_reducible exact LeO.refl _)
   | (with_reducible exact LeO.none _)
   | (with_reducible refine LeO.ite ?_ ?_)
   | (with_reducible refine LeO.bind ?_ (fun _ => ?_))
   | exact ih0 _ _ _
   | exact LeO.none _
   | refine LeO.ite ?_ ?_
   | refine LeO.bind ?_ (fun _ => ?_)
set_option maxHeartbeats 8000000 in
set_option maxRecDepth 100000 in
theorem solsticeref16_word.calls (k : Nat) (a0 : ByteArray) (a1 : Int) (r : ByteArray) (w : World) (h : solsticeref16_word.f k a0 a1 = some r) :
  Calls Try.prog 47 #[.string a0, .int .i64 a1] w fun e w' => e = .returned (.string r) ∧ Drawn0 w w' := by
 (have H : (solsticeref16_word.l0 k a0 a1 a1) = some r := h); clear h; (have H' := aM H); clear H; (go_enter Try.func47, Try.ntmps47); (go_wp2); (go_loopg [5] k (fun kq v5 w' => ∃ (x5_1 : Int), v5 = .int .i64 x5_1 ∧ Aside0 (solsticeref16_word.l0 kq a0 a1 x5_1 = some r) ∧ Aside0 (kq ≤ k) ∧ Drawn0 w w'))
 case atStart => exact ⟨(a1), (by first | rfl | (simp; done) | (simp [*]; done)), H', ⟨Nat.le_refl _⟩, by repeat (first | exact Drawn0.refl _ | apply Drawn0.step)⟩
 case round =>
  as_aux_lemma =>
   clear H'; (try clear p2); (obtain ⟨x5_1, rfl, HA, HK1, ⟨m1, rfl⟩⟩ := hrel)
   cases gk with
   | zero => exact absurd HA.out (by simp [solsticeref16_word.l0])
   | succ k1 =>
    (have H := HA.out); clear HA; (simp only [solsticeref16_word.l0] at H); (by_cases c3 : x5_1 < (a0.size : Int))
    ·(rw [if_pos c3] at H); (have c3b0 : decide (x5_1 < (a0.size : Int)) = true := dE c3); clear c3; (by_cases c4 : 0 ≤ x5_1)
     ·(rw [if_pos c4] at H); (have c4b0 : decide (0 ≤ x5_1) = true := dE c4); clear c4; (by_cases c6 : (bt a0 x5_1) = 59)
      ·(rw [if_pos c6] at H); (have c6b0 : ((bt a0 x5_1) == 59) = true := beq_iff_eq.mpr c6); (have c6b1 : ((bt a0 x5_1) != 59) = false := bne_eq_false_iff_eq.mpr c6); clear c6; (by_cases c7 : 0 ≤ a1)
       ·(rw [if_pos c7] at H); (have c7b0 := eq_true c7); (have c7b1 : decide (0 ≤ a1) = true := dE c7); clear c7; (by_cases c8 : a1 ≤ x5_1)
        ·(rw [if_pos c8] at H); (have c8b0 := eq_true c8); (have c8b1 : decide (a1 ≤ x5_1) = true := dE c8); clear c8; (by_cases c9 : x5_1 ≤ (a0.size : Int))
         ·(rw [if_pos c9] at H); (have c9b0 := eq_true c9); (have c9b1 : decide (x5_1 ≤ (a0.size : Int)) = true := dE c9); clear c9; (obtain rfl := Option.some.inj H); (have p5 : 0 ≤ (x5_1 : Int) := oD (by first | (with_reducible assumption) | assumption)); (have q5 : x5_1 < (a0.size : Int) := oD (by first | (with_reducible assumption) | assumption)); (have hx5 := bt_at a0 x5_1); (replace p5 := eq_true p5); (replace q5 := eq_true q5); (go_wp2); (go_ret); (exact ⟨by first | rfl | (simp; done) | (simp [*]; done), by repeat (first | exact Drawn0.refl _ | apply Drawn0.step)⟩)
         ·(rw [if_neg c9] at H); (exact absurd H (by simp))
        ·(rw [if_neg c8] at H); (exact absurd H (by simp))
       ·(rw [if_neg c7] at H); (exact absurd H (by simp))
      ·(rw [if_neg c6] at H); (have c6b0 : ((bt a0 x5_1) == 59) = false := beq_eq_false_iff_ne.mpr c6); (have c6b1 : ((bt a0 x5_1) != 59) = true := bne_iff_ne.mpr c6); (by_cases c11 : (bt a0 x5_1) = 58)
       ·(rw [if_pos c11] at H); (have c11b0 : ((bt a0 x5_1) == 58) = true := beq_iff_eq.mpr c11); (have c11b1 : ((bt a0 x5_1) != 58) = false := bne_eq_false_iff_eq.mpr c11); clear c11; (by_cases c12 : 0 ≤ a1)
        ·(rw [if_pos c12] at H); (have c12b0 := eq_true c12); (have c12b1 : decide (0 ≤ a1) = true := dE c12); clear c12; (by_cases c13 : a1 ≤ x5_1)
         ·(rw [if_pos c13] at H); (have c13b0 := eq_true c13); (have c13b1 : decide (a1 ≤ x5_1) = true := dE c13); clear c13; (by_cases c14 : x5_1 ≤ (a0.size : Int))
          ·(rw [if_pos c14] at H); (have c14b0 := eq_true c14); (have c14b1 : decide (x5_1 ≤ (a0.size : Int)) = true := dE c14); clear c14; (obtain rfl := Option.some.inj H); (have p5 : 0 ≤ (x5_1 : Int) := oD (by first | (with_reducible assumption) | assumption)); (have q5 : x5_1 < (a0.size : Int) := oD (by first | (with_reducible assumption) | assumption)); (have hx5 := bt_at a0 x5_1); (replace p5 := eq_true p5); (replace q5 := eq_true q5); (have p10 : 0 ≤ (x5_1 : Int) := oD (by first | (with_reducible assumption) | assumption)); (have q10 : x5_1 < (a0.size : Int) := oD (by first | (with_reducible assumption) | assumption)); (have hx10 := bt_at a0 x5_1); (replace p10 := eq_true p10); (replace q10 := eq_true q10); (go_wp2); (go_ret); (exact ⟨by first | rfl | (simp; done) | (simp [*]; done), by repeat (first | exact Drawn0.refl _ | apply Drawn0.step)⟩)
          ·(rw [if_neg c14] at H); (exact absurd H (by simp))
         ·(rw [if_neg c13] at H); (exact absurd H (by simp))
        ·(rw [if_neg c12] at H); (exact absurd H (by simp))
       ·(rw [if_neg c11] at H); (have c11b0 : ((bt a0 x5_1) == 58) = false := beq_eq_false_iff_ne.mpr c11); (have c11b1 : ((bt a0 x5_1) != 58) = true := bne_iff_ne.mpr c11); (by_cases c16 : (bt a0 x5_1) = 61)
        ·(rw [if_pos c16] at H); (have c16b0 : ((bt a0 x5_1) == 61) = true := beq_iff_eq.mpr c16); (have c16b1 : ((bt a0 x5_1) != 61) = false := bne_eq_false_iff_eq.mpr c16); clear c16; (by_cases c17 : 0 ≤ a1)
         ·(rw [if_pos c17] at H); (have c17b0 := eq_true c17); (have c17b1 : decide (0 ≤ a1) = true := dE c17); clear c17; (by_cases c18 : a1 ≤ x5_1)
          ·(rw [if_pos c18] at H); (have c18b0 := eq_true c18); (have c18b1 : decide (a1 ≤ x5_1) = true := dE c18); clear c18; (by_cases c19 : x5_1 ≤ (a0.size : Int))
           ·(rw [if_pos c19] at H); (have c19b0 := eq_true c19); (have c19b1 : decide (x5_1 ≤ (a0.size : Int)) = true := dE c19); clear c19; (obtain rfl := Option.some.inj H); (have p5 : 0 ≤ (x5_1 : Int) := oD (by first | (with_reducible assumption) | assumption)); (have q5 : x5_1 < (a0.size : Int) := oD (by first | (with_reducible assumption) | assumption)); (have hx5 := bt_at a0 x5_1); (replace p5 := eq_true p5); (replace q5 := eq_true q5); (have p10 : 0 ≤ (x5_1 : Int) := oD (by first | (with_reducible assumption) | assumption)); (have q10 : x5_1 < (a0.size : Int) := oD (by first | (with_reducible assumption) | assumption)); (have hx10 := bt_at a0 x5_1); (replace p10 := eq_true p10); (replace q10 := eq_true q10); (have p15 : 0 ≤ (x5_1 : Int) := oD (by first | (with_reducible assumption) | assumption)); (have q15 : x5_1 < (a0.size : Int) := oD (by first | (with_reducible assumption) | assumption)); (have hx15 := bt_at a0 x5_1); (replace p15 := eq_true p15); (replace q15 := eq_true q15); (go_wp2); (go_ret); (exact ⟨by first | rfl | (simp; done) | (simp [*]; done), by repeat (first | exact Drawn0.refl _ | apply Drawn0.step)⟩)
           ·(rw [if_neg c19] at H); (exact absurd H (by simp))
          ·(rw [if_neg c18] at H); (exact absurd H (by simp))
         ·(rw [if_neg c17] at H); (exact absurd H (by simp))
        ·(rw [if_neg c16] at H); (have c16b0 : ((bt a0 x5_1) == 61) = false := beq_eq_false_iff_ne.mpr c16); (have c16b1 : ((bt a0 x5_1) != 61) = true := bne_iff_ne.mpr c16); (have H' := aM H); clear H; (have p5 : 0 ≤ (x5_1 : Int) := oD (by first | (with_reducible assumption) | assumption)); (have q5 : x5_1 < (a0.size : Int) := oD (by first | (with_reducible assumption) | assumption)); (have hx5 := bt_at a0 x5_1); (replace p5 := eq_true p5); (replace q5 := eq_true q5); (have p10 : 0 ≤ (x5_1 : Int) := oD (by first | (with_reducible assumption) | assumption)); (have q10 : x5_1 < (a0.size : Int) := oD (by first | (with_reducible assumption) | assumption)); (have hx10 := bt_at a0 x5_1); (replace p10 := eq_true p10); (replace q10 := eq_true q10); (have p15 : 0 ≤ (x5_1 : Int) := oD (by first | (with_reducible assumption) | assumption)); (have q15 : x5_1 < (a0.size : Int) := oD (by first | (with_reducible assumption) | assumption)); (have hx15 := bt_at a0 x5_1); (replace p15 := eq_true p15); (replace q15 := eq_true q15); (go_wp2); (go_roundg k1)
         case measure => have := HK1.out; omega
         case rel => exact ⟨(wrap64 (x5_1 + 1)), (by first | rfl | (simp; done) | (simp [*]; done)), H', ⟨by have := HK1.out; omega⟩, by repeat (first | exact Drawn0.refl _ | apply Drawn0.step)⟩
     ·(rw [if_neg c4] at H); (exact absurd H (by simp))
    ·(rw [if_neg c3] at H); (have c3b0 : decide (x5_1 < (a0.size : Int)) = false := decide_eq_false c3); clear c3; (by_cases c20 : 0 ≤ a1)
     ·(rw [if_pos c20] at H); (have c20b0 := eq_true c20); (have c20b1 : decide (0 ≤ a1) = true := dE c20); clear c20; (by_cases c21 : a1 ≤ x5_1)
      ·(rw [if_pos c21] at H); (have c21b0 := eq_true c21); (have c21b1 : decide (a1 ≤ x5_1) = true := dE c21); clear c21; (by_cases c22 : x5_1 ≤ (a0.size : Int))
       ·(rw [if_pos c22] at H); (have c22b0 := eq_true c22); (have c22b1 : decide (x5_1 ≤ (a0.size : Int)) = true := dE c22); clear c22; (obtain rfl := Option.some.inj H); (go_wp2); (go_ret); (exact ⟨by first | rfl | (simp; done) | (simp [*]; done), by repeat (first | exact Drawn0.refl _ | apply Drawn0.step)⟩)
       ·(rw [if_neg c22] at H); (exact absurd H (by simp))
      ·(rw [if_neg c21] at H); (exact absurd H (by simp))
     ·(rw [if_neg c20] at H); (exact absurd H (by simp))
end Go.Proofs.Ytookjnpmbenheaa.PLin