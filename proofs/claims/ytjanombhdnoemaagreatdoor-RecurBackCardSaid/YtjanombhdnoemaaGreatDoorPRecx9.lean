-- A text of the kit's tools for this claim, its remarks left out.
import Derived.Test.YtjanombhdnoemaaGreatDoorGP
import Derived.Test.YtjanombhdnoemaaGreatDoorPRecx0
import Derived.Test.YtjanombhdnoemaaGreatDoorPRecx2
namespace Go.Proofs.YtjanombhdnoemaaGreatDoor.PRec
open Go.RowKit Go.Proofs.YtjanombhdnoemaaGreatDoorW.PrintWords Go.Proofs.YtjanombhdnoemaaGreatDoorW.PrintLast Go.Proofs.YtjanombhdnoemaaGreatDoorW.PrintMore Go.Proofs.YtjanombhdnoemaaGreatDoor.Base
attribute [local go_sem] max2_int min2_int max_two min_two max_three min_three max_four min_four
set_option linter.unusedVariables false
set_option linter.unusedSimpArgs false
def civil_right.f (k : Nat) (a0_0 : Int) (a0_1 : Int) (a0_2 : Int) : Option (Bool) := if a0_0 ≥ 0 then (if a0_0 ≤ 10000 then (if a0_2 ≥ 1 then ((civil_Len.f k a0_0 a0_1).bind fun t178 => (some (decide (a0_2 ≤ t178)))) else (some false)) else (some false)) else (some false)
theorem civil_right.mono : ∀ a0 a1 a2 k, LeO (civil_right.f k a0 a1 a2) (civil_right.f (k + 1) a0 a1 a2) := by
 (intro a0 a1 a2 k); (unfold civil_right.f)
 repeat' first | (with_reducible first | exact civil_Len.mono _ _ _ | exact LeO.refl _ | exact LeO.none _ | refine LeO.ite ?_ ?_ | refine LeO.bind ?_ (fun _ => ?_))
def civil_right.T1 : Bool × List (List Nat × List Nat) := (true, [([], []), ([0], [0]), ([1], [1]), ([2], [2]), ([3], [3]), ([4, 3], [3, 4]), ([5, 3], [3, 5]), ([3, 6], [3, 6]), ([7, 3], [7]), ([8], [8]), ([9, 8], [8, 9]), ([10, 8], [8, 10]), ([8, 11], [8, 11]), ([12, 8], [12]), ([13], [13]), ([14, 13], [13, 14]), ([13], [13]), ([16, 13], [13, 16]), ([13], [13]), ([18, 13], [13, 18]), ([17, 19, 13, 13], [13, 17, 19]), ([15, 20, 13], [13, 15, 20]), ([13, 21], [13, 21]), ([22, 20, 0, 1, 2, 3, 4, 5, 6, 7, 8, 9, 10, 11, 12, 13, 14, 15, 16, 17, 18, 19, 20, 21, 22], [22])])
def civil_right.B1 : List Nat := [0, 1, 3, 7, 15, 31, 63, 127, 255, 511, 1023, 2047, 4095, 8191, 16383, 32767, 16383, 81919, 16383, 278527, 999423, 2097151, 4194303, 8388607]
theorem civil_right.tab1 : rtab .any (opsOf Tryz.f132 1) = civil_right.T1 := by kernel_rfl
theorem civil_right.bits1 : waitsOk civil_right.T1.2 civil_right.B1 = true := by kernel_rfl
set_option maxHeartbeats 8000000 in
set_option maxRecDepth 100000 in
theorem civil_right.calls (k : Nat) (a0_0 : Int) (a0_1 : Int) (a0_2 : Int) (r : Bool) (w : World) (h : civil_right.f k a0_0 a0_1 a0_2 = some r) :
  Calls Tryz.prog 132 #[.agg #[.int .i64 a0_0, .int .i64 a0_1, .int .i64 a0_2]] w fun e w' => e = .returned (.bool r) ∧ Below w.heap.size w w' := by
 (have hu51 := Tryz.underlying51); (have HB := aM (Below.refl w.heap.size w)); (have H : (if a0_0 ≥ 0 then (if a0_0 ≤ 10000 then (if a0_2 ≥ 1 then ((civil_Len.f k a0_0 a0_1).bind fun t178 => (some (decide (a0_2 ≤ t178)))) else (some false)) else (some false)) else (some false)) = some r := h); clear h; (by_cases c2 : a0_0 ≥ 0)
 ·(rw [if_pos c2] at H); (have c2b0 : decide (0 ≤ a0_0) = true := dE c2); clear c2; (by_cases c3 : a0_0 ≤ 10000)
  ·(rw [if_pos c3] at H); (have c3b0 : decide (a0_0 ≤ 10000) = true := dE c3); clear c3; (by_cases c4 : a0_2 ≥ 1)
   ·(rw [if_pos c4] at H); (have c4b0 : decide (1 ≤ a0_2) = true := dE c4); clear c4; (replace H := Option.bind_eq_some_iff.mp H); (obtain ⟨t178, A50, H⟩ := H); (replace H : (some (decide (a0_2 ≤ t178))) = some r := H); (have A5 := aM A50); clear A50; (obtain rfl := Option.some.inj H); (go_enter Tryz.func132, Tryz.ntmps132); (try go_wp2_with (first | ((with_reducible refine gate_dst (N := 1) rfl ?_); refine box_event ?hg (N := 1) ?hd (cs := #[.int .i64 a0_0, .int .i64 a0_1, .int .i64 a0_2]) (t := 51) ?hr ?_; (case hd => rfl); (case hg => rfl); (case hr => first | (go_simp; done) | (go_simp; rfl)); intro gb177 hg w6 hbox hb; have n0_ := aM (below_step (by with_reducible repeat (first | exact HB.out | apply lA | apply lN | apply lW)) hb); have n1_ := aM (hbox); have n2_ := aM ((by rw [hg]; exact (below_size (by with_reducible repeat (first | exact HB.out | apply lA | apply lN | apply lW))) : w.heap.size ≤ gb177)); have n3_ := aM ((by rw [hg]; exact (below_size (by with_reducible repeat (first | exact HB.out | apply lA | apply lN | apply lW))) : w.heap.size ≤ gb177)); clear HB; have HB := n0_; have BK177 := n1_; have GW177 := n2_; have GE177 := n3_; clear n0_ n1_ n2_ n3_; clear hb hbox hg))); (have n0_ := aM (qW BK177.out)); (have n1_ := aM (lW HB.out)); clear BK177; clear HB; (have BK177 := n0_); (have HB := n1_); clear n0_ n1_; (refine start_ (n := 24) (S := fun w' => w'.cell? ⟨gb177, 0, none⟩ = some (.int .i64 a0_0) ∧ w'.cell? ⟨gb177, 1, none⟩ = some (.int .i64 a0_1) ∧ w'.cell? ⟨gb177, 2, none⟩ = some (.int .i64 a0_2)) (ds := []) #[O,O,O,O,O,O,O,O,O,O,O,O,O,O,O,O,O,O,O,O,O,O,O,O] (by kernel_rfl) rfl rfl ⟨(qC BK177.out 0).trans rfl, (qC BK177.out 1).trans rfl, (qC BK177.out 2).trans rfl⟩ (fun hHeld => ?_); refine with_tabW civil_right.tab1 civil_right.bits1 (fun HT_ HW_ => ?_)); (generalize w6.drew = w7 at BK177 HB hHeld ⊢); (refine pu_ (i := 0) (N := some 3) (v := ?_) (a' := ?_) #[I,O,O,O,O,O,O,O,O,O,O,O,O,O,O,O,O,O,O,O,O,O,O,O] rfl rfl HT_.out (by kernel_rfl) (fun _ _ _ h => h) (Or.inl ⟨by rfl, ?_⟩) ?_ ?_); (rotate_left)
    ·(intro w'); (go_simp); (with_reducible rfl)
    rotate_left
    ·(simp only [Act.put, sTA, sCZ, sCS, i64_w, i32_w]); (rfl)
    (refine take_ (i := 1) (N := some 4) (v := ?_) (a' := ?_) #[I,I,O,O,O,O,O,O,O,O,O,O,O,O,O,O,O,O,O,O,O,O,O,O] rfl rfl (take_ofW HT_.out HW_.out (by kernel_rfl)) (fun _ _ _ h => h) (Or.inl ⟨by rfl, ?_⟩) hHeld ?_ ?_); (rotate_left)
    ·(rintro w' ⟨s0, s1, s2⟩); (go_simp); (with_reducible rfl)
    rotate_left
    ·(simp only [Act.put, sTA, sCZ, sCS, i64_w, i32_w]); (rfl)
    (refine pu_ (i := 2) (N := some 5) (v := ?_) (a' := ?_) #[I,I,I,O,O,O,O,O,O,O,O,O,O,O,O,O,O,O,O,O,O,O,O,O] rfl rfl HT_.out (by kernel_rfl) (fun _ _ _ h => h) (Or.inl ⟨by rfl, ?_⟩) ?_ ?_); (rotate_left)
    ·(intro w'); (go_simp); (with_reducible rfl)
    rotate_left
    ·(simp only [Act.put, sTA, sCZ, sCS, i64_w, i32_w]); (rfl)
    (refine pu_ (i := 3) (N := some 6) (v := ?_) (a' := ?_) #[I,I,I,I,O,O,O,O,O,O,O,O,O,O,O,O,O,O,O,O,O,O,O,O] rfl rfl HT_.out (by kernel_rfl) (fun _ _ _ h => h) (Or.inl ⟨by rfl, ?_⟩) ?_ ?_); (rotate_left)
    ·(intro w'); (go_simp); (with_reducible rfl)
    rotate_left
    ·(simp only [Act.put, sTA, sCZ, sCS, i64_w, i32_w]); (rfl)
    (refine pu_ (i := 4) (N := some 7) (v := ?_) (a' := ?_) #[I,I,I,I,I,O,O,O,O,O,O,O,O,O,O,O,O,O,O,O,O,O,O,O] rfl rfl HT_.out (by kernel_rfl) (fun _ _ _ h => h) (Or.inl ⟨by rfl, ?_⟩) ?_ ?_); (rotate_left)
    ·(intro w'); (go_simp); (with_reducible rfl)
    rotate_left
    ·(simp only [Act.put, sTA, sCZ, sCS, i64_w, i32_w]); (rfl)
    (refine take_ (i := 5) (N := some 8) (v := ?_) (a' := ?_) #[I,I,I,I,I,I,O,O,O,O,O,O,O,O,O,O,O,O,O,O,O,O,O,O] rfl rfl (take_ofW HT_.out HW_.out (by kernel_rfl)) (fun _ _ _ h => h) (Or.inl ⟨by rfl, ?_⟩) hHeld ?_ ?_); (rotate_left)
    ·(rintro w' ⟨s0, s1, s2⟩); (go_simp); (with_reducible rfl)
    rotate_left
    ·(simp only [Act.put, sTA, sCZ, sCS, i64_w, i32_w]); (rfl)
    (refine pu_ (i := 6) (N := some 9) (v := ?_) (a' := ?_) #[I,I,I,I,I,I,I,O,O,O,O,O,O,O,O,O,O,O,O,O,O,O,O,O] rfl rfl HT_.out (by kernel_rfl) (fun _ _ _ h => h) (Or.inl ⟨by rfl, ?_⟩) ?_ ?_); (rotate_left)
    ·(intro w'); (go_simp); (with_reducible rfl)
    rotate_left
    ·(simp only [Act.put, sTA, sCZ, sCS, i64_w, i32_w]); (rfl)
    (refine pu_ (i := 7) (N := some 10) (v := ?_) (a' := ?_) #[I,I,I,I,I,I,I,I,O,O,O,O,O,O,O,O,O,O,O,O,O,O,O,O] rfl rfl HT_.out (by kernel_rfl) (fun _ _ _ h => h) (Or.inl ⟨by rfl, ?_⟩) ?_ ?_); (rotate_left)
    ·(intro w'); (go_simp); (with_reducible rfl)
    rotate_left
    ·(simp only [Act.put, sTA, sCZ, sCS, i64_w, i32_w]); (rfl)
    (refine pu_ (i := 8) (N := some 11) (v := ?_) (a' := ?_) #[I,I,I,I,I,I,I,I,I,O,O,O,O,O,O,O,O,O,O,O,O,O,O,O] rfl rfl HT_.out (by kernel_rfl) (fun _ _ _ h => h) (Or.inl ⟨by rfl, ?_⟩) ?_ ?_); (rotate_left)
    ·(intro w'); (go_simp); (with_reducible rfl)
    rotate_left
    ·(simp only [Act.put, sTA, sCZ, sCS, i64_w, i32_w]); (rfl)
    (refine pu_ (i := 9) (N := some 12) (v := ?_) (a' := ?_) #[I,I,I,I,I,I,I,I,I,I,O,O,O,O,O,O,O,O,O,O,O,O,O,O] rfl rfl HT_.out (by kernel_rfl) (fun _ _ _ h => h) (Or.inl ⟨by rfl, ?_⟩) ?_ ?_); (rotate_left)
    ·(intro w'); (go_simp); (with_reducible rfl)
    rotate_left
    ·(simp only [Act.put, sTA, sCZ, sCS, i64_w, i32_w]); (rfl)
    (refine take_ (i := 10) (N := some 13) (v := ?_) (a' := ?_) #[I,I,I,I,I,I,I,I,I,I,I,O,O,O,O,O,O,O,O,O,O,O,O,O] rfl rfl (take_ofW HT_.out HW_.out (by kernel_rfl)) (fun _ _ _ h => h) (Or.inl ⟨by rfl, ?_⟩) hHeld ?_ ?_); (rotate_left)
    ·(rintro w' ⟨s0, s1, s2⟩); (go_simp); (with_reducible rfl)
    rotate_left
    ·(simp only [Act.put, sTA, sCZ, sCS, i64_w, i32_w]); (rfl)
    (refine pu_ (i := 11) (N := some 14) (v := ?_) (a' := ?_) #[I,I,I,I,I,I,I,I,I,I,I,I,O,O,O,O,O,O,O,O,O,O,O,O] rfl rfl HT_.out (by kernel_rfl) (fun _ _ _ h => h) (Or.inl ⟨by rfl, ?_⟩) ?_ ?_); (rotate_left)
    ·(intro w'); (go_simp); (with_reducible rfl)
    rotate_left
    ·(simp only [Act.put, sTA, sCZ, sCS, i64_w, i32_w]); (rfl)
    (refine pu_ (i := 12) (N := some 15) (v := ?_) (a' := ?_) #[I,I,I,I,I,I,I,I,I,I,I,I,I,O,O,O,O,O,O,O,O,O,O,O] rfl rfl HT_.out (by kernel_rfl) (fun _ _ _ h => h) (Or.inl ⟨by rfl, ?_⟩) ?_ ?_); (rotate_left)
    ·(intro w'); (go_simp); (with_reducible rfl)
    rotate_left
    ·(simp only [Act.put, sTA, sCZ, sCS, i64_w, i32_w]); (rfl)
    (refine pu_ (i := 13) (N := some 16) (v := ?_) (a' := ?_) #[I,I,I,I,I,I,I,I,I,I,I,I,I,I,O,O,O,O,O,O,O,O,O,O] rfl rfl HT_.out (by kernel_rfl) (fun _ _ _ h => h) (Or.inl ⟨by rfl, ?_⟩) ?_ ?_); (rotate_left)
    ·(intro w'); (go_simp); (with_reducible rfl)
    rotate_left
    ·(simp only [Act.put, sTA, sCZ, sCS, i64_w, i32_w]); (rfl)
    (refine pu_ (i := 14) (N := some 17) (v := ?_) (a' := ?_) #[I,I,I,I,I,I,I,I,I,I,I,I,I,I,I,O,O,O,O,O,O,O,O,O] rfl rfl HT_.out (by kernel_rfl) (fun _ _ _ h => h) (Or.inl ⟨by rfl, ?_⟩) ?_ ?_); (rotate_left)
    ·(intro w'); (go_simp); (with_reducible rfl)
    rotate_left
    ·(simp only [Act.put, sTA, sCZ, sCS, i64_w, i32_w]); (rfl)
    (refine pu_ (i := 16) (N := some 19) (v := ?_) (a' := ?_) #[I,I,I,I,I,I,I,I,I,I,I,I,I,I,I,O,I,O,O,O,O,O,O,O] rfl rfl HT_.out (by kernel_rfl) (fun _ _ _ h => h) (Or.inl ⟨by rfl, ?_⟩) ?_ ?_); (rotate_left)
    ·(intro w'); (go_simp); (with_reducible rfl)
    rotate_left
    ·(simp only [Act.put, sTA, sCZ, sCS, i64_w, i32_w]); (rfl)
    (refine pu_ (i := 18) (N := some 21) (v := ?_) (a' := ?_) #[I,I,I,I,I,I,I,I,I,I,I,I,I,I,I,O,I,O,I,O,O,O,O,O] rfl rfl HT_.out (by kernel_rfl) (fun _ _ _ h => h) (Or.inl ⟨by rfl, ?_⟩) ?_ ?_); (rotate_left)
    ·(intro w'); (go_simp); (with_reducible rfl)
    rotate_left
    ·(simp only [Act.put, sTA, sCZ, sCS, i64_w, i32_w]); (rfl)
    (refine take_ (i := 15) (N := some 18) (v := ?_) (a' := ?_) #[I,I,I,I,I,I,I,I,I,I,I,I,I,I,I,I,I,O,I,O,O,O,O,O] rfl rfl (take_ofW HT_.out HW_.out (by kernel_rfl)) (fun _ _ _ h => h) (Or.inl ⟨by rfl, ?_⟩) hHeld ?_ ?_); (rotate_left)
    ·(rintro w' ⟨s0, s1, s2⟩); (go_simp); (with_reducible rfl)
    rotate_left
    ·(simp only [Act.put, sTA, sCZ, sCS, i64_w, i32_w]); (rfl)
    (refine take_ (i := 17) (N := some 20) (v := ?_) (a' := ?_) #[I,I,I,I,I,I,I,I,I,I,I,I,I,I,I,I,I,I,I,O,O,O,O,O] rfl rfl (take_ofW HT_.out HW_.out (by kernel_rfl)) (fun _ _ _ h => h) (Or.inl ⟨by rfl, ?_⟩) hHeld ?_ ?_); (rotate_left)
    ·(rintro w' ⟨s0, s1, s2⟩); (go_simp); (with_reducible rfl)
    rotate_left
    ·(simp only [Act.put, sTA, sCZ, sCS, i64_w, i32_w]); (rfl)
    (refine take_ (i := 19) (N := some 22) (v := ?_) (a' := ?_) #[I,I,I,I,I,I,I,I,I,I,I,I,I,I,I,I,I,I,I,I,O,O,O,O] rfl rfl (take_ofW HT_.out HW_.out (by kernel_rfl)) (fun _ _ _ h => h) (Or.inl ⟨by rfl, ?_⟩) hHeld ?_ ?_); (rotate_left)
    ·(rintro w' ⟨s0, s1, s2⟩); (go_simp); (with_reducible rfl)
    rotate_left
    ·(simp only [Act.put, sTA, sCZ, sCS, i64_w, i32_w]); (rfl)
    (refine one_ (i := 20) (N := some 23) #[I,I,I,I,I,I,I,I,I,I,I,I,I,I,I,I,I,I,I,I,I,O,O,O] rfl rfl (one_of HT_.out (by kernel_rfl)) (by decide) (fun K hK => ?_)); (refine goes_ Tryz.func96 (by kernel_rfl) rfl #[.int .i64 a0_0, .int .i64 a0_1] (by rfl) rfl rfl (by (try simp only [mTA, mC, mN]); first | done | rfl | (simp only [lD, lT]; rfl)) ?_); (with_reducible refine (civil_Len.calls k a0_0 a0_1 t178 _ A5.out).mono ?_); (rintro e w8 ⟨rfl, hb⟩); (refine ⟨_, rfl, ?_⟩); (have n0_ := aM (blk_below (g := gb177) (o := .cells #[.int .i64 a0_0, .int .i64 a0_1, .int .i64 a0_2] 51 (0, 0)) (by (with_reducible repeat (first | refine qN ?_ _ | refine qW ?_ | refine qA ?_ _)); exact BK177.out) hb)); (have n1_ := aM (below_step (by with_reducible repeat (first | exact HB.out | apply lA | apply lN | apply lW | refine lS ?_ GE177.out)) hb)); clear BK177; clear HB; (have BK177 := n0_); (have HB := n1_); clear n0_ n1_; ((try clear hb)); ((try clear hb2)); ((try clear hk)); ((try clear hi)); (refine hK.out _ _ ⟨(qC BK177.out 0).trans rfl, (qC BK177.out 1).trans rfl, (qC BK177.out 2).trans rfl⟩ (fun hHeld => ?_)); clear hK K; (refine norm_ (a' := ?_) ?_ ?_); (rotate_left)
    ·(show Act.put _ (some 23) _ = _); (simp only [Act.put, sTA, sCZ, sCS, i64_w, i32_w]); (rfl)
    (refine pu_ (i := 21) (N := some 24) (v := ?_) (a' := ?_) #[I,I,I,I,I,I,I,I,I,I,I,I,I,I,I,I,I,I,I,I,I,I,O,O] rfl rfl HT_.out (by kernel_rfl) (fun _ _ _ h => h) (Or.inl ⟨by rfl, ?_⟩) ?_ ?_); (rotate_left)
    ·(intro w'); (go_simp); (with_reducible rfl)
    rotate_left
    ·(simp only [Act.put, sTA, sCZ, sCS, i64_w, i32_w]); (rfl)
    (refine pu_ (i := 22) (N := some 25) (v := ?_) (a' := ?_) #[I,I,I,I,I,I,I,I,I,I,I,I,I,I,I,I,I,I,I,I,I,I,I,O] rfl rfl HT_.out (by kernel_rfl) (fun _ _ _ h => h) (Or.inl ⟨by rfl, ?_⟩) ?_ ?_); (rotate_left)
    ·(intro w'); (go_simp); (with_reducible rfl)
    rotate_left
    ·(simp only [Act.put, sTA, sCZ, sCS, i64_w, i32_w]); (rfl)
    (refine pu_ (i := 23) (N := some 2) (v := ?_) (a' := ?_) #[I,I,I,I,I,I,I,I,I,I,I,I,I,I,I,I,I,I,I,I,I,I,I,I] rfl rfl HT_.out (by kernel_rfl) (fun _ _ _ h => h) (Or.inl ⟨by rfl, ?_⟩) ?_ ?_); (rotate_left)
    ·(intro w'); (go_simp); (with_reducible rfl)
    rotate_left
    ·(simp only [Act.put, sTA, sCZ, sCS, i64_w, i32_w]); (rfl)
    (refine done_ (done_of HT_.out (by kernel_rfl)) ?_); (try go_wp2); (go_ret); (exact ⟨by first | rfl | (simp [errW_none, errW_some] <;> rfl) | (simp [*, errW_none, errW_some] <;> rfl), by with_reducible repeat (first | exact HB.out | apply lA | apply lN | apply lW | refine lS ?_ GE177.out)⟩)
   ·(rw [if_neg c4] at H); (have c4b0 : decide (1 ≤ a0_2) = false := decide_eq_false c4); clear c4; (obtain rfl := Option.some.inj H); (go_enter Tryz.func132, Tryz.ntmps132); (try go_wp2_with (first | ((with_reducible refine gate_dst (N := 1) rfl ?_); refine box_event ?hg (N := 1) ?hd (cs := #[.int .i64 a0_0, .int .i64 a0_1, .int .i64 a0_2]) (t := 51) ?hr ?_; (case hd => rfl); (case hg => rfl); (case hr => first | (go_simp; done) | (go_simp; rfl)); intro gb177 hg w9 hbox hb; have n0_ := aM (below_step (by with_reducible repeat (first | exact HB.out | apply lA | apply lN | apply lW)) hb); have n1_ := aM (hbox); have n2_ := aM ((by rw [hg]; exact (below_size (by with_reducible repeat (first | exact HB.out | apply lA | apply lN | apply lW))) : w.heap.size ≤ gb177)); have n3_ := aM ((by rw [hg]; exact (below_size (by with_reducible repeat (first | exact HB.out | apply lA | apply lN | apply lW))) : w.heap.size ≤ gb177)); clear HB; have HB := n0_; have BK177 := n1_; have GW177 := n2_; have GE177 := n3_; clear n0_ n1_ n2_ n3_; clear hb hbox hg))); (have n0_ := aM (qW BK177.out)); (have n1_ := aM (lW HB.out)); clear BK177; clear HB; (have BK177 := n0_); (have HB := n1_); clear n0_ n1_; (refine start_ (n := 24) (S := fun w' => w'.cell? ⟨gb177, 0, none⟩ = some (.int .i64 a0_0) ∧ w'.cell? ⟨gb177, 1, none⟩ = some (.int .i64 a0_1) ∧ w'.cell? ⟨gb177, 2, none⟩ = some (.int .i64 a0_2)) (ds := []) #[O,O,O,O,O,O,O,O,O,O,O,O,O,O,O,O,O,O,O,O,O,O,O,O] (by kernel_rfl) rfl rfl ⟨(qC BK177.out 0).trans rfl, (qC BK177.out 1).trans rfl, (qC BK177.out 2).trans rfl⟩ (fun hHeld => ?_); refine with_tabW civil_right.tab1 civil_right.bits1 (fun HT_ HW_ => ?_)); (generalize w9.drew = w10 at BK177 HB hHeld ⊢); (refine pu_ (i := 0) (N := some 3) (v := ?_) (a' := ?_) #[I,O,O,O,O,O,O,O,O,O,O,O,O,O,O,O,O,O,O,O,O,O,O,O] rfl rfl HT_.out (by kernel_rfl) (fun _ _ _ h => h) (Or.inl ⟨by rfl, ?_⟩) ?_ ?_); (rotate_left)
    ·(intro w'); (go_simp); (with_reducible rfl)
    rotate_left
    ·(simp only [Act.put, sTA, sCZ, sCS, i64_w, i32_w]); (rfl)
    (refine take_ (i := 1) (N := some 4) (v := ?_) (a' := ?_) #[I,I,O,O,O,O,O,O,O,O,O,O,O,O,O,O,O,O,O,O,O,O,O,O] rfl rfl (take_ofW HT_.out HW_.out (by kernel_rfl)) (fun _ _ _ h => h) (Or.inl ⟨by rfl, ?_⟩) hHeld ?_ ?_); (rotate_left)
    ·(rintro w' ⟨s0, s1, s2⟩); (go_simp); (with_reducible rfl)
    rotate_left
    ·(simp only [Act.put, sTA, sCZ, sCS, i64_w, i32_w]); (rfl)
    (refine pu_ (i := 2) (N := some 5) (v := ?_) (a' := ?_) #[I,I,I,O,O,O,O,O,O,O,O,O,O,O,O,O,O,O,O,O,O,O,O,O] rfl rfl HT_.out (by kernel_rfl) (fun _ _ _ h => h) (Or.inl ⟨by rfl, ?_⟩) ?_ ?_); (rotate_left)
    ·(intro w'); (go_simp); (with_reducible rfl)
    rotate_left
    ·(simp only [Act.put, sTA, sCZ, sCS, i64_w, i32_w]); (rfl)
    (refine pu_ (i := 3) (N := some 6) (v := ?_) (a' := ?_) #[I,I,I,I,O,O,O,O,O,O,O,O,O,O,O,O,O,O,O,O,O,O,O,O] rfl rfl HT_.out (by kernel_rfl) (fun _ _ _ h => h) (Or.inl ⟨by rfl, ?_⟩) ?_ ?_); (rotate_left)
    ·(intro w'); (go_simp); (with_reducible rfl)
    rotate_left
    ·(simp only [Act.put, sTA, sCZ, sCS, i64_w, i32_w]); (rfl)
    (refine pu_ (i := 4) (N := some 7) (v := ?_) (a' := ?_) #[I,I,I,I,I,O,O,O,O,O,O,O,O,O,O,O,O,O,O,O,O,O,O,O] rfl rfl HT_.out (by kernel_rfl) (fun _ _ _ h => h) (Or.inl ⟨by rfl, ?_⟩) ?_ ?_); (rotate_left)
    ·(intro w'); (go_simp); (with_reducible rfl)
    rotate_left
    ·(simp only [Act.put, sTA, sCZ, sCS, i64_w, i32_w]); (rfl)
    (refine take_ (i := 5) (N := some 8) (v := ?_) (a' := ?_) #[I,I,I,I,I,I,O,O,O,O,O,O,O,O,O,O,O,O,O,O,O,O,O,O] rfl rfl (take_ofW HT_.out HW_.out (by kernel_rfl)) (fun _ _ _ h => h) (Or.inl ⟨by rfl, ?_⟩) hHeld ?_ ?_); (rotate_left)
    ·(rintro w' ⟨s0, s1, s2⟩); (go_simp); (with_reducible rfl)
    rotate_left
    ·(simp only [Act.put, sTA, sCZ, sCS, i64_w, i32_w]); (rfl)
    (refine pu_ (i := 6) (N := some 9) (v := ?_) (a' := ?_) #[I,I,I,I,I,I,I,O,O,O,O,O,O,O,O,O,O,O,O,O,O,O,O,O] rfl rfl HT_.out (by kernel_rfl) (fun _ _ _ h => h) (Or.inl ⟨by rfl, ?_⟩) ?_ ?_); (rotate_left)
    ·(intro w'); (go_simp); (with_reducible rfl)
    rotate_left
    ·(simp only [Act.put, sTA, sCZ, sCS, i64_w, i32_w]); (rfl)
    (refine pu_ (i := 7) (N := some 10) (v := ?_) (a' := ?_) #[I,I,I,I,I,I,I,I,O,O,O,O,O,O,O,O,O,O,O,O,O,O,O,O] rfl rfl HT_.out (by kernel_rfl) (fun _ _ _ h => h) (Or.inl ⟨by rfl, ?_⟩) ?_ ?_); (rotate_left)
    ·(intro w'); (go_simp); (with_reducible rfl)
    rotate_left
    ·(simp only [Act.put, sTA, sCZ, sCS, i64_w, i32_w]); (rfl)
    (refine pu_ (i := 8) (N := some 11) (v := ?_) (a' := ?_) #[I,I,I,I,I,I,I,I,I,O,O,O,O,O,O,O,O,O,O,O,O,O,O,O] rfl rfl HT_.out (by kernel_rfl) (fun _ _ _ h => h) (Or.inl ⟨by rfl, ?_⟩) ?_ ?_); (rotate_left)
    ·(intro w'); (go_simp); (with_reducible rfl)
    rotate_left
    ·(simp only [Act.put, sTA, sCZ, sCS, i64_w, i32_w]); (rfl)
    (refine pu_ (i := 9) (N := some 12) (v := ?_) (a' := ?_) #[I,I,I,I,I,I,I,I,I,I,O,O,O,O,O,O,O,O,O,O,O,O,O,O] rfl rfl HT_.out (by kernel_rfl) (fun _ _ _ h => h) (Or.inl ⟨by rfl, ?_⟩) ?_ ?_); (rotate_left)
    ·(intro w'); (go_simp); (with_reducible rfl)
    rotate_left
    ·(simp only [Act.put, sTA, sCZ, sCS, i64_w, i32_w]); (rfl)
    (refine take_ (i := 10) (N := some 13) (v := ?_) (a' := ?_) #[I,I,I,I,I,I,I,I,I,I,I,O,O,O,O,O,O,O,O,O,O,O,O,O] rfl rfl (take_ofW HT_.out HW_.out (by kernel_rfl)) (fun _ _ _ h => h) (Or.inl ⟨by rfl, ?_⟩) hHeld ?_ ?_); (rotate_left)
    ·(rintro w' ⟨s0, s1, s2⟩); (go_simp); (with_reducible rfl)
    rotate_left
    ·(simp only [Act.put, sTA, sCZ, sCS, i64_w, i32_w]); (rfl)
    (refine pu_ (i := 11) (N := some 14) (v := ?_) (a' := ?_) #[I,I,I,I,I,I,I,I,I,I,I,I,O,O,O,O,O,O,O,O,O,O,O,O] rfl rfl HT_.out (by kernel_rfl) (fun _ _ _ h => h) (Or.inl ⟨by rfl, ?_⟩) ?_ ?_); (rotate_left)
    ·(intro w'); (go_simp); (with_reducible rfl)
    rotate_left
    ·(simp only [Act.put, sTA, sCZ, sCS, i64_w, i32_w]); (rfl)
    (refine pu_ (i := 12) (N := some 15) (v := ?_) (a' := ?_) #[I,I,I,I,I,I,I,I,I,I,I,I,I,O,O,O,O,O,O,O,O,O,O,O] rfl rfl HT_.out (by kernel_rfl) (fun _ _ _ h => h) (Or.inl ⟨by rfl, ?_⟩) ?_ ?_); (rotate_left)
    ·(intro w'); (go_simp); (with_reducible rfl)
    rotate_left
    ·(simp only [Act.put, sTA, sCZ, sCS, i64_w, i32_w]); (rfl)
    (refine pu_ (i := 13) (N := some 16) (v := ?_) (a' := ?_) #[I,I,I,I,I,I,I,I,I,I,I,I,I,I,O,O,O,O,O,O,O,O,O,O] rfl rfl HT_.out (by kernel_rfl) (fun _ _ _ h => h) (Or.inl ⟨by rfl, ?_⟩) ?_ ?_); (rotate_left)
    ·(intro w'); (go_simp); (with_reducible rfl)
    rotate_left
    ·(simp only [Act.put, sTA, sCZ, sCS, i64_w, i32_w]); (rfl)
    (refine pure_ (i := 14) (N := some 17) (v := undef) (a' := ?_) #[I,I,I,I,I,I,I,I,I,I,I,I,I,I,I,O,O,O,O,O,O,O,O,O] rfl rfl (any_of HT_.out (by kernel_rfl)) (fun _ _ _ h => h) (Or.inr ⟨by rfl, rfl⟩) ?_ ?_); (rotate_left)
    ·(simp only [Act.put, sTA, sCZ, sCS, i64_w, i32_w]); (rfl)
    (refine pure_ (i := 15) (N := some 18) (v := undef) (a' := ?_) #[I,I,I,I,I,I,I,I,I,I,I,I,I,I,I,I,O,O,O,O,O,O,O,O] rfl rfl (any_of HT_.out (by kernel_rfl)) (fun _ _ _ h => h) (Or.inr ⟨by rfl, rfl⟩) ?_ ?_); (rotate_left)
    ·(simp only [Act.put, sTA, sCZ, sCS, i64_w, i32_w]); (rfl)
    (refine pure_ (i := 16) (N := some 19) (v := undef) (a' := ?_) #[I,I,I,I,I,I,I,I,I,I,I,I,I,I,I,I,I,O,O,O,O,O,O,O] rfl rfl (any_of HT_.out (by kernel_rfl)) (fun _ _ _ h => h) (Or.inr ⟨by rfl, rfl⟩) ?_ ?_); (rotate_left)
    ·(simp only [Act.put, sTA, sCZ, sCS, i64_w, i32_w]); (rfl)
    (refine pure_ (i := 17) (N := some 20) (v := undef) (a' := ?_) #[I,I,I,I,I,I,I,I,I,I,I,I,I,I,I,I,I,I,O,O,O,O,O,O] rfl rfl (any_of HT_.out (by kernel_rfl)) (fun _ _ _ h => h) (Or.inr ⟨by rfl, rfl⟩) ?_ ?_); (rotate_left)
    ·(simp only [Act.put, sTA, sCZ, sCS, i64_w, i32_w]); (rfl)
    (refine pure_ (i := 18) (N := some 21) (v := undef) (a' := ?_) #[I,I,I,I,I,I,I,I,I,I,I,I,I,I,I,I,I,I,I,O,O,O,O,O] rfl rfl (any_of HT_.out (by kernel_rfl)) (fun _ _ _ h => h) (Or.inr ⟨by rfl, rfl⟩) ?_ ?_); (rotate_left)
    ·(simp only [Act.put, sTA, sCZ, sCS, i64_w, i32_w]); (rfl)
    (refine pure_ (i := 19) (N := some 22) (v := undef) (a' := ?_) #[I,I,I,I,I,I,I,I,I,I,I,I,I,I,I,I,I,I,I,I,O,O,O,O] rfl rfl (any_of HT_.out (by kernel_rfl)) (fun _ _ _ h => h) (Or.inr ⟨by rfl, rfl⟩) ?_ ?_); (rotate_left)
    ·(simp only [Act.put, sTA, sCZ, sCS, i64_w, i32_w]); (rfl)
    (refine pure_ (i := 20) (N := some 23) (v := undef) (a' := ?_) #[I,I,I,I,I,I,I,I,I,I,I,I,I,I,I,I,I,I,I,I,I,O,O,O] rfl rfl (any_of HT_.out (by kernel_rfl)) (fun _ _ _ h => h) (Or.inr ⟨by rfl, rfl⟩) ?_ ?_); (rotate_left)
    ·(simp only [Act.put, sTA, sCZ, sCS, i64_w, i32_w]); (rfl)
    (refine pure_ (i := 21) (N := some 24) (v := undef) (a' := ?_) #[I,I,I,I,I,I,I,I,I,I,I,I,I,I,I,I,I,I,I,I,I,I,O,O] rfl rfl (any_of HT_.out (by kernel_rfl)) (fun _ _ _ h => h) (Or.inr ⟨by rfl, rfl⟩) ?_ ?_); (rotate_left)
    ·(simp only [Act.put, sTA, sCZ, sCS, i64_w, i32_w]); (rfl)
    (refine pu_ (i := 22) (N := some 25) (v := ?_) (a' := ?_) #[I,I,I,I,I,I,I,I,I,I,I,I,I,I,I,I,I,I,I,I,I,I,I,O] rfl rfl HT_.out (by kernel_rfl) (fun _ _ _ h => h) (Or.inl ⟨by rfl, ?_⟩) ?_ ?_); (rotate_left)
    ·(intro w'); (go_simp); (with_reducible rfl)
    rotate_left
    ·(simp only [Act.put, sTA, sCZ, sCS, i64_w, i32_w]); (rfl)
    (refine pu_ (i := 23) (N := some 2) (v := ?_) (a' := ?_) #[I,I,I,I,I,I,I,I,I,I,I,I,I,I,I,I,I,I,I,I,I,I,I,I] rfl rfl HT_.out (by kernel_rfl) (fun _ _ _ h => h) (Or.inl ⟨by rfl, ?_⟩) ?_ ?_); (rotate_left)
    ·(intro w'); (go_simp); (with_reducible rfl)
    rotate_left
    ·(simp only [Act.put, sTA, sCZ, sCS, i64_w, i32_w]); (rfl)
    (refine done_ (done_of HT_.out (by kernel_rfl)) ?_); (try go_wp2); (go_ret); (exact ⟨by first | rfl | (simp [errW_none, errW_some] <;> rfl) | (simp [*, errW_none, errW_some] <;> rfl), by with_reducible repeat (first | exact HB.out | apply lA | apply lN | apply lW | refine lS ?_ GE177.out)⟩)
  ·(rw [if_neg c3] at H); (have c3b0 : decide (a0_0 ≤ 10000) = false := decide_eq_false c3); clear c3; (obtain rfl := Option.some.inj H); (go_enter Tryz.func132, Tryz.ntmps132); (try go_wp2_with (first | ((with_reducible refine gate_dst (N := 1) rfl ?_); refine box_event ?hg (N := 1) ?hd (cs := #[.int .i64 a0_0, .int .i64 a0_1, .int .i64 a0_2]) (t := 51) ?hr ?_; (case hd => rfl); (case hg => rfl); (case hr => first | (go_simp; done) | (go_simp; rfl)); intro gb177 hg w11 hbox hb; have n0_ := aM (below_step (by with_reducible repeat (first | exact HB.out | apply lA | apply lN | apply lW)) hb); have n1_ := aM (hbox); have n2_ := aM ((by rw [hg]; exact (below_size (by with_reducible repeat (first | exact HB.out | apply lA | apply lN | apply lW))) : w.heap.size ≤ gb177)); have n3_ := aM ((by rw [hg]; exact (below_size (by with_reducible repeat (first | exact HB.out | apply lA | apply lN | apply lW))) : w.heap.size ≤ gb177)); clear HB; have HB := n0_; have BK177 := n1_; have GW177 := n2_; have GE177 := n3_; clear n0_ n1_ n2_ n3_; clear hb hbox hg))); (have n0_ := aM (qW BK177.out)); (have n1_ := aM (lW HB.out)); clear BK177; clear HB; (have BK177 := n0_); (have HB := n1_); clear n0_ n1_; (refine start_ (n := 24) (S := fun w' => w'.cell? ⟨gb177, 0, none⟩ = some (.int .i64 a0_0) ∧ w'.cell? ⟨gb177, 1, none⟩ = some (.int .i64 a0_1) ∧ w'.cell? ⟨gb177, 2, none⟩ = some (.int .i64 a0_2)) (ds := []) #[O,O,O,O,O,O,O,O,O,O,O,O,O,O,O,O,O,O,O,O,O,O,O,O] (by kernel_rfl) rfl rfl ⟨(qC BK177.out 0).trans rfl, (qC BK177.out 1).trans rfl, (qC BK177.out 2).trans rfl⟩ (fun hHeld => ?_); refine with_tabW civil_right.tab1 civil_right.bits1 (fun HT_ HW_ => ?_)); (generalize w11.drew = w12 at BK177 HB hHeld ⊢); (refine pu_ (i := 0) (N := some 3) (v := ?_) (a' := ?_) #[I,O,O,O,O,O,O,O,O,O,O,O,O,O,O,O,O,O,O,O,O,O,O,O] rfl rfl HT_.out (by kernel_rfl) (fun _ _ _ h => h) (Or.inl ⟨by rfl, ?_⟩) ?_ ?_); (rotate_left)
   ·(intro w'); (go_simp); (with_reducible rfl)
   rotate_left
   ·(simp only [Act.put, sTA, sCZ, sCS, i64_w, i32_w]); (rfl)
   (refine take_ (i := 1) (N := some 4) (v := ?_) (a' := ?_) #[I,I,O,O,O,O,O,O,O,O,O,O,O,O,O,O,O,O,O,O,O,O,O,O] rfl rfl (take_ofW HT_.out HW_.out (by kernel_rfl)) (fun _ _ _ h => h) (Or.inl ⟨by rfl, ?_⟩) hHeld ?_ ?_); (rotate_left)
   ·(rintro w' ⟨s0, s1, s2⟩); (go_simp); (with_reducible rfl)
   rotate_left
   ·(simp only [Act.put, sTA, sCZ, sCS, i64_w, i32_w]); (rfl)
   (refine pu_ (i := 2) (N := some 5) (v := ?_) (a' := ?_) #[I,I,I,O,O,O,O,O,O,O,O,O,O,O,O,O,O,O,O,O,O,O,O,O] rfl rfl HT_.out (by kernel_rfl) (fun _ _ _ h => h) (Or.inl ⟨by rfl, ?_⟩) ?_ ?_); (rotate_left)
   ·(intro w'); (go_simp); (with_reducible rfl)
   rotate_left
   ·(simp only [Act.put, sTA, sCZ, sCS, i64_w, i32_w]); (rfl)
   (refine pu_ (i := 3) (N := some 6) (v := ?_) (a' := ?_) #[I,I,I,I,O,O,O,O,O,O,O,O,O,O,O,O,O,O,O,O,O,O,O,O] rfl rfl HT_.out (by kernel_rfl) (fun _ _ _ h => h) (Or.inl ⟨by rfl, ?_⟩) ?_ ?_); (rotate_left)
   ·(intro w'); (go_simp); (with_reducible rfl)
   rotate_left
   ·(simp only [Act.put, sTA, sCZ, sCS, i64_w, i32_w]); (rfl)
   (refine pu_ (i := 4) (N := some 7) (v := ?_) (a' := ?_) #[I,I,I,I,I,O,O,O,O,O,O,O,O,O,O,O,O,O,O,O,O,O,O,O] rfl rfl HT_.out (by kernel_rfl) (fun _ _ _ h => h) (Or.inl ⟨by rfl, ?_⟩) ?_ ?_); (rotate_left)
   ·(intro w'); (go_simp); (with_reducible rfl)
   rotate_left
   ·(simp only [Act.put, sTA, sCZ, sCS, i64_w, i32_w]); (rfl)
   (refine take_ (i := 5) (N := some 8) (v := ?_) (a' := ?_) #[I,I,I,I,I,I,O,O,O,O,O,O,O,O,O,O,O,O,O,O,O,O,O,O] rfl rfl (take_ofW HT_.out HW_.out (by kernel_rfl)) (fun _ _ _ h => h) (Or.inl ⟨by rfl, ?_⟩) hHeld ?_ ?_); (rotate_left)
   ·(rintro w' ⟨s0, s1, s2⟩); (go_simp); (with_reducible rfl)
   rotate_left
   ·(simp only [Act.put, sTA, sCZ, sCS, i64_w, i32_w]); (rfl)
   (refine pu_ (i := 6) (N := some 9) (v := ?_) (a' := ?_) #[I,I,I,I,I,I,I,O,O,O,O,O,O,O,O,O,O,O,O,O,O,O,O,O] rfl rfl HT_.out (by kernel_rfl) (fun _ _ _ h => h) (Or.inl ⟨by rfl, ?_⟩) ?_ ?_); (rotate_left)
   ·(intro w'); (go_simp); (with_reducible rfl)
   rotate_left
   ·(simp only [Act.put, sTA, sCZ, sCS, i64_w, i32_w]); (rfl)
   (refine pu_ (i := 7) (N := some 10) (v := ?_) (a' := ?_) #[I,I,I,I,I,I,I,I,O,O,O,O,O,O,O,O,O,O,O,O,O,O,O,O] rfl rfl HT_.out (by kernel_rfl) (fun _ _ _ h => h) (Or.inl ⟨by rfl, ?_⟩) ?_ ?_); (rotate_left)
   ·(intro w'); (go_simp); (with_reducible rfl)
   rotate_left
   ·(simp only [Act.put, sTA, sCZ, sCS, i64_w, i32_w]); (rfl)
   (refine pu_ (i := 8) (N := some 11) (v := ?_) (a' := ?_) #[I,I,I,I,I,I,I,I,I,O,O,O,O,O,O,O,O,O,O,O,O,O,O,O] rfl rfl HT_.out (by kernel_rfl) (fun _ _ _ h => h) (Or.inl ⟨by rfl, ?_⟩) ?_ ?_); (rotate_left)
   ·(intro w'); (go_simp); (with_reducible rfl)
   rotate_left
   ·(simp only [Act.put, sTA, sCZ, sCS, i64_w, i32_w]); (rfl)
   (refine pure_ (i := 9) (N := some 12) (v := undef) (a' := ?_) #[I,I,I,I,I,I,I,I,I,I,O,O,O,O,O,O,O,O,O,O,O,O,O,O] rfl rfl (any_of HT_.out (by kernel_rfl)) (fun _ _ _ h => h) (Or.inr ⟨by rfl, rfl⟩) ?_ ?_); (rotate_left)
   ·(simp only [Act.put, sTA, sCZ, sCS, i64_w, i32_w]); (rfl)
   (refine pure_ (i := 10) (N := some 13) (v := undef) (a' := ?_) #[I,I,I,I,I,I,I,I,I,I,I,O,O,O,O,O,O,O,O,O,O,O,O,O] rfl rfl (any_of HT_.out (by kernel_rfl)) (fun _ _ _ h => h) (Or.inr ⟨by rfl, rfl⟩) ?_ ?_); (rotate_left)
   ·(simp only [Act.put, sTA, sCZ, sCS, i64_w, i32_w]); (rfl)
   (refine pure_ (i := 11) (N := some 14) (v := undef) (a' := ?_) #[I,I,I,I,I,I,I,I,I,I,I,I,O,O,O,O,O,O,O,O,O,O,O,O] rfl rfl (any_of HT_.out (by kernel_rfl)) (fun _ _ _ h => h) (Or.inr ⟨by rfl, rfl⟩) ?_ ?_); (rotate_left)
   ·(simp only [Act.put, sTA, sCZ, sCS, i64_w, i32_w]); (rfl)
   (refine pu_ (i := 12) (N := some 15) (v := ?_) (a' := ?_) #[I,I,I,I,I,I,I,I,I,I,I,I,I,O,O,O,O,O,O,O,O,O,O,O] rfl rfl HT_.out (by kernel_rfl) (fun _ _ _ h => h) (Or.inl ⟨by rfl, ?_⟩) ?_ ?_); (rotate_left)
   ·(intro w'); (go_simp); (with_reducible rfl)
   rotate_left
   ·(simp only [Act.put, sTA, sCZ, sCS, i64_w, i32_w]); (rfl)
   (refine pu_ (i := 13) (N := some 16) (v := ?_) (a' := ?_) #[I,I,I,I,I,I,I,I,I,I,I,I,I,I,O,O,O,O,O,O,O,O,O,O] rfl rfl HT_.out (by kernel_rfl) (fun _ _ _ h => h) (Or.inl ⟨by rfl, ?_⟩) ?_ ?_); (rotate_left)
   ·(intro w'); (go_simp); (with_reducible rfl)
   rotate_left
   ·(simp only [Act.put, sTA, sCZ, sCS, i64_w, i32_w]); (rfl)
   (refine pure_ (i := 14) (N := some 17) (v := undef) (a' := ?_) #[I,I,I,I,I,I,I,I,I,I,I,I,I,I,I,O,O,O,O,O,O,O,O,O] rfl rfl (any_of HT_.out (by kernel_rfl)) (fun _ _ _ h => h) (Or.inr ⟨by rfl, rfl⟩) ?_ ?_); (rotate_left)
   ·(simp only [Act.put, sTA, sCZ, sCS, i64_w, i32_w]); (rfl)
   (refine pure_ (i := 15) (N := some 18) (v := undef) (a' := ?_) #[I,I,I,I,I,I,I,I,I,I,I,I,I,I,I,I,O,O,O,O,O,O,O,O] rfl rfl (any_of HT_.out (by kernel_rfl)) (fun _ _ _ h => h) (Or.inr ⟨by rfl, rfl⟩) ?_ ?_); (rotate_left)
   ·(simp only [Act.put, sTA, sCZ, sCS, i64_w, i32_w]); (rfl)
   (refine pure_ (i := 16) (N := some 19) (v := undef) (a' := ?_) #[I,I,I,I,I,I,I,I,I,I,I,I,I,I,I,I,I,O,O,O,O,O,O,O] rfl rfl (any_of HT_.out (by kernel_rfl)) (fun _ _ _ h => h) (Or.inr ⟨by rfl, rfl⟩) ?_ ?_); (rotate_left)
   ·(simp only [Act.put, sTA, sCZ, sCS, i64_w, i32_w]); (rfl)
   (refine pure_ (i := 17) (N := some 20) (v := undef) (a' := ?_) #[I,I,I,I,I,I,I,I,I,I,I,I,I,I,I,I,I,I,O,O,O,O,O,O] rfl rfl (any_of HT_.out (by kernel_rfl)) (fun _ _ _ h => h) (Or.inr ⟨by rfl, rfl⟩) ?_ ?_); (rotate_left)
   ·(simp only [Act.put, sTA, sCZ, sCS, i64_w, i32_w]); (rfl)
   (refine pure_ (i := 18) (N := some 21) (v := undef) (a' := ?_) #[I,I,I,I,I,I,I,I,I,I,I,I,I,I,I,I,I,I,I,O,O,O,O,O] rfl rfl (any_of HT_.out (by kernel_rfl)) (fun _ _ _ h => h) (Or.inr ⟨by rfl, rfl⟩) ?_ ?_); (rotate_left)
   ·(simp only [Act.put, sTA, sCZ, sCS, i64_w, i32_w]); (rfl)
   (refine pure_ (i := 19) (N := some 22) (v := undef) (a' := ?_) #[I,I,I,I,I,I,I,I,I,I,I,I,I,I,I,I,I,I,I,I,O,O,O,O] rfl rfl (any_of HT_.out (by kernel_rfl)) (fun _ _ _ h => h) (Or.inr ⟨by rfl, rfl⟩) ?_ ?_); (rotate_left)
   ·(simp only [Act.put, sTA, sCZ, sCS, i64_w, i32_w]); (rfl)
   (refine pure_ (i := 20) (N := some 23) (v := undef) (a' := ?_) #[I,I,I,I,I,I,I,I,I,I,I,I,I,I,I,I,I,I,I,I,I,O,O,O] rfl rfl (any_of HT_.out (by kernel_rfl)) (fun _ _ _ h => h) (Or.inr ⟨by rfl, rfl⟩) ?_ ?_); (rotate_left)
   ·(simp only [Act.put, sTA, sCZ, sCS, i64_w, i32_w]); (rfl)
   (refine pure_ (i := 21) (N := some 24) (v := undef) (a' := ?_) #[I,I,I,I,I,I,I,I,I,I,I,I,I,I,I,I,I,I,I,I,I,I,O,O] rfl rfl (any_of HT_.out (by kernel_rfl)) (fun _ _ _ h => h) (Or.inr ⟨by rfl, rfl⟩) ?_ ?_); (rotate_left)
   ·(simp only [Act.put, sTA, sCZ, sCS, i64_w, i32_w]); (rfl)
   (refine pu_ (i := 22) (N := some 25) (v := ?_) (a' := ?_) #[I,I,I,I,I,I,I,I,I,I,I,I,I,I,I,I,I,I,I,I,I,I,I,O] rfl rfl HT_.out (by kernel_rfl) (fun _ _ _ h => h) (Or.inl ⟨by rfl, ?_⟩) ?_ ?_); (rotate_left)
   ·(intro w'); (go_simp); (with_reducible rfl)
   rotate_left
   ·(simp only [Act.put, sTA, sCZ, sCS, i64_w, i32_w]); (rfl)
   (refine pu_ (i := 23) (N := some 2) (v := ?_) (a' := ?_) #[I,I,I,I,I,I,I,I,I,I,I,I,I,I,I,I,I,I,I,I,I,I,I,I] rfl rfl HT_.out (by kernel_rfl) (fun _ _ _ h => h) (Or.inl ⟨by rfl, ?_⟩) ?_ ?_); (rotate_left)
   ·(intro w'); (go_simp); (with_reducible rfl)
   rotate_left
   ·(simp only [Act.put, sTA, sCZ, sCS, i64_w, i32_w]); (rfl)
   (refine done_ (done_of HT_.out (by kernel_rfl)) ?_); (try go_wp2); (go_ret); (exact ⟨by first | rfl | (simp [errW_none, errW_some] <;> rfl) | (simp [*, errW_none, errW_some] <;> rfl), by with_reducible repeat (first | exact HB.out | apply lA | apply lN | apply lW | refine lS ?_ GE177.out)⟩)
 ·(rw [if_neg c2] at H); (have c2b0 : decide (0 ≤ a0_0) = false := decide_eq_false c2); clear c2; (obtain rfl := Option.some.inj H); (go_enter Tryz.func132, Tryz.ntmps132); (try go_wp2_with (first | ((with_reducible refine gate_dst (N := 1) rfl ?_); refine box_event ?hg (N := 1) ?hd (cs := #[.int .i64 a0_0, .int .i64 a0_1, .int .i64 a0_2]) (t := 51) ?hr ?_; (case hd => rfl); (case hg => rfl); (case hr => first | (go_simp; done) | (go_simp; rfl)); intro gb177 hg w13 hbox hb; have n0_ := aM (below_step (by with_reducible repeat (first | exact HB.out | apply lA | apply lN | apply lW)) hb); have n1_ := aM (hbox); have n2_ := aM ((by rw [hg]; exact (below_size (by with_reducible repeat (first | exact HB.out | apply lA | apply lN | apply lW))) : w.heap.size ≤ gb177)); have n3_ := aM ((by rw [hg]; exact (below_size (by with_reducible repeat (first | exact HB.out | apply lA | apply lN | apply lW))) : w.heap.size ≤ gb177)); clear HB; have HB := n0_; have BK177 := n1_; have GW177 := n2_; have GE177 := n3_; clear n0_ n1_ n2_ n3_; clear hb hbox hg))); (have n0_ := aM (qW BK177.out)); (have n1_ := aM (lW HB.out)); clear BK177; clear HB; (have BK177 := n0_); (have HB := n1_); clear n0_ n1_; (refine start_ (n := 24) (S := fun w' => w'.cell? ⟨gb177, 0, none⟩ = some (.int .i64 a0_0) ∧ w'.cell? ⟨gb177, 1, none⟩ = some (.int .i64 a0_1) ∧ w'.cell? ⟨gb177, 2, none⟩ = some (.int .i64 a0_2)) (ds := []) #[O,O,O,O,O,O,O,O,O,O,O,O,O,O,O,O,O,O,O,O,O,O,O,O] (by kernel_rfl) rfl rfl ⟨(qC BK177.out 0).trans rfl, (qC BK177.out 1).trans rfl, (qC BK177.out 2).trans rfl⟩ (fun hHeld => ?_); refine with_tabW civil_right.tab1 civil_right.bits1 (fun HT_ HW_ => ?_)); (generalize w13.drew = w14 at BK177 HB hHeld ⊢); (refine pu_ (i := 0) (N := some 3) (v := ?_) (a' := ?_) #[I,O,O,O,O,O,O,O,O,O,O,O,O,O,O,O,O,O,O,O,O,O,O,O] rfl rfl HT_.out (by kernel_rfl) (fun _ _ _ h => h) (Or.inl ⟨by rfl, ?_⟩) ?_ ?_); (rotate_left)
  ·(intro w'); (go_simp); (with_reducible rfl)
  rotate_left
  ·(simp only [Act.put, sTA, sCZ, sCS, i64_w, i32_w]); (rfl)
  (refine take_ (i := 1) (N := some 4) (v := ?_) (a' := ?_) #[I,I,O,O,O,O,O,O,O,O,O,O,O,O,O,O,O,O,O,O,O,O,O,O] rfl rfl (take_ofW HT_.out HW_.out (by kernel_rfl)) (fun _ _ _ h => h) (Or.inl ⟨by rfl, ?_⟩) hHeld ?_ ?_); (rotate_left)
  ·(rintro w' ⟨s0, s1, s2⟩); (go_simp); (with_reducible rfl)
  rotate_left
  ·(simp only [Act.put, sTA, sCZ, sCS, i64_w, i32_w]); (rfl)
  (refine pu_ (i := 2) (N := some 5) (v := ?_) (a' := ?_) #[I,I,I,O,O,O,O,O,O,O,O,O,O,O,O,O,O,O,O,O,O,O,O,O] rfl rfl HT_.out (by kernel_rfl) (fun _ _ _ h => h) (Or.inl ⟨by rfl, ?_⟩) ?_ ?_); (rotate_left)
  ·(intro w'); (go_simp); (with_reducible rfl)
  rotate_left
  ·(simp only [Act.put, sTA, sCZ, sCS, i64_w, i32_w]); (rfl)
  (refine pu_ (i := 3) (N := some 6) (v := ?_) (a' := ?_) #[I,I,I,I,O,O,O,O,O,O,O,O,O,O,O,O,O,O,O,O,O,O,O,O] rfl rfl HT_.out (by kernel_rfl) (fun _ _ _ h => h) (Or.inl ⟨by rfl, ?_⟩) ?_ ?_); (rotate_left)
  ·(intro w'); (go_simp); (with_reducible rfl)
  rotate_left
  ·(simp only [Act.put, sTA, sCZ, sCS, i64_w, i32_w]); (rfl)
  (refine pure_ (i := 4) (N := some 7) (v := undef) (a' := ?_) #[I,I,I,I,I,O,O,O,O,O,O,O,O,O,O,O,O,O,O,O,O,O,O,O] rfl rfl (any_of HT_.out (by kernel_rfl)) (fun _ _ _ h => h) (Or.inr ⟨by rfl, rfl⟩) ?_ ?_); (rotate_left)
  ·(simp only [Act.put, sTA, sCZ, sCS, i64_w, i32_w]); (rfl)
  (refine pure_ (i := 5) (N := some 8) (v := undef) (a' := ?_) #[I,I,I,I,I,I,O,O,O,O,O,O,O,O,O,O,O,O,O,O,O,O,O,O] rfl rfl (any_of HT_.out (by kernel_rfl)) (fun _ _ _ h => h) (Or.inr ⟨by rfl, rfl⟩) ?_ ?_); (rotate_left)
  ·(simp only [Act.put, sTA, sCZ, sCS, i64_w, i32_w]); (rfl)
  (refine pure_ (i := 6) (N := some 9) (v := undef) (a' := ?_) #[I,I,I,I,I,I,I,O,O,O,O,O,O,O,O,O,O,O,O,O,O,O,O,O] rfl rfl (any_of HT_.out (by kernel_rfl)) (fun _ _ _ h => h) (Or.inr ⟨by rfl, rfl⟩) ?_ ?_); (rotate_left)
  ·(simp only [Act.put, sTA, sCZ, sCS, i64_w, i32_w]); (rfl)
  (refine pu_ (i := 7) (N := some 10) (v := ?_) (a' := ?_) #[I,I,I,I,I,I,I,I,O,O,O,O,O,O,O,O,O,O,O,O,O,O,O,O] rfl rfl HT_.out (by kernel_rfl) (fun _ _ _ h => h) (Or.inl ⟨by rfl, ?_⟩) ?_ ?_); (rotate_left)
  ·(intro w'); (go_simp); (with_reducible rfl)
  rotate_left
  ·(simp only [Act.put, sTA, sCZ, sCS, i64_w, i32_w]); (rfl)
  (refine pu_ (i := 8) (N := some 11) (v := ?_) (a' := ?_) #[I,I,I,I,I,I,I,I,I,O,O,O,O,O,O,O,O,O,O,O,O,O,O,O] rfl rfl HT_.out (by kernel_rfl) (fun _ _ _ h => h) (Or.inl ⟨by rfl, ?_⟩) ?_ ?_); (rotate_left)
  ·(intro w'); (go_simp); (with_reducible rfl)
  rotate_left
  ·(simp only [Act.put, sTA, sCZ, sCS, i64_w, i32_w]); (rfl)
  (refine pure_ (i := 9) (N := some 12) (v := undef) (a' := ?_) #[I,I,I,I,I,I,I,I,I,I,O,O,O,O,O,O,O,O,O,O,O,O,O,O] rfl rfl (any_of HT_.out (by kernel_rfl)) (fun _ _ _ h => h) (Or.inr ⟨by rfl, rfl⟩) ?_ ?_); (rotate_left)
  ·(simp only [Act.put, sTA, sCZ, sCS, i64_w, i32_w]); (rfl)
  (refine pure_ (i := 10) (N := some 13) (v := undef) (a' := ?_) #[I,I,I,I,I,I,I,I,I,I,I,O,O,O,O,O,O,O,O,O,O,O,O,O] rfl rfl (any_of HT_.out (by kernel_rfl)) (fun _ _ _ h => h) (Or.inr ⟨by rfl, rfl⟩) ?_ ?_); (rotate_left)
  ·(simp only [Act.put, sTA, sCZ, sCS, i64_w, i32_w]); (rfl)
  (refine pure_ (i := 11) (N := some 14) (v := undef) (a' := ?_) #[I,I,I,I,I,I,I,I,I,I,I,I,O,O,O,O,O,O,O,O,O,O,O,O] rfl rfl (any_of HT_.out (by kernel_rfl)) (fun _ _ _ h => h) (Or.inr ⟨by rfl, rfl⟩) ?_ ?_); (rotate_left)
  ·(simp only [Act.put, sTA, sCZ, sCS, i64_w, i32_w]); (rfl)
  (refine pu_ (i := 12) (N := some 15) (v := ?_) (a' := ?_) #[I,I,I,I,I,I,I,I,I,I,I,I,I,O,O,O,O,O,O,O,O,O,O,O] rfl rfl HT_.out (by kernel_rfl) (fun _ _ _ h => h) (Or.inl ⟨by rfl, ?_⟩) ?_ ?_); (rotate_left)
  ·(intro w'); (go_simp); (with_reducible rfl)
  rotate_left
  ·(simp only [Act.put, sTA, sCZ, sCS, i64_w, i32_w]); (rfl)
  (refine pu_ (i := 13) (N := some 16) (v := ?_) (a' := ?_) #[I,I,I,I,I,I,I,I,I,I,I,I,I,I,O,O,O,O,O,O,O,O,O,O] rfl rfl HT_.out (by kernel_rfl) (fun _ _ _ h => h) (Or.inl ⟨by rfl, ?_⟩) ?_ ?_); (rotate_left)
  ·(intro w'); (go_simp); (with_reducible rfl)
  rotate_left
  ·(simp only [Act.put, sTA, sCZ, sCS, i64_w, i32_w]); (rfl)
  (refine pure_ (i := 14) (N := some 17) (v := undef) (a' := ?_) #[I,I,I,I,I,I,I,I,I,I,I,I,I,I,I,O,O,O,O,O,O,O,O,O] rfl rfl (any_of HT_.out (by kernel_rfl)) (fun _ _ _ h => h) (Or.inr ⟨by rfl, rfl⟩) ?_ ?_); (rotate_left)
  ·(simp only [Act.put, sTA, sCZ, sCS, i64_w, i32_w]); (rfl)
  (refine pure_ (i := 15) (N := some 18) (v := undef) (a' := ?_) #[I,I,I,I,I,I,I,I,I,I,I,I,I,I,I,I,O,O,O,O,O,O,O,O] rfl rfl (any_of HT_.out (by kernel_rfl)) (fun _ _ _ h => h) (Or.inr ⟨by rfl, rfl⟩) ?_ ?_); (rotate_left)
  ·(simp only [Act.put, sTA, sCZ, sCS, i64_w, i32_w]); (rfl)
  (refine pure_ (i := 16) (N := some 19) (v := undef) (a' := ?_) #[I,I,I,I,I,I,I,I,I,I,I,I,I,I,I,I,I,O,O,O,O,O,O,O] rfl rfl (any_of HT_.out (by kernel_rfl)) (fun _ _ _ h => h) (Or.inr ⟨by rfl, rfl⟩) ?_ ?_); (rotate_left)
  ·(simp only [Act.put, sTA, sCZ, sCS, i64_w, i32_w]); (rfl)
  (refine pure_ (i := 17) (N := some 20) (v := undef) (a' := ?_) #[I,I,I,I,I,I,I,I,I,I,I,I,I,I,I,I,I,I,O,O,O,O,O,O] rfl rfl (any_of HT_.out (by kernel_rfl)) (fun _ _ _ h => h) (Or.inr ⟨by rfl, rfl⟩) ?_ ?_); (rotate_left)
  ·(simp only [Act.put, sTA, sCZ, sCS, i64_w, i32_w]); (rfl)
  (refine pure_ (i := 18) (N := some 21) (v := undef) (a' := ?_) #[I,I,I,I,I,I,I,I,I,I,I,I,I,I,I,I,I,I,I,O,O,O,O,O] rfl rfl (any_of HT_.out (by kernel_rfl)) (fun _ _ _ h => h) (Or.inr ⟨by rfl, rfl⟩) ?_ ?_); (rotate_left)
  ·(simp only [Act.put, sTA, sCZ, sCS, i64_w, i32_w]); (rfl)
  (refine pure_ (i := 19) (N := some 22) (v := undef) (a' := ?_) #[I,I,I,I,I,I,I,I,I,I,I,I,I,I,I,I,I,I,I,I,O,O,O,O] rfl rfl (any_of HT_.out (by kernel_rfl)) (fun _ _ _ h => h) (Or.inr ⟨by rfl, rfl⟩) ?_ ?_); (rotate_left)
  ·(simp only [Act.put, sTA, sCZ, sCS, i64_w, i32_w]); (rfl)
  (refine pure_ (i := 20) (N := some 23) (v := undef) (a' := ?_) #[I,I,I,I,I,I,I,I,I,I,I,I,I,I,I,I,I,I,I,I,I,O,O,O] rfl rfl (any_of HT_.out (by kernel_rfl)) (fun _ _ _ h => h) (Or.inr ⟨by rfl, rfl⟩) ?_ ?_); (rotate_left)
  ·(simp only [Act.put, sTA, sCZ, sCS, i64_w, i32_w]); (rfl)
  (refine pure_ (i := 21) (N := some 24) (v := undef) (a' := ?_) #[I,I,I,I,I,I,I,I,I,I,I,I,I,I,I,I,I,I,I,I,I,I,O,O] rfl rfl (any_of HT_.out (by kernel_rfl)) (fun _ _ _ h => h) (Or.inr ⟨by rfl, rfl⟩) ?_ ?_); (rotate_left)
  ·(simp only [Act.put, sTA, sCZ, sCS, i64_w, i32_w]); (rfl)
  (refine pu_ (i := 22) (N := some 25) (v := ?_) (a' := ?_) #[I,I,I,I,I,I,I,I,I,I,I,I,I,I,I,I,I,I,I,I,I,I,I,O] rfl rfl HT_.out (by kernel_rfl) (fun _ _ _ h => h) (Or.inl ⟨by rfl, ?_⟩) ?_ ?_); (rotate_left)
  ·(intro w'); (go_simp); (with_reducible rfl)
  rotate_left
  ·(simp only [Act.put, sTA, sCZ, sCS, i64_w, i32_w]); (rfl)
  (refine pu_ (i := 23) (N := some 2) (v := ?_) (a' := ?_) #[I,I,I,I,I,I,I,I,I,I,I,I,I,I,I,I,I,I,I,I,I,I,I,I] rfl rfl HT_.out (by kernel_rfl) (fun _ _ _ h => h) (Or.inl ⟨by rfl, ?_⟩) ?_ ?_); (rotate_left)
  ·(intro w'); (go_simp); (with_reducible rfl)
  rotate_left
  ·(simp only [Act.put, sTA, sCZ, sCS, i64_w, i32_w]); (rfl)
  (refine done_ (done_of HT_.out (by kernel_rfl)) ?_); (try go_wp2); (go_ret); (exact ⟨by first | rfl | (simp [errW_none, errW_some] <;> rfl) | (simp [*, errW_none, errW_some] <;> rfl), by with_reducible repeat (first | exact HB.out | apply lA | apply lN | apply lW | refine lS ?_ GE177.out)⟩)
end Go.Proofs.YtjanombhdnoemaaGreatDoor.PRec
