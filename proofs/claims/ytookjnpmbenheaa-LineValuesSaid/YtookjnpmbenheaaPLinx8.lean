-- Printed by a program of this session's over the kit's printer; library functions by contracts off the shelf.
import Derived.Test.YtookjnpmbenheaaPLinx0
import Derived.Test.YtookjnpmbenheaaPLinx7
namespace Go.Proofs.Ytookjnpmbenheaa.PLin
open Go.RowKit Go.Proofs.YtookjnpmbenheaaW.PrintWords Go.Proofs.YtookjnpmbenheaaW.PrintLast Go.Proofs.YtookjnpmbenheaaW.PrintMore
attribute [local go_sem] max2_int min2_int max_two min_two max_three min_three max_four min_four   -- for this text's walks alone
set_option linter.unusedVariables false
set_option linter.unusedSimpArgs false
mutual
def solsticeref16_Line.j0 : Nat → Bool → ByteArray → List (S54) → ByteArray → Option (Bool)
 | 0, _, _, _, _ => none
 | k + 1, x15, x178000, x178001, x178002 => if x15 = true then (some false) else (solsticeref16_Line.l0 k 0 x178000 x178001 x178002)
def solsticeref16_Line.l0 : Nat → Int → ByteArray → List (S54) → ByteArray → Option (Bool)
 | 0, _, _, _, _ => none
 | k + 1, x3, x178000, x178001, x178002 => if x3 < (x178001.length : Int) then (if 0 ≤ x3 then ((solsticeref16_Name.f k ((rd_T54 x178001 x3).f0)).bind fun t182 => (if t182 = true then (solsticeref16_Line.j2 k x3 ((((rd_T54 x178001 x3).f1).length : Int) == 0) x178000 x178001 x178002 ((rd_T54 x178001 x3).f0) ((rd_T54 x178001 x3).f1)) else (solsticeref16_Line.j2 k x3 true x178000 x178001 x178002 ((rd_T54 x178001 x3).f0) ((rd_T54 x178001 x3).f1)))) else (none)) else (some true)
def solsticeref16_Line.j2 : Nat → Int → Bool → ByteArray → List (S54) → ByteArray → ByteArray → List ByteArray → Option (Bool)
 | 0, _, _, _, _, _, _, _ => none
 | k + 1, x3, x37, x178000, x178001, x178002, x182000, x182001 => if x37 = true then (some false) else (solsticeref16_Line.l1 k x3 0 x178000 x178001 x178002 x182000 x182001)
def solsticeref16_Line.l1 : Nat → Int → Int → ByteArray → List (S54) → ByteArray → ByteArray → List ByteArray → Option (Bool)
 | 0, _, _, _, _, _, _, _ => none
 | k + 1, x3, x5, x178000, x178001, x178002, x182000, x182001 => if x5 < (x182001.length : Int) then (if 0 ≤ x5 then ((solsticeref16_clean.f k (rdOf ByteArray.empty x182001 x5) true).bind fun t184 => (if t184 = true then (solsticeref16_Line.l1 k x3 (wrap64 (x5 + 1)) x178000 x178001 x178002 x182000 x182001) else (some false))) else (none)) else (solsticeref16_Line.l0 k (wrap64 (x3 + 1)) x178000 x178001 x178002)
end
def solsticeref16_Line.f (k : Nat) (a0_0 : ByteArray) (l0_1 : List (S54)) (a0_2 : ByteArray) : Option (Bool) := (solsticeref16_Name.f k a0_0).bind fun t178 => (if t178 = true then ((solsticeref16_clean.f k a0_2 false).bind fun t179 => (solsticeref16_Line.j0 k (!t179) a0_0 l0_1 a0_2)) else (solsticeref16_Line.j0 k true a0_0 l0_1 a0_2))
theorem solsticeref16_Line.mono_l : ∀ k, (∀ y0 y1 y2 y3, LeO (solsticeref16_Line.j0 k y0 y1 y2 y3) (solsticeref16_Line.j0 (k + 1) y0 y1 y2 y3)) ∧ (∀ y0 y1 y2 y3, LeO (solsticeref16_Line.l0 k y0 y1 y2 y3) (solsticeref16_Line.l0 (k + 1) y0 y1 y2 y3)) ∧ (∀ y0 y1 y2 y3 y4 y5 y6, LeO (solsticeref16_Line.j2 k y0 y1 y2 y3 y4 y5 y6) (solsticeref16_Line.j2 (k + 1) y0 y1 y2 y3 y4 y5 y6)) ∧ (∀ y0 y1 y2 y3 y4 y5 y6, LeO (solsticeref16_Line.l1 k y0 y1 y2 y3 y4 y5 y6) (solsticeref16_Line.l1 (k + 1) y0 y1 y2 y3 y4 y5 y6))
 | 0 => ⟨fun _ _ _ _ r h => by simp [solsticeref16_Line.j0] at h, fun _ _ _ _ r h => by simp [solsticeref16_Line.l0] at h, fun _ _ _ _ _ _ _ r h => by simp [solsticeref16_Line.j2] at h, fun _ _ _ _ _ _ _ r h => by simp [solsticeref16_Line.l1] at h⟩
 | k + 1 => by
  obtain ⟨ih0, ih1, ih2, ih3⟩ := solsticeref16_Line.mono_l k
  refine ⟨?_, ?_, ?_, ?_⟩
  ·intro y0 y1 y2 y3
   unfold solsticeref16_Line.j0
   repeat' first
   | (with_reducible exact ih0 _ _ _ _)
   | (with_reducible exact ih1 _ _ _ _)
   | (with_reducible exact ih2 _ _ _ _ _ _ _)
   | (with_reducible exact ih3 _ _ _ _ _ _ _)
   | (with_reducible exact solsticeref16_Name.mono _ _)
   | (with_reducible exact solsticeref16_clean.mono _ _ _)
   | (with_reducible exact LeO.refl _)
   | (with_reducible exact LeO.none _)
   | (with_reducible refine LeO.ite ?_ ?_)
   | (with_reducible refine LeO.bind ?_ (fun _ => ?_))
   | exact ih0 _ _ _ _
   | exact ih1 _ _ _ _
   | exact ih2 _ _ _ _ _ _ _
   | exact ih3 _ _ _ _ _ _ _
   | exact solsticeref16_Name.mono _ _
   | exact solsticeref16_clean.mono _ _ _
   | exact LeO.none _
   | refine LeO.ite ?_ ?_
   | refine LeO.bind ?_ (fun _ => ?_)
  ·intro y0 y1 y2 y3
   unfold solsticeref16_Line.l0
   repeat' first
   | (with_reducible exact ih0 _ _ _ _)
   | (with_reducible exact ih1 _ _ _ _)
   | (with_reducible exact ih2 _ _ _ _ _ _ _)
   | (with_reducible exact ih3 _ _ _ _ _ _ _)
   | (with_reducible exact solsticeref16_Name.mono _ _)
   | (with_reducible exact solsticeref16_clean.mono _ _ _)
   | (with_reducible exact LeO.refl _)
   | (with_reducible exact LeO.none _)
   | (with_reducible refine LeO.ite ?_ ?_)
   | (with_reducible refine LeO.bind ?_ (fun _ => ?_))
   | exact ih0 _ _ _ _
   | exact ih1 _ _ _ _
   | exact ih2 _ _ _ _ _ _ _
   | exact ih3 _ _ _ _ _ _ _
   | exact solsticeref16_Name.mono _ _
   | exact solsticeref16_clean.mono _ _ _
   | exact LeO.none _
   | refine LeO.ite ?_ ?_
   | refine LeO.bind ?_ (fun _ => ?_)
  ·intro y0 y1 y2 y3 y4 y5 y6
   unfold solsticeref16_Line.j2
   repeat' first
   | (with_reducible exact ih0 _ _ _ _)
   | (with_reducible exact ih1 _ _ _ _)
   | (with_reducible exact ih2 _ _ _ _ _ _ _)
   | (with_reducible exact ih3 _ _ _ _ _ _ _)
   | (with_reducible exact solsticeref16_Name.mono _ _)
   | (with_reducible exact solsticeref16_clean.mono _ _ _)
   | (with_reducible exact LeO.refl _)
   | (with_reducible exact LeO.none _)
   | (with_reducible refine LeO.ite ?_ ?_)
   | (with_reducible refine LeO.bind ?_ (fun _ => ?_))
   | exact ih0 _ _ _ _
   | exact ih1 _ _ _ _
   | exact ih2 _ _ _ _ _ _ _
   | exact ih3 _ _ _ _ _ _ _
   | exact solsticeref16_Name.mono _ _
   | exact solsticeref16_clean.mono _ _ _
   | exact LeO.none _
   | refine LeO.ite ?_ ?_
   | refine LeO.bind ?_ (fun _ => ?_)
  ·intro y0 y1 y2 y3 y4 y5 y6
   unfold solsticeref16_Line.l1
   repeat' first
   | (with_reducible exact ih0 _ _ _ _)
   | (with_reducible exact ih1 _ _ _ _)
   | (with_reducible exact ih2 _ _ _ _ _ _ _)
   | (with_reducible exact ih3 _ _ _ _ _ _ _)
   | (with_reducible exact solsticeref16_Name.mono _ _)
   | (with_reducible exact solsticeref16_clean.mono _ _ _)
   | (with_reducible exact LeO.refl _)
   | (with_reducible exact LeO.none _)
   | (with_reducible refine LeO.ite ?_ ?_)
   | (with_reducible refine LeO.bind ?_ (fun _ => ?_))
   | exact ih0 _ _ _ _
   | exact ih1 _ _ _ _
   | exact ih2 _ _ _ _ _ _ _
   | exact ih3 _ _ _ _ _ _ _
   | exact solsticeref16_Name.mono _ _
   | exact solsticeref16_clean.mono _ _ _
   | exact LeO.none _
   | refine LeO.ite ?_ ?_
   | refine LeO.bind ?_ (fun _ => ?_)
theorem solsticeref16_Line.mono : ∀ a0 a1 a2 k, LeO (solsticeref16_Line.f k a0 a1 a2) (solsticeref16_Line.f (k + 1) a0 a1 a2) := by
 intro a0 a1 a2 k
 obtain ⟨ih0, ih1, ih2, ih3⟩ := solsticeref16_Line.mono_l k
 unfold solsticeref16_Line.f
 repeat' first
   | (with_reducible exact ih0 _ _ _ _)
   | (with_reducible exact ih1 _ _ _ _)
   | (with_reducible exact ih2 _ _ _ _ _ _ _)
   | (with_reducible exact ih3 _ _ _ _ _ _ _)
   | (with_reducible exact solsticeref16_Name.mono _ _)
   | (with_reducible exact solsticeref16_clean.mono _ _ _)
   | (with_reducible exact LeO.refl _)
   | (with_reducible exact LeO.none _)
   | (with_reducible refine LeO.ite ?_ ?_)
   | (with_reducible refine LeO.bind ?_ (fun _ => ?_))
   | exact ih0 _ _ _ _
   | exact ih1 _ _ _ _
   | exact ih2 _ _ _ _ _ _ _
   | exact ih3 _ _ _ _ _ _ _
   | exact solsticeref16_Name.mono _ _
   | exact solsticeref16_clean.mono _ _ _
   | exact LeO.none _
   | refine LeO.ite ?_ ?_
   | refine LeO.bind ?_ (fun _ => ?_)
set_option maxHeartbeats 8000000 in
set_option maxRecDepth 100000 in
theorem solsticeref16_Line.calls (k : Nat) (a0_0 : ByteArray) (A0_1 : Option Addr) (c0_1 : Nat) (l0_1 : List (S54)) (a0_2 : ByteArray) (r : Bool) (w : World) (hr0_1 : Kd.C k54 w A0_1 l0_1.length l0_1) (hc0_1 : l0_1.length ≤ c0_1) (h : solsticeref16_Line.f k a0_0 l0_1 a0_2 = some r) :
  Calls Try.prog 30 #[.agg #[.string a0_0, .slice A0_1 l0_1.length c0_1, .string a0_2]] w fun e w' => e = .returned (.bool r) ∧ Below w.heap.size w w' := by
 have hu38 := Try.underlying38
 have hu54 := Try.underlying54
 have HR0_1 := Aside0.mk hr0_1
 have HC0_1 := Aside0.mk hc0_1
 clear hr0_1 hc0_1
 have HB := Aside0.mk (Below.refl w.heap.size w)
 have H : ((solsticeref16_Name.f k a0_0).bind fun t178 => (if t178 = true then ((solsticeref16_clean.f k a0_2 false).bind fun t179 => (solsticeref16_Line.j0 k (!t179) a0_0 l0_1 a0_2)) else (solsticeref16_Line.j0 k true a0_0 l0_1 a0_2))) = some r := h
 clear h
 have HC2 := Aside0.mk H
 clear H
 go_enter Try.func30, Try.ntmps30
 go_upto_region 1 with (first | ((with_reducible refine gate_dst (N := 1) rfl ?_); (try (refine gate_guard (by rfl) ?_; dsimp only)); refine box_event ?hg (N := 1) ?hd (cs := #[.string a0_0, .slice A0_1 l0_1.length c0_1, .string a0_2]) (t := 38) ?hr ?_; (case hd => rfl); (case hg => rfl); (case hr => first | (go_simp; done) | (go_simp; rfl)); intro gb177 hg w3 hbox hb; have n0_ := Aside0.mk (below_step (by repeat (first | (with_reducible first | exact HB.out | apply below_alloc | apply pw_below_drewN | apply below_drew1) | exact HB.out)) hb); have n1_ := Aside0.mk (hbox); have n2_ := Aside0.mk ((by rw [hg]; exact (below_size (by repeat (first | (with_reducible first | exact HB.out | apply below_alloc | apply pw_below_drewN | apply below_drew1) | exact HB.out))) : w.heap.size ≤ gb177)); have n3_ := Aside0.mk ((by rw [hg]; exact (below_size (by repeat (first | (with_reducible first | exact HB.out | apply below_alloc | apply pw_below_drewN | apply below_drew1) | exact HB.out))) : w.heap.size ≤ gb177)); clear HB; have HB := n0_; have BK177 := n1_; have GW177 := n2_; have GE177 := n3_; clear n0_ n1_ n2_ n3_; clear hb hbox hg))
 (try simp only [Act.put, List.setIfInBounds_toArray, List.set_cons_zero, List.set_cons_succ])
 go_cut [15] (fun v15 wc => ∃ (kq : Nat) (x15_1 : Bool), v15 = .bool x15_1 ∧ Aside0 (solsticeref16_Line.j0 kq x15_1 a0_0 l0_1 a0_2 = some r) ∧ Aside0 (kq ≤ k) ∧ Aside0 (wc.heap[gb177]? = some (.cells #[.string a0_0, (.slice A0_1 l0_1.length c0_1), .string a0_2] 38 (0, 0))) ∧ Aside0 (Below w.heap.size w wc))
 case first =>
  have H := HC2.out
  clear HC2
  replace H := Option.bind_eq_some_iff.mp H
  obtain ⟨t178, A40, H⟩ := H
  replace H : (if t178 = true then ((solsticeref16_clean.f k a0_2 false).bind fun t179 => (solsticeref16_Line.j0 k (!t179) a0_0 l0_1 a0_2)) else (solsticeref16_Line.j0 k true a0_0 l0_1 a0_2)) = some r := H
  have A4 := Aside0.mk A40
  clear A40
  by_cases c5 : t178 = true
  ·subst c5
   have H1 : ((solsticeref16_clean.f k a0_2 false).bind fun t179 => (solsticeref16_Line.j0 k (!t179) a0_0 l0_1 a0_2)) = some r := by rw [if_pos rfl] at H; exact H
   clear H
   have H := H1
   clear H1
   replace H := Option.bind_eq_some_iff.mp H
   obtain ⟨t179, A60, H⟩ := H
   replace H : (solsticeref16_Line.j0 k (!t179) a0_0 l0_1 a0_2) = some r := H
   have A6 := Aside0.mk A60
   clear A60
   have H' := Aside0.mk H
   clear H
   have hcz7_0 : w3.cell? ⟨gb177, 0, none⟩ = some (.string a0_0) := (blk_cell BK177.out 0).trans rfl
   have hcz7_1 : w3.cell? ⟨gb177, 1, none⟩ = some (.slice A0_1 l0_1.length c0_1) := (blk_cell BK177.out 1).trans rfl
   have hcz7_2 : w3.cell? ⟨gb177, 2, none⟩ = some (.string a0_2) := (blk_cell BK177.out 2).trans rfl
   have hfz7_0 := blk_frozen BK177.out 0
   have hfz7_1 := blk_frozen BK177.out 1
   have hfz7_2 := blk_frozen BK177.out 2
   go_wp2_with (first | ((with_reducible refine gate_callee (f := 49) rfl ?_); refine goesL_ (some 8) rfl rfl Try.func49 (by kernel_rfl) rfl #[.string a0_0] rfl (by (try simp only [List.map_toArray, List.map_cons, List.map_nil]); first | done | rfl | (simp only [List.length_drop, List.length_take]; rfl)) ?_; (with_reducible refine (solsticeref16_Name.calls k a0_0 true _ A4.out).mono ?_); rintro e w' ⟨rfl, ⟨nd, rfl⟩⟩; refine ⟨_, rfl, ?_⟩) | (go_at_call 50; (with_reducible refine (solsticeref16_clean.calls k a0_2 false t179 _ A6.out).mono ?_); rintro e w' ⟨rfl, ⟨nd, rfl⟩⟩))
   go_meet
   case rel => exact ⟨_, (!t179), (by first | rfl | (simp; done) | (simp [*]; done)), H', ⟨by first | omega | exact Nat.le_refl _⟩, ⟨by (with_reducible repeat (first | refine blk_drewN ?_ _ | refine blk_drew ?_ | refine blk_alloc ?_ _)); exact BK177.out⟩, ⟨by repeat (first | (with_reducible first | exact HB.out | apply below_alloc | apply pw_below_drewN | apply below_drew1 | refine below_set ?_ GE177.out) | exact HB.out)⟩⟩
  ·replace c5 := Bool.eq_false_iff.mpr c5
   subst c5
   have H1 : (solsticeref16_Line.j0 k true a0_0 l0_1 a0_2) = some r := by rw [if_neg (show ¬ (false = true) by decide)] at H; exact H
   clear H
   have H := H1
   clear H1
   have H' := Aside0.mk H
   clear H
   have hcz8_0 : w3.cell? ⟨gb177, 0, none⟩ = some (.string a0_0) := (blk_cell BK177.out 0).trans rfl
   have hcz8_1 : w3.cell? ⟨gb177, 1, none⟩ = some (.slice A0_1 l0_1.length c0_1) := (blk_cell BK177.out 1).trans rfl
   have hcz8_2 : w3.cell? ⟨gb177, 2, none⟩ = some (.string a0_2) := (blk_cell BK177.out 2).trans rfl
   have hfz8_0 := blk_frozen BK177.out 0
   have hfz8_1 := blk_frozen BK177.out 1
   have hfz8_2 := blk_frozen BK177.out 2
   go_wp2_with (first | ((with_reducible refine gate_callee (f := 49) rfl ?_); refine goesL_ (some 8) rfl rfl Try.func49 (by kernel_rfl) rfl #[.string a0_0] rfl (by (try simp only [List.map_toArray, List.map_cons, List.map_nil]); first | done | rfl | (simp only [List.length_drop, List.length_take]; rfl)) ?_; (with_reducible refine (solsticeref16_Name.calls k a0_0 false _ A4.out).mono ?_); rintro e w' ⟨rfl, ⟨nd, rfl⟩⟩; refine ⟨_, rfl, ?_⟩))
   go_meet
   case rel => exact ⟨_, (true), (by first | rfl | (simp; done) | (simp [*]; done)), H', ⟨by first | omega | exact Nat.le_refl _⟩, ⟨by (with_reducible repeat (first | refine blk_drewN ?_ _ | refine blk_drew ?_ | refine blk_alloc ?_ _)); exact BK177.out⟩, ⟨by repeat (first | (with_reducible first | exact HB.out | apply below_alloc | apply pw_below_drewN | apply below_drew1 | refine below_set ?_ GE177.out) | exact HB.out)⟩⟩
 case rest =>
  as_aux_lemma =>
   clear HC2
   try clear p2
   try clear c3
   try clear c4
   try clear c5
   try clear hcz7_0
   try clear hcz7_1
   try clear hcz7_2
   try clear hcz8_0
   try clear hcz8_1
   try clear hcz8_2
   try clear hfz7_0
   try clear hfz7_1
   try clear hfz7_2
   try clear hfz8_0
   try clear hfz8_1
   try clear hfz8_2
   obtain ⟨kq, x15_1, rfl, HA, HJ1, BK177, HB⟩ := hcut
   cases kq with
   | zero => exact absurd HA.out (by simp [solsticeref16_Line.j0])
   | succ kj1 =>
    have H := HA.out
    clear HA
    simp only [solsticeref16_Line.j0] at H
    by_cases c9 : x15_1 = true
    ·subst c9
     have H1 : (some false) = some r := by rw [if_pos rfl] at H; exact H
     clear H
     have H := H1
     clear H1
     obtain rfl := Option.some.inj H
     go_wp2
     go_ret
     exact ⟨by first | rfl | (simp [errW_none, errW_some] <;> rfl) | (simp [*, errW_none, errW_some] <;> rfl), by repeat (first | (with_reducible first | exact HB.out | apply below_alloc | apply pw_below_drewN | apply below_drew1 | refine below_set ?_ GE177.out) | exact HB.out)⟩
    ·replace c9 := Bool.eq_false_iff.mpr c9
     subst c9
     have H1 : (solsticeref16_Line.l0 kj1 0 a0_0 l0_1 a0_2) = some r := by rw [if_neg (show ¬ (false = true) by decide)] at H; exact H
     clear H
     have H := H1
     clear H1
     have H' := Aside0.mk H
     clear H
     go_wp2
     go_loopg [3] kj1 (fun kq v3 w' => ∃ (x3_2 : Int), v3 = .int .i64 x3_2 ∧ Aside0 (solsticeref16_Line.l0 kq x3_2 a0_0 l0_1 a0_2 = some r) ∧ Aside0 (kq ≤ kj1) ∧ Aside0 (w'.heap[gb177]? = some (.cells #[.string a0_0, (.slice A0_1 l0_1.length c0_1), .string a0_2] 38 (0, 0))) ∧ Aside0 (Below w.heap.size w w'))
     case atStart => exact ⟨(0), (by first | rfl | (simp; done) | (simp [*]; done)), H', ⟨Nat.le_refl _⟩, ⟨by (with_reducible repeat (first | refine blk_drewN ?_ _ | refine blk_drew ?_ | refine blk_alloc ?_ _)); exact BK177.out⟩, ⟨by repeat (first | (with_reducible first | exact HB.out | apply below_alloc | apply pw_below_drewN | apply below_drew1 | refine below_set ?_ GE177.out) | exact HB.out)⟩⟩
     case round =>
      as_aux_lemma =>
       clear H'
       try clear p2
       try clear c3
       try clear c4
       try clear c5
       try clear c9
       try clear hcz7_0
       try clear hcz7_1
       try clear hcz7_2
       try clear hcz8_0
       try clear hcz8_1
       try clear hcz8_2
       try clear hfz7_0
       try clear hfz7_1
       try clear hfz7_2
       try clear hfz8_0
       try clear hfz8_1
       try clear hfz8_2
       try clear p2
       obtain ⟨x3_2, rfl, HA, HK2, BK177, HB⟩ := hrel
       cases gk with
       | zero => exact absurd HA.out (by simp [solsticeref16_Line.l0])
       | succ k2 =>
        have H := HA.out
        clear HA
        simp only [solsticeref16_Line.l0] at H
        by_cases c10 : x3_2 < (l0_1.length : Int)
        ·rw [if_pos c10] at H
         have c10b0 : decide (x3_2 < (l0_1.length : Int)) = true := decide_eq_true c10
         clear c10
         by_cases c11 : 0 ≤ x3_2
         ·rw [if_pos c11] at H
          have c11b0 : decide (0 ≤ x3_2) = true := decide_eq_true c11
          clear c11
          have HC12 := Aside0.mk H
          clear H
          have hcz13_0 : wr.cell? ⟨gb177, 0, none⟩ = some (.string a0_0) := (blk_cell BK177.out 0).trans rfl
          have hcz13_1 : wr.cell? ⟨gb177, 1, none⟩ = some (.slice A0_1 l0_1.length c0_1) := (blk_cell BK177.out 1).trans rfl
          have hcz13_2 : wr.cell? ⟨gb177, 2, none⟩ = some (.string a0_2) := (blk_cell BK177.out 2).trans rfl
          have hfz13_0 := blk_frozen BK177.out 0
          have hfz13_1 := blk_frozen BK177.out 1
          have hfz13_2 := blk_frozen BK177.out 2
          have p180 : 0 ≤ (x3_2 : Int) := of_decide_eq_true (by first | (with_reducible assumption) | assumption)
          have q180 : x3_2 < (l0_1.length : Int) := of_decide_eq_true (by first | (with_reducible assumption) | assumption)
          obtain ⟨ad180, A180_1, c180_1, e180, hx180_0, hx180_1, hl180_1, hi180_1⟩ := at_T54 HR0_1.out x3_2 p180 q180
          cases e180
          replace hx180_0 := (HB.out.cell (World.block_lt_of_cell? w _ hx180_0)).trans hx180_0
          replace hx180_1 := (HB.out.cell (World.block_lt_of_cell? w _ hx180_1)).trans hx180_1
          have HR180_1 := Aside0.mk hi180_1
          have HC180_1 := Aside0.mk hl180_1
          clear hi180_1 hl180_1
          replace p180 := eq_true p180
          replace q180 := eq_true q180
          go_upto_region 7 with (first | ((with_reducible refine gate_dst (N := 4) rfl ?_); (try (refine gate_guard (by rfl) ?_; dsimp only)); refine box_event ?hg (N := 4) ?hd (cs := #[.string (⟨#[]⟩ : ByteArray), .slice none 0 0]) (t := 54) ?hr ?_; (case hd => rfl); (case hg => rfl); (case hr => first | (go_simp; done) | (go_simp; rfl)); intro gb181 hg w14 hbox hb; have n0_ := Aside0.mk (blk_below (g := gb177) (o := .cells #[.string a0_0, .slice (some ad180) l0_1.length c0_1, .string a0_2] 38 (0, 0)) (by (with_reducible repeat (first | refine blk_drewN ?_ _ | refine blk_drew ?_ | refine blk_alloc ?_ _)); exact BK177.out) hb); have n1_ := Aside0.mk (below_step (by repeat (first | (with_reducible first | exact HB.out | apply below_alloc | apply pw_below_drewN | apply below_drew1 | refine below_set ?_ GE177.out) | exact HB.out)) hb); have n2_ := Aside0.mk (hbox); have n3_ := Aside0.mk ((by rw [hg]; exact (below_size (by repeat (first | (with_reducible first | exact HB.out | apply below_alloc | apply pw_below_drewN | apply below_drew1 | refine below_set ?_ GE177.out) | exact HB.out))) : w.heap.size ≤ gb181)); have n4_ := Aside0.mk ((by rw [hg]; exact (below_size (by repeat (first | (with_reducible first | exact HB.out | apply below_alloc | apply pw_below_drewN | apply below_drew1 | refine below_set ?_ GE177.out) | exact HB.out))) : w.heap.size ≤ gb181)); have n5_ := Aside0.mk ((by rw [hg]; exact Nat.ne_of_lt (blk_lt (g := gb177) (o := .cells #[.string a0_0, .slice (some ad180) l0_1.length c0_1, .string a0_2] 38 (0, 0)) (by (with_reducible repeat (first | refine blk_drewN ?_ _ | refine blk_drew ?_ | refine blk_alloc ?_ _)); exact BK177.out)) : gb177 ≠ gb181)); have n6_ := Aside0.mk ((by rw [hg]; exact Nat.ne_of_gt (blk_lt (g := gb177) (o := .cells #[.string a0_0, .slice (some ad180) l0_1.length c0_1, .string a0_2] 38 (0, 0)) (by (with_reducible repeat (first | refine blk_drewN ?_ _ | refine blk_drew ?_ | refine blk_alloc ?_ _)); exact BK177.out)) : gb181 ≠ gb177)); clear BK177; clear HB; have BK177 := n0_; have HB := n1_; have BK181 := n2_; have GW181 := n3_; have GE181 := n4_; have NB177_181 := n5_; have NB181_177 := n6_; clear n0_ n1_ n2_ n3_ n4_ n5_ n6_; clear hb hbox hg; have hnb15 := NB181_177.out; have hnc15 := NB177_181.out; have hcz16_0 : w14.cell? ⟨gb181, 0, none⟩ = some (.string (⟨#[]⟩ : ByteArray)) := (blk_cell BK181.out 0).trans rfl; have hcz16_1 : w14.cell? ⟨gb181, 1, none⟩ = some (.slice none 0 0) := (blk_cell BK181.out 1).trans rfl; have hfz16_0 := blk_frozen BK181.out 0; have hfz16_1 := blk_frozen BK181.out 1))
          (try simp only [Act.put, List.setIfInBounds_toArray, List.set_cons_zero, List.set_cons_succ])
          go_cut [37] (fun v37 wc => ∃ (kq : Nat) (x37_11 : Bool), v37 = .bool x37_11 ∧ Aside0 (solsticeref16_Line.j2 kq x3_2 x37_11 a0_0 l0_1 a0_2 ((rd_T54 l0_1 x3_2).f0) ((rd_T54 l0_1 x3_2).f1) = some r) ∧ Aside0 (kq ≤ k2) ∧ Aside0 (wc.heap[gb177]? = some (.cells #[.string a0_0, (.slice (some ad180) l0_1.length c0_1), .string a0_2] 38 (0, 0))) ∧ Aside0 (wc.heap[gb181]? = some (.cells #[.string ((rd_T54 l0_1 x3_2).f0), (.slice A180_1 ((rd_T54 l0_1 x3_2).f1).length c180_1)] 54 (0, 0))) ∧ Aside0 (Below w.heap.size w wc))
          case first =>
           have H := HC12.out
           clear HC12
           replace H := Option.bind_eq_some_iff.mp H
           obtain ⟨t182, A170, H⟩ := H
           replace H : (if t182 = true then (solsticeref16_Line.j2 k2 x3_2 ((((rd_T54 l0_1 x3_2).f1).length : Int) == 0) a0_0 l0_1 a0_2 ((rd_T54 l0_1 x3_2).f0) ((rd_T54 l0_1 x3_2).f1)) else (solsticeref16_Line.j2 k2 x3_2 true a0_0 l0_1 a0_2 ((rd_T54 l0_1 x3_2).f0) ((rd_T54 l0_1 x3_2).f1))) = some r := H
           have A17 := Aside0.mk A170
           clear A170
           by_cases c18 : t182 = true
           ·subst c18
            have H1 : (solsticeref16_Line.j2 k2 x3_2 ((((rd_T54 l0_1 x3_2).f1).length : Int) == 0) a0_0 l0_1 a0_2 ((rd_T54 l0_1 x3_2).f0) ((rd_T54 l0_1 x3_2).f1)) = some r := by rw [if_pos rfl] at H; exact H
            clear H
            have H := H1
            clear H1
            have H' := Aside0.mk H
            clear H
            have hnb19 := NB181_177.out
            have hnc19 := NB177_181.out
            have hcz20_0 : w14.cell? ⟨gb181, 0, none⟩ = some (.string (⟨#[]⟩ : ByteArray)) := (blk_cell BK181.out 0).trans rfl
            have hcz20_1 : w14.cell? ⟨gb181, 1, none⟩ = some (.slice none 0 0) := (blk_cell BK181.out 1).trans rfl
            have hfz20_0 := blk_frozen BK181.out 0
            have hfz20_1 := blk_frozen BK181.out 1
            go_wp2_with (first | ((with_reducible refine gate_callee (f := 49) rfl ?_); refine goesL_ (some 30) rfl rfl Try.func49 (by kernel_rfl) rfl #[.string ((rd_T54 l0_1 x3_2).f0)] rfl (by (try simp only [List.map_toArray, List.map_cons, List.map_nil]); first | done | rfl | (simp only [List.length_drop, List.length_take]; rfl)) ?_; (with_reducible refine (solsticeref16_Name.calls k2 ((rd_T54 l0_1 x3_2).f0) true _ A17.out).mono ?_); rintro e w' ⟨rfl, ⟨nd, rfl⟩⟩; refine ⟨_, rfl, ?_⟩))
            go_meet
            case rel => exact ⟨_, (((((rd_T54 l0_1 x3_2).f1).length : Int) == 0)), (by first | rfl | (simp; done) | (simp [*]; done)), H', ⟨by have := HJ1.out; have := HK2.out; first | omega | exact Nat.le_refl _⟩, ⟨by (with_reducible repeat (first | refine blk_drewN ?_ _ | refine blk_drew ?_ | refine blk_alloc ?_ _)); refine blk_far ?_ NB177_181.out _; (with_reducible repeat (first | refine blk_drewN ?_ _ | refine blk_drew ?_ | refine blk_alloc ?_ _)); refine blk_far ?_ NB177_181.out _; (with_reducible repeat (first | refine blk_drewN ?_ _ | refine blk_drew ?_ | refine blk_alloc ?_ _)); exact BK177.out⟩, ⟨by (with_reducible repeat (first | refine blk_drewN ?_ _ | refine blk_drew ?_ | refine blk_alloc ?_ _)); refine blk_put (cs := #[.string ((rd_T54 l0_1 x3_2).f0), .slice none 0 0]) ?_ 1 _ rfl; (with_reducible repeat (first | refine blk_drewN ?_ _ | refine blk_drew ?_ | refine blk_alloc ?_ _)); refine blk_put (cs := #[.string (⟨#[]⟩ : ByteArray), .slice none 0 0]) ?_ 0 _ rfl; (with_reducible repeat (first | refine blk_drewN ?_ _ | refine blk_drew ?_ | refine blk_alloc ?_ _)); exact BK181.out⟩, ⟨by repeat (first | (with_reducible first | exact HB.out | apply below_alloc | apply pw_below_drewN | apply below_drew1 | refine below_set ?_ GE177.out | refine below_set ?_ GE181.out) | exact HB.out)⟩⟩
           ·replace c18 := Bool.eq_false_iff.mpr c18
            subst c18
            have H1 : (solsticeref16_Line.j2 k2 x3_2 true a0_0 l0_1 a0_2 ((rd_T54 l0_1 x3_2).f0) ((rd_T54 l0_1 x3_2).f1)) = some r := by rw [if_neg (show ¬ (false = true) by decide)] at H; exact H
            clear H
            have H := H1
            clear H1
            have H' := Aside0.mk H
            clear H
            have hnb21 := NB181_177.out
            have hnc21 := NB177_181.out
            have hcz22_0 : w14.cell? ⟨gb181, 0, none⟩ = some (.string (⟨#[]⟩ : ByteArray)) := (blk_cell BK181.out 0).trans rfl
            have hcz22_1 : w14.cell? ⟨gb181, 1, none⟩ = some (.slice none 0 0) := (blk_cell BK181.out 1).trans rfl
            have hfz22_0 := blk_frozen BK181.out 0
            have hfz22_1 := blk_frozen BK181.out 1
            go_wp2_with (first | ((with_reducible refine gate_callee (f := 49) rfl ?_); refine goesL_ (some 30) rfl rfl Try.func49 (by kernel_rfl) rfl #[.string ((rd_T54 l0_1 x3_2).f0)] rfl (by (try simp only [List.map_toArray, List.map_cons, List.map_nil]); first | done | rfl | (simp only [List.length_drop, List.length_take]; rfl)) ?_; (with_reducible refine (solsticeref16_Name.calls k2 ((rd_T54 l0_1 x3_2).f0) false _ A17.out).mono ?_); rintro e w' ⟨rfl, ⟨nd, rfl⟩⟩; refine ⟨_, rfl, ?_⟩))
            go_meet
            case rel => exact ⟨_, (true), (by first | rfl | (simp; done) | (simp [*]; done)), H', ⟨by have := HJ1.out; have := HK2.out; first | omega | exact Nat.le_refl _⟩, ⟨by (with_reducible repeat (first | refine blk_drewN ?_ _ | refine blk_drew ?_ | refine blk_alloc ?_ _)); refine blk_far ?_ NB177_181.out _; (with_reducible repeat (first | refine blk_drewN ?_ _ | refine blk_drew ?_ | refine blk_alloc ?_ _)); refine blk_far ?_ NB177_181.out _; (with_reducible repeat (first | refine blk_drewN ?_ _ | refine blk_drew ?_ | refine blk_alloc ?_ _)); exact BK177.out⟩, ⟨by (with_reducible repeat (first | refine blk_drewN ?_ _ | refine blk_drew ?_ | refine blk_alloc ?_ _)); refine blk_put (cs := #[.string ((rd_T54 l0_1 x3_2).f0), .slice none 0 0]) ?_ 1 _ rfl; (with_reducible repeat (first | refine blk_drewN ?_ _ | refine blk_drew ?_ | refine blk_alloc ?_ _)); refine blk_put (cs := #[.string (⟨#[]⟩ : ByteArray), .slice none 0 0]) ?_ 0 _ rfl; (with_reducible repeat (first | refine blk_drewN ?_ _ | refine blk_drew ?_ | refine blk_alloc ?_ _)); exact BK181.out⟩, ⟨by repeat (first | (with_reducible first | exact HB.out | apply below_alloc | apply pw_below_drewN | apply below_drew1 | refine below_set ?_ GE177.out | refine below_set ?_ GE181.out) | exact HB.out)⟩⟩
          case rest =>
           as_aux_lemma =>
            clear HC12
            try clear c1
            try clear p1
            try clear q1
            try clear hx1
            try clear c2
            try clear p2
            try clear c3
            try clear c4
            try clear c5
            try clear c9
            try clear c10
            try clear c10b0
            try clear c11
            try clear c11b0
            try clear c15
            try clear c18
            try clear p18
            try clear q18
            try clear hx18
            try clear c19
            try clear c21
            try clear hcz13_0
            try clear hcz13_1
            try clear hcz13_2
            try clear hcz16_0
            try clear hcz16_1
            try clear hcz20_0
            try clear hcz20_1
            try clear hcz22_0
            try clear hcz22_1
            try clear hcz7_0
            try clear hcz7_1
            try clear hcz7_2
            try clear hcz8_0
            try clear hcz8_1
            try clear hcz8_2
            try clear hfz13_0
            try clear hfz13_1
            try clear hfz13_2
            try clear hfz16_0
            try clear hfz16_1
            try clear hfz20_0
            try clear hfz20_1
            try clear hfz22_0
            try clear hfz22_1
            try clear hfz7_0
            try clear hfz7_1
            try clear hfz7_2
            try clear hfz8_0
            try clear hfz8_1
            try clear hfz8_2
            try clear hx180_0
            try clear hx180_1
            try clear p180
            try clear p2
            try clear q180
            obtain ⟨kq, x37_11, rfl, HA, HJ11, BK177, BK181, HB⟩ := hcut
            cases kq with
            | zero => exact absurd HA.out (by simp [solsticeref16_Line.j2])
            | succ kj11 =>
             have H := HA.out
             clear HA
             simp only [solsticeref16_Line.j2] at H
             by_cases c23 : x37_11 = true
             ·subst c23
              have H1 : (some false) = some r := by rw [if_pos rfl] at H; exact H
              clear H
              have H := H1
              clear H1
              obtain rfl := Option.some.inj H
              go_wp2
              go_ret
              exact ⟨by first | rfl | (simp [errW_none, errW_some] <;> rfl) | (simp [*, errW_none, errW_some] <;> rfl), by repeat (first | (with_reducible first | exact HB.out | apply below_alloc | apply pw_below_drewN | apply below_drew1 | refine below_set ?_ GE177.out | refine below_set ?_ GE181.out) | exact HB.out)⟩
             ·replace c23 := Bool.eq_false_iff.mpr c23
              subst c23
              have H1 : (solsticeref16_Line.l1 kj11 x3_2 0 a0_0 l0_1 a0_2 ((rd_T54 l0_1 x3_2).f0) ((rd_T54 l0_1 x3_2).f1)) = some r := by rw [if_neg (show ¬ (false = true) by decide)] at H; exact H
              clear H
              have H := H1
              clear H1
              have H' := Aside0.mk H
              clear H
              go_wp2
              go_loopg [5] kj11 (fun kq v5 w' => ∃ (x5_4 : Int), v5 = .int .i64 x5_4 ∧ Aside0 (solsticeref16_Line.l1 kq x3_2 x5_4 a0_0 l0_1 a0_2 ((rd_T54 l0_1 x3_2).f0) ((rd_T54 l0_1 x3_2).f1) = some r) ∧ Aside0 (kq ≤ kj11) ∧ Aside0 (w'.heap[gb177]? = some (.cells #[.string a0_0, (.slice (some ad180) l0_1.length c0_1), .string a0_2] 38 (0, 0))) ∧ Aside0 (w'.heap[gb181]? = some (.cells #[.string ((rd_T54 l0_1 x3_2).f0), (.slice A180_1 ((rd_T54 l0_1 x3_2).f1).length c180_1)] 54 (0, 0))) ∧ Aside0 (Below w.heap.size w w'))
              case atStart => exact ⟨(0), (by first | rfl | (simp; done) | (simp [*]; done)), H', ⟨Nat.le_refl _⟩, ⟨by (with_reducible repeat (first | refine blk_drewN ?_ _ | refine blk_drew ?_ | refine blk_alloc ?_ _)); exact BK177.out⟩, ⟨by (with_reducible repeat (first | refine blk_drewN ?_ _ | refine blk_drew ?_ | refine blk_alloc ?_ _)); exact BK181.out⟩, ⟨by repeat (first | (with_reducible first | exact HB.out | apply below_alloc | apply pw_below_drewN | apply below_drew1 | refine below_set ?_ GE177.out | refine below_set ?_ GE181.out) | exact HB.out)⟩⟩
              case round =>
               as_aux_lemma =>
                clear H'
                try clear c1
                try clear p1
                try clear q1
                try clear hx1
                try clear c2
                try clear p2
                try clear c3
                try clear c4
                try clear c5
                try clear c9
                try clear c10
                try clear c10b0
                try clear c11
                try clear c11b0
                try clear c15
                try clear c18
                try clear p18
                try clear q18
                try clear hx18
                try clear c19
                try clear c21
                try clear c23
                try clear hcz13_0
                try clear hcz13_1
                try clear hcz13_2
                try clear hcz16_0
                try clear hcz16_1
                try clear hcz20_0
                try clear hcz20_1
                try clear hcz22_0
                try clear hcz22_1
                try clear hcz7_0
                try clear hcz7_1
                try clear hcz7_2
                try clear hcz8_0
                try clear hcz8_1
                try clear hcz8_2
                try clear hfz13_0
                try clear hfz13_1
                try clear hfz13_2
                try clear hfz16_0
                try clear hfz16_1
                try clear hfz20_0
                try clear hfz20_1
                try clear hfz22_0
                try clear hfz22_1
                try clear hfz7_0
                try clear hfz7_1
                try clear hfz7_2
                try clear hfz8_0
                try clear hfz8_1
                try clear hfz8_2
                try clear hx180_0
                try clear hx180_1
                try clear p1
                try clear p18
                try clear p180
                try clear p2
                try clear q1
                try clear q18
                try clear q180
                obtain ⟨x5_4, rfl, HA, HK4, BK177, BK181, HB⟩ := hrel
                cases gk with
                | zero => exact absurd HA.out (by simp [solsticeref16_Line.l1])
                | succ k4 =>
                 have H := HA.out
                 clear HA
                 simp only [solsticeref16_Line.l1] at H
                 by_cases c24 : x5_4 < (((rd_T54 l0_1 x3_2).f1).length : Int)
                 ·rw [if_pos c24] at H
                  have c24b0 : decide (x5_4 < (((rd_T54 l0_1 x3_2).f1).length : Int)) = true := decide_eq_true c24
                  clear c24
                  by_cases c25 : 0 ≤ x5_4
                  ·rw [if_pos c25] at H
                   have c25b0 : decide (0 ≤ x5_4) = true := decide_eq_true c25
                   clear c25
                   replace H := Option.bind_eq_some_iff.mp H
                   obtain ⟨t184, A260, H⟩ := H
                   replace H : (if t184 = true then (solsticeref16_Line.l1 k4 x3_2 (wrap64 (x5_4 + 1)) a0_0 l0_1 a0_2 ((rd_T54 l0_1 x3_2).f0) ((rd_T54 l0_1 x3_2).f1)) else (some false)) = some r := H
                   have A26 := Aside0.mk A260
                   clear A260
                   by_cases c27 : t184 = true
                   ·subst c27
                    have H1 : (solsticeref16_Line.l1 k4 x3_2 (wrap64 (x5_4 + 1)) a0_0 l0_1 a0_2 ((rd_T54 l0_1 x3_2).f0) ((rd_T54 l0_1 x3_2).f1)) = some r := by rw [if_pos rfl] at H; exact H
                    clear H
                    have H := H1
                    clear H1
                    have H' := Aside0.mk H
                    clear H
                    have hnb28 := NB181_177.out
                    have hnc28 := NB177_181.out
                    have hcz29_0 : wr.cell? ⟨gb181, 0, none⟩ = some (.string ((rd_T54 l0_1 x3_2).f0)) := (blk_cell BK181.out 0).trans rfl
                    have hcz29_1 : wr.cell? ⟨gb181, 1, none⟩ = some (.slice A180_1 ((rd_T54 l0_1 x3_2).f1).length c180_1) := (blk_cell BK181.out 1).trans rfl
                    have hfz29_0 := blk_frozen BK181.out 0
                    have hfz29_1 := blk_frozen BK181.out 1
                    have p183 : 0 ≤ (x5_4 : Int) := of_decide_eq_true (by first | (with_reducible assumption) | assumption)
                    have q183 : x5_4 < (((rd_T54 l0_1 x3_2).f1).length : Int) := of_decide_eq_true (by first | (with_reducible assumption) | assumption)
                    obtain ⟨ad183, e183, hx183_0⟩ := Kd.at_string HR180_1.out x5_4 p183 q183
                    cases e183
                    replace hx183_0 := (HB.out.cell (World.block_lt_of_cell? w _ hx183_0)).trans hx183_0
                    replace p183 := eq_true p183
                    replace q183 := eq_true q183
                    go_wp2_with (first | ((with_reducible refine gate_callee (f := 50) rfl ?_); refine goesL_ (some 50) rfl rfl Try.func50 (by kernel_rfl) rfl #[.string (rdOf ByteArray.empty ((rd_T54 l0_1 x3_2).f1) x5_4), .bool true] rfl (by (try simp only [List.map_toArray, List.map_cons, List.map_nil]); first | done | rfl | (simp only [List.length_drop, List.length_take]; rfl)) ?_; (with_reducible refine (solsticeref16_clean.calls k4 (rdOf ByteArray.empty ((rd_T54 l0_1 x3_2).f1) x5_4) true true _ A26.out).mono ?_); rintro e w' ⟨rfl, ⟨nd, rfl⟩⟩; refine ⟨_, rfl, ?_⟩))
                    go_roundg k4
                    case measure => have := HJ1.out; have := HK2.out; have := HJ11.out; have := HK4.out; omega
                    case rel => exact ⟨(wrap64 (x5_4 + 1)), (by first | rfl | (simp; done) | (simp [*]; done)), H', ⟨by have := HJ1.out; have := HK2.out; have := HJ11.out; have := HK4.out; omega⟩, ⟨by (with_reducible repeat (first | refine blk_drewN ?_ _ | refine blk_drew ?_ | refine blk_alloc ?_ _)); exact BK177.out⟩, ⟨by (with_reducible repeat (first | refine blk_drewN ?_ _ | refine blk_drew ?_ | refine blk_alloc ?_ _)); exact BK181.out⟩, ⟨by repeat (first | (with_reducible first | exact HB.out | apply below_alloc | apply pw_below_drewN | apply below_drew1 | refine below_set ?_ GE177.out | refine below_set ?_ GE181.out) | exact HB.out)⟩⟩
                   ·replace c27 := Bool.eq_false_iff.mpr c27
                    subst c27
                    have H1 : (some false) = some r := by rw [if_neg (show ¬ (false = true) by decide)] at H; exact H
                    clear H
                    have H := H1
                    clear H1
                    obtain rfl := Option.some.inj H
                    have hnb30 := NB181_177.out
                    have hnc30 := NB177_181.out
                    have hcz31_0 : wr.cell? ⟨gb181, 0, none⟩ = some (.string ((rd_T54 l0_1 x3_2).f0)) := (blk_cell BK181.out 0).trans rfl
                    have hcz31_1 : wr.cell? ⟨gb181, 1, none⟩ = some (.slice A180_1 ((rd_T54 l0_1 x3_2).f1).length c180_1) := (blk_cell BK181.out 1).trans rfl
                    have hfz31_0 := blk_frozen BK181.out 0
                    have hfz31_1 := blk_frozen BK181.out 1
                    have p183 : 0 ≤ (x5_4 : Int) := of_decide_eq_true (by first | (with_reducible assumption) | assumption)
                    have q183 : x5_4 < (((rd_T54 l0_1 x3_2).f1).length : Int) := of_decide_eq_true (by first | (with_reducible assumption) | assumption)
                    obtain ⟨ad183, e183, hx183_0⟩ := Kd.at_string HR180_1.out x5_4 p183 q183
                    cases e183
                    replace hx183_0 := (HB.out.cell (World.block_lt_of_cell? w _ hx183_0)).trans hx183_0
                    replace p183 := eq_true p183
                    replace q183 := eq_true q183
                    go_wp2_with (first | ((with_reducible refine gate_callee (f := 50) rfl ?_); refine goesL_ (some 50) rfl rfl Try.func50 (by kernel_rfl) rfl #[.string (rdOf ByteArray.empty ((rd_T54 l0_1 x3_2).f1) x5_4), .bool true] rfl (by (try simp only [List.map_toArray, List.map_cons, List.map_nil]); first | done | rfl | (simp only [List.length_drop, List.length_take]; rfl)) ?_; (with_reducible refine (solsticeref16_clean.calls k4 (rdOf ByteArray.empty ((rd_T54 l0_1 x3_2).f1) x5_4) true false _ A26.out).mono ?_); rintro e w' ⟨rfl, ⟨nd, rfl⟩⟩; refine ⟨_, rfl, ?_⟩))
                    go_ret
                    exact ⟨by first | rfl | (simp [errW_none, errW_some] <;> rfl) | (simp [*, errW_none, errW_some] <;> rfl), by repeat (first | (with_reducible first | exact HB.out | apply below_alloc | apply pw_below_drewN | apply below_drew1 | refine below_set ?_ GE177.out | refine below_set ?_ GE181.out) | exact HB.out)⟩
                  ·rw [if_neg c25] at H
                   exact absurd H (by simp)
                 ·rw [if_neg c24] at H
                  have c24b0 : decide (x5_4 < (((rd_T54 l0_1 x3_2).f1).length : Int)) = false := decide_eq_false c24
                  clear c24
                  have H' := Aside0.mk H
                  clear H
                  have hnb32 := NB181_177.out
                  have hnc32 := NB177_181.out
                  have hcz33_0 : wr.cell? ⟨gb181, 0, none⟩ = some (.string ((rd_T54 l0_1 x3_2).f0)) := (blk_cell BK181.out 0).trans rfl
                  have hcz33_1 : wr.cell? ⟨gb181, 1, none⟩ = some (.slice A180_1 ((rd_T54 l0_1 x3_2).f1).length c180_1) := (blk_cell BK181.out 1).trans rfl
                  have hfz33_0 := blk_frozen BK181.out 0
                  have hfz33_1 := blk_frozen BK181.out 1
                  go_wp2
                  go_roundg k4
                  case measure => have := HJ1.out; have := HK2.out; have := HJ11.out; have := HK4.out; omega
                  case rel => exact ⟨(wrap64 (x3_2 + 1)), (by first | rfl | (simp; done) | (simp [*]; done)), H', ⟨by have := HJ1.out; have := HK2.out; have := HJ11.out; have := HK4.out; omega⟩, ⟨by (with_reducible repeat (first | refine blk_drewN ?_ _ | refine blk_drew ?_ | refine blk_alloc ?_ _)); exact BK177.out⟩, ⟨by repeat (first | (with_reducible first | exact HB.out | apply below_alloc | apply pw_below_drewN | apply below_drew1 | refine below_set ?_ GE177.out | refine below_set ?_ GE181.out) | exact HB.out)⟩⟩
         ·rw [if_neg c11] at H
          exact absurd H (by simp)
        ·rw [if_neg c10] at H
         have c10b0 : decide (x3_2 < (l0_1.length : Int)) = false := decide_eq_false c10
         clear c10
         obtain rfl := Option.some.inj H
         have hcz34_0 : wr.cell? ⟨gb177, 0, none⟩ = some (.string a0_0) := (blk_cell BK177.out 0).trans rfl
         have hcz34_1 : wr.cell? ⟨gb177, 1, none⟩ = some (.slice A0_1 l0_1.length c0_1) := (blk_cell BK177.out 1).trans rfl
         have hcz34_2 : wr.cell? ⟨gb177, 2, none⟩ = some (.string a0_2) := (blk_cell BK177.out 2).trans rfl
         have hfz34_0 := blk_frozen BK177.out 0
         have hfz34_1 := blk_frozen BK177.out 1
         have hfz34_2 := blk_frozen BK177.out 2
         go_wp2
         go_ret
         exact ⟨by first | rfl | (simp [errW_none, errW_some] <;> rfl) | (simp [*, errW_none, errW_some] <;> rfl), by repeat (first | (with_reducible first | exact HB.out | apply below_alloc | apply pw_below_drewN | apply below_drew1 | refine below_set ?_ GE177.out) | exact HB.out)⟩
def strings_Join.f (l0 : List ByteArray) (a1 : ByteArray) : Option (ByteArray) :=
 if l0.length ≤ 140737488355328 ∧ (Lib.join (l0.map (·.data.toList)) a1.data.toList).length ≤ 140737488355328 then some ⟨(Lib.join (l0.map (·.data.toList)) a1.data.toList).toArray⟩ else none
theorem strings_Join.calls (A0 : Option Addr) (c0 : Nat) (l0 : List ByteArray) (a1 : ByteArray) (r : ByteArray) (w : World) (hr0 : Kd.C Kd.string w A0 l0.length l0) (hc0 : l0.length ≤ c0) (h : strings_Join.f l0 a1 = some r) :
  Calls Try.prog 37 #[.slice A0 l0.length c0, .string a1] w fun e w' => e = .returned (.string r) ∧ Below w.heap.size w w' := by
 unfold strings_Join.f at h
 split at h
 ·rename_i hb
  obtain rfl := Option.some.inj h
  rcases Nat.eq_zero_or_pos l0.length with h0 | h0
  ·obtain rfl := List.eq_nil_of_length_eq_zero h0
   exact (Try.strings_Join_none A0 c0 a1 w).mono fun e w' ⟨he, hw⟩ => ⟨he, hw ▸ Below.refl _ _⟩
  ·obtain ⟨⟨bk, o, sp⟩, hA, hcell⟩ := Kd.at_string hr0 0 (by omega) (by omega)
   have hcell' : w.cell? ⟨bk, o, sp⟩ = some (.string (rdOf ByteArray.empty l0 0)) := hcell
   have hbk : bk < w.heap.size := World.block_lt_of_cell? w _ hcell'
   obtain rfl : sp = none := by
    unfold World.cell? at hcell'
    split at hcell'
    ·rcases sp with _ | sp
     ·rfl
     ·simp at hcell'
    ·cases hcell'
   subst hA
   refine Try.strings_Join bk o c0 l0 a1 w (fun j x hx => ?_) hbk hb.1 hc0 hb.2
   have hj : j < l0.length := (List.getElem?_eq_some_iff.1 hx).1
   obtain ⟨ad, hA, hc⟩ := Kd.at_string hr0 (j : Int) (by omega) (by omega)
   obtain rfl := Option.some.inj hA
   have e1 : (⟨bk, o, none⟩ : Addr).add j = ⟨bk, o + j, none⟩ := by unfold Addr.add; split <;> simp_all
   rw [Int.toNat_natCast, e1] at hc
   rw [hc]
   have e2 : rdOf ByteArray.empty l0 (j : Int) = x := by unfold rdOf; rw [Int.toNat_natCast, List.getD_eq_getElem?_getD, hx]; rfl
   rw [e2]
 ·cases h
end Go.Proofs.Ytookjnpmbenheaa.PLin