-- Printed by a program of this session's over the kit's printer; library functions by contracts off the shelf.
import Derived.Test.YtfiiipjglacejaaDoorGP
import Derived.Test.YtfiiipjglacejaaDoorPFolx0
import Derived.Test.YtfiiipjglacejaaDoorPFolx1
import Derived.Test.YtfiiipjglacejaaDoorPFolx2
import Derived.Test.YtfiiipjglacejaaDoorPFolx3
import Derived.Test.YtfiiipjglacejaaDoorPFolx4
namespace Go.Proofs.YtfiiipjglacejaaDoor.PFol
open Go.RowKit Go.Proofs.YtfiiipjglacejaaDoorW.PrintWords Go.Proofs.YtfiiipjglacejaaDoorW.PrintLast Go.Proofs.YtfiiipjglacejaaDoorW.PrintMore Go.Proofs.YtfiiipjglacejaaDoor.Base
attribute [local go_sem] max2_int min2_int max_two min_two max_three min_three max_four min_four   -- for this text's walks alone
set_option linter.unusedVariables false
set_option linter.unusedSimpArgs false
mutual
def solsticelaw16_FoldExact.j0 : Nat → ByteArray → ByteArray → Bool → Option (Bool)
 | 0, _, _, _ => none
 | k + 1, x0, x1, x19 => if x19 = true then (some true) else ((fold_Line.f k x0).bind fun bt179 => ((fold_Unfold.f k x1).bind fun bt181 => ((solsticeref16_Unfold.f k x1).bind fun bt185 => (if bt181.2 = bt185.2 then ((solsticekeep_Texts.f k bt181.1 bt185.1).bind fun t189 => (solsticelaw16_FoldExact.j1 k x0 bt179.1 bt179.2 (!t189))) else (solsticelaw16_FoldExact.j1 k x0 bt179.1 bt179.2 true)))))
def solsticelaw16_FoldExact.j1 : Nat → ByteArray → ByteArray → Int → Bool → Option (Bool)
 | 0, _, _, _, _ => none
 | k + 1, x0, x5, x6, x43 => if x43 = true then (some false) else (solsticelaw16_FoldExact.l0 k x0 x5 x6 0)
def solsticelaw16_FoldExact.l0 : Nat → ByteArray → ByteArray → Int → Int → Option (Bool)
 | 0, _, _, _, _ => none
 | k + 1, x0, x5, x6, x11 => if x11 < (x0.size : Int) then (if 0 ≤ x11 then (if (bt x0 x11) = 10 then (if x6 = 18 then (if x5.toList = ([] : List UInt8) then ((solsticelaw16_wakes.f k).bind fun t190 => (some t190)) else (some false)) else (some false)) else (if (bt x0 x11) = 13 then (if x6 = 18 then (if x5.toList = ([] : List UInt8) then ((solsticelaw16_wakes.f k).bind fun t191 => (some t191)) else (some false)) else (some false)) else (solsticelaw16_FoldExact.l0 k x0 x5 x6 (wrap64 (x11 + 1))))) else (none)) else (if x6 = 0 then ((solsticeref16_Fold.f k x0).bind fun t192 => (if x5.toList = t192.toList then ((solsticelaw16_wakes.f k).bind fun t193 => (some t193)) else (some false))) else (some false))
end
def solsticelaw16_FoldExact.f (k : Nat) (a0 : ByteArray) (a1 : ByteArray) : Option (Bool) := if (a0.size : Int) > 3000 then (solsticelaw16_FoldExact.j0 k a0 a1 true) else (solsticelaw16_FoldExact.j0 k a0 a1 (decide ((a1.size : Int) > 3000)))
theorem solsticelaw16_FoldExact.mono_l : ∀ k, (∀ y0 y1 y2, LeO (solsticelaw16_FoldExact.j0 k y0 y1 y2) (solsticelaw16_FoldExact.j0 (k + 1) y0 y1 y2)) ∧ (∀ y0 y1 y2 y3, LeO (solsticelaw16_FoldExact.j1 k y0 y1 y2 y3) (solsticelaw16_FoldExact.j1 (k + 1) y0 y1 y2 y3)) ∧ (∀ y0 y1 y2 y3, LeO (solsticelaw16_FoldExact.l0 k y0 y1 y2 y3) (solsticelaw16_FoldExact.l0 (k + 1) y0 y1 y2 y3))
 | 0 => ⟨fun _ _ _ r h => by simp [solsticelaw16_FoldExact.j0] at h, fun _ _ _ _ r h => by simp [solsticelaw16_FoldExact.j1] at h, fun _ _ _ _ r h => by simp [solsticelaw16_FoldExact.l0] at h⟩
 | k + 1 => by
  obtain ⟨ih0, ih1, ih2⟩ := solsticelaw16_FoldExact.mono_l k
  refine ⟨?_, ?_, ?_⟩
  ·intro y0 y1 y2
   unfold solsticelaw16_FoldExact.j0
   repeat' first
   | (with_reducible exact ih0 _ _ _)
   | (with_reducible exact ih1 _ _ _ _)
   | (with_reducible exact ih2 _ _ _ _)
   | (with_reducible exact fold_Line.mono _ _)
   | (with_reducible exact fold_Unfold.mono _ _)
   | (with_reducible exact solsticekeep_Texts.mono _ _ _)
   | (with_reducible exact solsticelaw16_wakes.mono _)
   | (with_reducible exact solsticeref16_Fold.mono _ _)
   | (with_reducible exact solsticeref16_Unfold.mono _ _)
   | (with_reducible exact LeO.refl _)
   | (with_reducible exact LeO.none _)
   | (with_reducible refine LeO.ite ?_ ?_)
   | (with_reducible refine LeO.bind ?_ (fun _ => ?_))
   | exact ih0 _ _ _
   | exact ih1 _ _ _ _
   | exact ih2 _ _ _ _
   | exact fold_Line.mono _ _
   | exact fold_Unfold.mono _ _
   | exact solsticekeep_Texts.mono _ _ _
   | exact solsticelaw16_wakes.mono _
   | exact solsticeref16_Fold.mono _ _
   | exact solsticeref16_Unfold.mono _ _
   | exact LeO.none _
   | refine LeO.ite ?_ ?_
   | refine LeO.bind ?_ (fun _ => ?_)
  ·intro y0 y1 y2 y3
   unfold solsticelaw16_FoldExact.j1
   repeat' first
   | (with_reducible exact ih0 _ _ _)
   | (with_reducible exact ih1 _ _ _ _)
   | (with_reducible exact ih2 _ _ _ _)
   | (with_reducible exact fold_Line.mono _ _)
   | (with_reducible exact fold_Unfold.mono _ _)
   | (with_reducible exact solsticekeep_Texts.mono _ _ _)
   | (with_reducible exact solsticelaw16_wakes.mono _)
   | (with_reducible exact solsticeref16_Fold.mono _ _)
   | (with_reducible exact solsticeref16_Unfold.mono _ _)
   | (with_reducible exact LeO.refl _)
   | (with_reducible exact LeO.none _)
   | (with_reducible refine LeO.ite ?_ ?_)
   | (with_reducible refine LeO.bind ?_ (fun _ => ?_))
   | exact ih0 _ _ _
   | exact ih1 _ _ _ _
   | exact ih2 _ _ _ _
   | exact fold_Line.mono _ _
   | exact fold_Unfold.mono _ _
   | exact solsticekeep_Texts.mono _ _ _
   | exact solsticelaw16_wakes.mono _
   | exact solsticeref16_Fold.mono _ _
   | exact solsticeref16_Unfold.mono _ _
   | exact LeO.none _
   | refine LeO.ite ?_ ?_
   | refine LeO.bind ?_ (fun _ => ?_)
  ·intro y0 y1 y2 y3
   unfold solsticelaw16_FoldExact.l0
   repeat' first
   | (with_reducible exact ih0 _ _ _)
   | (with_reducible exact ih1 _ _ _ _)
   | (with_reducible exact ih2 _ _ _ _)
   | (with_reducible exact fold_Line.mono _ _)
   | (with_reducible exact fold_Unfold.mono _ _)
   | (with_reducible exact solsticekeep_Texts.mono _ _ _)
   | (with_reducible exact solsticelaw16_wakes.mono _)
   | (with_reducible exact solsticeref16_Fold.mono _ _)
   | (with_reducible exact solsticeref16_Unfold.mono _ _)
   | (with_reducible exact LeO.refl _)
   | (with_reducible exact LeO.none _)
   | (with_reducible refine LeO.ite ?_ ?_)
   | (with_reducible refine LeO.bind ?_ (fun _ => ?_))
   | exact ih0 _ _ _
   | exact ih1 _ _ _ _
   | exact ih2 _ _ _ _
   | exact fold_Line.mono _ _
   | exact fold_Unfold.mono _ _
   | exact solsticekeep_Texts.mono _ _ _
   | exact solsticelaw16_wakes.mono _
   | exact solsticeref16_Fold.mono _ _
   | exact solsticeref16_Unfold.mono _ _
   | exact LeO.none _
   | refine LeO.ite ?_ ?_
   | refine LeO.bind ?_ (fun _ => ?_)
theorem solsticelaw16_FoldExact.mono : ∀ a0 a1 k, LeO (solsticelaw16_FoldExact.f k a0 a1) (solsticelaw16_FoldExact.f (k + 1) a0 a1) := by
 intro a0 a1 k
 obtain ⟨ih0, ih1, ih2⟩ := solsticelaw16_FoldExact.mono_l k
 unfold solsticelaw16_FoldExact.f
 repeat' first
   | (with_reducible exact ih0 _ _ _)
   | (with_reducible exact ih1 _ _ _ _)
   | (with_reducible exact ih2 _ _ _ _)
   | (with_reducible exact fold_Line.mono _ _)
   | (with_reducible exact fold_Unfold.mono _ _)
   | (with_reducible exact solsticekeep_Texts.mono _ _ _)
   | (with_reducible exact solsticelaw16_wakes.mono _)
   | (with_reducible exact solsticeref16_Fold.mono _ _)
   | (with_reducible exact solsticeref16_Unfold.mono _ _)
   | (with_reducible exact LeO.refl _)
   | (with_reducible exact LeO.none _)
   | (with_reducible refine LeO.ite ?_ ?_)
   | (with_reducible refine LeO.bind ?_ (fun _ => ?_))
   | exact ih0 _ _ _
   | exact ih1 _ _ _ _
   | exact ih2 _ _ _ _
   | exact fold_Line.mono _ _
   | exact fold_Unfold.mono _ _
   | exact solsticekeep_Texts.mono _ _ _
   | exact solsticelaw16_wakes.mono _
   | exact solsticeref16_Fold.mono _ _
   | exact solsticeref16_Unfold.mono _ _
   | exact LeO.none _
   | refine LeO.ite ?_ ?_
   | refine LeO.bind ?_ (fun _ => ?_)
set_option maxHeartbeats 8000000 in
set_option maxRecDepth 100000 in
theorem solsticelaw16_FoldExact.calls (k : Nat) (a0 : ByteArray) (a1 : ByteArray) (r : Bool) (w : World) (hG : GP w) (h : solsticelaw16_FoldExact.f k a0 a1 = some r) :
  Calls Tryd.prog 3 #[.string a0, .string a1] w fun e w' => e = .returned (.bool r) ∧ Below w.heap.size w w' := by
 have HG := Aside0.mk hG
 clear hG
 have HB := Aside0.mk (Below.refl w.heap.size w)
 have H : (if (a0.size : Int) > 3000 then (solsticelaw16_FoldExact.j0 k a0 a1 true) else (solsticelaw16_FoldExact.j0 k a0 a1 (decide ((a1.size : Int) > 3000)))) = some r := h
 clear h
 have HC3 := Aside0.mk H
 clear H
 go_enter Tryd.func3, Tryd.ntmps3
 go_upto_region 1 with (fail)
 go_cut [19] (fun v19 wc => ∃ (kq : Nat) (x19_2 : Bool), v19 = .bool x19_2 ∧ Aside0 (solsticelaw16_FoldExact.j0 kq a0 a1 x19_2 = some r) ∧ Aside0 (kq ≤ k) ∧ Aside0 (Below w.heap.size w wc))
 case first =>
  have H := HC3.out
  clear HC3
  by_cases c4 : (a0.size : Int) > 3000
  ·rw [if_pos c4] at H
   have c4b0 : decide (3000 < (a0.size : Int)) = true := decide_eq_true c4
   have c4b1 : decide (3000 < a0.size) = true := decide_eq_true (by omega)
   clear c4
   (first | rw [c4b0] | (simp only [i64_w, i32_w]; rw [c4b0]) | skip)
   have H' := Aside0.mk H
   clear H
   go_wp2
   go_meet
   case rel => exact ⟨_, (true), (by first | rfl | (simp; done) | (simp [*]; done)), H', ⟨by first | omega | exact Nat.le_refl _⟩, ⟨by repeat (first | (with_reducible first | exact HB.out | apply below_alloc | apply pw_below_drewN | apply below_drew1) | exact HB.out)⟩⟩
  ·rw [if_neg c4] at H
   have c4b0 : decide (3000 < (a0.size : Int)) = false := decide_eq_false c4
   have c4b1 : decide (3000 < a0.size) = false := decide_eq_false (by omega)
   clear c4
   (first | rw [c4b0] | (simp only [i64_w, i32_w]; rw [c4b0]) | skip)
   have H' := Aside0.mk H
   clear H
   go_wp2
   go_meet
   case rel => exact ⟨_, (decide ((a1.size : Int) > 3000)), (by first | rfl | (simp; done) | (simp [*]; done)), H', ⟨by first | omega | exact Nat.le_refl _⟩, ⟨by repeat (first | (with_reducible first | exact HB.out | apply below_alloc | apply pw_below_drewN | apply below_drew1) | exact HB.out)⟩⟩
 case rest =>
  as_aux_lemma =>
   clear HC3
   try clear p2
   try clear c3
   try clear c4
   try clear c4b0
   try clear c4b1
   obtain ⟨kq, x19_2, rfl, HA, HJ2, HB⟩ := hcut
   cases kq with
   | zero => exact absurd HA.out (by simp [solsticelaw16_FoldExact.j0])
   | succ kj2 =>
    have H := HA.out
    clear HA
    simp only [solsticelaw16_FoldExact.j0] at H
    by_cases c5 : x19_2 = true
    ·subst c5
     have H1 : (some true) = some r := by rw [if_pos rfl] at H; exact H
     clear H
     have H := H1
     clear H1
     obtain rfl := Option.some.inj H
     go_wp2
     go_ret
     exact ⟨by first | rfl | (simp [errW_none, errW_some] <;> rfl) | (simp [*, errW_none, errW_some] <;> rfl), by repeat (first | (with_reducible first | exact HB.out | apply below_alloc | apply pw_below_drewN | apply below_drew1) | exact HB.out)⟩
    ·replace c5 := Bool.eq_false_iff.mpr c5
     subst c5
     have H1 : ((fold_Line.f kj2 a0).bind fun bt179 => ((fold_Unfold.f kj2 a1).bind fun bt181 => ((solsticeref16_Unfold.f kj2 a1).bind fun bt185 => (if bt181.2 = bt185.2 then ((solsticekeep_Texts.f kj2 bt181.1 bt185.1).bind fun t189 => (solsticelaw16_FoldExact.j1 kj2 a0 bt179.1 bt179.2 (!t189))) else (solsticelaw16_FoldExact.j1 kj2 a0 bt179.1 bt179.2 true))))) = some r := by rw [if_neg (show ¬ (false = true) by decide)] at H; exact H
     clear H
     have H := H1
     clear H1
     replace H := Option.bind_eq_some_iff.mp H
     obtain ⟨⟨t179, t180⟩, A60, H⟩ := H
     replace H : ((fold_Unfold.f kj2 a1).bind fun bt181 => ((solsticeref16_Unfold.f kj2 a1).bind fun bt185 => (if bt181.2 = bt185.2 then ((solsticekeep_Texts.f kj2 bt181.1 bt185.1).bind fun t189 => (solsticelaw16_FoldExact.j1 kj2 a0 t179 t180 (!t189))) else (solsticelaw16_FoldExact.j1 kj2 a0 t179 t180 true)))) = some r := H
     have A6 := Aside0.mk A60
     clear A60
     replace H := Option.bind_eq_some_iff.mp H
     obtain ⟨⟨t181, t182⟩, A70, H⟩ := H
     replace H : ((solsticeref16_Unfold.f kj2 a1).bind fun bt185 => (if t182 = bt185.2 then ((solsticekeep_Texts.f kj2 t181 bt185.1).bind fun t189 => (solsticelaw16_FoldExact.j1 kj2 a0 t179 t180 (!t189))) else (solsticelaw16_FoldExact.j1 kj2 a0 t179 t180 true))) = some r := H
     have A7 := Aside0.mk A70
     clear A70
     replace H := Option.bind_eq_some_iff.mp H
     obtain ⟨⟨t185, t186⟩, A80, H⟩ := H
     replace H : (if t182 = t186 then ((solsticekeep_Texts.f kj2 t181 t185).bind fun t189 => (solsticelaw16_FoldExact.j1 kj2 a0 t179 t180 (!t189))) else (solsticelaw16_FoldExact.j1 kj2 a0 t179 t180 true)) = some r := H
     have A8 := Aside0.mk A80
     clear A80
     have HC9 := Aside0.mk H
     clear H
     go_upto_region 6 with (first | ((with_reducible refine gate_callee (f := 12) rfl ?_); refine goesL_ (some 22) rfl rfl Tryd.func12 (by kernel_rfl) rfl #[.string a0] rfl (by (try simp only [List.map_toArray, List.map_cons, List.map_nil]); first | done | rfl | (simp only [List.length_drop, List.length_take]; rfl)) ?_; (with_reducible refine (fold_Line.calls kj2 a0 t179 t180 _ A6.out).mono ?_); rintro e w10 ⟨rfl, hb⟩; refine ⟨_, rfl, ?_⟩; have n0_ := Aside0.mk (below_step (by repeat (first | (with_reducible first | exact HB.out | apply below_alloc | apply pw_below_drewN | apply below_drew1) | exact HB.out)) hb); clear HB; have HB := n0_; clear n0_; (try clear hb); (try clear hb2); (try clear hk); (try clear hi)) | ((with_reducible refine gate_callee (f := 13) rfl ?_); refine goesL_ (some 27) rfl rfl Tryd.func13 (by kernel_rfl) rfl #[.string a1] rfl (by (try simp only [List.map_toArray, List.map_cons, List.map_nil]); first | done | rfl | (simp only [List.length_drop, List.length_take]; rfl)) ?_; (with_reducible refine (fold_Unfold.calls kj2 a1 t181 t182 _ ?sideG A7.out).mono ?_); (case sideG => first | exact GP_below HG.out (by repeat (first | (with_reducible first | exact HB.out | apply below_alloc | apply pw_below_drewN | apply below_drew1) | exact HB.out)) | repeat (first | exact HG.out | refine GP_alloc ?_ _ | refine GP_drewN ?_ _ | refine GP_drew ?_)); rintro e w11 ⟨v183, rfl, ho0, hb⟩; refine ⟨_, rfl, ?_⟩; have n0_ := Aside0.mk (Kd.R_lower ho0 (below_size (by repeat (first | (with_reducible first | exact HB.out | apply below_alloc | apply pw_below_drewN | apply below_drew1) | exact HB.out)))); have n1_ := Aside0.mk (below_step (by repeat (first | (with_reducible first | exact HB.out | apply below_alloc | apply pw_below_drewN | apply below_drew1) | exact HB.out)) hb); clear HB; have HO184 := n0_; have HB := n1_; clear n0_ n1_; (try clear hb); (try clear hb2); (try clear hk); (try clear hi); (try clear ho0)) | ((with_reducible refine gate_callee (f := 14) rfl ?_); refine goesL_ (some 32) rfl rfl Tryd.func14 (by kernel_rfl) rfl #[.string a1] rfl (by (try simp only [List.map_toArray, List.map_cons, List.map_nil]); first | done | rfl | (simp only [List.length_drop, List.length_take]; rfl)) ?_; (with_reducible refine (solsticeref16_Unfold.calls kj2 a1 t185 t186 _ A8.out).mono ?_); rintro e w12 ⟨v187, rfl, ho0, hb⟩; refine ⟨_, rfl, ?_⟩; have n0_ := Aside0.mk (Kd.R_elder' (by (with_reducible repeat (first | apply Kd.R_alloc | apply Kd.R_drewN | apply Kd.R_drew)); exact HO184.out) (Kd.R_base ho0) hb); have n1_ := Aside0.mk (Kd.R_lower (Kd.R_new' ho0 (Kd.R_lt (by (with_reducible repeat (first | apply Kd.R_alloc | apply Kd.R_drewN | apply Kd.R_drew)); exact HO184.out))) (below_size (by repeat (first | (with_reducible first | exact HB.out | apply below_alloc | apply pw_below_drewN | apply below_drew1) | exact HB.out)))); have n2_ := Aside0.mk (below_step (by repeat (first | (with_reducible first | exact HB.out | apply below_alloc | apply pw_below_drewN | apply below_drew1) | exact HB.out)) hb); clear HO184; clear HB; have HO184 := n0_; have HO188 := n1_; have HB := n2_; clear n0_ n1_ n2_; (try clear hb); (try clear hb2); (try clear hk); (try clear hi); (try clear ho0)))
     (try simp only [Act.put, List.setIfInBounds_toArray, List.set_cons_zero, List.set_cons_succ])
     go_cut [43] (fun v43 wc => ∃ (kq : Nat) (x43_8 : Bool), v43 = .bool x43_8 ∧ Aside0 (solsticelaw16_FoldExact.j1 kq a0 t179 t180 x43_8 = some r) ∧ Aside0 (kq ≤ kj2) ∧ Aside0 (Below w.heap.size w wc))
     case first =>
      have H := HC9.out
      clear HC9
      by_cases c13 : t182 = t186
      ·rw [if_pos c13] at H
       have c13b0 : (t182 == t186) = true := beq_iff_eq.mpr c13
       have c13b1 : (t182 != t186) = false := bne_eq_false_iff_eq.mpr c13
       clear c13
       (first | rw [c13b0] | (simp only [i64_w, i32_w]; rw [c13b0]) | skip)
       replace H := Option.bind_eq_some_iff.mp H
       obtain ⟨t189, A140, H⟩ := H
       replace H : (solsticelaw16_FoldExact.j1 kj2 a0 t179 t180 (!t189)) = some r := H
       have A14 := Aside0.mk A140
       clear A140
       have H' := Aside0.mk H
       clear H
       obtain ⟨Ao15, co15, eo15⟩ := Kd.R_slice HO184.out
       subst eo15
       obtain ⟨Ao16, co16, eo16⟩ := Kd.R_slice HO188.out
       subst eo16
       go_wp2_with (first | (go_at_call 15; (with_reducible refine (solsticekeep_Texts.calls kj2 _ _ t181 _ _ t185 t189 _ ?side1 ?side2 ?side3 ?side4 A14.out).mono ?_); (case side1 => repeat (first | exact (Kd.R_reads' HO184.out).2.2 | (with_reducible refine Kd.C_alloc ?_ _) | (with_reducible refine Kd.C_drewN ?_ _) | (with_reducible refine Kd.C_drew ?_))); (case side2 => exact (Kd.R_reads' HO184.out).2.1); (case side3 => repeat (first | exact (Kd.R_reads' HO188.out).2.2 | (with_reducible refine Kd.C_alloc ?_ _) | (with_reducible refine Kd.C_drewN ?_ _) | (with_reducible refine Kd.C_drew ?_))); (case side4 => exact (Kd.R_reads' HO188.out).2.1); rintro e w' ⟨rfl, ⟨nd, rfl⟩⟩))
       go_meet
       case rel => exact ⟨_, (!t189), (by first | rfl | (simp; done) | (simp [*]; done)), H', ⟨by have := HJ2.out; first | omega | exact Nat.le_refl _⟩, ⟨by repeat (first | (with_reducible first | exact HB.out | apply below_alloc | apply pw_below_drewN | apply below_drew1) | exact HB.out)⟩⟩
      ·rw [if_neg c13] at H
       have c13b0 : (t182 == t186) = false := beq_eq_false_iff_ne.mpr c13
       have c13b1 : (t182 != t186) = true := bne_iff_ne.mpr c13
       (first | rw [c13b0] | (simp only [i64_w, i32_w]; rw [c13b0]) | skip)
       have H' := Aside0.mk H
       clear H
       go_wp2
       go_meet
       case rel => exact ⟨_, (true), (by first | rfl | (simp; done) | (simp [*]; done)), H', ⟨by have := HJ2.out; first | omega | exact Nat.le_refl _⟩, ⟨by repeat (first | (with_reducible first | exact HB.out | apply below_alloc | apply pw_below_drewN | apply below_drew1) | exact HB.out)⟩⟩
     case rest =>
      as_aux_lemma =>
       clear HC9
       try clear c1
       try clear p2
       try clear c3
       try clear c4
       try clear c4b0
       try clear c4b1
       try clear c5
       try clear c12
       try clear c13
       try clear c13b0
       try clear c13b1
       try clear c14
       try clear p2
       obtain ⟨kq, x43_8, rfl, HA, HJ8, HB⟩ := hcut
       cases kq with
       | zero => exact absurd HA.out (by simp [solsticelaw16_FoldExact.j1])
       | succ kj8 =>
        have H := HA.out
        clear HA
        simp only [solsticelaw16_FoldExact.j1] at H
        by_cases c17 : x43_8 = true
        ·subst c17
         have H1 : (some false) = some r := by rw [if_pos rfl] at H; exact H
         clear H
         have H := H1
         clear H1
         obtain rfl := Option.some.inj H
         go_wp2
         go_ret
         exact ⟨by first | rfl | (simp [errW_none, errW_some] <;> rfl) | (simp [*, errW_none, errW_some] <;> rfl), by repeat (first | (with_reducible first | exact HB.out | apply below_alloc | apply pw_below_drewN | apply below_drew1) | exact HB.out)⟩
        ·replace c17 := Bool.eq_false_iff.mpr c17
         subst c17
         have H1 : (solsticelaw16_FoldExact.l0 kj8 a0 t179 t180 0) = some r := by rw [if_neg (show ¬ (false = true) by decide)] at H; exact H
         clear H
         have H := H1
         clear H1
         have H' := Aside0.mk H
         clear H
         go_wp2
         go_loopg [11] kj8 (fun kq v11 w' => ∃ (x11_3 : Int), v11 = .int .i64 x11_3 ∧ Aside0 (solsticelaw16_FoldExact.l0 kq a0 t179 t180 x11_3 = some r) ∧ Aside0 (kq ≤ kj8) ∧ Aside0 (Below w.heap.size w w'))
         case atStart => exact ⟨(0), (by first | rfl | (simp; done) | (simp [*]; done)), H', ⟨Nat.le_refl _⟩, ⟨by repeat (first | (with_reducible first | exact HB.out | apply below_alloc | apply pw_below_drewN | apply below_drew1) | exact HB.out)⟩⟩
         case round =>
          as_aux_lemma =>
           clear H'
           try clear c1
           try clear p2
           try clear c3
           try clear c4
           try clear c4b0
           try clear c4b1
           try clear c5
           try clear c12
           try clear c13
           try clear c13b0
           try clear c13b1
           try clear c14
           try clear c17
           try clear p2
           obtain ⟨x11_3, rfl, HA, HK3, HB⟩ := hrel
           cases gk with
           | zero => exact absurd HA.out (by simp [solsticelaw16_FoldExact.l0])
           | succ k3 =>
            have H := HA.out
            clear HA
            simp only [solsticelaw16_FoldExact.l0] at H
            by_cases c18 : x11_3 < (a0.size : Int)
            ·rw [if_pos c18] at H
             have c18b0 : decide (x11_3 < (a0.size : Int)) = true := decide_eq_true c18
             clear c18
             by_cases c19 : 0 ≤ x11_3
             ·rw [if_pos c19] at H
              have c19b0 : decide (0 ≤ x11_3) = true := decide_eq_true c19
              clear c19
              by_cases c21 : (bt a0 x11_3) = 10
              ·rw [if_pos c21] at H
               have c21b0 : ((bt a0 x11_3) == 10) = true := beq_iff_eq.mpr c21
               have c21b1 : ((bt a0 x11_3) != 10) = false := bne_eq_false_iff_eq.mpr c21
               clear c21
               by_cases c22 : t180 = 18
               ·rw [if_pos c22] at H
                have c22b0 : (t180 == 18) = true := beq_iff_eq.mpr c22
                have c22b1 : (t180 != 18) = false := bne_eq_false_iff_eq.mpr c22
                clear c22
                by_cases c23 : t179.toList = ([] : List UInt8)
                ·rw [if_pos c23] at H
                 have c23b0 : (t179.toList == ([] : List UInt8)) = true := beq_iff_eq.mpr c23
                 have c23b1 : (t179.toList != ([] : List UInt8)) = false := bne_eq_false_iff_eq.mpr c23
                 clear c23
                 replace H := Option.bind_eq_some_iff.mp H
                 obtain ⟨t190, A240, H⟩ := H
                 replace H : (some t190) = some r := H
                 have A24 := Aside0.mk A240
                 clear A240
                 obtain rfl := Option.some.inj H
                 have p20 : 0 ≤ (x11_3 : Int) := of_decide_eq_true (by first | (with_reducible assumption) | assumption)
                 have q20 : x11_3 < (a0.size : Int) := of_decide_eq_true (by first | (with_reducible assumption) | assumption)
                 have hx20 := bt_at a0 x11_3
                 replace p20 := eq_true p20
                 replace q20 := eq_true q20
                 go_wp2_with (first | (go_at_call 16; (with_reducible refine (solsticelaw16_wakes.calls k3  t190 _ ?sideG A24.out).mono ?_); (case sideG => first | exact GP_below HG.out (by repeat (first | (with_reducible first | exact HB.out | apply below_alloc | apply pw_below_drewN | apply below_drew1) | exact HB.out)) | repeat (first | exact HG.out | refine GP_alloc ?_ _ | refine GP_drewN ?_ _ | refine GP_drew ?_)); rintro e w25 ⟨rfl, hb⟩; have n0_ := Aside0.mk (below_step (by repeat (first | (with_reducible first | exact HB.out | apply below_alloc | apply pw_below_drewN | apply below_drew1) | exact HB.out)) hb); clear HB; have HB := n0_; clear n0_; (try clear hb); (try clear hb2); (try clear hk); (try clear hi)))
                 go_ret
                 exact ⟨by first | rfl | (simp [errW_none, errW_some] <;> rfl) | (simp [*, errW_none, errW_some] <;> rfl), by repeat (first | (with_reducible first | exact HB.out | apply below_alloc | apply pw_below_drewN | apply below_drew1) | exact HB.out)⟩
                ·rw [if_neg c23] at H
                 have c23b0 : (t179.toList == ([] : List UInt8)) = false := beq_eq_false_iff_ne.mpr c23
                 have c23b1 : (t179.toList != ([] : List UInt8)) = true := bne_iff_ne.mpr c23
                 obtain rfl := Option.some.inj H
                 have p20 : 0 ≤ (x11_3 : Int) := of_decide_eq_true (by first | (with_reducible assumption) | assumption)
                 have q20 : x11_3 < (a0.size : Int) := of_decide_eq_true (by first | (with_reducible assumption) | assumption)
                 have hx20 := bt_at a0 x11_3
                 replace p20 := eq_true p20
                 replace q20 := eq_true q20
                 go_wp2
                 go_ret
                 exact ⟨by first | rfl | (simp [errW_none, errW_some] <;> rfl) | (simp [*, errW_none, errW_some] <;> rfl), by repeat (first | (with_reducible first | exact HB.out | apply below_alloc | apply pw_below_drewN | apply below_drew1) | exact HB.out)⟩
               ·rw [if_neg c22] at H
                have c22b0 : (t180 == 18) = false := beq_eq_false_iff_ne.mpr c22
                have c22b1 : (t180 != 18) = true := bne_iff_ne.mpr c22
                obtain rfl := Option.some.inj H
                have p20 : 0 ≤ (x11_3 : Int) := of_decide_eq_true (by first | (with_reducible assumption) | assumption)
                have q20 : x11_3 < (a0.size : Int) := of_decide_eq_true (by first | (with_reducible assumption) | assumption)
                have hx20 := bt_at a0 x11_3
                replace p20 := eq_true p20
                replace q20 := eq_true q20
                go_wp2
                go_ret
                exact ⟨by first | rfl | (simp [errW_none, errW_some] <;> rfl) | (simp [*, errW_none, errW_some] <;> rfl), by repeat (first | (with_reducible first | exact HB.out | apply below_alloc | apply pw_below_drewN | apply below_drew1) | exact HB.out)⟩
              ·rw [if_neg c21] at H
               have c21b0 : ((bt a0 x11_3) == 10) = false := beq_eq_false_iff_ne.mpr c21
               have c21b1 : ((bt a0 x11_3) != 10) = true := bne_iff_ne.mpr c21
               by_cases c27 : (bt a0 x11_3) = 13
               ·rw [if_pos c27] at H
                have c27b0 : ((bt a0 x11_3) == 13) = true := beq_iff_eq.mpr c27
                have c27b1 : ((bt a0 x11_3) != 13) = false := bne_eq_false_iff_eq.mpr c27
                clear c27
                by_cases c28 : t180 = 18
                ·rw [if_pos c28] at H
                 have c28b0 : (t180 == 18) = true := beq_iff_eq.mpr c28
                 have c28b1 : (t180 != 18) = false := bne_eq_false_iff_eq.mpr c28
                 clear c28
                 by_cases c29 : t179.toList = ([] : List UInt8)
                 ·rw [if_pos c29] at H
                  have c29b0 : (t179.toList == ([] : List UInt8)) = true := beq_iff_eq.mpr c29
                  have c29b1 : (t179.toList != ([] : List UInt8)) = false := bne_eq_false_iff_eq.mpr c29
                  clear c29
                  replace H := Option.bind_eq_some_iff.mp H
                  obtain ⟨t191, A300, H⟩ := H
                  replace H : (some t191) = some r := H
                  have A30 := Aside0.mk A300
                  clear A300
                  obtain rfl := Option.some.inj H
                  have p20 : 0 ≤ (x11_3 : Int) := of_decide_eq_true (by first | (with_reducible assumption) | assumption)
                  have q20 : x11_3 < (a0.size : Int) := of_decide_eq_true (by first | (with_reducible assumption) | assumption)
                  have hx20 := bt_at a0 x11_3
                  replace p20 := eq_true p20
                  replace q20 := eq_true q20
                  have p26 : 0 ≤ (x11_3 : Int) := of_decide_eq_true (by first | (with_reducible assumption) | assumption)
                  have q26 : x11_3 < (a0.size : Int) := of_decide_eq_true (by first | (with_reducible assumption) | assumption)
                  have hx26 := bt_at a0 x11_3
                  replace p26 := eq_true p26
                  replace q26 := eq_true q26
                  go_wp2_with (first | (go_at_call 16; (with_reducible refine (solsticelaw16_wakes.calls k3  t191 _ ?sideG A30.out).mono ?_); (case sideG => first | exact GP_below HG.out (by repeat (first | (with_reducible first | exact HB.out | apply below_alloc | apply pw_below_drewN | apply below_drew1) | exact HB.out)) | repeat (first | exact HG.out | refine GP_alloc ?_ _ | refine GP_drewN ?_ _ | refine GP_drew ?_)); rintro e w31 ⟨rfl, hb⟩; have n0_ := Aside0.mk (below_step (by repeat (first | (with_reducible first | exact HB.out | apply below_alloc | apply pw_below_drewN | apply below_drew1) | exact HB.out)) hb); clear HB; have HB := n0_; clear n0_; (try clear hb); (try clear hb2); (try clear hk); (try clear hi)))
                  go_ret
                  exact ⟨by first | rfl | (simp [errW_none, errW_some] <;> rfl) | (simp [*, errW_none, errW_some] <;> rfl), by repeat (first | (with_reducible first | exact HB.out | apply below_alloc | apply pw_below_drewN | apply below_drew1) | exact HB.out)⟩
                 ·rw [if_neg c29] at H
                  have c29b0 : (t179.toList == ([] : List UInt8)) = false := beq_eq_false_iff_ne.mpr c29
                  have c29b1 : (t179.toList != ([] : List UInt8)) = true := bne_iff_ne.mpr c29
                  obtain rfl := Option.some.inj H
                  have p20 : 0 ≤ (x11_3 : Int) := of_decide_eq_true (by first | (with_reducible assumption) | assumption)
                  have q20 : x11_3 < (a0.size : Int) := of_decide_eq_true (by first | (with_reducible assumption) | assumption)
                  have hx20 := bt_at a0 x11_3
                  replace p20 := eq_true p20
                  replace q20 := eq_true q20
                  have p26 : 0 ≤ (x11_3 : Int) := of_decide_eq_true (by first | (with_reducible assumption) | assumption)
                  have q26 : x11_3 < (a0.size : Int) := of_decide_eq_true (by first | (with_reducible assumption) | assumption)
                  have hx26 := bt_at a0 x11_3
                  replace p26 := eq_true p26
                  replace q26 := eq_true q26
                  go_wp2
                  go_ret
                  exact ⟨by first | rfl | (simp [errW_none, errW_some] <;> rfl) | (simp [*, errW_none, errW_some] <;> rfl), by repeat (first | (with_reducible first | exact HB.out | apply below_alloc | apply pw_below_drewN | apply below_drew1) | exact HB.out)⟩
                ·rw [if_neg c28] at H
                 have c28b0 : (t180 == 18) = false := beq_eq_false_iff_ne.mpr c28
                 have c28b1 : (t180 != 18) = true := bne_iff_ne.mpr c28
                 obtain rfl := Option.some.inj H
                 have p20 : 0 ≤ (x11_3 : Int) := of_decide_eq_true (by first | (with_reducible assumption) | assumption)
                 have q20 : x11_3 < (a0.size : Int) := of_decide_eq_true (by first | (with_reducible assumption) | assumption)
                 have hx20 := bt_at a0 x11_3
                 replace p20 := eq_true p20
                 replace q20 := eq_true q20
                 have p26 : 0 ≤ (x11_3 : Int) := of_decide_eq_true (by first | (with_reducible assumption) | assumption)
                 have q26 : x11_3 < (a0.size : Int) := of_decide_eq_true (by first | (with_reducible assumption) | assumption)
                 have hx26 := bt_at a0 x11_3
                 replace p26 := eq_true p26
                 replace q26 := eq_true q26
                 go_wp2
                 go_ret
                 exact ⟨by first | rfl | (simp [errW_none, errW_some] <;> rfl) | (simp [*, errW_none, errW_some] <;> rfl), by repeat (first | (with_reducible first | exact HB.out | apply below_alloc | apply pw_below_drewN | apply below_drew1) | exact HB.out)⟩
               ·rw [if_neg c27] at H
                have c27b0 : ((bt a0 x11_3) == 13) = false := beq_eq_false_iff_ne.mpr c27
                have c27b1 : ((bt a0 x11_3) != 13) = true := bne_iff_ne.mpr c27
                have H' := Aside0.mk H
                clear H
                have p20 : 0 ≤ (x11_3 : Int) := of_decide_eq_true (by first | (with_reducible assumption) | assumption)
                have q20 : x11_3 < (a0.size : Int) := of_decide_eq_true (by first | (with_reducible assumption) | assumption)
                have hx20 := bt_at a0 x11_3
                replace p20 := eq_true p20
                replace q20 := eq_true q20
                have p26 : 0 ≤ (x11_3 : Int) := of_decide_eq_true (by first | (with_reducible assumption) | assumption)
                have q26 : x11_3 < (a0.size : Int) := of_decide_eq_true (by first | (with_reducible assumption) | assumption)
                have hx26 := bt_at a0 x11_3
                replace p26 := eq_true p26
                replace q26 := eq_true q26
                go_wp2
                go_roundg k3
                case measure => have := HJ2.out; have := HJ8.out; have := HK3.out; omega
                case rel => exact ⟨(wrap64 (x11_3 + 1)), (by first | rfl | (simp; done) | (simp [*]; done)), H', ⟨by have := HJ2.out; have := HJ8.out; have := HK3.out; omega⟩, ⟨by repeat (first | (with_reducible first | exact HB.out | apply below_alloc | apply pw_below_drewN | apply below_drew1) | exact HB.out)⟩⟩
             ·rw [if_neg c19] at H
              exact absurd H (by simp)
            ·rw [if_neg c18] at H
             have c18b0 : decide (x11_3 < (a0.size : Int)) = false := decide_eq_false c18
             clear c18
             by_cases c32 : t180 = 0
             ·rw [if_pos c32] at H
              have c32b0 : (t180 == 0) = true := beq_iff_eq.mpr c32
              have c32b1 : (t180 != 0) = false := bne_eq_false_iff_eq.mpr c32
              clear c32
              replace H := Option.bind_eq_some_iff.mp H
              obtain ⟨t192, A330, H⟩ := H
              replace H : (if t179.toList = t192.toList then ((solsticelaw16_wakes.f k3).bind fun t193 => (some t193)) else (some false)) = some r := H
              have A33 := Aside0.mk A330
              clear A330
              by_cases c34 : t179.toList = t192.toList
              ·rw [if_pos c34] at H
               have c34b0 : (t179.toList == t192.toList) = true := beq_iff_eq.mpr c34
               have c34b1 : (t179.toList != t192.toList) = false := bne_eq_false_iff_eq.mpr c34
               clear c34
               replace H := Option.bind_eq_some_iff.mp H
               obtain ⟨t193, A350, H⟩ := H
               replace H : (some t193) = some r := H
               have A35 := Aside0.mk A350
               clear A350
               obtain rfl := Option.some.inj H
               go_wp2_with (first | (go_at_call 17; (with_reducible refine (solsticeref16_Fold.calls k3 a0 t192 _ A33.out).mono ?_); rintro e w' ⟨rfl, ⟨nd, rfl⟩⟩) | (go_at_call 16; (with_reducible refine (solsticelaw16_wakes.calls k3  t193 _ ?sideG A35.out).mono ?_); (case sideG => first | exact GP_below HG.out (by repeat (first | (with_reducible first | exact HB.out | apply below_alloc | apply pw_below_drewN | apply below_drew1) | exact HB.out)) | repeat (first | exact HG.out | refine GP_alloc ?_ _ | refine GP_drewN ?_ _ | refine GP_drew ?_)); rintro e w36 ⟨rfl, hb⟩; have n0_ := Aside0.mk (below_step (by repeat (first | (with_reducible first | exact HB.out | apply below_alloc | apply pw_below_drewN | apply below_drew1) | exact HB.out)) hb); clear HB; have HB := n0_; clear n0_; (try clear hb); (try clear hb2); (try clear hk); (try clear hi)))
               go_ret
               exact ⟨by first | rfl | (simp [errW_none, errW_some] <;> rfl) | (simp [*, errW_none, errW_some] <;> rfl), by repeat (first | (with_reducible first | exact HB.out | apply below_alloc | apply pw_below_drewN | apply below_drew1) | exact HB.out)⟩
              ·rw [if_neg c34] at H
               have c34b0 : (t179.toList == t192.toList) = false := beq_eq_false_iff_ne.mpr c34
               have c34b1 : (t179.toList != t192.toList) = true := bne_iff_ne.mpr c34
               obtain rfl := Option.some.inj H
               go_wp2_with (first | (go_at_call 17; (with_reducible refine (solsticeref16_Fold.calls k3 a0 t192 _ A33.out).mono ?_); rintro e w' ⟨rfl, ⟨nd, rfl⟩⟩))
               go_ret
               exact ⟨by first | rfl | (simp [errW_none, errW_some] <;> rfl) | (simp [*, errW_none, errW_some] <;> rfl), by repeat (first | (with_reducible first | exact HB.out | apply below_alloc | apply pw_below_drewN | apply below_drew1) | exact HB.out)⟩
             ·rw [if_neg c32] at H
              have c32b0 : (t180 == 0) = false := beq_eq_false_iff_ne.mpr c32
              have c32b1 : (t180 != 0) = true := bne_iff_ne.mpr c32
              obtain rfl := Option.some.inj H
              go_wp2
              go_ret
              exact ⟨by first | rfl | (simp [errW_none, errW_some] <;> rfl) | (simp [*, errW_none, errW_some] <;> rfl), by repeat (first | (with_reducible first | exact HB.out | apply below_alloc | apply pw_below_drewN | apply below_drew1) | exact HB.out)⟩
def solsticelaw16_FoldExact.Pure : Prop := ∀ (a0 : ByteArray) (a1 : ByteArray), a0.size ≤ 140737488351232 → a1.size ≤ 140737488351232 → ∃ k, solsticelaw16_FoldExact.f k a0 a1 = some true
end Go.Proofs.YtfiiipjglacejaaDoor.PFol