-- Printed by a program of this session's over the kit's printer; library functions by contracts off the shelf.
import Derived.Test.YtfiiipjglacejaaDoorGP
import Derived.Test.YtfiiipjglacejaaDoorPFolx0
import Derived.Test.YtfiiipjglacejaaDoorPFolx1
import Derived.Test.YtfiiipjglacejaaDoorPFolx2
import Derived.Test.YtfiiipjglacejaaDoorPFolx3
namespace Go.Proofs.YtfiiipjglacejaaDoor.PFol
open Go.RowKit Go.Proofs.YtfiiipjglacejaaDoorW.PrintWords Go.Proofs.YtfiiipjglacejaaDoorW.PrintLast Go.Proofs.YtfiiipjglacejaaDoorW.PrintMore Go.Proofs.YtfiiipjglacejaaDoor.Base
attribute [local go_sem] max2_int min2_int max_two min_two max_three min_three max_four min_four   -- for this text's walks alone
set_option linter.unusedVariables false
set_option linter.unusedSimpArgs false
def solsticelaw16_wakes.l0 : Nat → ByteArray → Option (Bool)
 | 0, _ => none
 | k + 1, x1 => if (x1.size : Int) < 76 then (if x1.size + 1 ≤ 9223372036854775807 then (solsticelaw16_wakes.l0 k (x1 ++ (⟨#[97]⟩ : ByteArray))) else (none)) else ((fold_Line.f k x1).bind fun bt156 => ((fold_Unfold.f k bt156.1).bind fun bt158 => ((fold_Line.f k (⟨#[97, 10]⟩ : ByteArray)).bind fun bt162 => ((fold_Unfold.f k (⟨#[97, 13, 10, 32, 98, 10, 99]⟩ : ByteArray)).bind fun bt164 => (if bt156.2 = 0 then (if (bt156.1.size : Int) = 81 then (if bt158.2 = 0 then ((solsticekeep_Texts.f k bt158.1 (([x1] : List ByteArray))).bind fun t171 => (if t171 = true then (if bt162.2 = 18 then (if bt164.2 = 0 then ((solsticekeep_Texts.f k bt164.1 (([(⟨#[97, 98]⟩ : ByteArray), (⟨#[99]⟩ : ByteArray)] : List ByteArray))).bind fun t175 => (some t175)) else (some false)) else (some false)) else (some false))) else (some false)) else (some false)) else (some false))))))
def solsticelaw16_wakes.f (k : Nat)  : Option (Bool) := solsticelaw16_wakes.l0 k (⟨#[]⟩ : ByteArray)
theorem solsticelaw16_wakes.mono_l : ∀ k, (∀ y0, LeO (solsticelaw16_wakes.l0 k y0) (solsticelaw16_wakes.l0 (k + 1) y0))
 | 0 => fun _ r h => by simp [solsticelaw16_wakes.l0] at h
 | k + 1 => by
  have ih0 := solsticelaw16_wakes.mono_l k
  ·intro y0
   unfold solsticelaw16_wakes.l0
   repeat' first
   | (with_reducible exact ih0 _)
   | (with_reducible exact fold_Line.mono _ _)
   | (with_reducible exact fold_Unfold.mono _ _)
   | (with_reducible exact solsticekeep_Texts.mono _ _ _)
   | (with_reducible exact LeO.refl _)
   | (with_reducible exact LeO.none _)
   | (with_reducible refine LeO.ite ?_ ?_)
   | (with_reducible refine LeO.bind ?_ (fun _ => ?_))
   | exact ih0 _
   | exact fold_Line.mono _ _
   | exact fold_Unfold.mono _ _
   | exact solsticekeep_Texts.mono _ _ _
   | exact LeO.none _
   | refine LeO.ite ?_ ?_
   | refine LeO.bind ?_ (fun _ => ?_)
theorem solsticelaw16_wakes.mono : ∀ k, LeO (solsticelaw16_wakes.f k ) (solsticelaw16_wakes.f (k + 1) ) := by
 intro  k
 have ih0 := solsticelaw16_wakes.mono_l k
 unfold solsticelaw16_wakes.f
 repeat' first
   | (with_reducible exact ih0 _)
   | (with_reducible exact fold_Line.mono _ _)
   | (with_reducible exact fold_Unfold.mono _ _)
   | (with_reducible exact solsticekeep_Texts.mono _ _ _)
   | (with_reducible exact LeO.refl _)
   | (with_reducible exact LeO.none _)
   | (with_reducible refine LeO.ite ?_ ?_)
   | (with_reducible refine LeO.bind ?_ (fun _ => ?_))
   | exact ih0 _
   | exact fold_Line.mono _ _
   | exact fold_Unfold.mono _ _
   | exact solsticekeep_Texts.mono _ _ _
   | exact LeO.none _
   | refine LeO.ite ?_ ?_
   | refine LeO.bind ?_ (fun _ => ?_)
set_option maxHeartbeats 8000000 in
set_option maxRecDepth 100000 in
theorem solsticelaw16_wakes.calls (k : Nat)  (r : Bool) (w : World) (hG : GP w) (h : solsticelaw16_wakes.f k  = some r) :
  Calls Tryd.prog 16 #[] w fun e w' => e = .returned (.bool r) ∧ Below w.heap.size w w' := by
 have HG := Aside0.mk hG
 clear hG
 have HB := Aside0.mk (Below.refl w.heap.size w)
 have H : (solsticelaw16_wakes.l0 k (⟨#[]⟩ : ByteArray)) = some r := h
 clear h
 have H' := Aside0.mk H
 clear H
 go_enter Tryd.func16, Tryd.ntmps16
 go_wp2
 go_loopg [1] k (fun kq v1 w' => ∃ (x1_1 : ByteArray), v1 = .string x1_1 ∧ Aside0 (solsticelaw16_wakes.l0 kq x1_1 = some r) ∧ Aside0 (kq ≤ k) ∧ Aside0 (Below w.heap.size w w'))
 case atStart => exact ⟨((⟨#[]⟩ : ByteArray)), (by first | rfl | (simp; done) | (simp [*]; done)), H', ⟨Nat.le_refl _⟩, ⟨by repeat (first | (with_reducible first | exact HB.out | apply below_alloc | apply pw_below_drewN | apply below_drew1) | exact HB.out)⟩⟩
 case round =>
  as_aux_lemma =>
   clear H'
   obtain ⟨x1_1, rfl, HA, HK1, HB⟩ := hrel
   cases gk with
   | zero => exact absurd HA.out (by simp [solsticelaw16_wakes.l0])
   | succ k1 =>
    have H := HA.out
    clear HA
    simp only [solsticelaw16_wakes.l0] at H
    by_cases c1 : (x1_1.size : Int) < 76
    ·rw [if_pos c1] at H
     have c1b0 : decide ((x1_1.size : Int) < 76) = true := decide_eq_true c1
     have c1b1 : decide (x1_1.size < 76) = true := decide_eq_true (by omega)
     clear c1
     by_cases c2 : x1_1.size + 1 ≤ 9223372036854775807
     ·rw [if_pos c2] at H
      have c2b0 := eq_true c2
      have c2b1 : decide (x1_1.size + 1 ≤ 9223372036854775807) = true := decide_eq_true c2
      try have c2b2 : (9223372036854775807 < x1_1.size + 1) = False := eq_false (Nat.not_lt.2 c2)
      have H' := Aside0.mk H
      clear H
      go_wp2
      go_roundg k1
      case measure => have := HK1.out; omega
      case rel => exact ⟨(x1_1 ++ (⟨#[97]⟩ : ByteArray)), (by first | rfl | (simp; done) | (simp [*]; done)), H', ⟨by have := HK1.out; omega⟩, ⟨by repeat (first | (with_reducible first | exact HB.out | apply below_alloc | apply pw_below_drewN | apply below_drew1) | exact HB.out)⟩⟩
     ·rw [if_neg c2] at H
      exact absurd H (by simp)
    ·rw [if_neg c1] at H
     have c1b0 : decide ((x1_1.size : Int) < 76) = false := decide_eq_false c1
     have c1b1 : decide (x1_1.size < 76) = false := decide_eq_false (by omega)
     clear c1
     replace H := Option.bind_eq_some_iff.mp H
     obtain ⟨⟨t156, t157⟩, A30, H⟩ := H
     replace H : ((fold_Unfold.f k1 t156).bind fun bt158 => ((fold_Line.f k1 (⟨#[97, 10]⟩ : ByteArray)).bind fun bt162 => ((fold_Unfold.f k1 (⟨#[97, 13, 10, 32, 98, 10, 99]⟩ : ByteArray)).bind fun bt164 => (if t157 = 0 then (if (t156.size : Int) = 81 then (if bt158.2 = 0 then ((solsticekeep_Texts.f k1 bt158.1 (([x1_1] : List ByteArray))).bind fun t171 => (if t171 = true then (if bt162.2 = 18 then (if bt164.2 = 0 then ((solsticekeep_Texts.f k1 bt164.1 (([(⟨#[97, 98]⟩ : ByteArray), (⟨#[99]⟩ : ByteArray)] : List ByteArray))).bind fun t175 => (some t175)) else (some false)) else (some false)) else (some false))) else (some false)) else (some false)) else (some false))))) = some r := H
     have A3 := Aside0.mk A30
     clear A30
     replace H := Option.bind_eq_some_iff.mp H
     obtain ⟨⟨t158, t159⟩, A40, H⟩ := H
     replace H : ((fold_Line.f k1 (⟨#[97, 10]⟩ : ByteArray)).bind fun bt162 => ((fold_Unfold.f k1 (⟨#[97, 13, 10, 32, 98, 10, 99]⟩ : ByteArray)).bind fun bt164 => (if t157 = 0 then (if (t156.size : Int) = 81 then (if t159 = 0 then ((solsticekeep_Texts.f k1 t158 (([x1_1] : List ByteArray))).bind fun t171 => (if t171 = true then (if bt162.2 = 18 then (if bt164.2 = 0 then ((solsticekeep_Texts.f k1 bt164.1 (([(⟨#[97, 98]⟩ : ByteArray), (⟨#[99]⟩ : ByteArray)] : List ByteArray))).bind fun t175 => (some t175)) else (some false)) else (some false)) else (some false))) else (some false)) else (some false)) else (some false)))) = some r := H
     have A4 := Aside0.mk A40
     clear A40
     replace H := Option.bind_eq_some_iff.mp H
     obtain ⟨⟨t162, t163⟩, A50, H⟩ := H
     replace H : ((fold_Unfold.f k1 (⟨#[97, 13, 10, 32, 98, 10, 99]⟩ : ByteArray)).bind fun bt164 => (if t157 = 0 then (if (t156.size : Int) = 81 then (if t159 = 0 then ((solsticekeep_Texts.f k1 t158 (([x1_1] : List ByteArray))).bind fun t171 => (if t171 = true then (if t163 = 18 then (if bt164.2 = 0 then ((solsticekeep_Texts.f k1 bt164.1 (([(⟨#[97, 98]⟩ : ByteArray), (⟨#[99]⟩ : ByteArray)] : List ByteArray))).bind fun t175 => (some t175)) else (some false)) else (some false)) else (some false))) else (some false)) else (some false)) else (some false))) = some r := H
     have A5 := Aside0.mk A50
     clear A50
     replace H := Option.bind_eq_some_iff.mp H
     obtain ⟨⟨t164, t165⟩, A60, H⟩ := H
     replace H : (if t157 = 0 then (if (t156.size : Int) = 81 then (if t159 = 0 then ((solsticekeep_Texts.f k1 t158 (([x1_1] : List ByteArray))).bind fun t171 => (if t171 = true then (if t163 = 18 then (if t165 = 0 then ((solsticekeep_Texts.f k1 t164 (([(⟨#[97, 98]⟩ : ByteArray), (⟨#[99]⟩ : ByteArray)] : List ByteArray))).bind fun t175 => (some t175)) else (some false)) else (some false)) else (some false))) else (some false)) else (some false)) else (some false)) = some r := H
     have A6 := Aside0.mk A60
     clear A60
     by_cases c7 : t157 = 0
     ·rw [if_pos c7] at H
      have c7b0 : (t157 == 0) = true := beq_iff_eq.mpr c7
      have c7b1 : (t157 != 0) = false := bne_eq_false_iff_eq.mpr c7
      clear c7
      by_cases c8 : (t156.size : Int) = 81
      ·rw [if_pos c8] at H
       have c8b0 : ((t156.size : Int) == 81) = true := beq_iff_eq.mpr c8
       have c8b1 : ((t156.size : Int) != 81) = false := bne_eq_false_iff_eq.mpr c8
       clear c8
       by_cases c9 : t159 = 0
       ·rw [if_pos c9] at H
        have c9b0 : (t159 == 0) = true := beq_iff_eq.mpr c9
        have c9b1 : (t159 != 0) = false := bne_eq_false_iff_eq.mpr c9
        clear c9
        obtain ⟨y168, hy168⟩ : ∃ y_ : List ByteArray, y_ = (([x1_1] : List ByteArray)) := ⟨_, rfl⟩
        replace H : ((solsticekeep_Texts.f k1 t158 y168).bind fun t171 => (if t171 = true then (if t163 = 18 then (if t165 = 0 then ((solsticekeep_Texts.f k1 t164 (([(⟨#[97, 98]⟩ : ByteArray), (⟨#[99]⟩ : ByteArray)] : List ByteArray))).bind fun t175 => (some t175)) else (some false)) else (some false)) else (some false))) = some r := by first | (rw [hy168]; with_reducible exact H) | (have H2_ := (Option.bind_some _ _).symm.trans H; rw [hy168]; with_reducible exact H2_) | (have H2_ := (Option.bind_some _ _).symm.trans H; with_reducible exact H2_) | with_reducible exact H | (rw [hy168]; exact H) | exact H
        have Ny168 := Aside0.mk hy168
        clear hy168
        replace H := Option.bind_eq_some_iff.mp H
        obtain ⟨t171, A100, H⟩ := H
        replace H : (if t171 = true then (if t163 = 18 then (if t165 = 0 then ((solsticekeep_Texts.f k1 t164 (([(⟨#[97, 98]⟩ : ByteArray), (⟨#[99]⟩ : ByteArray)] : List ByteArray))).bind fun t175 => (some t175)) else (some false)) else (some false)) else (some false)) = some r := H
        have A10 := Aside0.mk A100
        clear A100
        by_cases c11 : t171 = true
        ·subst c11
         have H1 : (if t163 = 18 then (if t165 = 0 then ((solsticekeep_Texts.f k1 t164 (([(⟨#[97, 98]⟩ : ByteArray), (⟨#[99]⟩ : ByteArray)] : List ByteArray))).bind fun t175 => (some t175)) else (some false)) else (some false)) = some r := by rw [if_pos rfl] at H; exact H
         clear H
         have H := H1
         clear H1
         by_cases c12 : t163 = 18
         ·rw [if_pos c12] at H
          have c12b0 : (t163 == 18) = true := beq_iff_eq.mpr c12
          have c12b1 : (t163 != 18) = false := bne_eq_false_iff_eq.mpr c12
          clear c12
          by_cases c13 : t165 = 0
          ·rw [if_pos c13] at H
           have c13b0 : (t165 == 0) = true := beq_iff_eq.mpr c13
           have c13b1 : (t165 != 0) = false := bne_eq_false_iff_eq.mpr c13
           clear c13
           obtain ⟨y172, hy172⟩ : ∃ y_ : List ByteArray, y_ = (([(⟨#[97, 98]⟩ : ByteArray), (⟨#[99]⟩ : ByteArray)] : List ByteArray)) := ⟨_, rfl⟩
           replace H : ((solsticekeep_Texts.f k1 t164 y172).bind fun t175 => (some t175)) = some r := by first | (rw [hy172]; with_reducible exact H) | (have H2_ := (Option.bind_some _ _).symm.trans H; rw [hy172]; with_reducible exact H2_) | (have H2_ := (Option.bind_some _ _).symm.trans H; with_reducible exact H2_) | with_reducible exact H | (rw [hy172]; exact H) | exact H
           have Ny172 := Aside0.mk hy172
           clear hy172
           replace H := Option.bind_eq_some_iff.mp H
           obtain ⟨t175, A140, H⟩ := H
           replace H : (some t175) = some r := H
           have A14 := Aside0.mk A140
           clear A140
           obtain rfl := Option.some.inj H
           go_wp2_with (first | ((with_reducible refine gate_callee (f := 12) rfl ?_); refine goesL_ (some 17) rfl rfl Tryd.func12 (by kernel_rfl) rfl #[.string x1_1] rfl (by (try simp only [List.map_toArray, List.map_cons, List.map_nil]); first | done | rfl | (simp only [List.length_drop, List.length_take]; rfl)) ?_; (with_reducible refine (fold_Line.calls k1 x1_1 t156 t157 _ A3.out).mono ?_); rintro e w15 ⟨rfl, hb⟩; refine ⟨_, rfl, ?_⟩; have n0_ := Aside0.mk (below_step (by repeat (first | (with_reducible first | exact HB.out | apply below_alloc | apply pw_below_drewN | apply below_drew1) | exact HB.out)) hb); clear HB; have HB := n0_; clear n0_; (try clear hb); (try clear hb2); (try clear hk); (try clear hi)) | ((with_reducible refine gate_callee (f := 13) rfl ?_); refine goesL_ (some 22) rfl rfl Tryd.func13 (by kernel_rfl) rfl #[.string t156] rfl (by (try simp only [List.map_toArray, List.map_cons, List.map_nil]); first | done | rfl | (simp only [List.length_drop, List.length_take]; rfl)) ?_; (with_reducible refine (fold_Unfold.calls k1 t156 t158 t159 _ ?sideG A4.out).mono ?_); (case sideG => first | exact GP_below HG.out (by repeat (first | (with_reducible first | exact HB.out | apply below_alloc | apply pw_below_drewN | apply below_drew1) | exact HB.out)) | repeat (first | exact HG.out | refine GP_alloc ?_ _ | refine GP_drewN ?_ _ | refine GP_drew ?_)); rintro e w16 ⟨v160, rfl, ho0, hb⟩; refine ⟨_, rfl, ?_⟩; have n0_ := Aside0.mk (Kd.R_lower ho0 (below_size (by repeat (first | (with_reducible first | exact HB.out | apply below_alloc | apply pw_below_drewN | apply below_drew1) | exact HB.out)))); have n1_ := Aside0.mk (below_step (by repeat (first | (with_reducible first | exact HB.out | apply below_alloc | apply pw_below_drewN | apply below_drew1) | exact HB.out)) hb); clear HB; have HO161 := n0_; have HB := n1_; clear n0_ n1_; (try clear hb); (try clear hb2); (try clear hk); (try clear hi); (try clear ho0)) | ((with_reducible refine gate_callee (f := 12) rfl ?_); refine goesL_ (some 26) rfl rfl Tryd.func12 (by kernel_rfl) rfl #[.string (⟨#[97, 10]⟩ : ByteArray)] rfl (by (try simp only [List.map_toArray, List.map_cons, List.map_nil]); first | done | rfl | (simp only [List.length_drop, List.length_take]; rfl)) ?_; (with_reducible refine (fold_Line.calls k1 (⟨#[97, 10]⟩ : ByteArray) t162 t163 _ A5.out).mono ?_); rintro e w17 ⟨rfl, hb⟩; refine ⟨_, rfl, ?_⟩; have n0_ := Aside0.mk (Kd.R_below (by (with_reducible repeat (first | apply Kd.R_alloc | apply Kd.R_drewN | apply Kd.R_drew)); exact HO161.out) hb); have n1_ := Aside0.mk (below_step (by repeat (first | (with_reducible first | exact HB.out | apply below_alloc | apply pw_below_drewN | apply below_drew1) | exact HB.out)) hb); clear HO161; clear HB; have HO161 := n0_; have HB := n1_; clear n0_ n1_; (try clear hb); (try clear hb2); (try clear hk); (try clear hi)) | ((with_reducible refine gate_callee (f := 13) rfl ?_); refine goesL_ (some 30) rfl rfl Tryd.func13 (by kernel_rfl) rfl #[.string (⟨#[97, 13, 10, 32, 98, 10, 99]⟩ : ByteArray)] rfl (by (try simp only [List.map_toArray, List.map_cons, List.map_nil]); first | done | rfl | (simp only [List.length_drop, List.length_take]; rfl)) ?_; (with_reducible refine (fold_Unfold.calls k1 (⟨#[97, 13, 10, 32, 98, 10, 99]⟩ : ByteArray) t164 t165 _ ?sideG A6.out).mono ?_); (case sideG => first | exact GP_below HG.out (by repeat (first | (with_reducible first | exact HB.out | apply below_alloc | apply pw_below_drewN | apply below_drew1) | exact HB.out)) | repeat (first | exact HG.out | refine GP_alloc ?_ _ | refine GP_drewN ?_ _ | refine GP_drew ?_)); rintro e w18 ⟨v166, rfl, ho0, hb⟩; refine ⟨_, rfl, ?_⟩; have n0_ := Aside0.mk (Kd.R_elder' (by (with_reducible repeat (first | apply Kd.R_alloc | apply Kd.R_drewN | apply Kd.R_drew)); exact HO161.out) (Kd.R_base ho0) hb); have n1_ := Aside0.mk (Kd.R_lower (Kd.R_new' ho0 (Kd.R_lt (by (with_reducible repeat (first | apply Kd.R_alloc | apply Kd.R_drewN | apply Kd.R_drew)); exact HO161.out))) (below_size (by repeat (first | (with_reducible first | exact HB.out | apply below_alloc | apply pw_below_drewN | apply below_drew1) | exact HB.out)))); have n2_ := Aside0.mk (below_step (by repeat (first | (with_reducible first | exact HB.out | apply below_alloc | apply pw_below_drewN | apply below_drew1) | exact HB.out)) hb); clear HO161; clear HB; have HO161 := n0_; have HO167 := n1_; have HB := n2_; clear n0_ n1_ n2_; (try clear hb); (try clear hb2); (try clear hk); (try clear hi); (try clear ho0)) | ((with_reducible refine gate_dst (N := 47) rfl ?_); (try (refine gate_guard (by rfl) ?_; dsimp only)); refine Kd.R_lit Kd.string _ 9 ?hg (N := 47) ?hd (xs := ([x1_1] : List ByteArray)) (inner := [.string x1_1]) (ok := fun _ => True) (okp := fun _ => True) ?hr ?hp (fun _ hk => hk) trivial (Below.refl _ _) (Nat.le_refl _) (by simp) ?_; (case hd => rfl); (case hg => rfl); (case hr => first | (go_simp; done) | (go_simp; rfl)); (case hp => exact (Reps.one (show Kd.M Kd.string _ _ _ x1_1 [.string x1_1] from rfl) (Reps.none _ _))); intro v169 w19 ho20 hb hg_ hnew_; clear hg_ hnew_; (first | rw [← Ny168.out] at ho20 | (simp only [Int.reduceToNat] at ho20; rw [← Ny168.out] at ho20)); have n0_ := Aside0.mk (Kd.R_elder' (by (with_reducible repeat (first | apply Kd.R_alloc | apply Kd.R_drewN | apply Kd.R_drew)); exact HO161.out) (Kd.R_base ho20) hb); have n1_ := Aside0.mk (Kd.R_elder' (by (with_reducible repeat (first | apply Kd.R_alloc | apply Kd.R_drewN | apply Kd.R_drew)); exact HO167.out) (Kd.R_base ho20) hb); have n2_ := Aside0.mk (Kd.R_lower (Kd.R_new' (Kd.R_new' ho20 (Kd.R_lt (by (with_reducible repeat (first | apply Kd.R_alloc | apply Kd.R_drewN | apply Kd.R_drew)); exact HO161.out))) (Kd.R_lt (by (with_reducible repeat (first | apply Kd.R_alloc | apply Kd.R_drewN | apply Kd.R_drew)); exact HO167.out))) (below_size (by repeat (first | (with_reducible first | exact HB.out | apply below_alloc | apply pw_below_drewN | apply below_drew1) | exact HB.out)))); have n3_ := Aside0.mk (below_step (by repeat (first | (with_reducible first | exact HB.out | apply below_alloc | apply pw_below_drewN | apply below_drew1) | exact HB.out)) hb); clear HO161; clear HO167; clear HB; have HO161 := n0_; have HO167 := n1_; have HO170 := n2_; have HB := n3_; clear n0_ n1_ n2_ n3_; clear hb ho20; obtain ⟨Ao21, co21, eo21⟩ := Kd.R_slice HO161.out; subst eo21; obtain ⟨Ao22, co22, eo22⟩ := Kd.R_slice HO170.out; subst eo22) | (go_at_call 15; (with_reducible refine (solsticekeep_Texts.calls k1 _ _ t158 _ _ y168 true _ ?side1 ?side2 ?side3 ?side4 A10.out).mono ?_); (case side1 => repeat (first | exact (Kd.R_reads' HO161.out).2.2 | (with_reducible refine Kd.C_alloc ?_ _) | (with_reducible refine Kd.C_drewN ?_ _) | (with_reducible refine Kd.C_drew ?_))); (case side2 => exact (Kd.R_reads' HO161.out).2.1); (case side3 => repeat (first | exact (Kd.R_reads' HO170.out).2.2 | (with_reducible refine Kd.C_alloc ?_ _) | (with_reducible refine Kd.C_drewN ?_ _) | (with_reducible refine Kd.C_drew ?_))); (case side4 => exact (Kd.R_reads' HO170.out).2.1); rintro e w' ⟨rfl, ⟨nd, rfl⟩⟩) | ((with_reducible refine gate_dst (N := 60) rfl ?_); (try (refine gate_guard (by rfl) ?_; dsimp only)); refine Kd.R_lit Kd.string _ 9 ?hg (N := 60) ?hd (xs := ([(⟨#[97, 98]⟩ : ByteArray), (⟨#[99]⟩ : ByteArray)] : List ByteArray)) (inner := [.string (⟨#[97, 98]⟩ : ByteArray), .string (⟨#[99]⟩ : ByteArray)]) (ok := fun _ => True) (okp := fun _ => True) ?hr ?hp (fun _ hk => hk) trivial (Below.refl _ _) (Nat.le_refl _) (by simp) ?_; (case hd => rfl); (case hg => rfl); (case hr => first | (go_simp; done) | (go_simp; rfl)); (case hp => exact (Reps.one (show Kd.M Kd.string _ _ _ (⟨#[97, 98]⟩ : ByteArray) [.string (⟨#[97, 98]⟩ : ByteArray)] from rfl) (Reps.one (show Kd.M Kd.string _ _ _ (⟨#[99]⟩ : ByteArray) [.string (⟨#[99]⟩ : ByteArray)] from rfl) (Reps.none _ _)))); intro v173 w23 ho24 hb hg_ hnew_; clear hg_ hnew_; (first | rw [← Ny172.out] at ho24 | (simp only [Int.reduceToNat] at ho24; rw [← Ny172.out] at ho24)); have n0_ := Aside0.mk (Kd.R_elder' (by (with_reducible repeat (first | apply Kd.R_alloc | apply Kd.R_drewN | apply Kd.R_drew)); exact HO161.out) (Kd.R_base ho24) hb); have n1_ := Aside0.mk (Kd.R_elder' (by (with_reducible repeat (first | apply Kd.R_alloc | apply Kd.R_drewN | apply Kd.R_drew)); exact HO167.out) (Kd.R_base ho24) hb); have n2_ := Aside0.mk (Kd.R_elder' (by (with_reducible repeat (first | apply Kd.R_alloc | apply Kd.R_drewN | apply Kd.R_drew)); exact HO170.out) (Kd.R_base ho24) hb); have n3_ := Aside0.mk (Kd.R_lower (Kd.R_new' (Kd.R_new' (Kd.R_new' ho24 (Kd.R_lt (by (with_reducible repeat (first | apply Kd.R_alloc | apply Kd.R_drewN | apply Kd.R_drew)); exact HO161.out))) (Kd.R_lt (by (with_reducible repeat (first | apply Kd.R_alloc | apply Kd.R_drewN | apply Kd.R_drew)); exact HO167.out))) (Kd.R_lt (by (with_reducible repeat (first | apply Kd.R_alloc | apply Kd.R_drewN | apply Kd.R_drew)); exact HO170.out))) (below_size (by repeat (first | (with_reducible first | exact HB.out | apply below_alloc | apply pw_below_drewN | apply below_drew1) | exact HB.out)))); have n4_ := Aside0.mk (below_step (by repeat (first | (with_reducible first | exact HB.out | apply below_alloc | apply pw_below_drewN | apply below_drew1) | exact HB.out)) hb); clear HO161; clear HO167; clear HO170; clear HB; have HO161 := n0_; have HO167 := n1_; have HO170 := n2_; have HO174 := n3_; have HB := n4_; clear n0_ n1_ n2_ n3_ n4_; clear hb ho24; obtain ⟨Ao25, co25, eo25⟩ := Kd.R_slice HO167.out; subst eo25; obtain ⟨Ao26, co26, eo26⟩ := Kd.R_slice HO174.out; subst eo26) | (go_at_call 15; (with_reducible refine (solsticekeep_Texts.calls k1 _ _ t164 _ _ y172 t175 _ ?side1 ?side2 ?side3 ?side4 A14.out).mono ?_); (case side1 => repeat (first | exact (Kd.R_reads' HO167.out).2.2 | (with_reducible refine Kd.C_alloc ?_ _) | (with_reducible refine Kd.C_drewN ?_ _) | (with_reducible refine Kd.C_drew ?_))); (case side2 => exact (Kd.R_reads' HO167.out).2.1); (case side3 => repeat (first | exact (Kd.R_reads' HO174.out).2.2 | (with_reducible refine Kd.C_alloc ?_ _) | (with_reducible refine Kd.C_drewN ?_ _) | (with_reducible refine Kd.C_drew ?_))); (case side4 => exact (Kd.R_reads' HO174.out).2.1); rintro e w' ⟨rfl, ⟨nd, rfl⟩⟩))
           go_ret
           exact ⟨by first | rfl | (simp [errW_none, errW_some] <;> rfl) | (simp [*, errW_none, errW_some] <;> rfl), by repeat (first | (with_reducible first | exact HB.out | apply below_alloc | apply pw_below_drewN | apply below_drew1) | exact HB.out)⟩
          ·rw [if_neg c13] at H
           have c13b0 : (t165 == 0) = false := beq_eq_false_iff_ne.mpr c13
           have c13b1 : (t165 != 0) = true := bne_iff_ne.mpr c13
           obtain rfl := Option.some.inj H
           go_wp2_with (first | ((with_reducible refine gate_callee (f := 12) rfl ?_); refine goesL_ (some 17) rfl rfl Tryd.func12 (by kernel_rfl) rfl #[.string x1_1] rfl (by (try simp only [List.map_toArray, List.map_cons, List.map_nil]); first | done | rfl | (simp only [List.length_drop, List.length_take]; rfl)) ?_; (with_reducible refine (fold_Line.calls k1 x1_1 t156 t157 _ A3.out).mono ?_); rintro e w27 ⟨rfl, hb⟩; refine ⟨_, rfl, ?_⟩; have n0_ := Aside0.mk (below_step (by repeat (first | (with_reducible first | exact HB.out | apply below_alloc | apply pw_below_drewN | apply below_drew1) | exact HB.out)) hb); clear HB; have HB := n0_; clear n0_; (try clear hb); (try clear hb2); (try clear hk); (try clear hi)) | ((with_reducible refine gate_callee (f := 13) rfl ?_); refine goesL_ (some 22) rfl rfl Tryd.func13 (by kernel_rfl) rfl #[.string t156] rfl (by (try simp only [List.map_toArray, List.map_cons, List.map_nil]); first | done | rfl | (simp only [List.length_drop, List.length_take]; rfl)) ?_; (with_reducible refine (fold_Unfold.calls k1 t156 t158 t159 _ ?sideG A4.out).mono ?_); (case sideG => first | exact GP_below HG.out (by repeat (first | (with_reducible first | exact HB.out | apply below_alloc | apply pw_below_drewN | apply below_drew1) | exact HB.out)) | repeat (first | exact HG.out | refine GP_alloc ?_ _ | refine GP_drewN ?_ _ | refine GP_drew ?_)); rintro e w28 ⟨v160, rfl, ho0, hb⟩; refine ⟨_, rfl, ?_⟩; have n0_ := Aside0.mk (Kd.R_lower ho0 (below_size (by repeat (first | (with_reducible first | exact HB.out | apply below_alloc | apply pw_below_drewN | apply below_drew1) | exact HB.out)))); have n1_ := Aside0.mk (below_step (by repeat (first | (with_reducible first | exact HB.out | apply below_alloc | apply pw_below_drewN | apply below_drew1) | exact HB.out)) hb); clear HB; have HO161 := n0_; have HB := n1_; clear n0_ n1_; (try clear hb); (try clear hb2); (try clear hk); (try clear hi); (try clear ho0)) | ((with_reducible refine gate_callee (f := 12) rfl ?_); refine goesL_ (some 26) rfl rfl Tryd.func12 (by kernel_rfl) rfl #[.string (⟨#[97, 10]⟩ : ByteArray)] rfl (by (try simp only [List.map_toArray, List.map_cons, List.map_nil]); first | done | rfl | (simp only [List.length_drop, List.length_take]; rfl)) ?_; (with_reducible refine (fold_Line.calls k1 (⟨#[97, 10]⟩ : ByteArray) t162 t163 _ A5.out).mono ?_); rintro e w29 ⟨rfl, hb⟩; refine ⟨_, rfl, ?_⟩; have n0_ := Aside0.mk (Kd.R_below (by (with_reducible repeat (first | apply Kd.R_alloc | apply Kd.R_drewN | apply Kd.R_drew)); exact HO161.out) hb); have n1_ := Aside0.mk (below_step (by repeat (first | (with_reducible first | exact HB.out | apply below_alloc | apply pw_below_drewN | apply below_drew1) | exact HB.out)) hb); clear HO161; clear HB; have HO161 := n0_; have HB := n1_; clear n0_ n1_; (try clear hb); (try clear hb2); (try clear hk); (try clear hi)) | ((with_reducible refine gate_callee (f := 13) rfl ?_); refine goesL_ (some 30) rfl rfl Tryd.func13 (by kernel_rfl) rfl #[.string (⟨#[97, 13, 10, 32, 98, 10, 99]⟩ : ByteArray)] rfl (by (try simp only [List.map_toArray, List.map_cons, List.map_nil]); first | done | rfl | (simp only [List.length_drop, List.length_take]; rfl)) ?_; (with_reducible refine (fold_Unfold.calls k1 (⟨#[97, 13, 10, 32, 98, 10, 99]⟩ : ByteArray) t164 t165 _ ?sideG A6.out).mono ?_); (case sideG => first | exact GP_below HG.out (by repeat (first | (with_reducible first | exact HB.out | apply below_alloc | apply pw_below_drewN | apply below_drew1) | exact HB.out)) | repeat (first | exact HG.out | refine GP_alloc ?_ _ | refine GP_drewN ?_ _ | refine GP_drew ?_)); rintro e w30 ⟨v166, rfl, ho0, hb⟩; refine ⟨_, rfl, ?_⟩; have n0_ := Aside0.mk (Kd.R_elder' (by (with_reducible repeat (first | apply Kd.R_alloc | apply Kd.R_drewN | apply Kd.R_drew)); exact HO161.out) (Kd.R_base ho0) hb); have n1_ := Aside0.mk (Kd.R_lower (Kd.R_new' ho0 (Kd.R_lt (by (with_reducible repeat (first | apply Kd.R_alloc | apply Kd.R_drewN | apply Kd.R_drew)); exact HO161.out))) (below_size (by repeat (first | (with_reducible first | exact HB.out | apply below_alloc | apply pw_below_drewN | apply below_drew1) | exact HB.out)))); have n2_ := Aside0.mk (below_step (by repeat (first | (with_reducible first | exact HB.out | apply below_alloc | apply pw_below_drewN | apply below_drew1) | exact HB.out)) hb); clear HO161; clear HB; have HO161 := n0_; have HO167 := n1_; have HB := n2_; clear n0_ n1_ n2_; (try clear hb); (try clear hb2); (try clear hk); (try clear hi); (try clear ho0)) | ((with_reducible refine gate_dst (N := 47) rfl ?_); (try (refine gate_guard (by rfl) ?_; dsimp only)); refine Kd.R_lit Kd.string _ 9 ?hg (N := 47) ?hd (xs := ([x1_1] : List ByteArray)) (inner := [.string x1_1]) (ok := fun _ => True) (okp := fun _ => True) ?hr ?hp (fun _ hk => hk) trivial (Below.refl _ _) (Nat.le_refl _) (by simp) ?_; (case hd => rfl); (case hg => rfl); (case hr => first | (go_simp; done) | (go_simp; rfl)); (case hp => exact (Reps.one (show Kd.M Kd.string _ _ _ x1_1 [.string x1_1] from rfl) (Reps.none _ _))); intro v169 w31 ho32 hb hg_ hnew_; clear hg_ hnew_; (first | rw [← Ny168.out] at ho32 | (simp only [Int.reduceToNat] at ho32; rw [← Ny168.out] at ho32)); have n0_ := Aside0.mk (Kd.R_elder' (by (with_reducible repeat (first | apply Kd.R_alloc | apply Kd.R_drewN | apply Kd.R_drew)); exact HO161.out) (Kd.R_base ho32) hb); have n1_ := Aside0.mk (Kd.R_elder' (by (with_reducible repeat (first | apply Kd.R_alloc | apply Kd.R_drewN | apply Kd.R_drew)); exact HO167.out) (Kd.R_base ho32) hb); have n2_ := Aside0.mk (Kd.R_lower (Kd.R_new' (Kd.R_new' ho32 (Kd.R_lt (by (with_reducible repeat (first | apply Kd.R_alloc | apply Kd.R_drewN | apply Kd.R_drew)); exact HO161.out))) (Kd.R_lt (by (with_reducible repeat (first | apply Kd.R_alloc | apply Kd.R_drewN | apply Kd.R_drew)); exact HO167.out))) (below_size (by repeat (first | (with_reducible first | exact HB.out | apply below_alloc | apply pw_below_drewN | apply below_drew1) | exact HB.out)))); have n3_ := Aside0.mk (below_step (by repeat (first | (with_reducible first | exact HB.out | apply below_alloc | apply pw_below_drewN | apply below_drew1) | exact HB.out)) hb); clear HO161; clear HO167; clear HB; have HO161 := n0_; have HO167 := n1_; have HO170 := n2_; have HB := n3_; clear n0_ n1_ n2_ n3_; clear hb ho32; obtain ⟨Ao33, co33, eo33⟩ := Kd.R_slice HO161.out; subst eo33; obtain ⟨Ao34, co34, eo34⟩ := Kd.R_slice HO170.out; subst eo34) | (go_at_call 15; (with_reducible refine (solsticekeep_Texts.calls k1 _ _ t158 _ _ y168 true _ ?side1 ?side2 ?side3 ?side4 A10.out).mono ?_); (case side1 => repeat (first | exact (Kd.R_reads' HO161.out).2.2 | (with_reducible refine Kd.C_alloc ?_ _) | (with_reducible refine Kd.C_drewN ?_ _) | (with_reducible refine Kd.C_drew ?_))); (case side2 => exact (Kd.R_reads' HO161.out).2.1); (case side3 => repeat (first | exact (Kd.R_reads' HO170.out).2.2 | (with_reducible refine Kd.C_alloc ?_ _) | (with_reducible refine Kd.C_drewN ?_ _) | (with_reducible refine Kd.C_drew ?_))); (case side4 => exact (Kd.R_reads' HO170.out).2.1); rintro e w' ⟨rfl, ⟨nd, rfl⟩⟩))
           go_ret
           exact ⟨by first | rfl | (simp [errW_none, errW_some] <;> rfl) | (simp [*, errW_none, errW_some] <;> rfl), by repeat (first | (with_reducible first | exact HB.out | apply below_alloc | apply pw_below_drewN | apply below_drew1) | exact HB.out)⟩
         ·rw [if_neg c12] at H
          have c12b0 : (t163 == 18) = false := beq_eq_false_iff_ne.mpr c12
          have c12b1 : (t163 != 18) = true := bne_iff_ne.mpr c12
          obtain rfl := Option.some.inj H
          go_wp2_with (first | ((with_reducible refine gate_callee (f := 12) rfl ?_); refine goesL_ (some 17) rfl rfl Tryd.func12 (by kernel_rfl) rfl #[.string x1_1] rfl (by (try simp only [List.map_toArray, List.map_cons, List.map_nil]); first | done | rfl | (simp only [List.length_drop, List.length_take]; rfl)) ?_; (with_reducible refine (fold_Line.calls k1 x1_1 t156 t157 _ A3.out).mono ?_); rintro e w35 ⟨rfl, hb⟩; refine ⟨_, rfl, ?_⟩; have n0_ := Aside0.mk (below_step (by repeat (first | (with_reducible first | exact HB.out | apply below_alloc | apply pw_below_drewN | apply below_drew1) | exact HB.out)) hb); clear HB; have HB := n0_; clear n0_; (try clear hb); (try clear hb2); (try clear hk); (try clear hi)) | ((with_reducible refine gate_callee (f := 13) rfl ?_); refine goesL_ (some 22) rfl rfl Tryd.func13 (by kernel_rfl) rfl #[.string t156] rfl (by (try simp only [List.map_toArray, List.map_cons, List.map_nil]); first | done | rfl | (simp only [List.length_drop, List.length_take]; rfl)) ?_; (with_reducible refine (fold_Unfold.calls k1 t156 t158 t159 _ ?sideG A4.out).mono ?_); (case sideG => first | exact GP_below HG.out (by repeat (first | (with_reducible first | exact HB.out | apply below_alloc | apply pw_below_drewN | apply below_drew1) | exact HB.out)) | repeat (first | exact HG.out | refine GP_alloc ?_ _ | refine GP_drewN ?_ _ | refine GP_drew ?_)); rintro e w36 ⟨v160, rfl, ho0, hb⟩; refine ⟨_, rfl, ?_⟩; have n0_ := Aside0.mk (Kd.R_lower ho0 (below_size (by repeat (first | (with_reducible first | exact HB.out | apply below_alloc | apply pw_below_drewN | apply below_drew1) | exact HB.out)))); have n1_ := Aside0.mk (below_step (by repeat (first | (with_reducible first | exact HB.out | apply below_alloc | apply pw_below_drewN | apply below_drew1) | exact HB.out)) hb); clear HB; have HO161 := n0_; have HB := n1_; clear n0_ n1_; (try clear hb); (try clear hb2); (try clear hk); (try clear hi); (try clear ho0)) | ((with_reducible refine gate_callee (f := 12) rfl ?_); refine goesL_ (some 26) rfl rfl Tryd.func12 (by kernel_rfl) rfl #[.string (⟨#[97, 10]⟩ : ByteArray)] rfl (by (try simp only [List.map_toArray, List.map_cons, List.map_nil]); first | done | rfl | (simp only [List.length_drop, List.length_take]; rfl)) ?_; (with_reducible refine (fold_Line.calls k1 (⟨#[97, 10]⟩ : ByteArray) t162 t163 _ A5.out).mono ?_); rintro e w37 ⟨rfl, hb⟩; refine ⟨_, rfl, ?_⟩; have n0_ := Aside0.mk (Kd.R_below (by (with_reducible repeat (first | apply Kd.R_alloc | apply Kd.R_drewN | apply Kd.R_drew)); exact HO161.out) hb); have n1_ := Aside0.mk (below_step (by repeat (first | (with_reducible first | exact HB.out | apply below_alloc | apply pw_below_drewN | apply below_drew1) | exact HB.out)) hb); clear HO161; clear HB; have HO161 := n0_; have HB := n1_; clear n0_ n1_; (try clear hb); (try clear hb2); (try clear hk); (try clear hi)) | ((with_reducible refine gate_callee (f := 13) rfl ?_); refine goesL_ (some 30) rfl rfl Tryd.func13 (by kernel_rfl) rfl #[.string (⟨#[97, 13, 10, 32, 98, 10, 99]⟩ : ByteArray)] rfl (by (try simp only [List.map_toArray, List.map_cons, List.map_nil]); first | done | rfl | (simp only [List.length_drop, List.length_take]; rfl)) ?_; (with_reducible refine (fold_Unfold.calls k1 (⟨#[97, 13, 10, 32, 98, 10, 99]⟩ : ByteArray) t164 t165 _ ?sideG A6.out).mono ?_); (case sideG => first | exact GP_below HG.out (by repeat (first | (with_reducible first | exact HB.out | apply below_alloc | apply pw_below_drewN | apply below_drew1) | exact HB.out)) | repeat (first | exact HG.out | refine GP_alloc ?_ _ | refine GP_drewN ?_ _ | refine GP_drew ?_)); rintro e w38 ⟨v166, rfl, ho0, hb⟩; refine ⟨_, rfl, ?_⟩; have n0_ := Aside0.mk (Kd.R_elder' (by (with_reducible repeat (first | apply Kd.R_alloc | apply Kd.R_drewN | apply Kd.R_drew)); exact HO161.out) (Kd.R_base ho0) hb); have n1_ := Aside0.mk (Kd.R_lower (Kd.R_new' ho0 (Kd.R_lt (by (with_reducible repeat (first | apply Kd.R_alloc | apply Kd.R_drewN | apply Kd.R_drew)); exact HO161.out))) (below_size (by repeat (first | (with_reducible first | exact HB.out | apply below_alloc | apply pw_below_drewN | apply below_drew1) | exact HB.out)))); have n2_ := Aside0.mk (below_step (by repeat (first | (with_reducible first | exact HB.out | apply below_alloc | apply pw_below_drewN | apply below_drew1) | exact HB.out)) hb); clear HO161; clear HB; have HO161 := n0_; have HO167 := n1_; have HB := n2_; clear n0_ n1_ n2_; (try clear hb); (try clear hb2); (try clear hk); (try clear hi); (try clear ho0)) | ((with_reducible refine gate_dst (N := 47) rfl ?_); (try (refine gate_guard (by rfl) ?_; dsimp only)); refine Kd.R_lit Kd.string _ 9 ?hg (N := 47) ?hd (xs := ([x1_1] : List ByteArray)) (inner := [.string x1_1]) (ok := fun _ => True) (okp := fun _ => True) ?hr ?hp (fun _ hk => hk) trivial (Below.refl _ _) (Nat.le_refl _) (by simp) ?_; (case hd => rfl); (case hg => rfl); (case hr => first | (go_simp; done) | (go_simp; rfl)); (case hp => exact (Reps.one (show Kd.M Kd.string _ _ _ x1_1 [.string x1_1] from rfl) (Reps.none _ _))); intro v169 w39 ho40 hb hg_ hnew_; clear hg_ hnew_; (first | rw [← Ny168.out] at ho40 | (simp only [Int.reduceToNat] at ho40; rw [← Ny168.out] at ho40)); have n0_ := Aside0.mk (Kd.R_elder' (by (with_reducible repeat (first | apply Kd.R_alloc | apply Kd.R_drewN | apply Kd.R_drew)); exact HO161.out) (Kd.R_base ho40) hb); have n1_ := Aside0.mk (Kd.R_elder' (by (with_reducible repeat (first | apply Kd.R_alloc | apply Kd.R_drewN | apply Kd.R_drew)); exact HO167.out) (Kd.R_base ho40) hb); have n2_ := Aside0.mk (Kd.R_lower (Kd.R_new' (Kd.R_new' ho40 (Kd.R_lt (by (with_reducible repeat (first | apply Kd.R_alloc | apply Kd.R_drewN | apply Kd.R_drew)); exact HO161.out))) (Kd.R_lt (by (with_reducible repeat (first | apply Kd.R_alloc | apply Kd.R_drewN | apply Kd.R_drew)); exact HO167.out))) (below_size (by repeat (first | (with_reducible first | exact HB.out | apply below_alloc | apply pw_below_drewN | apply below_drew1) | exact HB.out)))); have n3_ := Aside0.mk (below_step (by repeat (first | (with_reducible first | exact HB.out | apply below_alloc | apply pw_below_drewN | apply below_drew1) | exact HB.out)) hb); clear HO161; clear HO167; clear HB; have HO161 := n0_; have HO167 := n1_; have HO170 := n2_; have HB := n3_; clear n0_ n1_ n2_ n3_; clear hb ho40; obtain ⟨Ao41, co41, eo41⟩ := Kd.R_slice HO161.out; subst eo41; obtain ⟨Ao42, co42, eo42⟩ := Kd.R_slice HO170.out; subst eo42) | (go_at_call 15; (with_reducible refine (solsticekeep_Texts.calls k1 _ _ t158 _ _ y168 true _ ?side1 ?side2 ?side3 ?side4 A10.out).mono ?_); (case side1 => repeat (first | exact (Kd.R_reads' HO161.out).2.2 | (with_reducible refine Kd.C_alloc ?_ _) | (with_reducible refine Kd.C_drewN ?_ _) | (with_reducible refine Kd.C_drew ?_))); (case side2 => exact (Kd.R_reads' HO161.out).2.1); (case side3 => repeat (first | exact (Kd.R_reads' HO170.out).2.2 | (with_reducible refine Kd.C_alloc ?_ _) | (with_reducible refine Kd.C_drewN ?_ _) | (with_reducible refine Kd.C_drew ?_))); (case side4 => exact (Kd.R_reads' HO170.out).2.1); rintro e w' ⟨rfl, ⟨nd, rfl⟩⟩))
          go_ret
          exact ⟨by first | rfl | (simp [errW_none, errW_some] <;> rfl) | (simp [*, errW_none, errW_some] <;> rfl), by repeat (first | (with_reducible first | exact HB.out | apply below_alloc | apply pw_below_drewN | apply below_drew1) | exact HB.out)⟩
        ·replace c11 := Bool.eq_false_iff.mpr c11
         subst c11
         have H1 : (some false) = some r := by rw [if_neg (show ¬ (false = true) by decide)] at H; exact H
         clear H
         have H := H1
         clear H1
         obtain rfl := Option.some.inj H
         go_wp2_with (first | ((with_reducible refine gate_callee (f := 12) rfl ?_); refine goesL_ (some 17) rfl rfl Tryd.func12 (by kernel_rfl) rfl #[.string x1_1] rfl (by (try simp only [List.map_toArray, List.map_cons, List.map_nil]); first | done | rfl | (simp only [List.length_drop, List.length_take]; rfl)) ?_; (with_reducible refine (fold_Line.calls k1 x1_1 t156 t157 _ A3.out).mono ?_); rintro e w43 ⟨rfl, hb⟩; refine ⟨_, rfl, ?_⟩; have n0_ := Aside0.mk (below_step (by repeat (first | (with_reducible first | exact HB.out | apply below_alloc | apply pw_below_drewN | apply below_drew1) | exact HB.out)) hb); clear HB; have HB := n0_; clear n0_; (try clear hb); (try clear hb2); (try clear hk); (try clear hi)) | ((with_reducible refine gate_callee (f := 13) rfl ?_); refine goesL_ (some 22) rfl rfl Tryd.func13 (by kernel_rfl) rfl #[.string t156] rfl (by (try simp only [List.map_toArray, List.map_cons, List.map_nil]); first | done | rfl | (simp only [List.length_drop, List.length_take]; rfl)) ?_; (with_reducible refine (fold_Unfold.calls k1 t156 t158 t159 _ ?sideG A4.out).mono ?_); (case sideG => first | exact GP_below HG.out (by repeat (first | (with_reducible first | exact HB.out | apply below_alloc | apply pw_below_drewN | apply below_drew1) | exact HB.out)) | repeat (first | exact HG.out | refine GP_alloc ?_ _ | refine GP_drewN ?_ _ | refine GP_drew ?_)); rintro e w44 ⟨v160, rfl, ho0, hb⟩; refine ⟨_, rfl, ?_⟩; have n0_ := Aside0.mk (Kd.R_lower ho0 (below_size (by repeat (first | (with_reducible first | exact HB.out | apply below_alloc | apply pw_below_drewN | apply below_drew1) | exact HB.out)))); have n1_ := Aside0.mk (below_step (by repeat (first | (with_reducible first | exact HB.out | apply below_alloc | apply pw_below_drewN | apply below_drew1) | exact HB.out)) hb); clear HB; have HO161 := n0_; have HB := n1_; clear n0_ n1_; (try clear hb); (try clear hb2); (try clear hk); (try clear hi); (try clear ho0)) | ((with_reducible refine gate_callee (f := 12) rfl ?_); refine goesL_ (some 26) rfl rfl Tryd.func12 (by kernel_rfl) rfl #[.string (⟨#[97, 10]⟩ : ByteArray)] rfl (by (try simp only [List.map_toArray, List.map_cons, List.map_nil]); first | done | rfl | (simp only [List.length_drop, List.length_take]; rfl)) ?_; (with_reducible refine (fold_Line.calls k1 (⟨#[97, 10]⟩ : ByteArray) t162 t163 _ A5.out).mono ?_); rintro e w45 ⟨rfl, hb⟩; refine ⟨_, rfl, ?_⟩; have n0_ := Aside0.mk (Kd.R_below (by (with_reducible repeat (first | apply Kd.R_alloc | apply Kd.R_drewN | apply Kd.R_drew)); exact HO161.out) hb); have n1_ := Aside0.mk (below_step (by repeat (first | (with_reducible first | exact HB.out | apply below_alloc | apply pw_below_drewN | apply below_drew1) | exact HB.out)) hb); clear HO161; clear HB; have HO161 := n0_; have HB := n1_; clear n0_ n1_; (try clear hb); (try clear hb2); (try clear hk); (try clear hi)) | ((with_reducible refine gate_callee (f := 13) rfl ?_); refine goesL_ (some 30) rfl rfl Tryd.func13 (by kernel_rfl) rfl #[.string (⟨#[97, 13, 10, 32, 98, 10, 99]⟩ : ByteArray)] rfl (by (try simp only [List.map_toArray, List.map_cons, List.map_nil]); first | done | rfl | (simp only [List.length_drop, List.length_take]; rfl)) ?_; (with_reducible refine (fold_Unfold.calls k1 (⟨#[97, 13, 10, 32, 98, 10, 99]⟩ : ByteArray) t164 t165 _ ?sideG A6.out).mono ?_); (case sideG => first | exact GP_below HG.out (by repeat (first | (with_reducible first | exact HB.out | apply below_alloc | apply pw_below_drewN | apply below_drew1) | exact HB.out)) | repeat (first | exact HG.out | refine GP_alloc ?_ _ | refine GP_drewN ?_ _ | refine GP_drew ?_)); rintro e w46 ⟨v166, rfl, ho0, hb⟩; refine ⟨_, rfl, ?_⟩; have n0_ := Aside0.mk (Kd.R_elder' (by (with_reducible repeat (first | apply Kd.R_alloc | apply Kd.R_drewN | apply Kd.R_drew)); exact HO161.out) (Kd.R_base ho0) hb); have n1_ := Aside0.mk (Kd.R_lower (Kd.R_new' ho0 (Kd.R_lt (by (with_reducible repeat (first | apply Kd.R_alloc | apply Kd.R_drewN | apply Kd.R_drew)); exact HO161.out))) (below_size (by repeat (first | (with_reducible first | exact HB.out | apply below_alloc | apply pw_below_drewN | apply below_drew1) | exact HB.out)))); have n2_ := Aside0.mk (below_step (by repeat (first | (with_reducible first | exact HB.out | apply below_alloc | apply pw_below_drewN | apply below_drew1) | exact HB.out)) hb); clear HO161; clear HB; have HO161 := n0_; have HO167 := n1_; have HB := n2_; clear n0_ n1_ n2_; (try clear hb); (try clear hb2); (try clear hk); (try clear hi); (try clear ho0)) | ((with_reducible refine gate_dst (N := 47) rfl ?_); (try (refine gate_guard (by rfl) ?_; dsimp only)); refine Kd.R_lit Kd.string _ 9 ?hg (N := 47) ?hd (xs := ([x1_1] : List ByteArray)) (inner := [.string x1_1]) (ok := fun _ => True) (okp := fun _ => True) ?hr ?hp (fun _ hk => hk) trivial (Below.refl _ _) (Nat.le_refl _) (by simp) ?_; (case hd => rfl); (case hg => rfl); (case hr => first | (go_simp; done) | (go_simp; rfl)); (case hp => exact (Reps.one (show Kd.M Kd.string _ _ _ x1_1 [.string x1_1] from rfl) (Reps.none _ _))); intro v169 w47 ho48 hb hg_ hnew_; clear hg_ hnew_; (first | rw [← Ny168.out] at ho48 | (simp only [Int.reduceToNat] at ho48; rw [← Ny168.out] at ho48)); have n0_ := Aside0.mk (Kd.R_elder' (by (with_reducible repeat (first | apply Kd.R_alloc | apply Kd.R_drewN | apply Kd.R_drew)); exact HO161.out) (Kd.R_base ho48) hb); have n1_ := Aside0.mk (Kd.R_elder' (by (with_reducible repeat (first | apply Kd.R_alloc | apply Kd.R_drewN | apply Kd.R_drew)); exact HO167.out) (Kd.R_base ho48) hb); have n2_ := Aside0.mk (Kd.R_lower (Kd.R_new' (Kd.R_new' ho48 (Kd.R_lt (by (with_reducible repeat (first | apply Kd.R_alloc | apply Kd.R_drewN | apply Kd.R_drew)); exact HO161.out))) (Kd.R_lt (by (with_reducible repeat (first | apply Kd.R_alloc | apply Kd.R_drewN | apply Kd.R_drew)); exact HO167.out))) (below_size (by repeat (first | (with_reducible first | exact HB.out | apply below_alloc | apply pw_below_drewN | apply below_drew1) | exact HB.out)))); have n3_ := Aside0.mk (below_step (by repeat (first | (with_reducible first | exact HB.out | apply below_alloc | apply pw_below_drewN | apply below_drew1) | exact HB.out)) hb); clear HO161; clear HO167; clear HB; have HO161 := n0_; have HO167 := n1_; have HO170 := n2_; have HB := n3_; clear n0_ n1_ n2_ n3_; clear hb ho48; obtain ⟨Ao49, co49, eo49⟩ := Kd.R_slice HO161.out; subst eo49; obtain ⟨Ao50, co50, eo50⟩ := Kd.R_slice HO170.out; subst eo50) | (go_at_call 15; (with_reducible refine (solsticekeep_Texts.calls k1 _ _ t158 _ _ y168 false _ ?side1 ?side2 ?side3 ?side4 A10.out).mono ?_); (case side1 => repeat (first | exact (Kd.R_reads' HO161.out).2.2 | (with_reducible refine Kd.C_alloc ?_ _) | (with_reducible refine Kd.C_drewN ?_ _) | (with_reducible refine Kd.C_drew ?_))); (case side2 => exact (Kd.R_reads' HO161.out).2.1); (case side3 => repeat (first | exact (Kd.R_reads' HO170.out).2.2 | (with_reducible refine Kd.C_alloc ?_ _) | (with_reducible refine Kd.C_drewN ?_ _) | (with_reducible refine Kd.C_drew ?_))); (case side4 => exact (Kd.R_reads' HO170.out).2.1); rintro e w' ⟨rfl, ⟨nd, rfl⟩⟩))
         go_ret
         exact ⟨by first | rfl | (simp [errW_none, errW_some] <;> rfl) | (simp [*, errW_none, errW_some] <;> rfl), by repeat (first | (with_reducible first | exact HB.out | apply below_alloc | apply pw_below_drewN | apply below_drew1) | exact HB.out)⟩
       ·rw [if_neg c9] at H
        have c9b0 : (t159 == 0) = false := beq_eq_false_iff_ne.mpr c9
        have c9b1 : (t159 != 0) = true := bne_iff_ne.mpr c9
        obtain rfl := Option.some.inj H
        go_wp2_with (first | ((with_reducible refine gate_callee (f := 12) rfl ?_); refine goesL_ (some 17) rfl rfl Tryd.func12 (by kernel_rfl) rfl #[.string x1_1] rfl (by (try simp only [List.map_toArray, List.map_cons, List.map_nil]); first | done | rfl | (simp only [List.length_drop, List.length_take]; rfl)) ?_; (with_reducible refine (fold_Line.calls k1 x1_1 t156 t157 _ A3.out).mono ?_); rintro e w51 ⟨rfl, hb⟩; refine ⟨_, rfl, ?_⟩; have n0_ := Aside0.mk (below_step (by repeat (first | (with_reducible first | exact HB.out | apply below_alloc | apply pw_below_drewN | apply below_drew1) | exact HB.out)) hb); clear HB; have HB := n0_; clear n0_; (try clear hb); (try clear hb2); (try clear hk); (try clear hi)) | ((with_reducible refine gate_callee (f := 13) rfl ?_); refine goesL_ (some 22) rfl rfl Tryd.func13 (by kernel_rfl) rfl #[.string t156] rfl (by (try simp only [List.map_toArray, List.map_cons, List.map_nil]); first | done | rfl | (simp only [List.length_drop, List.length_take]; rfl)) ?_; (with_reducible refine (fold_Unfold.calls k1 t156 t158 t159 _ ?sideG A4.out).mono ?_); (case sideG => first | exact GP_below HG.out (by repeat (first | (with_reducible first | exact HB.out | apply below_alloc | apply pw_below_drewN | apply below_drew1) | exact HB.out)) | repeat (first | exact HG.out | refine GP_alloc ?_ _ | refine GP_drewN ?_ _ | refine GP_drew ?_)); rintro e w52 ⟨v160, rfl, ho0, hb⟩; refine ⟨_, rfl, ?_⟩; have n0_ := Aside0.mk (Kd.R_lower ho0 (below_size (by repeat (first | (with_reducible first | exact HB.out | apply below_alloc | apply pw_below_drewN | apply below_drew1) | exact HB.out)))); have n1_ := Aside0.mk (below_step (by repeat (first | (with_reducible first | exact HB.out | apply below_alloc | apply pw_below_drewN | apply below_drew1) | exact HB.out)) hb); clear HB; have HO161 := n0_; have HB := n1_; clear n0_ n1_; (try clear hb); (try clear hb2); (try clear hk); (try clear hi); (try clear ho0)) | ((with_reducible refine gate_callee (f := 12) rfl ?_); refine goesL_ (some 26) rfl rfl Tryd.func12 (by kernel_rfl) rfl #[.string (⟨#[97, 10]⟩ : ByteArray)] rfl (by (try simp only [List.map_toArray, List.map_cons, List.map_nil]); first | done | rfl | (simp only [List.length_drop, List.length_take]; rfl)) ?_; (with_reducible refine (fold_Line.calls k1 (⟨#[97, 10]⟩ : ByteArray) t162 t163 _ A5.out).mono ?_); rintro e w53 ⟨rfl, hb⟩; refine ⟨_, rfl, ?_⟩; have n0_ := Aside0.mk (Kd.R_below (by (with_reducible repeat (first | apply Kd.R_alloc | apply Kd.R_drewN | apply Kd.R_drew)); exact HO161.out) hb); have n1_ := Aside0.mk (below_step (by repeat (first | (with_reducible first | exact HB.out | apply below_alloc | apply pw_below_drewN | apply below_drew1) | exact HB.out)) hb); clear HO161; clear HB; have HO161 := n0_; have HB := n1_; clear n0_ n1_; (try clear hb); (try clear hb2); (try clear hk); (try clear hi)) | ((with_reducible refine gate_callee (f := 13) rfl ?_); refine goesL_ (some 30) rfl rfl Tryd.func13 (by kernel_rfl) rfl #[.string (⟨#[97, 13, 10, 32, 98, 10, 99]⟩ : ByteArray)] rfl (by (try simp only [List.map_toArray, List.map_cons, List.map_nil]); first | done | rfl | (simp only [List.length_drop, List.length_take]; rfl)) ?_; (with_reducible refine (fold_Unfold.calls k1 (⟨#[97, 13, 10, 32, 98, 10, 99]⟩ : ByteArray) t164 t165 _ ?sideG A6.out).mono ?_); (case sideG => first | exact GP_below HG.out (by repeat (first | (with_reducible first | exact HB.out | apply below_alloc | apply pw_below_drewN | apply below_drew1) | exact HB.out)) | repeat (first | exact HG.out | refine GP_alloc ?_ _ | refine GP_drewN ?_ _ | refine GP_drew ?_)); rintro e w54 ⟨v166, rfl, ho0, hb⟩; refine ⟨_, rfl, ?_⟩; have n0_ := Aside0.mk (Kd.R_elder' (by (with_reducible repeat (first | apply Kd.R_alloc | apply Kd.R_drewN | apply Kd.R_drew)); exact HO161.out) (Kd.R_base ho0) hb); have n1_ := Aside0.mk (Kd.R_lower (Kd.R_new' ho0 (Kd.R_lt (by (with_reducible repeat (first | apply Kd.R_alloc | apply Kd.R_drewN | apply Kd.R_drew)); exact HO161.out))) (below_size (by repeat (first | (with_reducible first | exact HB.out | apply below_alloc | apply pw_below_drewN | apply below_drew1) | exact HB.out)))); have n2_ := Aside0.mk (below_step (by repeat (first | (with_reducible first | exact HB.out | apply below_alloc | apply pw_below_drewN | apply below_drew1) | exact HB.out)) hb); clear HO161; clear HB; have HO161 := n0_; have HO167 := n1_; have HB := n2_; clear n0_ n1_ n2_; (try clear hb); (try clear hb2); (try clear hk); (try clear hi); (try clear ho0)))
        go_ret
        exact ⟨by first | rfl | (simp [errW_none, errW_some] <;> rfl) | (simp [*, errW_none, errW_some] <;> rfl), by repeat (first | (with_reducible first | exact HB.out | apply below_alloc | apply pw_below_drewN | apply below_drew1) | exact HB.out)⟩
      ·rw [if_neg c8] at H
       have c8b0 : ((t156.size : Int) == 81) = false := beq_eq_false_iff_ne.mpr c8
       have c8b1 : ((t156.size : Int) != 81) = true := bne_iff_ne.mpr c8
       obtain rfl := Option.some.inj H
       go_wp2_with (first | ((with_reducible refine gate_callee (f := 12) rfl ?_); refine goesL_ (some 17) rfl rfl Tryd.func12 (by kernel_rfl) rfl #[.string x1_1] rfl (by (try simp only [List.map_toArray, List.map_cons, List.map_nil]); first | done | rfl | (simp only [List.length_drop, List.length_take]; rfl)) ?_; (with_reducible refine (fold_Line.calls k1 x1_1 t156 t157 _ A3.out).mono ?_); rintro e w55 ⟨rfl, hb⟩; refine ⟨_, rfl, ?_⟩; have n0_ := Aside0.mk (below_step (by repeat (first | (with_reducible first | exact HB.out | apply below_alloc | apply pw_below_drewN | apply below_drew1) | exact HB.out)) hb); clear HB; have HB := n0_; clear n0_; (try clear hb); (try clear hb2); (try clear hk); (try clear hi)) | ((with_reducible refine gate_callee (f := 13) rfl ?_); refine goesL_ (some 22) rfl rfl Tryd.func13 (by kernel_rfl) rfl #[.string t156] rfl (by (try simp only [List.map_toArray, List.map_cons, List.map_nil]); first | done | rfl | (simp only [List.length_drop, List.length_take]; rfl)) ?_; (with_reducible refine (fold_Unfold.calls k1 t156 t158 t159 _ ?sideG A4.out).mono ?_); (case sideG => first | exact GP_below HG.out (by repeat (first | (with_reducible first | exact HB.out | apply below_alloc | apply pw_below_drewN | apply below_drew1) | exact HB.out)) | repeat (first | exact HG.out | refine GP_alloc ?_ _ | refine GP_drewN ?_ _ | refine GP_drew ?_)); rintro e w56 ⟨v160, rfl, ho0, hb⟩; refine ⟨_, rfl, ?_⟩; have n0_ := Aside0.mk (Kd.R_lower ho0 (below_size (by repeat (first | (with_reducible first | exact HB.out | apply below_alloc | apply pw_below_drewN | apply below_drew1) | exact HB.out)))); have n1_ := Aside0.mk (below_step (by repeat (first | (with_reducible first | exact HB.out | apply below_alloc | apply pw_below_drewN | apply below_drew1) | exact HB.out)) hb); clear HB; have HO161 := n0_; have HB := n1_; clear n0_ n1_; (try clear hb); (try clear hb2); (try clear hk); (try clear hi); (try clear ho0)) | ((with_reducible refine gate_callee (f := 12) rfl ?_); refine goesL_ (some 26) rfl rfl Tryd.func12 (by kernel_rfl) rfl #[.string (⟨#[97, 10]⟩ : ByteArray)] rfl (by (try simp only [List.map_toArray, List.map_cons, List.map_nil]); first | done | rfl | (simp only [List.length_drop, List.length_take]; rfl)) ?_; (with_reducible refine (fold_Line.calls k1 (⟨#[97, 10]⟩ : ByteArray) t162 t163 _ A5.out).mono ?_); rintro e w57 ⟨rfl, hb⟩; refine ⟨_, rfl, ?_⟩; have n0_ := Aside0.mk (Kd.R_below (by (with_reducible repeat (first | apply Kd.R_alloc | apply Kd.R_drewN | apply Kd.R_drew)); exact HO161.out) hb); have n1_ := Aside0.mk (below_step (by repeat (first | (with_reducible first | exact HB.out | apply below_alloc | apply pw_below_drewN | apply below_drew1) | exact HB.out)) hb); clear HO161; clear HB; have HO161 := n0_; have HB := n1_; clear n0_ n1_; (try clear hb); (try clear hb2); (try clear hk); (try clear hi)) | ((with_reducible refine gate_callee (f := 13) rfl ?_); refine goesL_ (some 30) rfl rfl Tryd.func13 (by kernel_rfl) rfl #[.string (⟨#[97, 13, 10, 32, 98, 10, 99]⟩ : ByteArray)] rfl (by (try simp only [List.map_toArray, List.map_cons, List.map_nil]); first | done | rfl | (simp only [List.length_drop, List.length_take]; rfl)) ?_; (with_reducible refine (fold_Unfold.calls k1 (⟨#[97, 13, 10, 32, 98, 10, 99]⟩ : ByteArray) t164 t165 _ ?sideG A6.out).mono ?_); (case sideG => first | exact GP_below HG.out (by repeat (first | (with_reducible first | exact HB.out | apply below_alloc | apply pw_below_drewN | apply below_drew1) | exact HB.out)) | repeat (first | exact HG.out | refine GP_alloc ?_ _ | refine GP_drewN ?_ _ | refine GP_drew ?_)); rintro e w58 ⟨v166, rfl, ho0, hb⟩; refine ⟨_, rfl, ?_⟩; have n0_ := Aside0.mk (Kd.R_elder' (by (with_reducible repeat (first | apply Kd.R_alloc | apply Kd.R_drewN | apply Kd.R_drew)); exact HO161.out) (Kd.R_base ho0) hb); have n1_ := Aside0.mk (Kd.R_lower (Kd.R_new' ho0 (Kd.R_lt (by (with_reducible repeat (first | apply Kd.R_alloc | apply Kd.R_drewN | apply Kd.R_drew)); exact HO161.out))) (below_size (by repeat (first | (with_reducible first | exact HB.out | apply below_alloc | apply pw_below_drewN | apply below_drew1) | exact HB.out)))); have n2_ := Aside0.mk (below_step (by repeat (first | (with_reducible first | exact HB.out | apply below_alloc | apply pw_below_drewN | apply below_drew1) | exact HB.out)) hb); clear HO161; clear HB; have HO161 := n0_; have HO167 := n1_; have HB := n2_; clear n0_ n1_ n2_; (try clear hb); (try clear hb2); (try clear hk); (try clear hi); (try clear ho0)))
       go_ret
       exact ⟨by first | rfl | (simp [errW_none, errW_some] <;> rfl) | (simp [*, errW_none, errW_some] <;> rfl), by repeat (first | (with_reducible first | exact HB.out | apply below_alloc | apply pw_below_drewN | apply below_drew1) | exact HB.out)⟩
     ·rw [if_neg c7] at H
      have c7b0 : (t157 == 0) = false := beq_eq_false_iff_ne.mpr c7
      have c7b1 : (t157 != 0) = true := bne_iff_ne.mpr c7
      obtain rfl := Option.some.inj H
      go_wp2_with (first | ((with_reducible refine gate_callee (f := 12) rfl ?_); refine goesL_ (some 17) rfl rfl Tryd.func12 (by kernel_rfl) rfl #[.string x1_1] rfl (by (try simp only [List.map_toArray, List.map_cons, List.map_nil]); first | done | rfl | (simp only [List.length_drop, List.length_take]; rfl)) ?_; (with_reducible refine (fold_Line.calls k1 x1_1 t156 t157 _ A3.out).mono ?_); rintro e w59 ⟨rfl, hb⟩; refine ⟨_, rfl, ?_⟩; have n0_ := Aside0.mk (below_step (by repeat (first | (with_reducible first | exact HB.out | apply below_alloc | apply pw_below_drewN | apply below_drew1) | exact HB.out)) hb); clear HB; have HB := n0_; clear n0_; (try clear hb); (try clear hb2); (try clear hk); (try clear hi)) | ((with_reducible refine gate_callee (f := 13) rfl ?_); refine goesL_ (some 22) rfl rfl Tryd.func13 (by kernel_rfl) rfl #[.string t156] rfl (by (try simp only [List.map_toArray, List.map_cons, List.map_nil]); first | done | rfl | (simp only [List.length_drop, List.length_take]; rfl)) ?_; (with_reducible refine (fold_Unfold.calls k1 t156 t158 t159 _ ?sideG A4.out).mono ?_); (case sideG => first | exact GP_below HG.out (by repeat (first | (with_reducible first | exact HB.out | apply below_alloc | apply pw_below_drewN | apply below_drew1) | exact HB.out)) | repeat (first | exact HG.out | refine GP_alloc ?_ _ | refine GP_drewN ?_ _ | refine GP_drew ?_)); rintro e w60 ⟨v160, rfl, ho0, hb⟩; refine ⟨_, rfl, ?_⟩; have n0_ := Aside0.mk (Kd.R_lower ho0 (below_size (by repeat (first | (with_reducible first | exact HB.out | apply below_alloc | apply pw_below_drewN | apply below_drew1) | exact HB.out)))); have n1_ := Aside0.mk (below_step (by repeat (first | (with_reducible first | exact HB.out | apply below_alloc | apply pw_below_drewN | apply below_drew1) | exact HB.out)) hb); clear HB; have HO161 := n0_; have HB := n1_; clear n0_ n1_; (try clear hb); (try clear hb2); (try clear hk); (try clear hi); (try clear ho0)) | ((with_reducible refine gate_callee (f := 12) rfl ?_); refine goesL_ (some 26) rfl rfl Tryd.func12 (by kernel_rfl) rfl #[.string (⟨#[97, 10]⟩ : ByteArray)] rfl (by (try simp only [List.map_toArray, List.map_cons, List.map_nil]); first | done | rfl | (simp only [List.length_drop, List.length_take]; rfl)) ?_; (with_reducible refine (fold_Line.calls k1 (⟨#[97, 10]⟩ : ByteArray) t162 t163 _ A5.out).mono ?_); rintro e w61 ⟨rfl, hb⟩; refine ⟨_, rfl, ?_⟩; have n0_ := Aside0.mk (Kd.R_below (by (with_reducible repeat (first | apply Kd.R_alloc | apply Kd.R_drewN | apply Kd.R_drew)); exact HO161.out) hb); have n1_ := Aside0.mk (below_step (by repeat (first | (with_reducible first | exact HB.out | apply below_alloc | apply pw_below_drewN | apply below_drew1) | exact HB.out)) hb); clear HO161; clear HB; have HO161 := n0_; have HB := n1_; clear n0_ n1_; (try clear hb); (try clear hb2); (try clear hk); (try clear hi)) | ((with_reducible refine gate_callee (f := 13) rfl ?_); refine goesL_ (some 30) rfl rfl Tryd.func13 (by kernel_rfl) rfl #[.string (⟨#[97, 13, 10, 32, 98, 10, 99]⟩ : ByteArray)] rfl (by (try simp only [List.map_toArray, List.map_cons, List.map_nil]); first | done | rfl | (simp only [List.length_drop, List.length_take]; rfl)) ?_; (with_reducible refine (fold_Unfold.calls k1 (⟨#[97, 13, 10, 32, 98, 10, 99]⟩ : ByteArray) t164 t165 _ ?sideG A6.out).mono ?_); (case sideG => first | exact GP_below HG.out (by repeat (first | (with_reducible first | exact HB.out | apply below_alloc | apply pw_below_drewN | apply below_drew1) | exact HB.out)) | repeat (first | exact HG.out | refine GP_alloc ?_ _ | refine GP_drewN ?_ _ | refine GP_drew ?_)); rintro e w62 ⟨v166, rfl, ho0, hb⟩; refine ⟨_, rfl, ?_⟩; have n0_ := Aside0.mk (Kd.R_elder' (by (with_reducible repeat (first | apply Kd.R_alloc | apply Kd.R_drewN | apply Kd.R_drew)); exact HO161.out) (Kd.R_base ho0) hb); have n1_ := Aside0.mk (Kd.R_lower (Kd.R_new' ho0 (Kd.R_lt (by (with_reducible repeat (first | apply Kd.R_alloc | apply Kd.R_drewN | apply Kd.R_drew)); exact HO161.out))) (below_size (by repeat (first | (with_reducible first | exact HB.out | apply below_alloc | apply pw_below_drewN | apply below_drew1) | exact HB.out)))); have n2_ := Aside0.mk (below_step (by repeat (first | (with_reducible first | exact HB.out | apply below_alloc | apply pw_below_drewN | apply below_drew1) | exact HB.out)) hb); clear HO161; clear HB; have HO161 := n0_; have HO167 := n1_; have HB := n2_; clear n0_ n1_ n2_; (try clear hb); (try clear hb2); (try clear hk); (try clear hi); (try clear ho0)))
      go_ret
      exact ⟨by first | rfl | (simp [errW_none, errW_some] <;> rfl) | (simp [*, errW_none, errW_some] <;> rfl), by repeat (first | (with_reducible first | exact HB.out | apply below_alloc | apply pw_below_drewN | apply below_drew1) | exact HB.out)⟩
def solsticeref16_goesOn.f (a0 : Int) : Option (Bool) := if a0 ≥ 128 then (some (decide (a0 < 192))) else (some false)
set_option maxHeartbeats 8000000 in
set_option maxRecDepth 100000 in
theorem solsticeref16_goesOn.calls (a0 : Int) (r : Bool) (w : World) (h : solsticeref16_goesOn.f a0 = some r) :
  Calls Tryd.prog 38 #[.int .u8 a0] w fun e w' => e = .returned (.bool r) ∧ Drawn0 w w' := by
 have H : (if a0 ≥ 128 then (some (decide (a0 < 192))) else (some false)) = some r := h
 clear h
 by_cases c2 : a0 ≥ 128
 ·rw [if_pos c2] at H
  have c2b0 : decide (128 ≤ a0) = true := decide_eq_true c2
  clear c2
  obtain rfl := Option.some.inj H
  go_enter Tryd.func38, Tryd.ntmps38
  go_wp2
  go_ret
  exact ⟨by first | rfl | (simp; done) | (simp [*]; done), by repeat (first | exact Drawn0.refl _ | apply Drawn0.step)⟩
 ·rw [if_neg c2] at H
  have c2b0 : decide (128 ≤ a0) = false := decide_eq_false c2
  clear c2
  obtain rfl := Option.some.inj H
  go_enter Tryd.func38, Tryd.ntmps38
  go_wp2
  go_ret
  exact ⟨by first | rfl | (simp; done) | (simp [*]; done), by repeat (first | exact Drawn0.refl _ | apply Drawn0.step)⟩
mutual
def solsticeref16_Fold.l0 : Nat → ByteArray → ByteArray → Int → Option (ByteArray)
 | 0, _, _, _ => none
 | k + 1, x0, x3, x4 => if (x0.size : Int) > x4 then (solsticeref16_Fold.l1 k x0 x3 x4 0) else (if x3.size + x0.size ≤ 9223372036854775807 then (if (x3 ++ x0).size + 2 ≤ 9223372036854775807 then (some ((x3 ++ x0) ++ (⟨#[13, 10]⟩ : ByteArray))) else (none)) else (none))
def solsticeref16_Fold.l1 : Nat → ByteArray → ByteArray → Int → Int → Option (ByteArray)
 | 0, _, _, _, _ => none
 | k + 1, x0, x3, x5, x6 => if x6 < 3 then (if (wrap64 (x5 - x6)) > 0 then (if 0 ≤ (wrap64 (x5 - x6)) then (if (wrap64 (x5 - x6)) < (x0.size : Int) then ((solsticeref16_goesOn.f (bt x0 (wrap64 (x5 - x6)))).bind fun t176 => (if t176 = true then (solsticeref16_Fold.l1 k x0 x3 x5 (wrap64 (x6 + 1))) else (if x6 > 0 then ((solsticeref16_goesOn.f (bt x0 (wrap64 (x5 - x6)))).bind fun t177 => (if t177 = true then (if 0 ≤ x5 then (if x5 ≤ (x0.size : Int) then (if x3.size + (x0.extract 0 (x5 : Int).toNat).size ≤ 9223372036854775807 then (if (x3 ++ (x0.extract 0 (x5 : Int).toNat)).size + 3 ≤ 9223372036854775807 then (solsticeref16_Fold.l0 k (x0.extract (x5 : Int).toNat x0.size) ((x3 ++ (x0.extract 0 (x5 : Int).toNat)) ++ (⟨#[13, 10, 32]⟩ : ByteArray)) 74) else (none)) else (none)) else (none)) else (none)) else (if (wrap64 (x5 - x6)) ≤ (x0.size : Int) then (if x3.size + (x0.extract 0 ((wrap64 (x5 - x6)) : Int).toNat).size ≤ 9223372036854775807 then (if (x3 ++ (x0.extract 0 ((wrap64 (x5 - x6)) : Int).toNat)).size + 3 ≤ 9223372036854775807 then (solsticeref16_Fold.l0 k (x0.extract ((wrap64 (x5 - x6)) : Int).toNat x0.size) ((x3 ++ (x0.extract 0 ((wrap64 (x5 - x6)) : Int).toNat)) ++ (⟨#[13, 10, 32]⟩ : ByteArray)) 74) else (none)) else (none)) else (none)))) else (if 0 ≤ x5 then (if x5 ≤ (x0.size : Int) then (if x3.size + (x0.extract 0 (x5 : Int).toNat).size ≤ 9223372036854775807 then (if (x3 ++ (x0.extract 0 (x5 : Int).toNat)).size + 3 ≤ 9223372036854775807 then (solsticeref16_Fold.l0 k (x0.extract (x5 : Int).toNat x0.size) ((x3 ++ (x0.extract 0 (x5 : Int).toNat)) ++ (⟨#[13, 10, 32]⟩ : ByteArray)) 74) else (none)) else (none)) else (none)) else (none))))) else (none)) else (none)) else (if x6 > 0 then (if 0 ≤ x5 then (if x5 ≤ (x0.size : Int) then (if x3.size + (x0.extract 0 (x5 : Int).toNat).size ≤ 9223372036854775807 then (if (x3 ++ (x0.extract 0 (x5 : Int).toNat)).size + 3 ≤ 9223372036854775807 then (solsticeref16_Fold.l0 k (x0.extract (x5 : Int).toNat x0.size) ((x3 ++ (x0.extract 0 (x5 : Int).toNat)) ++ (⟨#[13, 10, 32]⟩ : ByteArray)) 74) else (none)) else (none)) else (none)) else (none)) else (if 0 ≤ x5 then (if x5 ≤ (x0.size : Int) then (if x3.size + (x0.extract 0 (x5 : Int).toNat).size ≤ 9223372036854775807 then (if (x3 ++ (x0.extract 0 (x5 : Int).toNat)).size + 3 ≤ 9223372036854775807 then (solsticeref16_Fold.l0 k (x0.extract (x5 : Int).toNat x0.size) ((x3 ++ (x0.extract 0 (x5 : Int).toNat)) ++ (⟨#[13, 10, 32]⟩ : ByteArray)) 74) else (none)) else (none)) else (none)) else (none)))) else (if x6 > 0 then (if (wrap64 (x5 - x6)) > 0 then (if 0 ≤ (wrap64 (x5 - x6)) then (if (wrap64 (x5 - x6)) < (x0.size : Int) then ((solsticeref16_goesOn.f (bt x0 (wrap64 (x5 - x6)))).bind fun t178 => (if t178 = true then (if 0 ≤ x5 then (if x5 ≤ (x0.size : Int) then (if x3.size + (x0.extract 0 (x5 : Int).toNat).size ≤ 9223372036854775807 then (if (x3 ++ (x0.extract 0 (x5 : Int).toNat)).size + 3 ≤ 9223372036854775807 then (solsticeref16_Fold.l0 k (x0.extract (x5 : Int).toNat x0.size) ((x3 ++ (x0.extract 0 (x5 : Int).toNat)) ++ (⟨#[13, 10, 32]⟩ : ByteArray)) 74) else (none)) else (none)) else (none)) else (none)) else (if (wrap64 (x5 - x6)) ≤ (x0.size : Int) then (if x3.size + (x0.extract 0 ((wrap64 (x5 - x6)) : Int).toNat).size ≤ 9223372036854775807 then (if (x3 ++ (x0.extract 0 ((wrap64 (x5 - x6)) : Int).toNat)).size + 3 ≤ 9223372036854775807 then (solsticeref16_Fold.l0 k (x0.extract ((wrap64 (x5 - x6)) : Int).toNat x0.size) ((x3 ++ (x0.extract 0 ((wrap64 (x5 - x6)) : Int).toNat)) ++ (⟨#[13, 10, 32]⟩ : ByteArray)) 74) else (none)) else (none)) else (none)))) else (none)) else (none)) else (if 0 ≤ x5 then (if x5 ≤ (x0.size : Int) then (if x3.size + (x0.extract 0 (x5 : Int).toNat).size ≤ 9223372036854775807 then (if (x3 ++ (x0.extract 0 (x5 : Int).toNat)).size + 3 ≤ 9223372036854775807 then (solsticeref16_Fold.l0 k (x0.extract (x5 : Int).toNat x0.size) ((x3 ++ (x0.extract 0 (x5 : Int).toNat)) ++ (⟨#[13, 10, 32]⟩ : ByteArray)) 74) else (none)) else (none)) else (none)) else (none))) else (if 0 ≤ x5 then (if x5 ≤ (x0.size : Int) then (if x3.size + (x0.extract 0 (x5 : Int).toNat).size ≤ 9223372036854775807 then (if (x3 ++ (x0.extract 0 (x5 : Int).toNat)).size + 3 ≤ 9223372036854775807 then (solsticeref16_Fold.l0 k (x0.extract (x5 : Int).toNat x0.size) ((x3 ++ (x0.extract 0 (x5 : Int).toNat)) ++ (⟨#[13, 10, 32]⟩ : ByteArray)) 74) else (none)) else (none)) else (none)) else (none)))
end
def solsticeref16_Fold.f (k : Nat) (a0 : ByteArray) : Option (ByteArray) := solsticeref16_Fold.l0 k a0 (⟨#[]⟩ : ByteArray) 75
theorem solsticeref16_Fold.mono_l : ∀ k, (∀ y0 y1 y2, LeO (solsticeref16_Fold.l0 k y0 y1 y2) (solsticeref16_Fold.l0 (k + 1) y0 y1 y2)) ∧ (∀ y0 y1 y2 y3, LeO (solsticeref16_Fold.l1 k y0 y1 y2 y3) (solsticeref16_Fold.l1 (k + 1) y0 y1 y2 y3))
 | 0 => ⟨fun _ _ _ r h => by simp [solsticeref16_Fold.l0] at h, fun _ _ _ _ r h => by simp [solsticeref16_Fold.l1] at h⟩
 | k + 1 => by
  obtain ⟨ih0, ih1⟩ := solsticeref16_Fold.mono_l k
  refine ⟨?_, ?_⟩
  ·intro y0 y1 y2
   unfold solsticeref16_Fold.l0
   repeat' first
   | (with_reducible exact ih0 _ _ _)
   | (with_reducible exact ih1 _ _ _ _)
   | (with_reducible exact LeO.refl _)
   | (with_reducible exact LeO.none _)
   | (with_reducible refine LeO.ite ?_ ?_)
   | (with_reducible refine LeO.bind ?_ (fun _ => ?_))
   | exact ih0 _ _ _
   | exact ih1 _ _ _ _
   | exact LeO.none _
   | refine LeO.ite ?_ ?_
   | refine LeO.bind ?_ (fun _ => ?_)
  ·intro y0 y1 y2 y3
   unfold solsticeref16_Fold.l1
   repeat' first
   | (with_reducible exact ih0 _ _ _)
   | (with_reducible exact ih1 _ _ _ _)
   | (with_reducible exact LeO.refl _)
   | (with_reducible exact LeO.none _)
   | (with_reducible refine LeO.ite ?_ ?_)
   | (with_reducible refine LeO.bind ?_ (fun _ => ?_))
   | exact ih0 _ _ _
   | exact ih1 _ _ _ _
   | exact LeO.none _
   | refine LeO.ite ?_ ?_
   | refine LeO.bind ?_ (fun _ => ?_)
theorem solsticeref16_Fold.mono : ∀ a0 k, LeO (solsticeref16_Fold.f k a0) (solsticeref16_Fold.f (k + 1) a0) := by
 intro a0 k
 obtain ⟨ih0, ih1⟩ := solsticeref16_Fold.mono_l k
 unfold solsticeref16_Fold.f
 repeat' first
   | (with_reducible exact ih0 _ _ _)
   | (with_reducible exact ih1 _ _ _ _)
   | (with_reducible exact LeO.refl _)
   | (with_reducible exact LeO.none _)
   | (with_reducible refine LeO.ite ?_ ?_)
   | (with_reducible refine LeO.bind ?_ (fun _ => ?_))
   | exact ih0 _ _ _
   | exact ih1 _ _ _ _
   | exact LeO.none _
   | refine LeO.ite ?_ ?_
   | refine LeO.bind ?_ (fun _ => ?_)
set_option maxHeartbeats 8000000 in
set_option maxRecDepth 100000 in
theorem solsticeref16_Fold.calls (k : Nat) (a0 : ByteArray) (r : ByteArray) (w : World) (h : solsticeref16_Fold.f k a0 = some r) :
  Calls Tryd.prog 17 #[.string a0] w fun e w' => e = .returned (.string r) ∧ Drawn0 w w' := by
 have H : (solsticeref16_Fold.l0 k a0 (⟨#[]⟩ : ByteArray) 75) = some r := h
 clear h
 have H' := Aside0.mk H
 clear H
 go_enter Tryd.func17, Tryd.ntmps17
 go_wp2
 go_loopg [0, 3, 4] k (fun kq v0 v3 v4 w' => ∃ (x0_1 : ByteArray) (x3_1 : ByteArray) (x4_1 : Int), v0 = .string x0_1 ∧ v3 = .string x3_1 ∧ v4 = .int .i64 x4_1 ∧ Aside0 (solsticeref16_Fold.l0 kq x0_1 x3_1 x4_1 = some r) ∧ Aside0 (kq ≤ k) ∧ Drawn0 w w')
 case atStart => exact ⟨(a0), ((⟨#[]⟩ : ByteArray)), (75), (by first | rfl | (simp; done) | (simp [*]; done)), (by first | rfl | (simp; done) | (simp [*]; done)), (by first | rfl | (simp; done) | (simp [*]; done)), H', ⟨Nat.le_refl _⟩, by repeat (first | exact Drawn0.refl _ | apply Drawn0.step)⟩
 case round =>
  as_aux_lemma =>
   clear H'
   try clear c1
   obtain ⟨x0_1, x3_1, x4_1, rfl, rfl, rfl, HA, HK1, ⟨m1, rfl⟩⟩ := hrel
   cases gk with
   | zero => exact absurd HA.out (by simp [solsticeref16_Fold.l0])
   | succ k1 =>
    have H := HA.out
    clear HA
    simp only [solsticeref16_Fold.l0] at H
    by_cases c2 : (x0_1.size : Int) > x4_1
    ·rw [if_pos c2] at H
     have c2b0 : decide (x4_1 < (x0_1.size : Int)) = true := decide_eq_true c2
     clear c2
     have H' := Aside0.mk H
     clear H
     go_wp2
     go_loopg [6] k1 (fun kq v6 w' => ∃ (x6_2 : Int), v6 = .int .i64 x6_2 ∧ Aside0 (solsticeref16_Fold.l1 kq x0_1 x3_1 x4_1 x6_2 = some r) ∧ Aside0 (kq ≤ k1) ∧ Drawn0 w w')
     case atStart => exact ⟨(0), (by first | rfl | (simp; done) | (simp [*]; done)), H', ⟨Nat.le_refl _⟩, by repeat (first | exact Drawn0.refl _ | apply Drawn0.step)⟩
     case round =>
      as_aux_lemma =>
       clear H'
       try clear c1
       try clear c2
       try clear c2b0
       try clear p2
       obtain ⟨x6_2, rfl, HA, HK2, ⟨m2, rfl⟩⟩ := hrel
       cases gk with
       | zero => exact absurd HA.out (by simp [solsticeref16_Fold.l1])
       | succ k2 =>
        have H := HA.out
        clear HA
        simp only [solsticeref16_Fold.l1] at H
        by_cases c3 : x6_2 < 3
        ·rw [if_pos c3] at H
         have c3b0 : decide (x6_2 < 3) = true := decide_eq_true c3
         clear c3
         by_cases c4 : (wrap64 (x4_1 - x6_2)) > 0
         ·rw [if_pos c4] at H
          have c4b0 : decide (0 < (wrap64 (x4_1 - x6_2))) = true := decide_eq_true c4
          clear c4
          obtain ⟨ji5, hji5⟩ : ∃ j_ : Int, (wrap64 (x4_1 - x6_2)) = j_ := ⟨_, rfl⟩
          first | rw [hji5] at H | simp only [hji5] at H
          (try rw [hji5] at c4b0)
          have hji5w : (IntKind.i64.wrap (x4_1 - x6_2)) = ji5 := (i64_w _).trans hji5
          by_cases c6 : 0 ≤ (ji5)
          ·rw [if_pos c6] at H
           have c6b0 : decide (0 ≤ (ji5)) = true := decide_eq_true c6
           clear c6
           by_cases c7 : (ji5) < (x0_1.size : Int)
           ·rw [if_pos c7] at H
            have c7b0 : decide ((ji5) < (x0_1.size : Int)) = true := decide_eq_true c7
            clear c7
            replace H := Option.bind_eq_some_iff.mp H
            obtain ⟨t176, A90, H⟩ := H
            replace H : (if t176 = true then (solsticeref16_Fold.l1 k2 x0_1 x3_1 x4_1 (wrap64 (x6_2 + 1))) else (if x6_2 > 0 then ((solsticeref16_goesOn.f (bt x0_1 (ji5))).bind fun t177 => (if t177 = true then (if 0 ≤ x4_1 then (if x4_1 ≤ (x0_1.size : Int) then (if x3_1.size + (x0_1.extract 0 (x4_1 : Int).toNat).size ≤ 9223372036854775807 then (if (x3_1 ++ (x0_1.extract 0 (x4_1 : Int).toNat)).size + 3 ≤ 9223372036854775807 then (solsticeref16_Fold.l0 k2 (x0_1.extract (x4_1 : Int).toNat x0_1.size) ((x3_1 ++ (x0_1.extract 0 (x4_1 : Int).toNat)) ++ (⟨#[13, 10, 32]⟩ : ByteArray)) 74) else (none)) else (none)) else (none)) else (none)) else (if (ji5) ≤ (x0_1.size : Int) then (if x3_1.size + (x0_1.extract 0 ((ji5) : Int).toNat).size ≤ 9223372036854775807 then (if (x3_1 ++ (x0_1.extract 0 ((ji5) : Int).toNat)).size + 3 ≤ 9223372036854775807 then (solsticeref16_Fold.l0 k2 (x0_1.extract ((ji5) : Int).toNat x0_1.size) ((x3_1 ++ (x0_1.extract 0 ((ji5) : Int).toNat)) ++ (⟨#[13, 10, 32]⟩ : ByteArray)) 74) else (none)) else (none)) else (none)))) else (if 0 ≤ x4_1 then (if x4_1 ≤ (x0_1.size : Int) then (if x3_1.size + (x0_1.extract 0 (x4_1 : Int).toNat).size ≤ 9223372036854775807 then (if (x3_1 ++ (x0_1.extract 0 (x4_1 : Int).toNat)).size + 3 ≤ 9223372036854775807 then (solsticeref16_Fold.l0 k2 (x0_1.extract (x4_1 : Int).toNat x0_1.size) ((x3_1 ++ (x0_1.extract 0 (x4_1 : Int).toNat)) ++ (⟨#[13, 10, 32]⟩ : ByteArray)) 74) else (none)) else (none)) else (none)) else (none)))) = some r := H
            have A9 := Aside0.mk A90
            clear A90
            by_cases c10 : t176 = true
            ·subst c10
             have H1 : (solsticeref16_Fold.l1 k2 x0_1 x3_1 x4_1 (wrap64 (x6_2 + 1))) = some r := by rw [if_pos rfl] at H; exact H
             clear H
             have H := H1
             clear H1
             have H' := Aside0.mk H
             clear H
             have p8 : 0 ≤ ((ji5) : Int) := of_decide_eq_true (by first | (with_reducible assumption) | assumption)
             have q8 : (ji5) < (x0_1.size : Int) := of_decide_eq_true (by first | (with_reducible assumption) | assumption)
             have hx8 := bt_at x0_1 (ji5)
             replace p8 := eq_true p8
             replace q8 := eq_true q8
             go_wp2_with (first | (go_at_call 38; (with_reducible refine (solsticeref16_goesOn.calls (bt x0_1 (ji5)) true _ A9.out).mono ?_); rintro e w' ⟨rfl, ⟨nd, rfl⟩⟩))
             go_roundg k2
             case measure => have := HK1.out; have := HK2.out; omega
             case rel => exact ⟨(wrap64 (x6_2 + 1)), (by first | rfl | (simp; done) | (simp [*]; done)), H', ⟨by have := HK1.out; have := HK2.out; omega⟩, by repeat (first | exact Drawn0.refl _ | apply Drawn0.step)⟩
            ·replace c10 := Bool.eq_false_iff.mpr c10
             subst c10
             have H1 : (if x6_2 > 0 then ((solsticeref16_goesOn.f (bt x0_1 (ji5))).bind fun t177 => (if t177 = true then (if 0 ≤ x4_1 then (if x4_1 ≤ (x0_1.size : Int) then (if x3_1.size + (x0_1.extract 0 (x4_1 : Int).toNat).size ≤ 9223372036854775807 then (if (x3_1 ++ (x0_1.extract 0 (x4_1 : Int).toNat)).size + 3 ≤ 9223372036854775807 then (solsticeref16_Fold.l0 k2 (x0_1.extract (x4_1 : Int).toNat x0_1.size) ((x3_1 ++ (x0_1.extract 0 (x4_1 : Int).toNat)) ++ (⟨#[13, 10, 32]⟩ : ByteArray)) 74) else (none)) else (none)) else (none)) else (none)) else (if (ji5) ≤ (x0_1.size : Int) then (if x3_1.size + (x0_1.extract 0 ((ji5) : Int).toNat).size ≤ 9223372036854775807 then (if (x3_1 ++ (x0_1.extract 0 ((ji5) : Int).toNat)).size + 3 ≤ 9223372036854775807 then (solsticeref16_Fold.l0 k2 (x0_1.extract ((ji5) : Int).toNat x0_1.size) ((x3_1 ++ (x0_1.extract 0 ((ji5) : Int).toNat)) ++ (⟨#[13, 10, 32]⟩ : ByteArray)) 74) else (none)) else (none)) else (none)))) else (if 0 ≤ x4_1 then (if x4_1 ≤ (x0_1.size : Int) then (if x3_1.size + (x0_1.extract 0 (x4_1 : Int).toNat).size ≤ 9223372036854775807 then (if (x3_1 ++ (x0_1.extract 0 (x4_1 : Int).toNat)).size + 3 ≤ 9223372036854775807 then (solsticeref16_Fold.l0 k2 (x0_1.extract (x4_1 : Int).toNat x0_1.size) ((x3_1 ++ (x0_1.extract 0 (x4_1 : Int).toNat)) ++ (⟨#[13, 10, 32]⟩ : ByteArray)) 74) else (none)) else (none)) else (none)) else (none))) = some r := by rw [if_neg (show ¬ (false = true) by decide)] at H; exact H
             clear H
             have H := H1
             clear H1
             by_cases c11 : x6_2 > 0
             ·rw [if_pos c11] at H
              have c11b0 : decide (0 < x6_2) = true := decide_eq_true c11
              clear c11
              replace H := Option.bind_eq_some_iff.mp H
              obtain ⟨t177, A130, H⟩ := H
              replace H : (if t177 = true then (if 0 ≤ x4_1 then (if x4_1 ≤ (x0_1.size : Int) then (if x3_1.size + (x0_1.extract 0 (x4_1 : Int).toNat).size ≤ 9223372036854775807 then (if (x3_1 ++ (x0_1.extract 0 (x4_1 : Int).toNat)).size + 3 ≤ 9223372036854775807 then (solsticeref16_Fold.l0 k2 (x0_1.extract (x4_1 : Int).toNat x0_1.size) ((x3_1 ++ (x0_1.extract 0 (x4_1 : Int).toNat)) ++ (⟨#[13, 10, 32]⟩ : ByteArray)) 74) else (none)) else (none)) else (none)) else (none)) else (if (ji5) ≤ (x0_1.size : Int) then (if x3_1.size + (x0_1.extract 0 ((ji5) : Int).toNat).size ≤ 9223372036854775807 then (if (x3_1 ++ (x0_1.extract 0 ((ji5) : Int).toNat)).size + 3 ≤ 9223372036854775807 then (solsticeref16_Fold.l0 k2 (x0_1.extract ((ji5) : Int).toNat x0_1.size) ((x3_1 ++ (x0_1.extract 0 ((ji5) : Int).toNat)) ++ (⟨#[13, 10, 32]⟩ : ByteArray)) 74) else (none)) else (none)) else (none))) = some r := H
              have A13 := Aside0.mk A130
              clear A130
              by_cases c14 : t177 = true
              ·subst c14
               have H1 : (if 0 ≤ x4_1 then (if x4_1 ≤ (x0_1.size : Int) then (if x3_1.size + (x0_1.extract 0 (x4_1 : Int).toNat).size ≤ 9223372036854775807 then (if (x3_1 ++ (x0_1.extract 0 (x4_1 : Int).toNat)).size + 3 ≤ 9223372036854775807 then (solsticeref16_Fold.l0 k2 (x0_1.extract (x4_1 : Int).toNat x0_1.size) ((x3_1 ++ (x0_1.extract 0 (x4_1 : Int).toNat)) ++ (⟨#[13, 10, 32]⟩ : ByteArray)) 74) else (none)) else (none)) else (none)) else (none)) = some r := by rw [if_pos rfl] at H; exact H
               clear H
               have H := H1
               clear H1
               by_cases c15 : 0 ≤ x4_1
               ·rw [if_pos c15] at H
                have c15b0 := eq_true c15
                have c15b1 : decide (0 ≤ x4_1) = true := decide_eq_true c15
                clear c15
                by_cases c16 : x4_1 ≤ (x0_1.size : Int)
                ·rw [if_pos c16] at H
                 have c16b0 := eq_true c16
                 have c16b1 : decide (x4_1 ≤ (x0_1.size : Int)) = true := decide_eq_true c16
                 clear c16
                 by_cases c17 : x3_1.size + (x0_1.extract 0 (x4_1 : Int).toNat).size ≤ 9223372036854775807
                 ·rw [if_pos c17] at H
                  have c17b0 := eq_true c17
                  have c17b1 : decide (x3_1.size + (x0_1.extract 0 (x4_1 : Int).toNat).size ≤ 9223372036854775807) = true := decide_eq_true c17
                  try have c17b3 : (9223372036854775807 < x3_1.size + (x0_1.extract 0 (x4_1 : Int).toNat).size) = False := eq_false (Nat.not_lt.2 (by have h_ := c17; simp only [ByteArray.size_append] at h_; omega))
                  try have c17b5 : (9223372036854775807 < x3_1.size + x4_1.toNat) = False := eq_false (Nat.not_lt.2 (by have h_ := c17; simp only [ByteArray.size_append, ByteArray.size_extract] at h_; simp only [eq_iff_iff, iff_true] at *; omega))
                  try have c17b2 : (9223372036854775807 < x3_1.size + (x0_1.extract 0 (x4_1 : Int).toNat).size) = False := eq_false (Nat.not_lt.2 c17)
                  by_cases c18 : (x3_1 ++ (x0_1.extract 0 (x4_1 : Int).toNat)).size + 3 ≤ 9223372036854775807
                  ·rw [if_pos c18] at H
                   have c18b0 := eq_true c18
                   have c18b1 : decide ((x3_1 ++ (x0_1.extract 0 (x4_1 : Int).toNat)).size + 3 ≤ 9223372036854775807) = true := decide_eq_true c18
                   try have c18b3 : (9223372036854775807 < (x3_1.size + (x0_1.extract 0 (x4_1 : Int).toNat).size) + 3) = False := eq_false (Nat.not_lt.2 (by have h_ := c18; simp only [ByteArray.size_append] at h_; omega))
                   try have c18b5 : (9223372036854775807 < (x3_1.size + x4_1.toNat) + 3) = False := eq_false (Nat.not_lt.2 (by have h_ := c18; simp only [ByteArray.size_append, ByteArray.size_extract] at h_; simp only [eq_iff_iff, iff_true] at *; omega))
                   try have c18b2 : (9223372036854775807 < (x3_1 ++ (x0_1.extract 0 (x4_1 : Int).toNat)).size + 3) = False := eq_false (Nat.not_lt.2 c18)
                   have c19b0 := eq_true (of_decide_eq_true (by first | (with_reducible assumption) | assumption) : 0 ≤ x4_1)
                   have c20b0 := eq_true (of_decide_eq_true (by first | (with_reducible assumption) | assumption) : x4_1 ≤ (x0_1.size : Int))
                   exact absurd (A9.out.symm.trans A13.out) (by simp)
                  ·rw [if_neg c18] at H
                   exact absurd H (by simp)
                 ·rw [if_neg c17] at H
                  exact absurd H (by simp)
                ·rw [if_neg c16] at H
                 exact absurd H (by simp)
               ·rw [if_neg c15] at H
                exact absurd H (by simp)
              ·replace c14 := Bool.eq_false_iff.mpr c14
               subst c14
               have H1 : (if (ji5) ≤ (x0_1.size : Int) then (if x3_1.size + (x0_1.extract 0 ((ji5) : Int).toNat).size ≤ 9223372036854775807 then (if (x3_1 ++ (x0_1.extract 0 ((ji5) : Int).toNat)).size + 3 ≤ 9223372036854775807 then (solsticeref16_Fold.l0 k2 (x0_1.extract ((ji5) : Int).toNat x0_1.size) ((x3_1 ++ (x0_1.extract 0 ((ji5) : Int).toNat)) ++ (⟨#[13, 10, 32]⟩ : ByteArray)) 74) else (none)) else (none)) else (none)) = some r := by rw [if_neg (show ¬ (false = true) by decide)] at H; exact H
               clear H
               have H := H1
               clear H1
               have c21b0 := eq_true (of_decide_eq_true (by first | (with_reducible assumption) | assumption) : 0 ≤ (ji5))
               by_cases c22 : (ji5) ≤ (x0_1.size : Int)
               ·rw [if_pos c22] at H
                have c22b0 := eq_true c22
                have c22b1 : decide ((ji5) ≤ (x0_1.size : Int)) = true := decide_eq_true c22
                clear c22
                by_cases c23 : x3_1.size + (x0_1.extract 0 ((ji5) : Int).toNat).size ≤ 9223372036854775807
                ·rw [if_pos c23] at H
                 have c23b0 := eq_true c23
                 have c23b1 : decide (x3_1.size + (x0_1.extract 0 ((ji5) : Int).toNat).size ≤ 9223372036854775807) = true := decide_eq_true c23
                 try have c23b3 : (9223372036854775807 < x3_1.size + (x0_1.extract 0 ((ji5) : Int).toNat).size) = False := eq_false (Nat.not_lt.2 (by have h_ := c23; simp only [ByteArray.size_append] at h_; omega))
                 try have c23b5 : (9223372036854775807 < x3_1.size + ji5.toNat) = False := eq_false (Nat.not_lt.2 (by have h_ := c23; simp only [ByteArray.size_append, ByteArray.size_extract] at h_; simp only [eq_iff_iff, iff_true] at *; omega))
                 try have c23b4 : (9223372036854775807 < x3_1.size + ji5.toNat) = False := eq_false (Nat.not_lt.2 (by have h_ := c23; simp only [ByteArray.size_append, ByteArray.size_extract] at h_; simp only [eq_iff_iff, iff_true] at *; omega))
                 try have c23b2 : (9223372036854775807 < x3_1.size + (x0_1.extract 0 ((ji5) : Int).toNat).size) = False := eq_false (Nat.not_lt.2 c23)
                 by_cases c24 : (x3_1 ++ (x0_1.extract 0 ((ji5) : Int).toNat)).size + 3 ≤ 9223372036854775807
                 ·rw [if_pos c24] at H
                  have c24b0 := eq_true c24
                  have c24b1 : decide ((x3_1 ++ (x0_1.extract 0 ((ji5) : Int).toNat)).size + 3 ≤ 9223372036854775807) = true := decide_eq_true c24
                  try have c24b3 : (9223372036854775807 < (x3_1.size + (x0_1.extract 0 ((ji5) : Int).toNat).size) + 3) = False := eq_false (Nat.not_lt.2 (by have h_ := c24; simp only [ByteArray.size_append] at h_; omega))
                  try have c24b5 : (9223372036854775807 < (x3_1.size + ji5.toNat) + 3) = False := eq_false (Nat.not_lt.2 (by have h_ := c24; simp only [ByteArray.size_append, ByteArray.size_extract] at h_; simp only [eq_iff_iff, iff_true] at *; omega))
                  try have c24b2 : (9223372036854775807 < (x3_1 ++ (x0_1.extract 0 ((ji5) : Int).toNat)).size + 3) = False := eq_false (Nat.not_lt.2 c24)
                  have c25b0 := eq_true (of_decide_eq_true (by first | (with_reducible assumption) | assumption) : 0 ≤ (ji5))
                  have c26b0 := eq_true (of_decide_eq_true (by first | (with_reducible assumption) | assumption) : (ji5) ≤ (x0_1.size : Int))
                  have H' := Aside0.mk H
                  clear H
                  have p8 : 0 ≤ ((ji5) : Int) := of_decide_eq_true (by first | (with_reducible assumption) | assumption)
                  have q8 : (ji5) < (x0_1.size : Int) := of_decide_eq_true (by first | (with_reducible assumption) | assumption)
                  have hx8 := bt_at x0_1 (ji5)
                  replace p8 := eq_true p8
                  replace q8 := eq_true q8
                  go_wp2_with (first | (go_at_call 38; (with_reducible refine (solsticeref16_goesOn.calls (bt x0_1 (ji5)) false _ A9.out).mono ?_); rintro e w' ⟨rfl, ⟨nd, rfl⟩⟩; have p12 : 0 ≤ ((ji5) : Int) := of_decide_eq_true (by first | (with_reducible assumption) | assumption); have q12 : (ji5) < (x0_1.size : Int) := of_decide_eq_true (by first | (with_reducible assumption) | assumption); have hx12 := bt_at x0_1 (ji5); replace p12 := eq_true p12; replace q12 := eq_true q12) | (go_at_call 38; (with_reducible refine (solsticeref16_goesOn.calls (bt x0_1 (ji5)) false _ A13.out).mono ?_); rintro e w' ⟨rfl, ⟨nd, rfl⟩⟩))
                  go_roundg k2
                  case measure => have := HK1.out; have := HK2.out; omega
                  case rel => exact ⟨(x0_1.extract ((ji5) : Int).toNat x0_1.size), ((x3_1 ++ (x0_1.extract 0 ((ji5) : Int).toNat)) ++ (⟨#[13, 10, 32]⟩ : ByteArray)), (74), (by first | rfl | (simp; done) | (simp only [← hji5] <;> (first | rfl | (simp; done))) | (simp [*]; done)), (by first | rfl | (simp; done) | (simp only [← hji5] <;> (first | rfl | (simp; done))) | (simp [*]; done)), (by first | rfl | (simp; done) | (simp [*]; done)), H', ⟨by have := HK1.out; have := HK2.out; omega⟩, by repeat (first | exact Drawn0.refl _ | apply Drawn0.step)⟩
                 ·rw [if_neg c24] at H
                  exact absurd H (by simp)
                ·rw [if_neg c23] at H
                 exact absurd H (by simp)
               ·rw [if_neg c22] at H
                exact absurd H (by simp)
             ·rw [if_neg c11] at H
              have c11b0 : decide (0 < x6_2) = false := decide_eq_false c11
              clear c11
              by_cases c27 : 0 ≤ x4_1
              ·rw [if_pos c27] at H
               have c27b0 := eq_true c27
               have c27b1 : decide (0 ≤ x4_1) = true := decide_eq_true c27
               clear c27
               by_cases c28 : x4_1 ≤ (x0_1.size : Int)
               ·rw [if_pos c28] at H
                have c28b0 := eq_true c28
                have c28b1 : decide (x4_1 ≤ (x0_1.size : Int)) = true := decide_eq_true c28
                clear c28
                by_cases c29 : x3_1.size + (x0_1.extract 0 (x4_1 : Int).toNat).size ≤ 9223372036854775807
                ·rw [if_pos c29] at H
                 have c29b0 := eq_true c29
                 have c29b1 : decide (x3_1.size + (x0_1.extract 0 (x4_1 : Int).toNat).size ≤ 9223372036854775807) = true := decide_eq_true c29
                 try have c29b3 : (9223372036854775807 < x3_1.size + (x0_1.extract 0 (x4_1 : Int).toNat).size) = False := eq_false (Nat.not_lt.2 (by have h_ := c29; simp only [ByteArray.size_append] at h_; omega))
                 try have c29b5 : (9223372036854775807 < x3_1.size + x4_1.toNat) = False := eq_false (Nat.not_lt.2 (by have h_ := c29; simp only [ByteArray.size_append, ByteArray.size_extract] at h_; simp only [eq_iff_iff, iff_true] at *; omega))
                 try have c29b2 : (9223372036854775807 < x3_1.size + (x0_1.extract 0 (x4_1 : Int).toNat).size) = False := eq_false (Nat.not_lt.2 c29)
                 by_cases c30 : (x3_1 ++ (x0_1.extract 0 (x4_1 : Int).toNat)).size + 3 ≤ 9223372036854775807
                 ·rw [if_pos c30] at H
                  have c30b0 := eq_true c30
                  have c30b1 : decide ((x3_1 ++ (x0_1.extract 0 (x4_1 : Int).toNat)).size + 3 ≤ 9223372036854775807) = true := decide_eq_true c30
                  try have c30b3 : (9223372036854775807 < (x3_1.size + (x0_1.extract 0 (x4_1 : Int).toNat).size) + 3) = False := eq_false (Nat.not_lt.2 (by have h_ := c30; simp only [ByteArray.size_append] at h_; omega))
                  try have c30b5 : (9223372036854775807 < (x3_1.size + x4_1.toNat) + 3) = False := eq_false (Nat.not_lt.2 (by have h_ := c30; simp only [ByteArray.size_append, ByteArray.size_extract] at h_; simp only [eq_iff_iff, iff_true] at *; omega))
                  try have c30b2 : (9223372036854775807 < (x3_1 ++ (x0_1.extract 0 (x4_1 : Int).toNat)).size + 3) = False := eq_false (Nat.not_lt.2 c30)
                  have c31b0 := eq_true (of_decide_eq_true (by first | (with_reducible assumption) | assumption) : 0 ≤ x4_1)
                  have c32b0 := eq_true (of_decide_eq_true (by first | (with_reducible assumption) | assumption) : x4_1 ≤ (x0_1.size : Int))
                  have H' := Aside0.mk H
                  clear H
                  have p8 : 0 ≤ ((ji5) : Int) := of_decide_eq_true (by first | (with_reducible assumption) | assumption)
                  have q8 : (ji5) < (x0_1.size : Int) := of_decide_eq_true (by first | (with_reducible assumption) | assumption)
                  have hx8 := bt_at x0_1 (ji5)
                  replace p8 := eq_true p8
                  replace q8 := eq_true q8
                  go_wp2_with (first | (go_at_call 38; (with_reducible refine (solsticeref16_goesOn.calls (bt x0_1 (ji5)) false _ A9.out).mono ?_); rintro e w' ⟨rfl, ⟨nd, rfl⟩⟩))
                  go_roundg k2
                  case measure => have := HK1.out; have := HK2.out; omega
                  case rel => exact ⟨(x0_1.extract (x4_1 : Int).toNat x0_1.size), ((x3_1 ++ (x0_1.extract 0 (x4_1 : Int).toNat)) ++ (⟨#[13, 10, 32]⟩ : ByteArray)), (74), (by first | rfl | (simp; done) | (simp [*]; done)), (by first | rfl | (simp; done) | (simp [*]; done)), (by first | rfl | (simp; done) | (simp [*]; done)), H', ⟨by have := HK1.out; have := HK2.out; omega⟩, by repeat (first | exact Drawn0.refl _ | apply Drawn0.step)⟩
                 ·rw [if_neg c30] at H
                  exact absurd H (by simp)
                ·rw [if_neg c29] at H
                 exact absurd H (by simp)
               ·rw [if_neg c28] at H
                exact absurd H (by simp)
              ·rw [if_neg c27] at H
               exact absurd H (by simp)
           ·rw [if_neg c7] at H
            exact absurd H (by simp)
          ·rw [if_neg c6] at H
           exact absurd H (by simp)
         ·rw [if_neg c4] at H
          have c4b0 : decide (0 < (wrap64 (x4_1 - x6_2))) = false := decide_eq_false c4
          clear c4
          by_cases c33 : x6_2 > 0
          ·rw [if_pos c33] at H
           have c33b0 : decide (0 < x6_2) = true := decide_eq_true c33
           clear c33
           by_cases c34 : 0 ≤ x4_1
           ·rw [if_pos c34] at H
            have c34b0 := eq_true c34
            have c34b1 : decide (0 ≤ x4_1) = true := decide_eq_true c34
            clear c34
            by_cases c35 : x4_1 ≤ (x0_1.size : Int)
            ·rw [if_pos c35] at H
             have c35b0 := eq_true c35
             have c35b1 : decide (x4_1 ≤ (x0_1.size : Int)) = true := decide_eq_true c35
             clear c35
             by_cases c36 : x3_1.size + (x0_1.extract 0 (x4_1 : Int).toNat).size ≤ 9223372036854775807
             ·rw [if_pos c36] at H
              have c36b0 := eq_true c36
              have c36b1 : decide (x3_1.size + (x0_1.extract 0 (x4_1 : Int).toNat).size ≤ 9223372036854775807) = true := decide_eq_true c36
              try have c36b3 : (9223372036854775807 < x3_1.size + (x0_1.extract 0 (x4_1 : Int).toNat).size) = False := eq_false (Nat.not_lt.2 (by have h_ := c36; simp only [ByteArray.size_append] at h_; omega))
              try have c36b5 : (9223372036854775807 < x3_1.size + x4_1.toNat) = False := eq_false (Nat.not_lt.2 (by have h_ := c36; simp only [ByteArray.size_append, ByteArray.size_extract] at h_; simp only [eq_iff_iff, iff_true] at *; omega))
              try have c36b2 : (9223372036854775807 < x3_1.size + (x0_1.extract 0 (x4_1 : Int).toNat).size) = False := eq_false (Nat.not_lt.2 c36)
              by_cases c37 : (x3_1 ++ (x0_1.extract 0 (x4_1 : Int).toNat)).size + 3 ≤ 9223372036854775807
              ·rw [if_pos c37] at H
               have c37b0 := eq_true c37
               have c37b1 : decide ((x3_1 ++ (x0_1.extract 0 (x4_1 : Int).toNat)).size + 3 ≤ 9223372036854775807) = true := decide_eq_true c37
               try have c37b3 : (9223372036854775807 < (x3_1.size + (x0_1.extract 0 (x4_1 : Int).toNat).size) + 3) = False := eq_false (Nat.not_lt.2 (by have h_ := c37; simp only [ByteArray.size_append] at h_; omega))
               try have c37b5 : (9223372036854775807 < (x3_1.size + x4_1.toNat) + 3) = False := eq_false (Nat.not_lt.2 (by have h_ := c37; simp only [ByteArray.size_append, ByteArray.size_extract] at h_; simp only [eq_iff_iff, iff_true] at *; omega))
               try have c37b2 : (9223372036854775807 < (x3_1 ++ (x0_1.extract 0 (x4_1 : Int).toNat)).size + 3) = False := eq_false (Nat.not_lt.2 c37)
               have c38b0 := eq_true (of_decide_eq_true (by first | (with_reducible assumption) | assumption) : 0 ≤ x4_1)
               have c39b0 := eq_true (of_decide_eq_true (by first | (with_reducible assumption) | assumption) : x4_1 ≤ (x0_1.size : Int))
               have H' := Aside0.mk H
               clear H
               go_wp2
               go_roundg k2
               case measure => have := HK1.out; have := HK2.out; omega
               case rel => exact ⟨(x0_1.extract (x4_1 : Int).toNat x0_1.size), ((x3_1 ++ (x0_1.extract 0 (x4_1 : Int).toNat)) ++ (⟨#[13, 10, 32]⟩ : ByteArray)), (74), (by first | rfl | (simp; done) | (simp [*]; done)), (by first | rfl | (simp; done) | (simp [*]; done)), (by first | rfl | (simp; done) | (simp [*]; done)), H', ⟨by have := HK1.out; have := HK2.out; omega⟩, by repeat (first | exact Drawn0.refl _ | apply Drawn0.step)⟩
              ·rw [if_neg c37] at H
               exact absurd H (by simp)
             ·rw [if_neg c36] at H
              exact absurd H (by simp)
            ·rw [if_neg c35] at H
             exact absurd H (by simp)
           ·rw [if_neg c34] at H
            exact absurd H (by simp)
          ·rw [if_neg c33] at H
           have c33b0 : decide (0 < x6_2) = false := decide_eq_false c33
           clear c33
           by_cases c40 : 0 ≤ x4_1
           ·rw [if_pos c40] at H
            have c40b0 := eq_true c40
            have c40b1 : decide (0 ≤ x4_1) = true := decide_eq_true c40
            clear c40
            by_cases c41 : x4_1 ≤ (x0_1.size : Int)
            ·rw [if_pos c41] at H
             have c41b0 := eq_true c41
             have c41b1 : decide (x4_1 ≤ (x0_1.size : Int)) = true := decide_eq_true c41
             clear c41
             by_cases c42 : x3_1.size + (x0_1.extract 0 (x4_1 : Int).toNat).size ≤ 9223372036854775807
             ·rw [if_pos c42] at H
              have c42b0 := eq_true c42
              have c42b1 : decide (x3_1.size + (x0_1.extract 0 (x4_1 : Int).toNat).size ≤ 9223372036854775807) = true := decide_eq_true c42
              try have c42b3 : (9223372036854775807 < x3_1.size + (x0_1.extract 0 (x4_1 : Int).toNat).size) = False := eq_false (Nat.not_lt.2 (by have h_ := c42; simp only [ByteArray.size_append] at h_; omega))
              try have c42b5 : (9223372036854775807 < x3_1.size + x4_1.toNat) = False := eq_false (Nat.not_lt.2 (by have h_ := c42; simp only [ByteArray.size_append, ByteArray.size_extract] at h_; simp only [eq_iff_iff, iff_true] at *; omega))
              try have c42b2 : (9223372036854775807 < x3_1.size + (x0_1.extract 0 (x4_1 : Int).toNat).size) = False := eq_false (Nat.not_lt.2 c42)
              by_cases c43 : (x3_1 ++ (x0_1.extract 0 (x4_1 : Int).toNat)).size + 3 ≤ 9223372036854775807
              ·rw [if_pos c43] at H
               have c43b0 := eq_true c43
               have c43b1 : decide ((x3_1 ++ (x0_1.extract 0 (x4_1 : Int).toNat)).size + 3 ≤ 9223372036854775807) = true := decide_eq_true c43
               try have c43b3 : (9223372036854775807 < (x3_1.size + (x0_1.extract 0 (x4_1 : Int).toNat).size) + 3) = False := eq_false (Nat.not_lt.2 (by have h_ := c43; simp only [ByteArray.size_append] at h_; omega))
               try have c43b5 : (9223372036854775807 < (x3_1.size + x4_1.toNat) + 3) = False := eq_false (Nat.not_lt.2 (by have h_ := c43; simp only [ByteArray.size_append, ByteArray.size_extract] at h_; simp only [eq_iff_iff, iff_true] at *; omega))
               try have c43b2 : (9223372036854775807 < (x3_1 ++ (x0_1.extract 0 (x4_1 : Int).toNat)).size + 3) = False := eq_false (Nat.not_lt.2 c43)
               have c44b0 := eq_true (of_decide_eq_true (by first | (with_reducible assumption) | assumption) : 0 ≤ x4_1)
               have c45b0 := eq_true (of_decide_eq_true (by first | (with_reducible assumption) | assumption) : x4_1 ≤ (x0_1.size : Int))
               have H' := Aside0.mk H
               clear H
               go_wp2
               go_roundg k2
               case measure => have := HK1.out; have := HK2.out; omega
               case rel => exact ⟨(x0_1.extract (x4_1 : Int).toNat x0_1.size), ((x3_1 ++ (x0_1.extract 0 (x4_1 : Int).toNat)) ++ (⟨#[13, 10, 32]⟩ : ByteArray)), (74), (by first | rfl | (simp; done) | (simp [*]; done)), (by first | rfl | (simp; done) | (simp [*]; done)), (by first | rfl | (simp; done) | (simp [*]; done)), H', ⟨by have := HK1.out; have := HK2.out; omega⟩, by repeat (first | exact Drawn0.refl _ | apply Drawn0.step)⟩
              ·rw [if_neg c43] at H
               exact absurd H (by simp)
             ·rw [if_neg c42] at H
              exact absurd H (by simp)
            ·rw [if_neg c41] at H
             exact absurd H (by simp)
           ·rw [if_neg c40] at H
            exact absurd H (by simp)
        ·rw [if_neg c3] at H
         have c3b0 : decide (x6_2 < 3) = false := decide_eq_false c3
         clear c3
         by_cases c46 : x6_2 > 0
         ·rw [if_pos c46] at H
          have c46b0 : decide (0 < x6_2) = true := decide_eq_true c46
          clear c46
          by_cases c47 : (wrap64 (x4_1 - x6_2)) > 0
          ·rw [if_pos c47] at H
           have c47b0 : decide (0 < (wrap64 (x4_1 - x6_2))) = true := decide_eq_true c47
           clear c47
           obtain ⟨ji48, hji48⟩ : ∃ j_ : Int, (wrap64 (x4_1 - x6_2)) = j_ := ⟨_, rfl⟩
           replace H : (if 0 ≤ (ji48) then (if (ji48) < (x0_1.size : Int) then ((solsticeref16_goesOn.f (bt x0_1 (ji48))).bind fun t178 => (if t178 = true then (if 0 ≤ x4_1 then (if x4_1 ≤ (x0_1.size : Int) then (if x3_1.size + (x0_1.extract 0 (x4_1 : Int).toNat).size ≤ 9223372036854775807 then (if (x3_1 ++ (x0_1.extract 0 (x4_1 : Int).toNat)).size + 3 ≤ 9223372036854775807 then (solsticeref16_Fold.l0 k2 (x0_1.extract (x4_1 : Int).toNat x0_1.size) ((x3_1 ++ (x0_1.extract 0 (x4_1 : Int).toNat)) ++ (⟨#[13, 10, 32]⟩ : ByteArray)) 74) else (none)) else (none)) else (none)) else (none)) else (if (ji48) ≤ (x0_1.size : Int) then (if x3_1.size + (x0_1.extract 0 ((ji48) : Int).toNat).size ≤ 9223372036854775807 then (if (x3_1 ++ (x0_1.extract 0 ((ji48) : Int).toNat)).size + 3 ≤ 9223372036854775807 then (solsticeref16_Fold.l0 k2 (x0_1.extract ((ji48) : Int).toNat x0_1.size) ((x3_1 ++ (x0_1.extract 0 ((ji48) : Int).toNat)) ++ (⟨#[13, 10, 32]⟩ : ByteArray)) 74) else (none)) else (none)) else (none)))) else (none)) else (none)) = some r := by first | (rw [hji48] at H; exact H) | (simp only [hji48] at H ⊢; exact H)
           (try rw [hji48] at c47b0)
           have hji48w : (IntKind.i64.wrap (x4_1 - x6_2)) = ji48 := (i64_w _).trans hji48
           by_cases c49 : 0 ≤ (ji48)
           ·rw [if_pos c49] at H
            have c49b0 : decide (0 ≤ (ji48)) = true := decide_eq_true c49
            clear c49
            by_cases c50 : (ji48) < (x0_1.size : Int)
            ·rw [if_pos c50] at H
             have c50b0 : decide ((ji48) < (x0_1.size : Int)) = true := decide_eq_true c50
             clear c50
             replace H := Option.bind_eq_some_iff.mp H
             obtain ⟨t178, A520, H⟩ := H
             replace H : (if t178 = true then (if 0 ≤ x4_1 then (if x4_1 ≤ (x0_1.size : Int) then (if x3_1.size + (x0_1.extract 0 (x4_1 : Int).toNat).size ≤ 9223372036854775807 then (if (x3_1 ++ (x0_1.extract 0 (x4_1 : Int).toNat)).size + 3 ≤ 9223372036854775807 then (solsticeref16_Fold.l0 k2 (x0_1.extract (x4_1 : Int).toNat x0_1.size) ((x3_1 ++ (x0_1.extract 0 (x4_1 : Int).toNat)) ++ (⟨#[13, 10, 32]⟩ : ByteArray)) 74) else (none)) else (none)) else (none)) else (none)) else (if (ji48) ≤ (x0_1.size : Int) then (if x3_1.size + (x0_1.extract 0 ((ji48) : Int).toNat).size ≤ 9223372036854775807 then (if (x3_1 ++ (x0_1.extract 0 ((ji48) : Int).toNat)).size + 3 ≤ 9223372036854775807 then (solsticeref16_Fold.l0 k2 (x0_1.extract ((ji48) : Int).toNat x0_1.size) ((x3_1 ++ (x0_1.extract 0 ((ji48) : Int).toNat)) ++ (⟨#[13, 10, 32]⟩ : ByteArray)) 74) else (none)) else (none)) else (none))) = some r := H
             have A52 := Aside0.mk A520
             clear A520
             by_cases c53 : t178 = true
             ·subst c53
              have H1 : (if 0 ≤ x4_1 then (if x4_1 ≤ (x0_1.size : Int) then (if x3_1.size + (x0_1.extract 0 (x4_1 : Int).toNat).size ≤ 9223372036854775807 then (if (x3_1 ++ (x0_1.extract 0 (x4_1 : Int).toNat)).size + 3 ≤ 9223372036854775807 then (solsticeref16_Fold.l0 k2 (x0_1.extract (x4_1 : Int).toNat x0_1.size) ((x3_1 ++ (x0_1.extract 0 (x4_1 : Int).toNat)) ++ (⟨#[13, 10, 32]⟩ : ByteArray)) 74) else (none)) else (none)) else (none)) else (none)) = some r := by rw [if_pos rfl] at H; exact H
              clear H
              have H := H1
              clear H1
              by_cases c54 : 0 ≤ x4_1
              ·rw [if_pos c54] at H
               have c54b0 := eq_true c54
               have c54b1 : decide (0 ≤ x4_1) = true := decide_eq_true c54
               clear c54
               by_cases c55 : x4_1 ≤ (x0_1.size : Int)
               ·rw [if_pos c55] at H
                have c55b0 := eq_true c55
                have c55b1 : decide (x4_1 ≤ (x0_1.size : Int)) = true := decide_eq_true c55
                clear c55
                by_cases c56 : x3_1.size + (x0_1.extract 0 (x4_1 : Int).toNat).size ≤ 9223372036854775807
                ·rw [if_pos c56] at H
                 have c56b0 := eq_true c56
                 have c56b1 : decide (x3_1.size + (x0_1.extract 0 (x4_1 : Int).toNat).size ≤ 9223372036854775807) = true := decide_eq_true c56
                 try have c56b3 : (9223372036854775807 < x3_1.size + (x0_1.extract 0 (x4_1 : Int).toNat).size) = False := eq_false (Nat.not_lt.2 (by have h_ := c56; simp only [ByteArray.size_append] at h_; omega))
                 try have c56b5 : (9223372036854775807 < x3_1.size + x4_1.toNat) = False := eq_false (Nat.not_lt.2 (by have h_ := c56; simp only [ByteArray.size_append, ByteArray.size_extract] at h_; simp only [eq_iff_iff, iff_true] at *; omega))
                 try have c56b2 : (9223372036854775807 < x3_1.size + (x0_1.extract 0 (x4_1 : Int).toNat).size) = False := eq_false (Nat.not_lt.2 c56)
                 by_cases c57 : (x3_1 ++ (x0_1.extract 0 (x4_1 : Int).toNat)).size + 3 ≤ 9223372036854775807
                 ·rw [if_pos c57] at H
                  have c57b0 := eq_true c57
                  have c57b1 : decide ((x3_1 ++ (x0_1.extract 0 (x4_1 : Int).toNat)).size + 3 ≤ 9223372036854775807) = true := decide_eq_true c57
                  try have c57b3 : (9223372036854775807 < (x3_1.size + (x0_1.extract 0 (x4_1 : Int).toNat).size) + 3) = False := eq_false (Nat.not_lt.2 (by have h_ := c57; simp only [ByteArray.size_append] at h_; omega))
                  try have c57b5 : (9223372036854775807 < (x3_1.size + x4_1.toNat) + 3) = False := eq_false (Nat.not_lt.2 (by have h_ := c57; simp only [ByteArray.size_append, ByteArray.size_extract] at h_; simp only [eq_iff_iff, iff_true] at *; omega))
                  try have c57b2 : (9223372036854775807 < (x3_1 ++ (x0_1.extract 0 (x4_1 : Int).toNat)).size + 3) = False := eq_false (Nat.not_lt.2 c57)
                  have c58b0 := eq_true (of_decide_eq_true (by first | (with_reducible assumption) | assumption) : 0 ≤ x4_1)
                  have c59b0 := eq_true (of_decide_eq_true (by first | (with_reducible assumption) | assumption) : x4_1 ≤ (x0_1.size : Int))
                  have H' := Aside0.mk H
                  clear H
                  have p51 : 0 ≤ ((ji48) : Int) := of_decide_eq_true (by first | (with_reducible assumption) | assumption)
                  have q51 : (ji48) < (x0_1.size : Int) := of_decide_eq_true (by first | (with_reducible assumption) | assumption)
                  have hx51 := bt_at x0_1 (ji48)
                  replace p51 := eq_true p51
                  replace q51 := eq_true q51
                  go_wp2_with (first | (go_at_call 38; (with_reducible refine (solsticeref16_goesOn.calls (bt x0_1 (ji48)) true _ A52.out).mono ?_); rintro e w' ⟨rfl, ⟨nd, rfl⟩⟩))
                  go_roundg k2
                  case measure => have := HK1.out; have := HK2.out; omega
                  case rel => exact ⟨(x0_1.extract (x4_1 : Int).toNat x0_1.size), ((x3_1 ++ (x0_1.extract 0 (x4_1 : Int).toNat)) ++ (⟨#[13, 10, 32]⟩ : ByteArray)), (74), (by first | rfl | (simp; done) | (simp [*]; done)), (by first | rfl | (simp; done) | (simp [*]; done)), (by first | rfl | (simp; done) | (simp [*]; done)), H', ⟨by have := HK1.out; have := HK2.out; omega⟩, by repeat (first | exact Drawn0.refl _ | apply Drawn0.step)⟩
                 ·rw [if_neg c57] at H
                  exact absurd H (by simp)
                ·rw [if_neg c56] at H
                 exact absurd H (by simp)
               ·rw [if_neg c55] at H
                exact absurd H (by simp)
              ·rw [if_neg c54] at H
               exact absurd H (by simp)
             ·replace c53 := Bool.eq_false_iff.mpr c53
              subst c53
              have H1 : (if (ji48) ≤ (x0_1.size : Int) then (if x3_1.size + (x0_1.extract 0 ((ji48) : Int).toNat).size ≤ 9223372036854775807 then (if (x3_1 ++ (x0_1.extract 0 ((ji48) : Int).toNat)).size + 3 ≤ 9223372036854775807 then (solsticeref16_Fold.l0 k2 (x0_1.extract ((ji48) : Int).toNat x0_1.size) ((x3_1 ++ (x0_1.extract 0 ((ji48) : Int).toNat)) ++ (⟨#[13, 10, 32]⟩ : ByteArray)) 74) else (none)) else (none)) else (none)) = some r := by rw [if_neg (show ¬ (false = true) by decide)] at H; exact H
              clear H
              have H := H1
              clear H1
              have c60b0 := eq_true (of_decide_eq_true (by first | (with_reducible assumption) | assumption) : 0 ≤ (ji48))
              by_cases c61 : (ji48) ≤ (x0_1.size : Int)
              ·rw [if_pos c61] at H
               have c61b0 := eq_true c61
               have c61b1 : decide ((ji48) ≤ (x0_1.size : Int)) = true := decide_eq_true c61
               clear c61
               by_cases c62 : x3_1.size + (x0_1.extract 0 ((ji48) : Int).toNat).size ≤ 9223372036854775807
               ·rw [if_pos c62] at H
                have c62b0 := eq_true c62
                have c62b1 : decide (x3_1.size + (x0_1.extract 0 ((ji48) : Int).toNat).size ≤ 9223372036854775807) = true := decide_eq_true c62
                try have c62b3 : (9223372036854775807 < x3_1.size + (x0_1.extract 0 ((ji48) : Int).toNat).size) = False := eq_false (Nat.not_lt.2 (by have h_ := c62; simp only [ByteArray.size_append] at h_; omega))
                try have c62b5 : (9223372036854775807 < x3_1.size + ji48.toNat) = False := eq_false (Nat.not_lt.2 (by have h_ := c62; simp only [ByteArray.size_append, ByteArray.size_extract] at h_; simp only [eq_iff_iff, iff_true] at *; omega))
                try have c62b4 : (9223372036854775807 < x3_1.size + ji48.toNat) = False := eq_false (Nat.not_lt.2 (by have h_ := c62; simp only [ByteArray.size_append, ByteArray.size_extract] at h_; simp only [eq_iff_iff, iff_true] at *; omega))
                try have c62b2 : (9223372036854775807 < x3_1.size + (x0_1.extract 0 ((ji48) : Int).toNat).size) = False := eq_false (Nat.not_lt.2 c62)
                by_cases c63 : (x3_1 ++ (x0_1.extract 0 ((ji48) : Int).toNat)).size + 3 ≤ 9223372036854775807
                ·rw [if_pos c63] at H
                 have c63b0 := eq_true c63
                 have c63b1 : decide ((x3_1 ++ (x0_1.extract 0 ((ji48) : Int).toNat)).size + 3 ≤ 9223372036854775807) = true := decide_eq_true c63
                 try have c63b3 : (9223372036854775807 < (x3_1.size + (x0_1.extract 0 ((ji48) : Int).toNat).size) + 3) = False := eq_false (Nat.not_lt.2 (by have h_ := c63; simp only [ByteArray.size_append] at h_; omega))
                 try have c63b5 : (9223372036854775807 < (x3_1.size + ji48.toNat) + 3) = False := eq_false (Nat.not_lt.2 (by have h_ := c63; simp only [ByteArray.size_append, ByteArray.size_extract] at h_; simp only [eq_iff_iff, iff_true] at *; omega))
                 try have c63b2 : (9223372036854775807 < (x3_1 ++ (x0_1.extract 0 ((ji48) : Int).toNat)).size + 3) = False := eq_false (Nat.not_lt.2 c63)
                 have c64b0 := eq_true (of_decide_eq_true (by first | (with_reducible assumption) | assumption) : 0 ≤ (ji48))
                 have c65b0 := eq_true (of_decide_eq_true (by first | (with_reducible assumption) | assumption) : (ji48) ≤ (x0_1.size : Int))
                 have H' := Aside0.mk H
                 clear H
                 have p51 : 0 ≤ ((ji48) : Int) := of_decide_eq_true (by first | (with_reducible assumption) | assumption)
                 have q51 : (ji48) < (x0_1.size : Int) := of_decide_eq_true (by first | (with_reducible assumption) | assumption)
                 have hx51 := bt_at x0_1 (ji48)
                 replace p51 := eq_true p51
                 replace q51 := eq_true q51
                 go_wp2_with (first | (go_at_call 38; (with_reducible refine (solsticeref16_goesOn.calls (bt x0_1 (ji48)) false _ A52.out).mono ?_); rintro e w' ⟨rfl, ⟨nd, rfl⟩⟩))
                 go_roundg k2
                 case measure => have := HK1.out; have := HK2.out; omega
                 case rel => exact ⟨(x0_1.extract ((ji48) : Int).toNat x0_1.size), ((x3_1 ++ (x0_1.extract 0 ((ji48) : Int).toNat)) ++ (⟨#[13, 10, 32]⟩ : ByteArray)), (74), (by first | rfl | (simp; done) | (simp only [← hji48] <;> (first | rfl | (simp; done))) | (simp [*]; done)), (by first | rfl | (simp; done) | (simp only [← hji48] <;> (first | rfl | (simp; done))) | (simp [*]; done)), (by first | rfl | (simp; done) | (simp [*]; done)), H', ⟨by have := HK1.out; have := HK2.out; omega⟩, by repeat (first | exact Drawn0.refl _ | apply Drawn0.step)⟩
                ·rw [if_neg c63] at H
                 exact absurd H (by simp)
               ·rw [if_neg c62] at H
                exact absurd H (by simp)
              ·rw [if_neg c61] at H
               exact absurd H (by simp)
            ·rw [if_neg c50] at H
             exact absurd H (by simp)
           ·rw [if_neg c49] at H
            exact absurd H (by simp)
          ·rw [if_neg c47] at H
           have c47b0 : decide (0 < (wrap64 (x4_1 - x6_2))) = false := decide_eq_false c47
           clear c47
           by_cases c66 : 0 ≤ x4_1
           ·rw [if_pos c66] at H
            have c66b0 := eq_true c66
            have c66b1 : decide (0 ≤ x4_1) = true := decide_eq_true c66
            clear c66
            by_cases c67 : x4_1 ≤ (x0_1.size : Int)
            ·rw [if_pos c67] at H
             have c67b0 := eq_true c67
             have c67b1 : decide (x4_1 ≤ (x0_1.size : Int)) = true := decide_eq_true c67
             clear c67
             by_cases c68 : x3_1.size + (x0_1.extract 0 (x4_1 : Int).toNat).size ≤ 9223372036854775807
             ·rw [if_pos c68] at H
              have c68b0 := eq_true c68
              have c68b1 : decide (x3_1.size + (x0_1.extract 0 (x4_1 : Int).toNat).size ≤ 9223372036854775807) = true := decide_eq_true c68
              try have c68b3 : (9223372036854775807 < x3_1.size + (x0_1.extract 0 (x4_1 : Int).toNat).size) = False := eq_false (Nat.not_lt.2 (by have h_ := c68; simp only [ByteArray.size_append] at h_; omega))
              try have c68b5 : (9223372036854775807 < x3_1.size + x4_1.toNat) = False := eq_false (Nat.not_lt.2 (by have h_ := c68; simp only [ByteArray.size_append, ByteArray.size_extract] at h_; simp only [eq_iff_iff, iff_true] at *; omega))
              try have c68b2 : (9223372036854775807 < x3_1.size + (x0_1.extract 0 (x4_1 : Int).toNat).size) = False := eq_false (Nat.not_lt.2 c68)
              by_cases c69 : (x3_1 ++ (x0_1.extract 0 (x4_1 : Int).toNat)).size + 3 ≤ 9223372036854775807
              ·rw [if_pos c69] at H
               have c69b0 := eq_true c69
               have c69b1 : decide ((x3_1 ++ (x0_1.extract 0 (x4_1 : Int).toNat)).size + 3 ≤ 9223372036854775807) = true := decide_eq_true c69
               try have c69b3 : (9223372036854775807 < (x3_1.size + (x0_1.extract 0 (x4_1 : Int).toNat).size) + 3) = False := eq_false (Nat.not_lt.2 (by have h_ := c69; simp only [ByteArray.size_append] at h_; omega))
               try have c69b5 : (9223372036854775807 < (x3_1.size + x4_1.toNat) + 3) = False := eq_false (Nat.not_lt.2 (by have h_ := c69; simp only [ByteArray.size_append, ByteArray.size_extract] at h_; simp only [eq_iff_iff, iff_true] at *; omega))
               try have c69b2 : (9223372036854775807 < (x3_1 ++ (x0_1.extract 0 (x4_1 : Int).toNat)).size + 3) = False := eq_false (Nat.not_lt.2 c69)
               have c70b0 := eq_true (of_decide_eq_true (by first | (with_reducible assumption) | assumption) : 0 ≤ x4_1)
               have c71b0 := eq_true (of_decide_eq_true (by first | (with_reducible assumption) | assumption) : x4_1 ≤ (x0_1.size : Int))
               have H' := Aside0.mk H
               clear H
               go_wp2
               go_roundg k2
               case measure => have := HK1.out; have := HK2.out; omega
               case rel => exact ⟨(x0_1.extract (x4_1 : Int).toNat x0_1.size), ((x3_1 ++ (x0_1.extract 0 (x4_1 : Int).toNat)) ++ (⟨#[13, 10, 32]⟩ : ByteArray)), (74), (by first | rfl | (simp; done) | (simp [*]; done)), (by first | rfl | (simp; done) | (simp [*]; done)), (by first | rfl | (simp; done) | (simp [*]; done)), H', ⟨by have := HK1.out; have := HK2.out; omega⟩, by repeat (first | exact Drawn0.refl _ | apply Drawn0.step)⟩
              ·rw [if_neg c69] at H
               exact absurd H (by simp)
             ·rw [if_neg c68] at H
              exact absurd H (by simp)
            ·rw [if_neg c67] at H
             exact absurd H (by simp)
           ·rw [if_neg c66] at H
            exact absurd H (by simp)
         ·rw [if_neg c46] at H
          have c46b0 : decide (0 < x6_2) = false := decide_eq_false c46
          clear c46
          by_cases c72 : 0 ≤ x4_1
          ·rw [if_pos c72] at H
           have c72b0 := eq_true c72
           have c72b1 : decide (0 ≤ x4_1) = true := decide_eq_true c72
           clear c72
           by_cases c73 : x4_1 ≤ (x0_1.size : Int)
           ·rw [if_pos c73] at H
            have c73b0 := eq_true c73
            have c73b1 : decide (x4_1 ≤ (x0_1.size : Int)) = true := decide_eq_true c73
            clear c73
            by_cases c74 : x3_1.size + (x0_1.extract 0 (x4_1 : Int).toNat).size ≤ 9223372036854775807
            ·rw [if_pos c74] at H
             have c74b0 := eq_true c74
             have c74b1 : decide (x3_1.size + (x0_1.extract 0 (x4_1 : Int).toNat).size ≤ 9223372036854775807) = true := decide_eq_true c74
             try have c74b3 : (9223372036854775807 < x3_1.size + (x0_1.extract 0 (x4_1 : Int).toNat).size) = False := eq_false (Nat.not_lt.2 (by have h_ := c74; simp only [ByteArray.size_append] at h_; omega))
             try have c74b5 : (9223372036854775807 < x3_1.size + x4_1.toNat) = False := eq_false (Nat.not_lt.2 (by have h_ := c74; simp only [ByteArray.size_append, ByteArray.size_extract] at h_; simp only [eq_iff_iff, iff_true] at *; omega))
             try have c74b2 : (9223372036854775807 < x3_1.size + (x0_1.extract 0 (x4_1 : Int).toNat).size) = False := eq_false (Nat.not_lt.2 c74)
             by_cases c75 : (x3_1 ++ (x0_1.extract 0 (x4_1 : Int).toNat)).size + 3 ≤ 9223372036854775807
             ·rw [if_pos c75] at H
              have c75b0 := eq_true c75
              have c75b1 : decide ((x3_1 ++ (x0_1.extract 0 (x4_1 : Int).toNat)).size + 3 ≤ 9223372036854775807) = true := decide_eq_true c75
              try have c75b3 : (9223372036854775807 < (x3_1.size + (x0_1.extract 0 (x4_1 : Int).toNat).size) + 3) = False := eq_false (Nat.not_lt.2 (by have h_ := c75; simp only [ByteArray.size_append] at h_; omega))
              try have c75b5 : (9223372036854775807 < (x3_1.size + x4_1.toNat) + 3) = False := eq_false (Nat.not_lt.2 (by have h_ := c75; simp only [ByteArray.size_append, ByteArray.size_extract] at h_; simp only [eq_iff_iff, iff_true] at *; omega))
              try have c75b2 : (9223372036854775807 < (x3_1 ++ (x0_1.extract 0 (x4_1 : Int).toNat)).size + 3) = False := eq_false (Nat.not_lt.2 c75)
              have c76b0 := eq_true (of_decide_eq_true (by first | (with_reducible assumption) | assumption) : 0 ≤ x4_1)
              have c77b0 := eq_true (of_decide_eq_true (by first | (with_reducible assumption) | assumption) : x4_1 ≤ (x0_1.size : Int))
              have H' := Aside0.mk H
              clear H
              go_wp2
              go_roundg k2
              case measure => have := HK1.out; have := HK2.out; omega
              case rel => exact ⟨(x0_1.extract (x4_1 : Int).toNat x0_1.size), ((x3_1 ++ (x0_1.extract 0 (x4_1 : Int).toNat)) ++ (⟨#[13, 10, 32]⟩ : ByteArray)), (74), (by first | rfl | (simp; done) | (simp [*]; done)), (by first | rfl | (simp; done) | (simp [*]; done)), (by first | rfl | (simp; done) | (simp [*]; done)), H', ⟨by have := HK1.out; have := HK2.out; omega⟩, by repeat (first | exact Drawn0.refl _ | apply Drawn0.step)⟩
             ·rw [if_neg c75] at H
              exact absurd H (by simp)
            ·rw [if_neg c74] at H
             exact absurd H (by simp)
           ·rw [if_neg c73] at H
            exact absurd H (by simp)
          ·rw [if_neg c72] at H
           exact absurd H (by simp)
    ·rw [if_neg c2] at H
     have c2b0 : decide (x4_1 < (x0_1.size : Int)) = false := decide_eq_false c2
     clear c2
     by_cases c78 : x3_1.size + x0_1.size ≤ 9223372036854775807
     ·rw [if_pos c78] at H
      have c78b0 := eq_true c78
      have c78b1 : decide (x3_1.size + x0_1.size ≤ 9223372036854775807) = true := decide_eq_true c78
      try have c78b2 : (9223372036854775807 < x3_1.size + x0_1.size) = False := eq_false (Nat.not_lt.2 c78)
      by_cases c79 : (x3_1 ++ x0_1).size + 2 ≤ 9223372036854775807
      ·rw [if_pos c79] at H
       have c79b0 := eq_true c79
       have c79b1 : decide ((x3_1 ++ x0_1).size + 2 ≤ 9223372036854775807) = true := decide_eq_true c79
       try have c79b3 : (9223372036854775807 < (x3_1.size + x0_1.size) + 2) = False := eq_false (Nat.not_lt.2 (by have h_ := c79; simp only [ByteArray.size_append] at h_; omega))
       try have c79b2 : (9223372036854775807 < (x3_1 ++ x0_1).size + 2) = False := eq_false (Nat.not_lt.2 c79)
       obtain rfl := Option.some.inj H
       go_wp2
       go_ret
       exact ⟨by first | rfl | (simp; done) | (simp [*]; done), by repeat (first | exact Drawn0.refl _ | apply Drawn0.step)⟩
      ·rw [if_neg c79] at H
       exact absurd H (by simp)
     ·rw [if_neg c78] at H
      exact absurd H (by simp)
end Go.Proofs.YtfiiipjglacejaaDoor.PFol