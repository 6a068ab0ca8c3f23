-- Printed by a program of this session's over the kit's printer; library functions by contracts off the shelf.
import Derived.Test.YtligbecmbefclaaDoorGP
import Derived.Test.YtligbecmbefclaaDoorPVlsx0
import Derived.Test.YtligbecmbefclaaDoorPVlsx2
import Derived.Test.YtligbecmbefclaaDoorPVlsx3
import Derived.Test.YtligbecmbefclaaDoorPVlsx6
import Derived.Test.YtligbecmbefclaaDoorPVlsx7
namespace Go.Proofs.YtligbecmbefclaaDoor.PVls
open Go.RowKit Go.Proofs.YtligbecmbefclaaDoorW.PrintWords Go.Proofs.YtligbecmbefclaaDoorW.PrintLast Go.Proofs.YtligbecmbefclaaDoorW.PrintMore Go.Proofs.YtligbecmbefclaaDoor.Base
attribute [local go_sem] max2_int min2_int max_two min_two max_three min_three max_four min_four   -- for this text's walks alone
set_option linter.unusedVariables false
set_option linter.unusedSimpArgs false
set_option maxHeartbeats 4000000 in
set_option maxRecDepth 100000 in
theorem lit8_0_ {ev : Operand → Value} (hev : ∀ v, ev (.const v) = v) {d : Option Tmp} {ty : TypeId} {ps : String} {af : Array _} {gd : Option _} (W : World) : (execOp ev { dst := d, op := Op.buildSlice 30 3 #[(0, Operand.const (Value.int IntKind.i64 2)), (1, Operand.const (Value.int IntKind.i64 2)), (2, Operand.const (Value.int IntKind.i64 2))], type := ty, pos := ps, after := af, guard := gd }).run Tryd.prog W = .ok (.value (.slice (some ⟨W.heap.size, 0, none⟩) 3 3)) (W.alloc (.cells #[.int .i64 2, .int .i64 2, .int .i64 2] 3)) := by
  go_simp
  first | done | rfl
mutual
def value_ParseOffset.j0 : Nat → ByteArray → Bool → Option (Int × Int)
 | 0, _, _ => none
 | k + 1, x0, x18 => if x18 = true then (some (0, 19)) else (if 1 ≤ (x0.size : Int) then ((value_numbers.f k (x0.extract 1 x0.size) (([2, 2] : List Int))).bind fun bt188 => (if bt188.2 = true then (value_ParseOffset.j1 k x0 bt188.1 bt188.2) else ((value_numbers.f k (x0.extract 1 x0.size) (([2, 2, 2] : List Int))).bind fun bt195 => (value_ParseOffset.j1 k x0 bt195.1 bt195.2)))) else (none))
def value_ParseOffset.j1 : Nat → ByteArray → List Int → Bool → Option (Int × Int)
 | 0, _, _, _ => none
 | k + 1, x0, x4, x5 => if x5 = true then (if x4.length < 17592186044416 then ((some (x4 ++ [0] : List Int)).bind fun y199 => (if 0 < (y199.length : Int) then (if 1 < (y199.length : Int) then (if 2 < (y199.length : Int) then (if (rd y199 1) ≥ 60 then (value_ParseOffset.j2 k x0 (wrap64 ((wrap64 ((wrap64 ((rd y199 0) * 3600)) + (wrap64 ((rd y199 1) * 60)))) + (rd y199 2))) true) else (if (rd y199 2) ≥ 60 then (value_ParseOffset.j2 k x0 (wrap64 ((wrap64 ((wrap64 ((rd y199 0) * 3600)) + (wrap64 ((rd y199 1) * 60)))) + (rd y199 2))) true) else (if (wrap64 ((wrap64 ((wrap64 ((rd y199 0) * 3600)) + (wrap64 ((rd y199 1) * 60)))) + (rd y199 2))) ≥ 86400 then (value_ParseOffset.j2 k x0 (wrap64 ((wrap64 ((wrap64 ((rd y199 0) * 3600)) + (wrap64 ((rd y199 1) * 60)))) + (rd y199 2))) true) else (if (wrap64 ((wrap64 ((wrap64 ((rd y199 0) * 3600)) + (wrap64 ((rd y199 1) * 60)))) + (rd y199 2))) = 0 then (if 0 < (x0.size : Int) then (value_ParseOffset.j2 k x0 (wrap64 ((wrap64 ((wrap64 ((rd y199 0) * 3600)) + (wrap64 ((rd y199 1) * 60)))) + (rd y199 2))) ((bt x0 0) == 45)) else (none)) else (value_ParseOffset.j2 k x0 (wrap64 ((wrap64 ((wrap64 ((rd y199 0) * 3600)) + (wrap64 ((rd y199 1) * 60)))) + (rd y199 2))) false))))) else (none)) else (none)) else (none))) else (none)) else (some (0, 19))
def value_ParseOffset.j2 : Nat → ByteArray → Int → Bool → Option (Int × Int)
 | 0, _, _, _ => none
 | k + 1, x0, x6, x75 => if x75 = true then (some (0, 19)) else (if 0 < (x0.size : Int) then (if (bt x0 0) = 45 then (some (wrap64 (-x6), 0)) else (some (x6, 0))) else (none))
end
def value_ParseOffset.f (k : Nat) (a0 : ByteArray) : Option (Int × Int) := if a0.toList = ([] : List UInt8) then (value_ParseOffset.j0 k a0 true) else (if 0 < (a0.size : Int) then (if (bt a0 0) = 43 then (value_ParseOffset.j0 k a0 false) else (value_ParseOffset.j0 k a0 ((bt a0 0) != 45))) else (none))
theorem value_ParseOffset.mono_l : ∀ k, (∀ y0 y1, LeO (value_ParseOffset.j0 k y0 y1) (value_ParseOffset.j0 (k + 1) y0 y1)) ∧ (∀ y0 y1 y2, LeO (value_ParseOffset.j1 k y0 y1 y2) (value_ParseOffset.j1 (k + 1) y0 y1 y2)) ∧ (∀ y0 y1 y2, LeO (value_ParseOffset.j2 k y0 y1 y2) (value_ParseOffset.j2 (k + 1) y0 y1 y2))
 | 0 => ⟨fun _ _ r h => by simp [value_ParseOffset.j0] at h, fun _ _ _ r h => by simp [value_ParseOffset.j1] at h, fun _ _ _ r h => by simp [value_ParseOffset.j2] at h⟩
 | k + 1 => by
  obtain ⟨ih0, ih1, ih2⟩ := value_ParseOffset.mono_l k
  refine ⟨?_, ?_, ?_⟩
  ·intro y0 y1
   unfold value_ParseOffset.j0
   repeat' first
   | (with_reducible exact ih0 _ _)
   | (with_reducible exact ih1 _ _ _)
   | (with_reducible exact ih2 _ _ _)
   | (with_reducible exact value_numbers.mono _ _ _)
   | (with_reducible exact LeO.refl _)
   | (with_reducible exact LeO.none _)
   | (with_reducible refine LeO.ite ?_ ?_)
   | (with_reducible refine LeO.bind ?_ (fun _ => ?_))
   | exact ih0 _ _
   | exact ih1 _ _ _
   | exact ih2 _ _ _
   | exact value_numbers.mono _ _ _
   | exact LeO.none _
   | refine LeO.ite ?_ ?_
   | refine LeO.bind ?_ (fun _ => ?_)
  ·intro y0 y1 y2
   unfold value_ParseOffset.j1
   repeat' first
   | (with_reducible exact ih0 _ _)
   | (with_reducible exact ih1 _ _ _)
   | (with_reducible exact ih2 _ _ _)
   | (with_reducible exact value_numbers.mono _ _ _)
   | (with_reducible exact LeO.refl _)
   | (with_reducible exact LeO.none _)
   | (with_reducible refine LeO.ite ?_ ?_)
   | (with_reducible refine LeO.bind ?_ (fun _ => ?_))
   | exact ih0 _ _
   | exact ih1 _ _ _
   | exact ih2 _ _ _
   | exact value_numbers.mono _ _ _
   | exact LeO.none _
   | refine LeO.ite ?_ ?_
   | refine LeO.bind ?_ (fun _ => ?_)
  ·intro y0 y1 y2
   unfold value_ParseOffset.j2
   repeat' first
   | (with_reducible exact ih0 _ _)
   | (with_reducible exact ih1 _ _ _)
   | (with_reducible exact ih2 _ _ _)
   | (with_reducible exact value_numbers.mono _ _ _)
   | (with_reducible exact LeO.refl _)
   | (with_reducible exact LeO.none _)
   | (with_reducible refine LeO.ite ?_ ?_)
   | (with_reducible refine LeO.bind ?_ (fun _ => ?_))
   | exact ih0 _ _
   | exact ih1 _ _ _
   | exact ih2 _ _ _
   | exact value_numbers.mono _ _ _
   | exact LeO.none _
   | refine LeO.ite ?_ ?_
   | refine LeO.bind ?_ (fun _ => ?_)
theorem value_ParseOffset.mono : ∀ a0 k, LeO (value_ParseOffset.f k a0) (value_ParseOffset.f (k + 1) a0) := by
 intro a0 k
 obtain ⟨ih0, ih1, ih2⟩ := value_ParseOffset.mono_l k
 unfold value_ParseOffset.f
 repeat' first
   | (with_reducible exact ih0 _ _)
   | (with_reducible exact ih1 _ _ _)
   | (with_reducible exact ih2 _ _ _)
   | (with_reducible exact value_numbers.mono _ _ _)
   | (with_reducible exact LeO.refl _)
   | (with_reducible exact LeO.none _)
   | (with_reducible refine LeO.ite ?_ ?_)
   | (with_reducible refine LeO.bind ?_ (fun _ => ?_))
   | exact ih0 _ _
   | exact ih1 _ _ _
   | exact ih2 _ _ _
   | exact value_numbers.mono _ _ _
   | exact LeO.none _
   | refine LeO.ite ?_ ?_
   | refine LeO.bind ?_ (fun _ => ?_)
set_option maxHeartbeats 8000000 in
set_option maxRecDepth 100000 in
theorem value_ParseOffset.calls (k : Nat) (a0 : ByteArray) (r1 : Int) (r2 : Int) (w : World) (h : value_ParseOffset.f k a0 = some (r1, r2)) :
  Calls Tryd.prog 10 #[.string a0] w fun e w' => e = .returned (.tuple #[.int .i64 r1, .int .i64 r2]) ∧ Below w.heap.size w w' := by
 have HB := Aside0.mk (Below.refl w.heap.size w)
 have H : (if a0.toList = ([] : List UInt8) then (value_ParseOffset.j0 k a0 true) else (if 0 < (a0.size : Int) then (if (bt a0 0) = 43 then (value_ParseOffset.j0 k a0 false) else (value_ParseOffset.j0 k a0 ((bt a0 0) != 45))) else (none))) = some (r1, r2) := h
 clear h
 have HC2 := Aside0.mk H
 clear H
 go_enter Tryd.func10, Tryd.ntmps10
 go_upto_region 1 with (fail)
 repeat (go_quiet (fail); go_upto_region 1 with (fail))
 go_cut [18] (fun v18 wc => ∃ (kq : Nat) (x18_1 : Bool), v18 = .bool x18_1 ∧ Aside0 (value_ParseOffset.j0 kq a0 x18_1 = some (r1, r2)) ∧ Aside0 (kq ≤ k) ∧ Aside0 (Below w.heap.size w wc))
 case first =>
  have H := HC2.out
  clear HC2
  by_cases c3 : a0.toList = ([] : List UInt8)
  ·rw [if_pos c3] at H
   have c3b0 : (a0.toList == ([] : List UInt8)) = true := beq_iff_eq.mpr c3
   have c3b1 : (a0.toList != ([] : List UInt8)) = false := bne_eq_false_iff_eq.mpr c3
   clear c3
   (first | rw [c3b0] | (simp only [i64_w, i32_w]; rw [c3b0]) | skip)
   have H' := Aside0.mk H
   clear H
   go_wp2
   repeat (go_quiet (fail); try go_wp2)
   go_meet
   case rel => exact ⟨_, (true), (by first | rfl | (simp; done) | (simp [*]; done)), H', ⟨by first | omega | exact Nat.le_refl _⟩, ⟨by repeat (first | (with_reducible first | exact HB.out | apply below_alloc | apply pw_below_drewN | apply below_drew1) | exact HB.out)⟩⟩
  ·rw [if_neg c3] at H
   have c3b0 : (a0.toList == ([] : List UInt8)) = false := beq_eq_false_iff_ne.mpr c3
   have c3b1 : (a0.toList != ([] : List UInt8)) = true := bne_iff_ne.mpr c3
   (first | rw [c3b0] | (simp only [i64_w, i32_w]; rw [c3b0]) | skip)
   by_cases c4 : 0 < (a0.size : Int)
   ·rw [if_pos c4] at H
    have c4b0 : decide (0 < (a0.size : Int)) = true := decide_eq_true c4
    have c4b1 : decide (0 < a0.size) = true := decide_eq_true (by omega)
    clear c4
    by_cases c6 : (bt a0 0) = 43
    ·rw [if_pos c6] at H
     have c6b0 : ((bt a0 0) == 43) = true := beq_iff_eq.mpr c6
     have c6b1 : ((bt a0 0) != 43) = false := bne_eq_false_iff_eq.mpr c6
     clear c6
     have H' := Aside0.mk H
     clear H
     have p5 : 0 ≤ (0 : Int) := (by omega)
     have q5 : 0 < a0.size := (by have : (0 : Int) < (a0.size : Int) := of_decide_eq_true (by first | (with_reducible assumption) | assumption); omega)
     have hx5 : ∀ h : 0 < a0.size, ((a0[0]'h).toNat : Int) = bt a0 0 := bt_at a0 0
     clear p5
     have qi5 : (0 < (a0.size : Int)) = True := eq_true (of_decide_eq_true (by first | (with_reducible assumption) | assumption))
     replace q5 := eq_true q5
     go_wp2
     repeat (go_quiet (fail); try go_wp2)
     go_meet
     case rel => exact ⟨_, (false), (by first | rfl | (simp; done) | (simp [*]; done)), H', ⟨by first | omega | exact Nat.le_refl _⟩, ⟨by repeat (first | (with_reducible first | exact HB.out | apply below_alloc | apply pw_below_drewN | apply below_drew1) | exact HB.out)⟩⟩
    ·rw [if_neg c6] at H
     have c6b0 : ((bt a0 0) == 43) = false := beq_eq_false_iff_ne.mpr c6
     have c6b1 : ((bt a0 0) != 43) = true := bne_iff_ne.mpr c6
     have H' := Aside0.mk H
     clear H
     have p5 : 0 ≤ (0 : Int) := (by omega)
     have q5 : 0 < a0.size := (by have : (0 : Int) < (a0.size : Int) := of_decide_eq_true (by first | (with_reducible assumption) | assumption); omega)
     have hx5 : ∀ h : 0 < a0.size, ((a0[0]'h).toNat : Int) = bt a0 0 := bt_at a0 0
     clear p5
     have qi5 : (0 < (a0.size : Int)) = True := eq_true (of_decide_eq_true (by first | (with_reducible assumption) | assumption))
     replace q5 := eq_true q5
     have p7 : 0 ≤ (0 : Int) := (by omega)
     have q7 : 0 < a0.size := (by have : (0 : Int) < (a0.size : Int) := of_decide_eq_true (by first | (with_reducible assumption) | assumption); omega)
     have hx7 : ∀ h : 0 < a0.size, ((a0[0]'h).toNat : Int) = bt a0 0 := bt_at a0 0
     clear p7
     have qi7 : (0 < (a0.size : Int)) = True := eq_true (of_decide_eq_true (by first | (with_reducible assumption) | assumption))
     replace q7 := eq_true q7
     go_wp2
     repeat (go_quiet (fail); try go_wp2)
     go_meet
     case rel => exact ⟨_, (((bt a0 0) != 45)), (by first | rfl | (simp; done) | (simp [*]; done)), H', ⟨by first | omega | exact Nat.le_refl _⟩, ⟨by repeat (first | (with_reducible first | exact HB.out | apply below_alloc | apply pw_below_drewN | apply below_drew1) | exact HB.out)⟩⟩
   ·rw [if_neg c4] at H
    exact absurd H (by simp)
 case rest =>
  as_aux_lemma =>
   clear HC2
   try clear c1
   try clear p2
   try clear c3
   try clear c3b0
   try clear c3b1
   try clear c4
   try clear c4b0
   try clear c4b1
   try clear p5
   try clear q5
   try clear hx5
   try clear qi5
   try clear c6
   try clear c6b0
   try clear c6b1
   try clear p7
   try clear q7
   try clear hx7
   try clear qi7
   try clear p5
   try clear p7
   try clear q5
   try clear q7
   obtain ⟨kq, x18_1, rfl, HA, HJ1, HB⟩ := hcut
   cases kq with
   | zero => exact absurd HA.out (by simp [value_ParseOffset.j0])
   | succ kj1 =>
    have H := HA.out
    clear HA
    simp only [value_ParseOffset.j0] at H
    by_cases c8 : x18_1 = true
    ·subst c8
     have H1 : (some (0, 19)) = some (r1, r2) := by rw [if_pos rfl] at H; exact H
     clear H
     have H := H1
     clear H1
     simp only [Option.some.injEq, Prod.mk.injEq] at H
     obtain ⟨rfl, rfl⟩ := H
     go_wp2
     repeat (go_quiet (fail); try go_wp2)
     go_ret2
     exact ⟨by first | rfl | (simp [errW_none, errW_some] <;> rfl) | (simp [*, errW_none, errW_some] <;> rfl), by repeat (first | (with_reducible first | exact HB.out | apply below_alloc | apply pw_below_drewN | apply below_drew1) | exact HB.out)⟩
    ·replace c8 := Bool.eq_false_iff.mpr c8
     subst c8
     have H1 : (if 1 ≤ (a0.size : Int) then ((value_numbers.f kj1 (a0.extract 1 a0.size) (([2, 2] : List Int))).bind fun bt188 => (if bt188.2 = true then (value_ParseOffset.j1 kj1 a0 bt188.1 bt188.2) else ((value_numbers.f kj1 (a0.extract 1 a0.size) (([2, 2, 2] : List Int))).bind fun bt195 => (value_ParseOffset.j1 kj1 a0 bt195.1 bt195.2)))) else (none)) = some (r1, r2) := by rw [if_neg (show ¬ (false = true) by decide)] at H; exact H
     clear H
     have H := H1
     clear H1
     by_cases c9 : 1 ≤ (a0.size : Int)
     ·rw [if_pos c9] at H
      have c9b0 := eq_true c9
      have c9b1 : decide (1 ≤ (a0.size : Int)) = true := decide_eq_true c9
      clear c9
      obtain ⟨y185, hy185⟩ : ∃ y_ : List Int, y_ = (([2, 2] : List Int)) := ⟨_, rfl⟩
      replace H : ((value_numbers.f kj1 (a0.extract 1 a0.size) y185).bind fun bt188 => (if bt188.2 = true then (value_ParseOffset.j1 kj1 a0 bt188.1 bt188.2) else ((value_numbers.f kj1 (a0.extract 1 a0.size) (([2, 2, 2] : List Int))).bind fun bt195 => (value_ParseOffset.j1 kj1 a0 bt195.1 bt195.2)))) = some (r1, r2) := by first | (rw [hy185]; with_reducible exact H) | (have H2_ := (Option.bind_some _ _).symm.trans H; rw [hy185]; with_reducible exact H2_) | (have H2_ := (Option.bind_some _ _).symm.trans H; with_reducible exact H2_) | with_reducible exact H | (rw [hy185]; exact H) | exact H
      have Ny185 := Aside0.mk hy185
      clear hy185
      replace H := Option.bind_eq_some_iff.mp H
      obtain ⟨⟨t188, t189⟩, A100, H⟩ := H
      replace H : (if t189 = true then (value_ParseOffset.j1 kj1 a0 t188 t189) else ((value_numbers.f kj1 (a0.extract 1 a0.size) (([2, 2, 2] : List Int))).bind fun bt195 => (value_ParseOffset.j1 kj1 a0 bt195.1 bt195.2))) = some (r1, r2) := H
      have A10 := Aside0.mk A100
      clear A100
      have HC11 := Aside0.mk H
      clear H
      go_upto_if 27 with (first | ((with_reducible refine gate_dst (N := 22) rfl ?_); refine Kd.R_lit (Kd.int .i64) _ 3 ?hg (N := 22) ?hd (xs := ([2, 2] : List Int)) (inner := [.int .i64 2, .int .i64 2]) (ok := fun _ => True) (okp := fun _ => True) ?hr ?hp (fun _ hk => hk) trivial (Below.refl _ _) (Nat.le_refl _) (by simp) ?_; (case hd => rfl); (case hg => rfl); (case hr => first | (go_simp; done) | (go_simp; rfl)); (case hp => exact (Reps.one (show Kd.M (Kd.int .i64) _ _ _ 2 [.int .i64 2] from rfl) (Reps.one (show Kd.M (Kd.int .i64) _ _ _ 2 [.int .i64 2] from rfl) (Reps.none _ _)))); intro v186 w12 ho13 hb hg_ hnew_; clear hg_ hnew_; (first | rw [← Ny185.out] at ho13 | (simp only [Int.reduceToNat] at ho13; rw [← Ny185.out] at ho13)); have n0_ := Aside0.mk (Kd.R_lower ho13 (below_size (by repeat (first | (with_reducible first | exact HB.out | apply below_alloc | apply pw_below_drewN | apply below_drew1) | exact HB.out)))); have n1_ := Aside0.mk (below_step (by repeat (first | (with_reducible first | exact HB.out | apply below_alloc | apply pw_below_drewN | apply below_drew1) | exact HB.out)) hb); clear HB; have HO187 := n0_; have HB := n1_; clear n0_ n1_; clear hb ho13; obtain ⟨Ao14, co14, eo14⟩ := Kd.R_slice HO187.out; subst eo14) | (go_at_call 25; (with_reducible refine (value_numbers.calls kj1 (a0.extract 1 a0.size) _ _ y185 t188 t189 _ ?side1 ?side2 A10.out).mono ?_); (case side1 => repeat (first | exact (Kd.R_reads' HO187.out).2.2 | (with_reducible refine Kd.C_alloc ?_ _) | (with_reducible refine Kd.C_drewN ?_ _) | (with_reducible refine Kd.C_drew ?_))); (case side2 => exact (Kd.R_reads' HO187.out).2.1); rintro e w15 ⟨v190, rfl, ho0, hb⟩; have n0_ := Aside0.mk (Kd.R_elder' (by (with_reducible repeat (first | apply Kd.R_alloc | apply Kd.R_drewN | apply Kd.R_drew)); exact HO187.out) (Kd.R_base ho0) hb); have n1_ := Aside0.mk (Kd.R_lower (Kd.R_new' ho0 (Kd.R_lt (by (with_reducible repeat (first | apply Kd.R_alloc | apply Kd.R_drewN | apply Kd.R_drew)); exact HO187.out))) (below_size (by repeat (first | (with_reducible first | exact HB.out | apply below_alloc | apply pw_below_drewN | apply below_drew1) | exact HB.out)))); have n2_ := Aside0.mk (below_step (by repeat (first | (with_reducible first | exact HB.out | apply below_alloc | apply pw_below_drewN | apply below_drew1) | exact HB.out)) hb); clear HO187; clear HB; have HO187 := n0_; have HO191 := n1_; have HB := n2_; clear n0_ n1_ n2_; (try clear hb); (try clear hb2); (try clear hk); (try clear hi); (try clear ho0)))
      repeat (go_quiet (first | ((with_reducible refine gate_dst (N := 22) rfl ?_); refine Kd.R_lit (Kd.int .i64) _ 3 ?hg (N := 22) ?hd (xs := ([2, 2] : List Int)) (inner := [.int .i64 2, .int .i64 2]) (ok := fun _ => True) (okp := fun _ => True) ?hr ?hp (fun _ hk => hk) trivial (Below.refl _ _) (Nat.le_refl _) (by simp) ?_; (case hd => rfl); (case hg => rfl); (case hr => first | (go_simp; done) | (go_simp; rfl)); (case hp => exact (Reps.one (show Kd.M (Kd.int .i64) _ _ _ 2 [.int .i64 2] from rfl) (Reps.one (show Kd.M (Kd.int .i64) _ _ _ 2 [.int .i64 2] from rfl) (Reps.none _ _)))); intro v186 w12 ho13 hb hg_ hnew_; clear hg_ hnew_; (first | rw [← Ny185.out] at ho13 | (simp only [Int.reduceToNat] at ho13; rw [← Ny185.out] at ho13)); have n0_ := Aside0.mk (Kd.R_lower ho13 (below_size (by repeat (first | (with_reducible first | exact HB.out | apply below_alloc | apply pw_below_drewN | apply below_drew1) | exact HB.out)))); have n1_ := Aside0.mk (below_step (by repeat (first | (with_reducible first | exact HB.out | apply below_alloc | apply pw_below_drewN | apply below_drew1) | exact HB.out)) hb); clear HB; have HO187 := n0_; have HB := n1_; clear n0_ n1_; clear hb ho13; obtain ⟨Ao14, co14, eo14⟩ := Kd.R_slice HO187.out; subst eo14) | (go_at_call 25; (with_reducible refine (value_numbers.calls kj1 (a0.extract 1 a0.size) _ _ y185 t188 t189 _ ?side1 ?side2 A10.out).mono ?_); (case side1 => repeat (first | exact (Kd.R_reads' HO187.out).2.2 | (with_reducible refine Kd.C_alloc ?_ _) | (with_reducible refine Kd.C_drewN ?_ _) | (with_reducible refine Kd.C_drew ?_))); (case side2 => exact (Kd.R_reads' HO187.out).2.1); rintro e w15 ⟨v190, rfl, ho0, hb⟩; have n0_ := Aside0.mk (Kd.R_elder' (by (with_reducible repeat (first | apply Kd.R_alloc | apply Kd.R_drewN | apply Kd.R_drew)); exact HO187.out) (Kd.R_base ho0) hb); have n1_ := Aside0.mk (Kd.R_lower (Kd.R_new' ho0 (Kd.R_lt (by (with_reducible repeat (first | apply Kd.R_alloc | apply Kd.R_drewN | apply Kd.R_drew)); exact HO187.out))) (below_size (by repeat (first | (with_reducible first | exact HB.out | apply below_alloc | apply pw_below_drewN | apply below_drew1) | exact HB.out)))); have n2_ := Aside0.mk (below_step (by repeat (first | (with_reducible first | exact HB.out | apply below_alloc | apply pw_below_drewN | apply below_drew1) | exact HB.out)) hb); clear HO187; clear HB; have HO187 := n0_; have HO191 := n1_; have HB := n2_; clear n0_ n1_ n2_; (try clear hb); (try clear hb2); (try clear hk); (try clear hi); (try clear ho0))); go_upto_if 27 with (first | ((with_reducible refine gate_dst (N := 22) rfl ?_); refine Kd.R_lit (Kd.int .i64) _ 3 ?hg (N := 22) ?hd (xs := ([2, 2] : List Int)) (inner := [.int .i64 2, .int .i64 2]) (ok := fun _ => True) (okp := fun _ => True) ?hr ?hp (fun _ hk => hk) trivial (Below.refl _ _) (Nat.le_refl _) (by simp) ?_; (case hd => rfl); (case hg => rfl); (case hr => first | (go_simp; done) | (go_simp; rfl)); (case hp => exact (Reps.one (show Kd.M (Kd.int .i64) _ _ _ 2 [.int .i64 2] from rfl) (Reps.one (show Kd.M (Kd.int .i64) _ _ _ 2 [.int .i64 2] from rfl) (Reps.none _ _)))); intro v186 w12 ho13 hb hg_ hnew_; clear hg_ hnew_; (first | rw [← Ny185.out] at ho13 | (simp only [Int.reduceToNat] at ho13; rw [← Ny185.out] at ho13)); have n0_ := Aside0.mk (Kd.R_lower ho13 (below_size (by repeat (first | (with_reducible first | exact HB.out | apply below_alloc | apply pw_below_drewN | apply below_drew1) | exact HB.out)))); have n1_ := Aside0.mk (below_step (by repeat (first | (with_reducible first | exact HB.out | apply below_alloc | apply pw_below_drewN | apply below_drew1) | exact HB.out)) hb); clear HB; have HO187 := n0_; have HB := n1_; clear n0_ n1_; clear hb ho13; obtain ⟨Ao14, co14, eo14⟩ := Kd.R_slice HO187.out; subst eo14) | (go_at_call 25; (with_reducible refine (value_numbers.calls kj1 (a0.extract 1 a0.size) _ _ y185 t188 t189 _ ?side1 ?side2 A10.out).mono ?_); (case side1 => repeat (first | exact (Kd.R_reads' HO187.out).2.2 | (with_reducible refine Kd.C_alloc ?_ _) | (with_reducible refine Kd.C_drewN ?_ _) | (with_reducible refine Kd.C_drew ?_))); (case side2 => exact (Kd.R_reads' HO187.out).2.1); rintro e w15 ⟨v190, rfl, ho0, hb⟩; have n0_ := Aside0.mk (Kd.R_elder' (by (with_reducible repeat (first | apply Kd.R_alloc | apply Kd.R_drewN | apply Kd.R_drew)); exact HO187.out) (Kd.R_base ho0) hb); have n1_ := Aside0.mk (Kd.R_lower (Kd.R_new' ho0 (Kd.R_lt (by (with_reducible repeat (first | apply Kd.R_alloc | apply Kd.R_drewN | apply Kd.R_drew)); exact HO187.out))) (below_size (by repeat (first | (with_reducible first | exact HB.out | apply below_alloc | apply pw_below_drewN | apply below_drew1) | exact HB.out)))); have n2_ := Aside0.mk (below_step (by repeat (first | (with_reducible first | exact HB.out | apply below_alloc | apply pw_below_drewN | apply below_drew1) | exact HB.out)) hb); clear HO187; clear HB; have HO187 := n0_; have HO191 := n1_; have HB := n2_; clear n0_ n1_ n2_; (try clear hb); (try clear hb2); (try clear hk); (try clear hi); (try clear ho0))))
      (try simp only [Act.put, List.setIfInBounds_toArray, List.set_cons_zero, List.set_cons_succ])
      go_cut [4, 5] (fun v4 v5 wc => ∃ (kq : Nat) (x4_10 : List Int) (x5_10 : Bool), v5 = .bool x5_10 ∧ Aside0 (value_ParseOffset.j1 kq a0 x4_10 x5_10 = some (r1, r2)) ∧ Aside0 (kq ≤ kj1) ∧ Aside0 (Kd.R (Kd.int .i64) 3 wc w.heap.size (fun _ => True) v4 x4_10) ∧ Aside0 (Below w.heap.size w wc))
      case first =>
       have H := HC11.out
       clear HC11
       by_cases c16 : t189 = true
       ·subst c16
        have H1 : (value_ParseOffset.j1 kj1 a0 t188 true) = some (r1, r2) := by rw [if_pos rfl] at H; exact H
        clear H
        have H := H1
        clear H1
        have H' := Aside0.mk H
        clear H
        go_wp2
        repeat (go_quiet (fail); try go_wp2)
        go_meet
        case rel => exact ⟨_, (t188), (true), (by first | rfl | (simp; done) | (simp [*]; done)), H', ⟨by have := HJ1.out; first | omega | exact Nat.le_refl _⟩, ⟨by (with_reducible repeat (first | apply Kd.R_alloc | apply Kd.R_drewN | apply Kd.R_drew)); exact Kd.R_mono HO191.out (fun _ hk => trivial)⟩, ⟨by repeat (first | (with_reducible first | exact HB.out | apply below_alloc | apply pw_below_drewN | apply below_drew1) | exact HB.out)⟩⟩
       ·replace c16 := Bool.eq_false_iff.mpr c16
        subst c16
        have H1 : ((value_numbers.f kj1 (a0.extract 1 a0.size) (([2, 2, 2] : List Int))).bind fun bt195 => (value_ParseOffset.j1 kj1 a0 bt195.1 bt195.2)) = some (r1, r2) := by rw [if_neg (show ¬ (false = true) by decide)] at H; exact H
        clear H
        have H := H1
        clear H1
        have c17b0 := eq_true (of_decide_eq_true (by first | (with_reducible assumption) | assumption) : 1 ≤ (a0.size : Int))
        obtain ⟨y192, hy192⟩ : ∃ y_ : List Int, y_ = (([2, 2, 2] : List Int)) := ⟨_, rfl⟩
        replace H : ((value_numbers.f kj1 (a0.extract 1 a0.size) y192).bind fun bt195 => (value_ParseOffset.j1 kj1 a0 bt195.1 bt195.2)) = some (r1, r2) := by first | (rw [hy192]; with_reducible exact H) | (have H2_ := (Option.bind_some _ _).symm.trans H; rw [hy192]; with_reducible exact H2_) | (have H2_ := (Option.bind_some _ _).symm.trans H; with_reducible exact H2_) | with_reducible exact H | (rw [hy192]; exact H) | exact H
        have Ny192 := Aside0.mk hy192
        clear hy192
        replace H := Option.bind_eq_some_iff.mp H
        obtain ⟨⟨t195, t196⟩, A180, H⟩ := H
        replace H : (value_ParseOffset.j1 kj1 a0 t195 t196) = some (r1, r2) := H
        have A18 := Aside0.mk A180
        clear A180
        have H' := Aside0.mk H
        clear H
        go_wp2_with (first | ((with_reducible refine gate_dst (N := 31) rfl ?_); refine Kd.R_lit (Kd.int .i64) _ 3 ?hg (N := 31) ?hd (xs := ([2, 2, 2] : List Int)) (inner := [.int .i64 2, .int .i64 2, .int .i64 2]) (ok := fun _ => True) (okp := fun _ => True) ?hr ?hp (fun _ hk => hk) trivial (Below.refl _ _) (Nat.le_refl _) (by simp) ?_; (case hd => rfl); (case hg => rfl); (case hr => exact lit8_0_ (fun _ => rfl) _); (case hp => exact (Reps.one (show Kd.M (Kd.int .i64) _ _ _ 2 [.int .i64 2] from rfl) (Reps.one (show Kd.M (Kd.int .i64) _ _ _ 2 [.int .i64 2] from rfl) (Reps.one (show Kd.M (Kd.int .i64) _ _ _ 2 [.int .i64 2] from rfl) (Reps.none _ _))))); intro v193 w19 ho20 hb hg_ hnew_; clear hg_ hnew_; (first | rw [← Ny192.out] at ho20 | (simp only [Int.reduceToNat] at ho20; rw [← Ny192.out] at ho20)); have n0_ := Aside0.mk (Kd.R_elder' (by (with_reducible repeat (first | apply Kd.R_alloc | apply Kd.R_drewN | apply Kd.R_drew)); exact HO187.out) (Kd.R_base ho20) hb); have n1_ := Aside0.mk (Kd.R_elder' (by (with_reducible repeat (first | apply Kd.R_alloc | apply Kd.R_drewN | apply Kd.R_drew)); exact HO191.out) (Kd.R_base ho20) hb); have n2_ := Aside0.mk (Kd.R_lower (Kd.R_new' (Kd.R_new' ho20 (Kd.R_lt (by (with_reducible repeat (first | apply Kd.R_alloc | apply Kd.R_drewN | apply Kd.R_drew)); exact HO187.out))) (Kd.R_lt (by (with_reducible repeat (first | apply Kd.R_alloc | apply Kd.R_drewN | apply Kd.R_drew)); exact HO191.out))) (below_size (by repeat (first | (with_reducible first | exact HB.out | apply below_alloc | apply pw_below_drewN | apply below_drew1) | exact HB.out)))); have n3_ := Aside0.mk (below_step (by repeat (first | (with_reducible first | exact HB.out | apply below_alloc | apply pw_below_drewN | apply below_drew1) | exact HB.out)) hb); clear HO187; clear HO191; clear HB; have HO187 := n0_; have HO191 := n1_; have HO194 := n2_; have HB := n3_; clear n0_ n1_ n2_ n3_; clear hb ho20; obtain ⟨Ao21, co21, eo21⟩ := Kd.R_slice HO194.out; subst eo21) | (go_at_call 25; (with_reducible refine (value_numbers.calls kj1 (a0.extract 1 a0.size) _ _ y192 t195 t196 _ ?side1 ?side2 A18.out).mono ?_); (case side1 => repeat (first | exact (Kd.R_reads' HO194.out).2.2 | (with_reducible refine Kd.C_alloc ?_ _) | (with_reducible refine Kd.C_drewN ?_ _) | (with_reducible refine Kd.C_drew ?_))); (case side2 => exact (Kd.R_reads' HO194.out).2.1); rintro e w22 ⟨v197, rfl, ho0, hb⟩; have n0_ := Aside0.mk (Kd.R_elder' (by (with_reducible repeat (first | apply Kd.R_alloc | apply Kd.R_drewN | apply Kd.R_drew)); exact HO187.out) (Kd.R_base ho0) hb); have n1_ := Aside0.mk (Kd.R_elder' (by (with_reducible repeat (first | apply Kd.R_alloc | apply Kd.R_drewN | apply Kd.R_drew)); exact HO191.out) (Kd.R_base ho0) hb); have n2_ := Aside0.mk (Kd.R_elder' (by (with_reducible repeat (first | apply Kd.R_alloc | apply Kd.R_drewN | apply Kd.R_drew)); exact HO194.out) (Kd.R_base ho0) hb); have n3_ := Aside0.mk (Kd.R_lower (Kd.R_new' (Kd.R_new' (Kd.R_new' ho0 (Kd.R_lt (by (with_reducible repeat (first | apply Kd.R_alloc | apply Kd.R_drewN | apply Kd.R_drew)); exact HO187.out))) (Kd.R_lt (by (with_reducible repeat (first | apply Kd.R_alloc | apply Kd.R_drewN | apply Kd.R_drew)); exact HO191.out))) (Kd.R_lt (by (with_reducible repeat (first | apply Kd.R_alloc | apply Kd.R_drewN | apply Kd.R_drew)); exact HO194.out))) (below_size (by repeat (first | (with_reducible first | exact HB.out | apply below_alloc | apply pw_below_drewN | apply below_drew1) | exact HB.out)))); have n4_ := Aside0.mk (below_step (by repeat (first | (with_reducible first | exact HB.out | apply below_alloc | apply pw_below_drewN | apply below_drew1) | exact HB.out)) hb); clear HO187; clear HO191; clear HO194; clear HB; have HO187 := n0_; have HO191 := n1_; have HO194 := n2_; have HO198 := n3_; have HB := n4_; clear n0_ n1_ n2_ n3_ n4_; (try clear hb); (try clear hb2); (try clear hk); (try clear hi); (try clear ho0)))
        repeat (go_quiet (first | ((with_reducible refine gate_dst (N := 31) rfl ?_); refine Kd.R_lit (Kd.int .i64) _ 3 ?hg (N := 31) ?hd (xs := ([2, 2, 2] : List Int)) (inner := [.int .i64 2, .int .i64 2, .int .i64 2]) (ok := fun _ => True) (okp := fun _ => True) ?hr ?hp (fun _ hk => hk) trivial (Below.refl _ _) (Nat.le_refl _) (by simp) ?_; (case hd => rfl); (case hg => rfl); (case hr => exact lit8_0_ (fun _ => rfl) _); (case hp => exact (Reps.one (show Kd.M (Kd.int .i64) _ _ _ 2 [.int .i64 2] from rfl) (Reps.one (show Kd.M (Kd.int .i64) _ _ _ 2 [.int .i64 2] from rfl) (Reps.one (show Kd.M (Kd.int .i64) _ _ _ 2 [.int .i64 2] from rfl) (Reps.none _ _))))); intro v193 w19 ho20 hb hg_ hnew_; clear hg_ hnew_; (first | rw [← Ny192.out] at ho20 | (simp only [Int.reduceToNat] at ho20; rw [← Ny192.out] at ho20)); have n0_ := Aside0.mk (Kd.R_elder' (by (with_reducible repeat (first | apply Kd.R_alloc | apply Kd.R_drewN | apply Kd.R_drew)); exact HO187.out) (Kd.R_base ho20) hb); have n1_ := Aside0.mk (Kd.R_elder' (by (with_reducible repeat (first | apply Kd.R_alloc | apply Kd.R_drewN | apply Kd.R_drew)); exact HO191.out) (Kd.R_base ho20) hb); have n2_ := Aside0.mk (Kd.R_lower (Kd.R_new' (Kd.R_new' ho20 (Kd.R_lt (by (with_reducible repeat (first | apply Kd.R_alloc | apply Kd.R_drewN | apply Kd.R_drew)); exact HO187.out))) (Kd.R_lt (by (with_reducible repeat (first | apply Kd.R_alloc | apply Kd.R_drewN | apply Kd.R_drew)); exact HO191.out))) (below_size (by repeat (first | (with_reducible first | exact HB.out | apply below_alloc | apply pw_below_drewN | apply below_drew1) | exact HB.out)))); have n3_ := Aside0.mk (below_step (by repeat (first | (with_reducible first | exact HB.out | apply below_alloc | apply pw_below_drewN | apply below_drew1) | exact HB.out)) hb); clear HO187; clear HO191; clear HB; have HO187 := n0_; have HO191 := n1_; have HO194 := n2_; have HB := n3_; clear n0_ n1_ n2_ n3_; clear hb ho20; obtain ⟨Ao21, co21, eo21⟩ := Kd.R_slice HO194.out; subst eo21) | (go_at_call 25; (with_reducible refine (value_numbers.calls kj1 (a0.extract 1 a0.size) _ _ y192 t195 t196 _ ?side1 ?side2 A18.out).mono ?_); (case side1 => repeat (first | exact (Kd.R_reads' HO194.out).2.2 | (with_reducible refine Kd.C_alloc ?_ _) | (with_reducible refine Kd.C_drewN ?_ _) | (with_reducible refine Kd.C_drew ?_))); (case side2 => exact (Kd.R_reads' HO194.out).2.1); rintro e w22 ⟨v197, rfl, ho0, hb⟩; have n0_ := Aside0.mk (Kd.R_elder' (by (with_reducible repeat (first | apply Kd.R_alloc | apply Kd.R_drewN | apply Kd.R_drew)); exact HO187.out) (Kd.R_base ho0) hb); have n1_ := Aside0.mk (Kd.R_elder' (by (with_reducible repeat (first | apply Kd.R_alloc | apply Kd.R_drewN | apply Kd.R_drew)); exact HO191.out) (Kd.R_base ho0) hb); have n2_ := Aside0.mk (Kd.R_elder' (by (with_reducible repeat (first | apply Kd.R_alloc | apply Kd.R_drewN | apply Kd.R_drew)); exact HO194.out) (Kd.R_base ho0) hb); have n3_ := Aside0.mk (Kd.R_lower (Kd.R_new' (Kd.R_new' (Kd.R_new' ho0 (Kd.R_lt (by (with_reducible repeat (first | apply Kd.R_alloc | apply Kd.R_drewN | apply Kd.R_drew)); exact HO187.out))) (Kd.R_lt (by (with_reducible repeat (first | apply Kd.R_alloc | apply Kd.R_drewN | apply Kd.R_drew)); exact HO191.out))) (Kd.R_lt (by (with_reducible repeat (first | apply Kd.R_alloc | apply Kd.R_drewN | apply Kd.R_drew)); exact HO194.out))) (below_size (by repeat (first | (with_reducible first | exact HB.out | apply below_alloc | apply pw_below_drewN | apply below_drew1) | exact HB.out)))); have n4_ := Aside0.mk (below_step (by repeat (first | (with_reducible first | exact HB.out | apply below_alloc | apply pw_below_drewN | apply below_drew1) | exact HB.out)) hb); clear HO187; clear HO191; clear HO194; clear HB; have HO187 := n0_; have HO191 := n1_; have HO194 := n2_; have HO198 := n3_; have HB := n4_; clear n0_ n1_ n2_ n3_ n4_; (try clear hb); (try clear hb2); (try clear hk); (try clear hi); (try clear ho0))); try go_wp2_with (first | ((with_reducible refine gate_dst (N := 31) rfl ?_); refine Kd.R_lit (Kd.int .i64) _ 3 ?hg (N := 31) ?hd (xs := ([2, 2, 2] : List Int)) (inner := [.int .i64 2, .int .i64 2, .int .i64 2]) (ok := fun _ => True) (okp := fun _ => True) ?hr ?hp (fun _ hk => hk) trivial (Below.refl _ _) (Nat.le_refl _) (by simp) ?_; (case hd => rfl); (case hg => rfl); (case hr => exact lit8_0_ (fun _ => rfl) _); (case hp => exact (Reps.one (show Kd.M (Kd.int .i64) _ _ _ 2 [.int .i64 2] from rfl) (Reps.one (show Kd.M (Kd.int .i64) _ _ _ 2 [.int .i64 2] from rfl) (Reps.one (show Kd.M (Kd.int .i64) _ _ _ 2 [.int .i64 2] from rfl) (Reps.none _ _))))); intro v193 w19 ho20 hb hg_ hnew_; clear hg_ hnew_; (first | rw [← Ny192.out] at ho20 | (simp only [Int.reduceToNat] at ho20; rw [← Ny192.out] at ho20)); have n0_ := Aside0.mk (Kd.R_elder' (by (with_reducible repeat (first | apply Kd.R_alloc | apply Kd.R_drewN | apply Kd.R_drew)); exact HO187.out) (Kd.R_base ho20) hb); have n1_ := Aside0.mk (Kd.R_elder' (by (with_reducible repeat (first | apply Kd.R_alloc | apply Kd.R_drewN | apply Kd.R_drew)); exact HO191.out) (Kd.R_base ho20) hb); have n2_ := Aside0.mk (Kd.R_lower (Kd.R_new' (Kd.R_new' ho20 (Kd.R_lt (by (with_reducible repeat (first | apply Kd.R_alloc | apply Kd.R_drewN | apply Kd.R_drew)); exact HO187.out))) (Kd.R_lt (by (with_reducible repeat (first | apply Kd.R_alloc | apply Kd.R_drewN | apply Kd.R_drew)); exact HO191.out))) (below_size (by repeat (first | (with_reducible first | exact HB.out | apply below_alloc | apply pw_below_drewN | apply below_drew1) | exact HB.out)))); have n3_ := Aside0.mk (below_step (by repeat (first | (with_reducible first | exact HB.out | apply below_alloc | apply pw_below_drewN | apply below_drew1) | exact HB.out)) hb); clear HO187; clear HO191; clear HB; have HO187 := n0_; have HO191 := n1_; have HO194 := n2_; have HB := n3_; clear n0_ n1_ n2_ n3_; clear hb ho20; obtain ⟨Ao21, co21, eo21⟩ := Kd.R_slice HO194.out; subst eo21) | (go_at_call 25; (with_reducible refine (value_numbers.calls kj1 (a0.extract 1 a0.size) _ _ y192 t195 t196 _ ?side1 ?side2 A18.out).mono ?_); (case side1 => repeat (first | exact (Kd.R_reads' HO194.out).2.2 | (with_reducible refine Kd.C_alloc ?_ _) | (with_reducible refine Kd.C_drewN ?_ _) | (with_reducible refine Kd.C_drew ?_))); (case side2 => exact (Kd.R_reads' HO194.out).2.1); rintro e w22 ⟨v197, rfl, ho0, hb⟩; have n0_ := Aside0.mk (Kd.R_elder' (by (with_reducible repeat (first | apply Kd.R_alloc | apply Kd.R_drewN | apply Kd.R_drew)); exact HO187.out) (Kd.R_base ho0) hb); have n1_ := Aside0.mk (Kd.R_elder' (by (with_reducible repeat (first | apply Kd.R_alloc | apply Kd.R_drewN | apply Kd.R_drew)); exact HO191.out) (Kd.R_base ho0) hb); have n2_ := Aside0.mk (Kd.R_elder' (by (with_reducible repeat (first | apply Kd.R_alloc | apply Kd.R_drewN | apply Kd.R_drew)); exact HO194.out) (Kd.R_base ho0) hb); have n3_ := Aside0.mk (Kd.R_lower (Kd.R_new' (Kd.R_new' (Kd.R_new' ho0 (Kd.R_lt (by (with_reducible repeat (first | apply Kd.R_alloc | apply Kd.R_drewN | apply Kd.R_drew)); exact HO187.out))) (Kd.R_lt (by (with_reducible repeat (first | apply Kd.R_alloc | apply Kd.R_drewN | apply Kd.R_drew)); exact HO191.out))) (Kd.R_lt (by (with_reducible repeat (first | apply Kd.R_alloc | apply Kd.R_drewN | apply Kd.R_drew)); exact HO194.out))) (below_size (by repeat (first | (with_reducible first | exact HB.out | apply below_alloc | apply pw_below_drewN | apply below_drew1) | exact HB.out)))); have n4_ := Aside0.mk (below_step (by repeat (first | (with_reducible first | exact HB.out | apply below_alloc | apply pw_below_drewN | apply below_drew1) | exact HB.out)) hb); clear HO187; clear HO191; clear HO194; clear HB; have HO187 := n0_; have HO191 := n1_; have HO194 := n2_; have HO198 := n3_; have HB := n4_; clear n0_ n1_ n2_ n3_ n4_; (try clear hb); (try clear hb2); (try clear hk); (try clear hi); (try clear ho0))))
        go_meet
        case rel => exact ⟨_, (t195), (t196), (by first | rfl | (simp; done) | (simp [*]; done)), H', ⟨by have := HJ1.out; first | omega | exact Nat.le_refl _⟩, ⟨by (with_reducible repeat (first | apply Kd.R_alloc | apply Kd.R_drewN | apply Kd.R_drew)); exact Kd.R_mono HO198.out (fun _ hk => trivial)⟩, ⟨by repeat (first | (with_reducible first | exact HB.out | apply below_alloc | apply pw_below_drewN | apply below_drew1) | exact HB.out)⟩⟩
      case rest =>
       as_aux_lemma =>
        clear HC11
        try clear c1
        try clear p2
        try clear c3
        try clear c3b0
        try clear c3b1
        try clear c4
        try clear c4b0
        try clear c4b1
        try clear p5
        try clear q5
        try clear hx5
        try clear qi5
        try clear c6
        try clear c6b0
        try clear c6b1
        try clear p7
        try clear q7
        try clear hx7
        try clear qi7
        try clear c8
        try clear c9
        try clear c9b0
        try clear c9b1
        try clear c10
        try clear c16
        try clear c17
        try clear c17b0
        try clear p2
        try clear p5
        try clear p7
        try clear q5
        try clear q7
        obtain ⟨kq, x4_10, x5_10, rfl, HA, HJ10, HO_4, HB⟩ := hcut
        cases kq with
        | zero => exact absurd HA.out (by simp [value_ParseOffset.j1])
        | succ kj10 =>
         have H := HA.out
         clear HA
         simp only [value_ParseOffset.j1] at H
         by_cases c23 : x5_10 = true
         ·subst c23
          have H1 : (if x4_10.length < 17592186044416 then ((some (x4_10 ++ [0] : List Int)).bind fun y199 => (if 0 < (y199.length : Int) then (if 1 < (y199.length : Int) then (if 2 < (y199.length : Int) then (if (rd y199 1) ≥ 60 then (value_ParseOffset.j2 kj10 a0 (wrap64 ((wrap64 ((wrap64 ((rd y199 0) * 3600)) + (wrap64 ((rd y199 1) * 60)))) + (rd y199 2))) true) else (if (rd y199 2) ≥ 60 then (value_ParseOffset.j2 kj10 a0 (wrap64 ((wrap64 ((wrap64 ((rd y199 0) * 3600)) + (wrap64 ((rd y199 1) * 60)))) + (rd y199 2))) true) else (if (wrap64 ((wrap64 ((wrap64 ((rd y199 0) * 3600)) + (wrap64 ((rd y199 1) * 60)))) + (rd y199 2))) ≥ 86400 then (value_ParseOffset.j2 kj10 a0 (wrap64 ((wrap64 ((wrap64 ((rd y199 0) * 3600)) + (wrap64 ((rd y199 1) * 60)))) + (rd y199 2))) true) else (if (wrap64 ((wrap64 ((wrap64 ((rd y199 0) * 3600)) + (wrap64 ((rd y199 1) * 60)))) + (rd y199 2))) = 0 then (if 0 < (a0.size : Int) then (value_ParseOffset.j2 kj10 a0 (wrap64 ((wrap64 ((wrap64 ((rd y199 0) * 3600)) + (wrap64 ((rd y199 1) * 60)))) + (rd y199 2))) ((bt a0 0) == 45)) else (none)) else (value_ParseOffset.j2 kj10 a0 (wrap64 ((wrap64 ((wrap64 ((rd y199 0) * 3600)) + (wrap64 ((rd y199 1) * 60)))) + (rd y199 2))) false))))) else (none)) else (none)) else (none))) else (none)) = some (r1, r2) := by rw [if_pos rfl] at H; exact H
          clear H
          have H := H1
          clear H1
          by_cases c24 : x4_10.length < 17592186044416
          ·rw [if_pos c24] at H
           have LMc24 := Aside0.mk c24
           clear c24
           obtain ⟨y199, hy199⟩ : ∃ y_ : List Int, y_ = (x4_10 ++ [0]) := ⟨_, rfl⟩
           replace H : (if 0 < (y199.length : Int) then (if 1 < (y199.length : Int) then (if 2 < (y199.length : Int) then (if (rd y199 1) ≥ 60 then (value_ParseOffset.j2 kj10 a0 (wrap64 ((wrap64 ((wrap64 ((rd y199 0) * 3600)) + (wrap64 ((rd y199 1) * 60)))) + (rd y199 2))) true) else (if (rd y199 2) ≥ 60 then (value_ParseOffset.j2 kj10 a0 (wrap64 ((wrap64 ((wrap64 ((rd y199 0) * 3600)) + (wrap64 ((rd y199 1) * 60)))) + (rd y199 2))) true) else (if (wrap64 ((wrap64 ((wrap64 ((rd y199 0) * 3600)) + (wrap64 ((rd y199 1) * 60)))) + (rd y199 2))) ≥ 86400 then (value_ParseOffset.j2 kj10 a0 (wrap64 ((wrap64 ((wrap64 ((rd y199 0) * 3600)) + (wrap64 ((rd y199 1) * 60)))) + (rd y199 2))) true) else (if (wrap64 ((wrap64 ((wrap64 ((rd y199 0) * 3600)) + (wrap64 ((rd y199 1) * 60)))) + (rd y199 2))) = 0 then (if 0 < (a0.size : Int) then (value_ParseOffset.j2 kj10 a0 (wrap64 ((wrap64 ((wrap64 ((rd y199 0) * 3600)) + (wrap64 ((rd y199 1) * 60)))) + (rd y199 2))) ((bt a0 0) == 45)) else (none)) else (value_ParseOffset.j2 kj10 a0 (wrap64 ((wrap64 ((wrap64 ((rd y199 0) * 3600)) + (wrap64 ((rd y199 1) * 60)))) + (rd y199 2))) false))))) else (none)) else (none)) else (none)) = some (r1, r2) := by first | (rw [hy199]; with_reducible exact H) | (have H2_ := (Option.bind_some _ _).symm.trans H; rw [hy199]; with_reducible exact H2_) | (have H2_ := (Option.bind_some _ _).symm.trans H; with_reducible exact H2_) | with_reducible exact H | (rw [hy199]; exact H) | exact H
           have Ny199 := Aside0.mk hy199
           clear hy199
           by_cases c25 : 0 < (y199.length : Int)
           ·rw [if_pos c25] at H
            have c25b0 : decide (0 < (y199.length : Int)) = true := decide_eq_true c25
            have c25b1 : decide (0 < y199.length) = true := decide_eq_true (by omega)
            clear c25
            by_cases c26 : 1 < (y199.length : Int)
            ·rw [if_pos c26] at H
             have c26b0 : decide (1 < (y199.length : Int)) = true := decide_eq_true c26
             have c26b1 : decide (1 < y199.length) = true := decide_eq_true (by omega)
             clear c26
             by_cases c27 : 2 < (y199.length : Int)
             ·rw [if_pos c27] at H
              have c27b0 : decide (2 < (y199.length : Int)) = true := decide_eq_true c27
              have c27b1 : decide (2 < y199.length) = true := decide_eq_true (by omega)
              clear c27
              have HC28 := Aside0.mk H
              clear H
              go_upto_region 10 with (first | ((with_reducible refine gate_builtin (b := .append) (xs := #[.tmp 37, .tmp 38]) rfl ?_); at_builtin; refine Kd.R_append (Kd.int .i64) (w0 := w) w.heap.size rfl (.tmp 37) (.tmp 38) 30 3 (.int .i64 0) 8 rfl Tryd.underlying30 info3 rfl (by decide) (by omega) u4 x4_10 0 [.int .i64 0] (fun _ => True) (fun _ => False) rfl rfl ?aP (fun _ hk => hk.elim) ?aF ?aO ?aB ?aS ?aL ?_; (case aP => exact rfl); (case aB => exact (by repeat (first | (with_reducible first | exact HB.out | apply below_alloc | apply pw_below_drewN | apply below_drew1) | exact HB.out))); (case aF => exact (fun _ _ => trivial)); (case aO => exact (by (with_reducible repeat (first | apply Kd.R_alloc | apply Kd.R_drewN | apply Kd.R_drew)); exact HO_4.out)); (case aS => exact (below_size (by repeat (first | (with_reducible first | exact HB.out | apply below_alloc | apply pw_below_drewN | apply below_drew1) | exact HB.out)))); (case aL => have := LMc24.out; omega); intro v200 w29 ho hb hg hat; rw [← Ny199.out] at ho; have n0_ := Aside0.mk (hb); have n1_ := Aside0.mk (ho); clear HB; clear HO_4; have HB := n0_; have HO201 := n1_; clear n0_ n1_; clear ho hb hg hat; obtain ⟨Ao30, co30, eo30⟩ := Kd.R_slice HO201.out; subst eo30; have p202 : 0 ≤ (0 : Int) := (by omega); have q202 : 0 < (y199.length : Int) := of_decide_eq_true (by first | (with_reducible assumption) | assumption); obtain ⟨ad202, e202, hx202_0⟩ := Kd.at_int (Kd.R_reads' HO201.out).2.2 0 p202 q202; cases e202; have qi202 : (0 < y199.length) = True := eq_true (by omega); (try rw [show ((0 : Int)).toNat = 0 from rfl] at hx202_0); (try rw [Addr.add_zero'] at hx202_0); replace p202 := eq_true p202; replace q202 := eq_true q202; have p203 : 0 ≤ (1 : Int) := (by omega); have q203 : 1 < (y199.length : Int) := of_decide_eq_true (by first | (with_reducible assumption) | assumption); obtain ⟨ad203, e203, hx203_0⟩ := Kd.at_int (Kd.R_reads' HO201.out).2.2 1 p203 q203; obtain rfl : ad202 = ad203 := (by injection e203); (try simp only [show (1 : Int).toNat = 1 from rfl, Nat.reduceMul, Nat.reduceEqDiff, Go.Addr.add, ↓reduceIte] at hx203_0); have qi203 : (1 < y199.length) = True := eq_true (by omega); (try rw [show ((1 : Int)).toNat = 1 from rfl] at hx203_0); replace p203 := eq_true p203; replace q203 := eq_true q203; have p204 : 0 ≤ (2 : Int) := (by omega); have q204 : 2 < (y199.length : Int) := of_decide_eq_true (by first | (with_reducible assumption) | assumption); obtain ⟨ad204, e204, hx204_0⟩ := Kd.at_int (Kd.R_reads' HO201.out).2.2 2 p204 q204; obtain rfl : ad202 = ad204 := (by injection e204); (try simp only [show (2 : Int).toNat = 2 from rfl, Nat.reduceMul, Nat.reduceEqDiff, Go.Addr.add, ↓reduceIte] at hx204_0); have qi204 : (2 < y199.length) = True := eq_true (by omega); (try rw [show ((2 : Int)).toNat = 2 from rfl] at hx204_0); replace p204 := eq_true p204; replace q204 := eq_true q204))
              repeat (go_quiet (first | ((with_reducible refine gate_builtin (b := .append) (xs := #[.tmp 37, .tmp 38]) rfl ?_); at_builtin; refine Kd.R_append (Kd.int .i64) (w0 := w) w.heap.size rfl (.tmp 37) (.tmp 38) 30 3 (.int .i64 0) 8 rfl Tryd.underlying30 info3 rfl (by decide) (by omega) u4 x4_10 0 [.int .i64 0] (fun _ => True) (fun _ => False) rfl rfl ?aP (fun _ hk => hk.elim) ?aF ?aO ?aB ?aS ?aL ?_; (case aP => exact rfl); (case aB => exact (by repeat (first | (with_reducible first | exact HB.out | apply below_alloc | apply pw_below_drewN | apply below_drew1) | exact HB.out))); (case aF => exact (fun _ _ => trivial)); (case aO => exact (by (with_reducible repeat (first | apply Kd.R_alloc | apply Kd.R_drewN | apply Kd.R_drew)); exact HO_4.out)); (case aS => exact (below_size (by repeat (first | (with_reducible first | exact HB.out | apply below_alloc | apply pw_below_drewN | apply below_drew1) | exact HB.out)))); (case aL => have := LMc24.out; omega); intro v200 w29 ho hb hg hat; rw [← Ny199.out] at ho; have n0_ := Aside0.mk (hb); have n1_ := Aside0.mk (ho); clear HB; clear HO_4; have HB := n0_; have HO201 := n1_; clear n0_ n1_; clear ho hb hg hat; obtain ⟨Ao30, co30, eo30⟩ := Kd.R_slice HO201.out; subst eo30; have p202 : 0 ≤ (0 : Int) := (by omega); have q202 : 0 < (y199.length : Int) := of_decide_eq_true (by first | (with_reducible assumption) | assumption); obtain ⟨ad202, e202, hx202_0⟩ := Kd.at_int (Kd.R_reads' HO201.out).2.2 0 p202 q202; cases e202; have qi202 : (0 < y199.length) = True := eq_true (by omega); (try rw [show ((0 : Int)).toNat = 0 from rfl] at hx202_0); (try rw [Addr.add_zero'] at hx202_0); replace p202 := eq_true p202; replace q202 := eq_true q202; have p203 : 0 ≤ (1 : Int) := (by omega); have q203 : 1 < (y199.length : Int) := of_decide_eq_true (by first | (with_reducible assumption) | assumption); obtain ⟨ad203, e203, hx203_0⟩ := Kd.at_int (Kd.R_reads' HO201.out).2.2 1 p203 q203; obtain rfl : ad202 = ad203 := (by injection e203); (try simp only [show (1 : Int).toNat = 1 from rfl, Nat.reduceMul, Nat.reduceEqDiff, Go.Addr.add, ↓reduceIte] at hx203_0); have qi203 : (1 < y199.length) = True := eq_true (by omega); (try rw [show ((1 : Int)).toNat = 1 from rfl] at hx203_0); replace p203 := eq_true p203; replace q203 := eq_true q203; have p204 : 0 ≤ (2 : Int) := (by omega); have q204 : 2 < (y199.length : Int) := of_decide_eq_true (by first | (with_reducible assumption) | assumption); obtain ⟨ad204, e204, hx204_0⟩ := Kd.at_int (Kd.R_reads' HO201.out).2.2 2 p204 q204; obtain rfl : ad202 = ad204 := (by injection e204); (try simp only [show (2 : Int).toNat = 2 from rfl, Nat.reduceMul, Nat.reduceEqDiff, Go.Addr.add, ↓reduceIte] at hx204_0); have qi204 : (2 < y199.length) = True := eq_true (by omega); (try rw [show ((2 : Int)).toNat = 2 from rfl] at hx204_0); replace p204 := eq_true p204; replace q204 := eq_true q204)); go_upto_region 10 with (first | ((with_reducible refine gate_builtin (b := .append) (xs := #[.tmp 37, .tmp 38]) rfl ?_); at_builtin; refine Kd.R_append (Kd.int .i64) (w0 := w) w.heap.size rfl (.tmp 37) (.tmp 38) 30 3 (.int .i64 0) 8 rfl Tryd.underlying30 info3 rfl (by decide) (by omega) u4 x4_10 0 [.int .i64 0] (fun _ => True) (fun _ => False) rfl rfl ?aP (fun _ hk => hk.elim) ?aF ?aO ?aB ?aS ?aL ?_; (case aP => exact rfl); (case aB => exact (by repeat (first | (with_reducible first | exact HB.out | apply below_alloc | apply pw_below_drewN | apply below_drew1) | exact HB.out))); (case aF => exact (fun _ _ => trivial)); (case aO => exact (by (with_reducible repeat (first | apply Kd.R_alloc | apply Kd.R_drewN | apply Kd.R_drew)); exact HO_4.out)); (case aS => exact (below_size (by repeat (first | (with_reducible first | exact HB.out | apply below_alloc | apply pw_below_drewN | apply below_drew1) | exact HB.out)))); (case aL => have := LMc24.out; omega); intro v200 w29 ho hb hg hat; rw [← Ny199.out] at ho; have n0_ := Aside0.mk (hb); have n1_ := Aside0.mk (ho); clear HB; clear HO_4; have HB := n0_; have HO201 := n1_; clear n0_ n1_; clear ho hb hg hat; obtain ⟨Ao30, co30, eo30⟩ := Kd.R_slice HO201.out; subst eo30; have p202 : 0 ≤ (0 : Int) := (by omega); have q202 : 0 < (y199.length : Int) := of_decide_eq_true (by first | (with_reducible assumption) | assumption); obtain ⟨ad202, e202, hx202_0⟩ := Kd.at_int (Kd.R_reads' HO201.out).2.2 0 p202 q202; cases e202; have qi202 : (0 < y199.length) = True := eq_true (by omega); (try rw [show ((0 : Int)).toNat = 0 from rfl] at hx202_0); (try rw [Addr.add_zero'] at hx202_0); replace p202 := eq_true p202; replace q202 := eq_true q202; have p203 : 0 ≤ (1 : Int) := (by omega); have q203 : 1 < (y199.length : Int) := of_decide_eq_true (by first | (with_reducible assumption) | assumption); obtain ⟨ad203, e203, hx203_0⟩ := Kd.at_int (Kd.R_reads' HO201.out).2.2 1 p203 q203; obtain rfl : ad202 = ad203 := (by injection e203); (try simp only [show (1 : Int).toNat = 1 from rfl, Nat.reduceMul, Nat.reduceEqDiff, Go.Addr.add, ↓reduceIte] at hx203_0); have qi203 : (1 < y199.length) = True := eq_true (by omega); (try rw [show ((1 : Int)).toNat = 1 from rfl] at hx203_0); replace p203 := eq_true p203; replace q203 := eq_true q203; have p204 : 0 ≤ (2 : Int) := (by omega); have q204 : 2 < (y199.length : Int) := of_decide_eq_true (by first | (with_reducible assumption) | assumption); obtain ⟨ad204, e204, hx204_0⟩ := Kd.at_int (Kd.R_reads' HO201.out).2.2 2 p204 q204; obtain rfl : ad202 = ad204 := (by injection e204); (try simp only [show (2 : Int).toNat = 2 from rfl, Nat.reduceMul, Nat.reduceEqDiff, Go.Addr.add, ↓reduceIte] at hx204_0); have qi204 : (2 < y199.length) = True := eq_true (by omega); (try rw [show ((2 : Int)).toNat = 2 from rfl] at hx204_0); replace p204 := eq_true p204; replace q204 := eq_true q204)))
              (try simp only [Act.put, List.setIfInBounds_toArray, List.set_cons_zero, List.set_cons_succ])
              go_cut [75] (fun v75 wc => ∃ (kq : Nat) (x75_27 : Bool), v75 = .bool x75_27 ∧ Aside0 (value_ParseOffset.j2 kq a0 (wrap64 ((wrap64 ((wrap64 ((rd y199 0) * 3600)) + (wrap64 ((rd y199 1) * 60)))) + (rd y199 2))) x75_27 = some (r1, r2)) ∧ Aside0 (kq ≤ kj10) ∧ Aside0 (Below w.heap.size w wc))
              case first =>
               as_aux_lemma =>
                have H := HC28.out
                clear HC28
                by_cases c31 : (rd y199 1) ≥ 60
                ·rw [if_pos c31] at H
                 have c31b0 : decide (60 ≤ (rd y199 1)) = true := decide_eq_true c31
                 clear c31
                 (first | rw [c31b0] | (simp only [i64_w, i32_w]; rw [c31b0]) | skip)
                 have H' := Aside0.mk H
                 clear H
                 have p205 : 0 ≤ (1 : Int) := (by omega)
                 have q205 : 1 < (y199.length : Int) := of_decide_eq_true (by first | (with_reducible assumption) | assumption)
                 obtain ⟨ad205, e205, hx205_0⟩ := Kd.at_int (Kd.R_reads' HO201.out).2.2 1 p205 q205
                 obtain rfl : ad202 = ad205 := (by injection e205)
                 (try simp only [show (1 : Int).toNat = 1 from rfl, Nat.reduceMul, Nat.reduceEqDiff, Go.Addr.add, ↓reduceIte] at hx205_0)
                 have qi205 : (1 < y199.length) = True := eq_true (by omega)
                 (try rw [show ((1 : Int)).toNat = 1 from rfl] at hx205_0)
                 replace p205 := eq_true p205
                 replace q205 := eq_true q205
                 go_wp2
                 repeat (go_quiet (fail); try go_wp2)
                 go_meet
                 case rel => exact ⟨_, (true), (by first | rfl | (simp; done) | (simp [*]; done)), H', ⟨by have := HJ1.out; have := HJ10.out; first | omega | exact Nat.le_refl _⟩, ⟨by repeat (first | (with_reducible first | exact HB.out | apply below_alloc | apply pw_below_drewN | apply below_drew1) | exact HB.out)⟩⟩
                ·rw [if_neg c31] at H
                 have c31b0 : decide (60 ≤ (rd y199 1)) = false := decide_eq_false c31
                 clear c31
                 (first | rw [c31b0] | (simp only [i64_w, i32_w]; rw [c31b0]) | skip)
                 by_cases c32 : (rd y199 2) ≥ 60
                 ·rw [if_pos c32] at H
                  have c32b0 : decide (60 ≤ (rd y199 2)) = true := decide_eq_true c32
                  clear c32
                  have H' := Aside0.mk H
                  clear H
                  have p205 : 0 ≤ (1 : Int) := (by omega)
                  have q205 : 1 < (y199.length : Int) := of_decide_eq_true (by first | (with_reducible assumption) | assumption)
                  obtain ⟨ad205, e205, hx205_0⟩ := Kd.at_int (Kd.R_reads' HO201.out).2.2 1 p205 q205
                  obtain rfl : ad202 = ad205 := (by injection e205)
                  (try simp only [show (1 : Int).toNat = 1 from rfl, Nat.reduceMul, Nat.reduceEqDiff, Go.Addr.add, ↓reduceIte] at hx205_0)
                  have qi205 : (1 < y199.length) = True := eq_true (by omega)
                  (try rw [show ((1 : Int)).toNat = 1 from rfl] at hx205_0)
                  replace p205 := eq_true p205
                  replace q205 := eq_true q205
                  have p206 : 0 ≤ (2 : Int) := (by omega)
                  have q206 : 2 < (y199.length : Int) := of_decide_eq_true (by first | (with_reducible assumption) | assumption)
                  obtain ⟨ad206, e206, hx206_0⟩ := Kd.at_int (Kd.R_reads' HO201.out).2.2 2 p206 q206
                  obtain rfl : ad202 = ad206 := (by injection e206)
                  (try simp only [show (2 : Int).toNat = 2 from rfl, Nat.reduceMul, Nat.reduceEqDiff, Go.Addr.add, ↓reduceIte] at hx206_0)
                  have qi206 : (2 < y199.length) = True := eq_true (by omega)
                  (try rw [show ((2 : Int)).toNat = 2 from rfl] at hx206_0)
                  replace p206 := eq_true p206
                  replace q206 := eq_true q206
                  go_wp2
                  repeat (go_quiet (fail); try go_wp2)
                  go_meet
                  case rel => exact ⟨_, (true), (by first | rfl | (simp; done) | (simp [*]; done)), H', ⟨by have := HJ1.out; have := HJ10.out; first | omega | exact Nat.le_refl _⟩, ⟨by repeat (first | (with_reducible first | exact HB.out | apply below_alloc | apply pw_below_drewN | apply below_drew1) | exact HB.out)⟩⟩
                 ·rw [if_neg c32] at H
                  have c32b0 : decide (60 ≤ (rd y199 2)) = false := decide_eq_false c32
                  clear c32
                  by_cases c33 : (wrap64 ((wrap64 ((wrap64 ((rd y199 0) * 3600)) + (wrap64 ((rd y199 1) * 60)))) + (rd y199 2))) ≥ 86400
                  ·rw [if_pos c33] at H
                   have c33b0 : decide (86400 ≤ (wrap64 ((wrap64 ((wrap64 ((rd y199 0) * 3600)) + (wrap64 ((rd y199 1) * 60)))) + (rd y199 2)))) = true := decide_eq_true c33
                   clear c33
                   have H' := Aside0.mk H
                   clear H
                   have p205 : 0 ≤ (1 : Int) := (by omega)
                   have q205 : 1 < (y199.length : Int) := of_decide_eq_true (by first | (with_reducible assumption) | assumption)
                   obtain ⟨ad205, e205, hx205_0⟩ := Kd.at_int (Kd.R_reads' HO201.out).2.2 1 p205 q205
                   obtain rfl : ad202 = ad205 := (by injection e205)
                   (try simp only [show (1 : Int).toNat = 1 from rfl, Nat.reduceMul, Nat.reduceEqDiff, Go.Addr.add, ↓reduceIte] at hx205_0)
                   have qi205 : (1 < y199.length) = True := eq_true (by omega)
                   (try rw [show ((1 : Int)).toNat = 1 from rfl] at hx205_0)
                   replace p205 := eq_true p205
                   replace q205 := eq_true q205
                   have p206 : 0 ≤ (2 : Int) := (by omega)
                   have q206 : 2 < (y199.length : Int) := of_decide_eq_true (by first | (with_reducible assumption) | assumption)
                   obtain ⟨ad206, e206, hx206_0⟩ := Kd.at_int (Kd.R_reads' HO201.out).2.2 2 p206 q206
                   obtain rfl : ad202 = ad206 := (by injection e206)
                   (try simp only [show (2 : Int).toNat = 2 from rfl, Nat.reduceMul, Nat.reduceEqDiff, Go.Addr.add, ↓reduceIte] at hx206_0)
                   have qi206 : (2 < y199.length) = True := eq_true (by omega)
                   (try rw [show ((2 : Int)).toNat = 2 from rfl] at hx206_0)
                   replace p206 := eq_true p206
                   replace q206 := eq_true q206
                   go_wp2
                   repeat (go_quiet (fail); try go_wp2)
                   go_meet
                   case rel => exact ⟨_, (true), (by first | rfl | (simp; done) | (simp [*]; done)), H', ⟨by have := HJ1.out; have := HJ10.out; first | omega | exact Nat.le_refl _⟩, ⟨by repeat (first | (with_reducible first | exact HB.out | apply below_alloc | apply pw_below_drewN | apply below_drew1) | exact HB.out)⟩⟩
                  ·rw [if_neg c33] at H
                   have c33b0 : decide (86400 ≤ (wrap64 ((wrap64 ((wrap64 ((rd y199 0) * 3600)) + (wrap64 ((rd y199 1) * 60)))) + (rd y199 2)))) = false := decide_eq_false c33
                   clear c33
                   by_cases c34 : (wrap64 ((wrap64 ((wrap64 ((rd y199 0) * 3600)) + (wrap64 ((rd y199 1) * 60)))) + (rd y199 2))) = 0
                   ·rw [if_pos c34] at H
                    have c34b0 : ((wrap64 ((wrap64 ((wrap64 ((rd y199 0) * 3600)) + (wrap64 ((rd y199 1) * 60)))) + (rd y199 2))) == 0) = true := beq_iff_eq.mpr c34
                    have c34b1 : ((wrap64 ((wrap64 ((wrap64 ((rd y199 0) * 3600)) + (wrap64 ((rd y199 1) * 60)))) + (rd y199 2))) != 0) = false := bne_eq_false_iff_eq.mpr c34
                    clear c34
                    by_cases c35 : 0 < (a0.size : Int)
                    ·rw [if_pos c35] at H
                     have c35b0 : decide (0 < (a0.size : Int)) = true := decide_eq_true c35
                     have c35b1 : decide (0 < a0.size) = true := decide_eq_true (by omega)
                     clear c35
                     have H' := Aside0.mk H
                     clear H
                     have p205 : 0 ≤ (1 : Int) := (by omega)
                     have q205 : 1 < (y199.length : Int) := of_decide_eq_true (by first | (with_reducible assumption) | assumption)
                     obtain ⟨ad205, e205, hx205_0⟩ := Kd.at_int (Kd.R_reads' HO201.out).2.2 1 p205 q205
                     obtain rfl : ad202 = ad205 := (by injection e205)
                     (try simp only [show (1 : Int).toNat = 1 from rfl, Nat.reduceMul, Nat.reduceEqDiff, Go.Addr.add, ↓reduceIte] at hx205_0)
                     have qi205 : (1 < y199.length) = True := eq_true (by omega)
                     (try rw [show ((1 : Int)).toNat = 1 from rfl] at hx205_0)
                     replace p205 := eq_true p205
                     replace q205 := eq_true q205
                     have p206 : 0 ≤ (2 : Int) := (by omega)
                     have q206 : 2 < (y199.length : Int) := of_decide_eq_true (by first | (with_reducible assumption) | assumption)
                     obtain ⟨ad206, e206, hx206_0⟩ := Kd.at_int (Kd.R_reads' HO201.out).2.2 2 p206 q206
                     obtain rfl : ad202 = ad206 := (by injection e206)
                     (try simp only [show (2 : Int).toNat = 2 from rfl, Nat.reduceMul, Nat.reduceEqDiff, Go.Addr.add, ↓reduceIte] at hx206_0)
                     have qi206 : (2 < y199.length) = True := eq_true (by omega)
                     (try rw [show ((2 : Int)).toNat = 2 from rfl] at hx206_0)
                     replace p206 := eq_true p206
                     replace q206 := eq_true q206
                     have p36 : 0 ≤ (0 : Int) := (by omega)
                     have q36 : 0 < a0.size := (by have : (0 : Int) < (a0.size : Int) := of_decide_eq_true (by first | (with_reducible assumption) | assumption); omega)
                     have hx36 : ∀ h : 0 < a0.size, ((a0[0]'h).toNat : Int) = bt a0 0 := bt_at a0 0
                     clear p36
                     have qi36 : (0 < (a0.size : Int)) = True := eq_true (of_decide_eq_true (by first | (with_reducible assumption) | assumption))
                     replace q36 := eq_true q36
                     go_wp2
                     repeat (go_quiet (fail); try go_wp2)
                     go_meet
                     case rel => exact ⟨_, (((bt a0 0) == 45)), (by first | rfl | (simp; done) | (simp [*]; done)), H', ⟨by have := HJ1.out; have := HJ10.out; first | omega | exact Nat.le_refl _⟩, ⟨by repeat (first | (with_reducible first | exact HB.out | apply below_alloc | apply pw_below_drewN | apply below_drew1) | exact HB.out)⟩⟩
                    ·rw [if_neg c35] at H
                     exact absurd H (by simp)
                   ·rw [if_neg c34] at H
                    have c34b0 : ((wrap64 ((wrap64 ((wrap64 ((rd y199 0) * 3600)) + (wrap64 ((rd y199 1) * 60)))) + (rd y199 2))) == 0) = false := beq_eq_false_iff_ne.mpr c34
                    have c34b1 : ((wrap64 ((wrap64 ((wrap64 ((rd y199 0) * 3600)) + (wrap64 ((rd y199 1) * 60)))) + (rd y199 2))) != 0) = true := bne_iff_ne.mpr c34
                    have H' := Aside0.mk H
                    clear H
                    have p205 : 0 ≤ (1 : Int) := (by omega)
                    have q205 : 1 < (y199.length : Int) := of_decide_eq_true (by first | (with_reducible assumption) | assumption)
                    obtain ⟨ad205, e205, hx205_0⟩ := Kd.at_int (Kd.R_reads' HO201.out).2.2 1 p205 q205
                    obtain rfl : ad202 = ad205 := (by injection e205)
                    (try simp only [show (1 : Int).toNat = 1 from rfl, Nat.reduceMul, Nat.reduceEqDiff, Go.Addr.add, ↓reduceIte] at hx205_0)
                    have qi205 : (1 < y199.length) = True := eq_true (by omega)
                    (try rw [show ((1 : Int)).toNat = 1 from rfl] at hx205_0)
                    replace p205 := eq_true p205
                    replace q205 := eq_true q205
                    have p206 : 0 ≤ (2 : Int) := (by omega)
                    have q206 : 2 < (y199.length : Int) := of_decide_eq_true (by first | (with_reducible assumption) | assumption)
                    obtain ⟨ad206, e206, hx206_0⟩ := Kd.at_int (Kd.R_reads' HO201.out).2.2 2 p206 q206
                    obtain rfl : ad202 = ad206 := (by injection e206)
                    (try simp only [show (2 : Int).toNat = 2 from rfl, Nat.reduceMul, Nat.reduceEqDiff, Go.Addr.add, ↓reduceIte] at hx206_0)
                    have qi206 : (2 < y199.length) = True := eq_true (by omega)
                    (try rw [show ((2 : Int)).toNat = 2 from rfl] at hx206_0)
                    replace p206 := eq_true p206
                    replace q206 := eq_true q206
                    go_wp2
                    repeat (go_quiet (fail); try go_wp2)
                    go_meet
                    case rel => exact ⟨_, (false), (by first | rfl | (simp; done) | (simp [*]; done)), H', ⟨by have := HJ1.out; have := HJ10.out; first | omega | exact Nat.le_refl _⟩, ⟨by repeat (first | (with_reducible first | exact HB.out | apply below_alloc | apply pw_below_drewN | apply below_drew1) | exact HB.out)⟩⟩
              case rest =>
               as_aux_lemma =>
                clear HC28
                try clear c1
                try clear c2
                try clear p2
                try clear q2
                try clear hx2
                try clear qi2
                try clear c3
                try clear c3b0
                try clear c3b1
                try clear p3
                try clear q3
                try clear hx3
                try clear qi3
                try clear c4
                try clear c4b0
                try clear c4b1
                try clear p5
                try clear q5
                try clear hx5
                try clear qi5
                try clear c6
                try clear c6b0
                try clear c6b1
                try clear p6
                try clear p7
                try clear q7
                try clear hx7
                try clear qi7
                try clear c8
                try clear c9
                try clear c9b0
                try clear c9b1
                try clear c10
                try clear c16
                try clear c17
                try clear c17b0
                try clear p20
                try clear q20
                try clear hx20
                try clear qi20
                try clear c23
                try clear c24
                try clear c25
                try clear c25b0
                try clear c25b1
                try clear c26
                try clear c26b0
                try clear c26b1
                try clear c27
                try clear c27b0
                try clear c27b1
                try clear c31
                try clear c31b0
                try clear c32
                try clear c32b0
                try clear c33
                try clear c33b0
                try clear c34
                try clear c34b0
                try clear c34b1
                try clear c35
                try clear c35b0
                try clear c35b1
                try clear p36
                try clear q36
                try clear hx36
                try clear qi36
                try clear hx202_0
                try clear hx203_0
                try clear hx204_0
                try clear hx205_0
                try clear hx206_0
                try clear p2
                try clear p202
                try clear p203
                try clear p204
                try clear p205
                try clear p206
                try clear p36
                try clear p5
                try clear p7
                try clear q202
                try clear q203
                try clear q204
                try clear q205
                try clear q206
                try clear q36
                try clear q5
                try clear q7
                obtain ⟨kq, x75_27, rfl, HA, HJ27, HB⟩ := hcut
                cases kq with
                | zero => exact absurd HA.out (by simp [value_ParseOffset.j2])
                | succ kj27 =>
                 have H := HA.out
                 clear HA
                 simp only [value_ParseOffset.j2] at H
                 by_cases c37 : x75_27 = true
                 ·subst c37
                  have H1 : (some (0, 19)) = some (r1, r2) := by rw [if_pos rfl] at H; exact H
                  clear H
                  have H := H1
                  clear H1
                  simp only [Option.some.injEq, Prod.mk.injEq] at H
                  obtain ⟨rfl, rfl⟩ := H
                  go_wp2
                  repeat (go_quiet (fail); try go_wp2)
                  go_ret2
                  exact ⟨by first | rfl | (simp [errW_none, errW_some] <;> rfl) | (simp [*, errW_none, errW_some] <;> rfl), by repeat (first | (with_reducible first | exact HB.out | apply below_alloc | apply pw_below_drewN | apply below_drew1) | exact HB.out)⟩
                 ·replace c37 := Bool.eq_false_iff.mpr c37
                  subst c37
                  have H1 : (if 0 < (a0.size : Int) then (if (bt a0 0) = 45 then (some (wrap64 (-(wrap64 ((wrap64 ((wrap64 ((rd y199 0) * 3600)) + (wrap64 ((rd y199 1) * 60)))) + (rd y199 2)))), 0)) else (some ((wrap64 ((wrap64 ((wrap64 ((rd y199 0) * 3600)) + (wrap64 ((rd y199 1) * 60)))) + (rd y199 2))), 0))) else (none)) = some (r1, r2) := by rw [if_neg (show ¬ (false = true) by decide)] at H; exact H
                  clear H
                  have H := H1
                  clear H1
                  by_cases c38 : 0 < (a0.size : Int)
                  ·rw [if_pos c38] at H
                   have c38b0 : decide (0 < (a0.size : Int)) = true := decide_eq_true c38
                   have c38b1 : decide (0 < a0.size) = true := decide_eq_true (by omega)
                   clear c38
                   by_cases c40 : (bt a0 0) = 45
                   ·rw [if_pos c40] at H
                    have c40b0 : ((bt a0 0) == 45) = true := beq_iff_eq.mpr c40
                    have c40b1 : ((bt a0 0) != 45) = false := bne_eq_false_iff_eq.mpr c40
                    clear c40
                    simp only [Option.some.injEq, Prod.mk.injEq] at H
                    obtain ⟨rfl, rfl⟩ := H
                    have p39 : 0 ≤ (0 : Int) := (by omega)
                    have q39 : 0 < a0.size := (by have : (0 : Int) < (a0.size : Int) := of_decide_eq_true (by first | (with_reducible assumption) | assumption); omega)
                    have hx39 : ∀ h : 0 < a0.size, ((a0[0]'h).toNat : Int) = bt a0 0 := bt_at a0 0
                    clear p39
                    have qi39 : (0 < (a0.size : Int)) = True := eq_true (of_decide_eq_true (by first | (with_reducible assumption) | assumption))
                    replace q39 := eq_true q39
                    go_wp2
                    repeat (go_quiet (fail); try go_wp2)
                    go_ret2
                    exact ⟨by first | rfl | (simp [errW_none, errW_some] <;> rfl) | (simp [*, errW_none, errW_some] <;> rfl), by repeat (first | (with_reducible first | exact HB.out | apply below_alloc | apply pw_below_drewN | apply below_drew1) | exact HB.out)⟩
                   ·rw [if_neg c40] at H
                    have c40b0 : ((bt a0 0) == 45) = false := beq_eq_false_iff_ne.mpr c40
                    have c40b1 : ((bt a0 0) != 45) = true := bne_iff_ne.mpr c40
                    simp only [Option.some.injEq, Prod.mk.injEq] at H
                    obtain ⟨rfl, rfl⟩ := H
                    have p39 : 0 ≤ (0 : Int) := (by omega)
                    have q39 : 0 < a0.size := (by have : (0 : Int) < (a0.size : Int) := of_decide_eq_true (by first | (with_reducible assumption) | assumption); omega)
                    have hx39 : ∀ h : 0 < a0.size, ((a0[0]'h).toNat : Int) = bt a0 0 := bt_at a0 0
                    clear p39
                    have qi39 : (0 < (a0.size : Int)) = True := eq_true (of_decide_eq_true (by first | (with_reducible assumption) | assumption))
                    replace q39 := eq_true q39
                    go_wp2
                    repeat (go_quiet (fail); try go_wp2)
                    go_ret2
                    exact ⟨by first | rfl | (simp [errW_none, errW_some] <;> rfl) | (simp [*, errW_none, errW_some] <;> rfl), by repeat (first | (with_reducible first | exact HB.out | apply below_alloc | apply pw_below_drewN | apply below_drew1) | exact HB.out)⟩
                  ·rw [if_neg c38] at H
                   exact absurd H (by simp)
             ·rw [if_neg c27] at H
              exact absurd H (by simp)
            ·rw [if_neg c26] at H
             exact absurd H (by simp)
           ·rw [if_neg c25] at H
            exact absurd H (by simp)
          ·rw [if_neg c24] at H
           exact absurd H (by simp)
         ·replace c23 := Bool.eq_false_iff.mpr c23
          subst c23
          have H1 : (some (0, 19)) = some (r1, r2) := by rw [if_neg (show ¬ (false = true) by decide)] at H; exact H
          clear H
          have H := H1
          clear H1
          simp only [Option.some.injEq, Prod.mk.injEq] at H
          obtain ⟨rfl, rfl⟩ := H
          go_wp2
          repeat (go_quiet (fail); try go_wp2)
          go_ret2
          exact ⟨by first | rfl | (simp [errW_none, errW_some] <;> rfl) | (simp [*, errW_none, errW_some] <;> rfl), by repeat (first | (with_reducible first | exact HB.out | apply below_alloc | apply pw_below_drewN | apply below_drew1) | exact HB.out)⟩
     ·rw [if_neg c9] at H
      exact absurd H (by simp)
def solsticelaw20_wakes.f (k : Nat)  : Option (Bool) := (value_Time.f k 0 true).bind fun bt207 => ((value_ParseTime.f k (⟨#[49, 57, 55, 48, 48, 49, 48, 50, 84, 48, 48, 48, 48, 48, 49]⟩ : ByteArray)).bind fun bt209 => ((value_Offset.f k (-5400)).bind fun bt212 => ((value_ParseOffset.f k (⟨#[43, 48, 49, 51, 48]⟩ : ByteArray)).bind fun bt214 => ((value_ParseTime.f k (⟨#[49, 57, 55, 48, 48, 50, 51, 48, 84, 48, 48, 48, 48, 48, 48]⟩ : ByteArray)).bind fun bt216 => ((value_Times.f k (⟨#[49, 57, 55, 48, 48, 49, 48, 49, 84, 48, 48, 48, 48, 48, 48, 44, 49, 57, 55, 48, 48, 49, 48, 50, 84, 48, 48, 48, 48, 48, 48]⟩ : ByteArray)).bind fun bt219 => (if bt207.2 = 0 then (if bt207.1.toList = ([49, 57, 55, 48, 48, 49, 48, 49, 84, 48, 48, 48, 48, 48, 48, 90] : List UInt8) then (if bt209.2.2 = 0 then (if bt209.1 = 86401 then (if bt209.2.1 = true then (some false) else (if bt212.2 = 0 then (if bt212.1.toList = ([45, 48, 49, 51, 48] : List UInt8) then (if bt214.2 = 0 then (if bt214.1 = 5400 then (if bt216.2.2 = 19 then (if bt219.2.2 = 0 then ((solsticekeep_Ints.f k bt219.1 (([0, 86400] : List Int))).bind fun t227 => (some t227)) else (some false)) else (some false)) else (some false)) else (some false)) else (some false)) else (some false))) else (some false)) else (some false)) else (some false)) else (some false)))))))
theorem solsticelaw20_wakes.mono : ∀ k, LeO (solsticelaw20_wakes.f k ) (solsticelaw20_wakes.f (k + 1) ) := by
 intro  k
 unfold solsticelaw20_wakes.f
 repeat' first
   | (with_reducible exact solsticekeep_Ints.mono _ _ _)
   | (with_reducible exact value_Offset.mono _ _)
   | (with_reducible exact value_ParseOffset.mono _ _)
   | (with_reducible exact value_ParseTime.mono _ _)
   | (with_reducible exact value_Time.mono _ _ _)
   | (with_reducible exact value_Times.mono _ _)
   | (with_reducible exact LeO.refl _)
   | (with_reducible exact LeO.none _)
   | (with_reducible refine LeO.ite ?_ ?_)
   | (with_reducible refine LeO.bind ?_ (fun _ => ?_))
   | exact solsticekeep_Ints.mono _ _ _
   | exact value_Offset.mono _ _
   | exact value_ParseOffset.mono _ _
   | exact value_ParseTime.mono _ _
   | exact value_Time.mono _ _ _
   | exact value_Times.mono _ _
   | exact LeO.none _
   | refine LeO.ite ?_ ?_
   | refine LeO.bind ?_ (fun _ => ?_)
set_option maxHeartbeats 8000000 in
set_option maxRecDepth 100000 in
theorem solsticelaw20_wakes.calls (k : Nat)  (r : Bool) (htrue : r = true) (w : World) (hG : GP w) (h : solsticelaw20_wakes.f k  = some r) :
  Calls Tryd.prog 18 #[] w fun e w' => e = .returned (.bool r) ∧ Below w.heap.size w w' := by
 have HG := Aside0.mk hG
 clear hG
 have HB := Aside0.mk (Below.refl w.heap.size w)
 have H : ((value_Time.f k 0 true).bind fun bt207 => ((value_ParseTime.f k (⟨#[49, 57, 55, 48, 48, 49, 48, 50, 84, 48, 48, 48, 48, 48, 49]⟩ : ByteArray)).bind fun bt209 => ((value_Offset.f k (-5400)).bind fun bt212 => ((value_ParseOffset.f k (⟨#[43, 48, 49, 51, 48]⟩ : ByteArray)).bind fun bt214 => ((value_ParseTime.f k (⟨#[49, 57, 55, 48, 48, 50, 51, 48, 84, 48, 48, 48, 48, 48, 48]⟩ : ByteArray)).bind fun bt216 => ((value_Times.f k (⟨#[49, 57, 55, 48, 48, 49, 48, 49, 84, 48, 48, 48, 48, 48, 48, 44, 49, 57, 55, 48, 48, 49, 48, 50, 84, 48, 48, 48, 48, 48, 48]⟩ : ByteArray)).bind fun bt219 => (if bt207.2 = 0 then (if bt207.1.toList = ([49, 57, 55, 48, 48, 49, 48, 49, 84, 48, 48, 48, 48, 48, 48, 90] : List UInt8) then (if bt209.2.2 = 0 then (if bt209.1 = 86401 then (if bt209.2.1 = true then (some false) else (if bt212.2 = 0 then (if bt212.1.toList = ([45, 48, 49, 51, 48] : List UInt8) then (if bt214.2 = 0 then (if bt214.1 = 5400 then (if bt216.2.2 = 19 then (if bt219.2.2 = 0 then ((solsticekeep_Ints.f k bt219.1 (([0, 86400] : List Int))).bind fun t227 => (some t227)) else (some false)) else (some false)) else (some false)) else (some false)) else (some false)) else (some false))) else (some false)) else (some false)) else (some false)) else (some false)))))))) = some r := h
 clear h
 replace H := Option.bind_eq_some_iff.mp H
 obtain ⟨⟨t207, t208⟩, A10, H⟩ := H
 replace H : ((value_ParseTime.f k (⟨#[49, 57, 55, 48, 48, 49, 48, 50, 84, 48, 48, 48, 48, 48, 49]⟩ : ByteArray)).bind fun bt209 => ((value_Offset.f k (-5400)).bind fun bt212 => ((value_ParseOffset.f k (⟨#[43, 48, 49, 51, 48]⟩ : ByteArray)).bind fun bt214 => ((value_ParseTime.f k (⟨#[49, 57, 55, 48, 48, 50, 51, 48, 84, 48, 48, 48, 48, 48, 48]⟩ : ByteArray)).bind fun bt216 => ((value_Times.f k (⟨#[49, 57, 55, 48, 48, 49, 48, 49, 84, 48, 48, 48, 48, 48, 48, 44, 49, 57, 55, 48, 48, 49, 48, 50, 84, 48, 48, 48, 48, 48, 48]⟩ : ByteArray)).bind fun bt219 => (if t208 = 0 then (if t207.toList = ([49, 57, 55, 48, 48, 49, 48, 49, 84, 48, 48, 48, 48, 48, 48, 90] : List UInt8) then (if bt209.2.2 = 0 then (if bt209.1 = 86401 then (if bt209.2.1 = true then (some false) else (if bt212.2 = 0 then (if bt212.1.toList = ([45, 48, 49, 51, 48] : List UInt8) then (if bt214.2 = 0 then (if bt214.1 = 5400 then (if bt216.2.2 = 19 then (if bt219.2.2 = 0 then ((solsticekeep_Ints.f k bt219.1 (([0, 86400] : List Int))).bind fun t227 => (some t227)) else (some false)) else (some false)) else (some false)) else (some false)) else (some false)) else (some false))) else (some false)) else (some false)) else (some false)) else (some false))))))) = some r := H
 have A1 := Aside0.mk A10
 clear A10
 replace H := Option.bind_eq_some_iff.mp H
 obtain ⟨⟨t209, t210, t211⟩, A20, H⟩ := H
 replace H : ((value_Offset.f k (-5400)).bind fun bt212 => ((value_ParseOffset.f k (⟨#[43, 48, 49, 51, 48]⟩ : ByteArray)).bind fun bt214 => ((value_ParseTime.f k (⟨#[49, 57, 55, 48, 48, 50, 51, 48, 84, 48, 48, 48, 48, 48, 48]⟩ : ByteArray)).bind fun bt216 => ((value_Times.f k (⟨#[49, 57, 55, 48, 48, 49, 48, 49, 84, 48, 48, 48, 48, 48, 48, 44, 49, 57, 55, 48, 48, 49, 48, 50, 84, 48, 48, 48, 48, 48, 48]⟩ : ByteArray)).bind fun bt219 => (if t208 = 0 then (if t207.toList = ([49, 57, 55, 48, 48, 49, 48, 49, 84, 48, 48, 48, 48, 48, 48, 90] : List UInt8) then (if t211 = 0 then (if t209 = 86401 then (if t210 = true then (some false) else (if bt212.2 = 0 then (if bt212.1.toList = ([45, 48, 49, 51, 48] : List UInt8) then (if bt214.2 = 0 then (if bt214.1 = 5400 then (if bt216.2.2 = 19 then (if bt219.2.2 = 0 then ((solsticekeep_Ints.f k bt219.1 (([0, 86400] : List Int))).bind fun t227 => (some t227)) else (some false)) else (some false)) else (some false)) else (some false)) else (some false)) else (some false))) else (some false)) else (some false)) else (some false)) else (some false)))))) = some r := H
 have A2 := Aside0.mk A20
 clear A20
 replace H := Option.bind_eq_some_iff.mp H
 obtain ⟨⟨t212, t213⟩, A30, H⟩ := H
 replace H : ((value_ParseOffset.f k (⟨#[43, 48, 49, 51, 48]⟩ : ByteArray)).bind fun bt214 => ((value_ParseTime.f k (⟨#[49, 57, 55, 48, 48, 50, 51, 48, 84, 48, 48, 48, 48, 48, 48]⟩ : ByteArray)).bind fun bt216 => ((value_Times.f k (⟨#[49, 57, 55, 48, 48, 49, 48, 49, 84, 48, 48, 48, 48, 48, 48, 44, 49, 57, 55, 48, 48, 49, 48, 50, 84, 48, 48, 48, 48, 48, 48]⟩ : ByteArray)).bind fun bt219 => (if t208 = 0 then (if t207.toList = ([49, 57, 55, 48, 48, 49, 48, 49, 84, 48, 48, 48, 48, 48, 48, 90] : List UInt8) then (if t211 = 0 then (if t209 = 86401 then (if t210 = true then (some false) else (if t213 = 0 then (if t212.toList = ([45, 48, 49, 51, 48] : List UInt8) then (if bt214.2 = 0 then (if bt214.1 = 5400 then (if bt216.2.2 = 19 then (if bt219.2.2 = 0 then ((solsticekeep_Ints.f k bt219.1 (([0, 86400] : List Int))).bind fun t227 => (some t227)) else (some false)) else (some false)) else (some false)) else (some false)) else (some false)) else (some false))) else (some false)) else (some false)) else (some false)) else (some false))))) = some r := H
 have A3 := Aside0.mk A30
 clear A30
 replace H := Option.bind_eq_some_iff.mp H
 obtain ⟨⟨t214, t215⟩, A40, H⟩ := H
 replace H : ((value_ParseTime.f k (⟨#[49, 57, 55, 48, 48, 50, 51, 48, 84, 48, 48, 48, 48, 48, 48]⟩ : ByteArray)).bind fun bt216 => ((value_Times.f k (⟨#[49, 57, 55, 48, 48, 49, 48, 49, 84, 48, 48, 48, 48, 48, 48, 44, 49, 57, 55, 48, 48, 49, 48, 50, 84, 48, 48, 48, 48, 48, 48]⟩ : ByteArray)).bind fun bt219 => (if t208 = 0 then (if t207.toList = ([49, 57, 55, 48, 48, 49, 48, 49, 84, 48, 48, 48, 48, 48, 48, 90] : List UInt8) then (if t211 = 0 then (if t209 = 86401 then (if t210 = true then (some false) else (if t213 = 0 then (if t212.toList = ([45, 48, 49, 51, 48] : List UInt8) then (if t215 = 0 then (if t214 = 5400 then (if bt216.2.2 = 19 then (if bt219.2.2 = 0 then ((solsticekeep_Ints.f k bt219.1 (([0, 86400] : List Int))).bind fun t227 => (some t227)) else (some false)) else (some false)) else (some false)) else (some false)) else (some false)) else (some false))) else (some false)) else (some false)) else (some false)) else (some false)))) = some r := H
 have A4 := Aside0.mk A40
 clear A40
 replace H := Option.bind_eq_some_iff.mp H
 obtain ⟨⟨t216, t217, t218⟩, A50, H⟩ := H
 replace H : ((value_Times.f k (⟨#[49, 57, 55, 48, 48, 49, 48, 49, 84, 48, 48, 48, 48, 48, 48, 44, 49, 57, 55, 48, 48, 49, 48, 50, 84, 48, 48, 48, 48, 48, 48]⟩ : ByteArray)).bind fun bt219 => (if t208 = 0 then (if t207.toList = ([49, 57, 55, 48, 48, 49, 48, 49, 84, 48, 48, 48, 48, 48, 48, 90] : List UInt8) then (if t211 = 0 then (if t209 = 86401 then (if t210 = true then (some false) else (if t213 = 0 then (if t212.toList = ([45, 48, 49, 51, 48] : List UInt8) then (if t215 = 0 then (if t214 = 5400 then (if t218 = 19 then (if bt219.2.2 = 0 then ((solsticekeep_Ints.f k bt219.1 (([0, 86400] : List Int))).bind fun t227 => (some t227)) else (some false)) else (some false)) else (some false)) else (some false)) else (some false)) else (some false))) else (some false)) else (some false)) else (some false)) else (some false))) = some r := H
 have A5 := Aside0.mk A50
 clear A50
 replace H := Option.bind_eq_some_iff.mp H
 obtain ⟨⟨t219, t220, t221⟩, A60, H⟩ := H
 replace H : (if t208 = 0 then (if t207.toList = ([49, 57, 55, 48, 48, 49, 48, 49, 84, 48, 48, 48, 48, 48, 48, 90] : List UInt8) then (if t211 = 0 then (if t209 = 86401 then (if t210 = true then (some false) else (if t213 = 0 then (if t212.toList = ([45, 48, 49, 51, 48] : List UInt8) then (if t215 = 0 then (if t214 = 5400 then (if t218 = 19 then (if t221 = 0 then ((solsticekeep_Ints.f k t219 (([0, 86400] : List Int))).bind fun t227 => (some t227)) else (some false)) else (some false)) else (some false)) else (some false)) else (some false)) else (some false))) else (some false)) else (some false)) else (some false)) else (some false)) = some r := H
 have A6 := Aside0.mk A60
 clear A60
 by_cases c7 : t208 = 0
 ·rw [if_pos c7] at H
  have c7b0 : (t208 == 0) = true := beq_iff_eq.mpr c7
  have c7b1 : (t208 != 0) = false := bne_eq_false_iff_eq.mpr c7
  clear c7
  by_cases c8 : t207.toList = ([49, 57, 55, 48, 48, 49, 48, 49, 84, 48, 48, 48, 48, 48, 48, 90] : List UInt8)
  ·rw [if_pos c8] at H
   have c8b0 : (t207.toList == ([49, 57, 55, 48, 48, 49, 48, 49, 84, 48, 48, 48, 48, 48, 48, 90] : List UInt8)) = true := beq_iff_eq.mpr c8
   have c8b1 : (t207.toList != ([49, 57, 55, 48, 48, 49, 48, 49, 84, 48, 48, 48, 48, 48, 48, 90] : List UInt8)) = false := bne_eq_false_iff_eq.mpr c8
   clear c8
   by_cases c9 : t211 = 0
   ·rw [if_pos c9] at H
    have c9b0 : (t211 == 0) = true := beq_iff_eq.mpr c9
    have c9b1 : (t211 != 0) = false := bne_eq_false_iff_eq.mpr c9
    clear c9
    by_cases c10 : t209 = 86401
    ·rw [if_pos c10] at H
     have c10b0 : (t209 == 86401) = true := beq_iff_eq.mpr c10
     have c10b1 : (t209 != 86401) = false := bne_eq_false_iff_eq.mpr c10
     clear c10
     by_cases c11 : t210 = true
     ·subst c11
      have H1 : (some false) = some r := by rw [if_pos rfl] at H; exact H
      clear H
      have H := H1
      clear H1
      obtain rfl := Option.some.inj H
      cases htrue
     ·replace c11 := Bool.eq_false_iff.mpr c11
      subst c11
      have H1 : (if t213 = 0 then (if t212.toList = ([45, 48, 49, 51, 48] : List UInt8) then (if t215 = 0 then (if t214 = 5400 then (if t218 = 19 then (if t221 = 0 then ((solsticekeep_Ints.f k t219 (([0, 86400] : List Int))).bind fun t227 => (some t227)) else (some false)) else (some false)) else (some false)) else (some false)) else (some false)) else (some false)) = some r := by rw [if_neg (show ¬ (false = true) by decide)] at H; exact H
      clear H
      have H := H1
      clear H1
      by_cases c12 : t213 = 0
      ·rw [if_pos c12] at H
       have c12b0 : (t213 == 0) = true := beq_iff_eq.mpr c12
       have c12b1 : (t213 != 0) = false := bne_eq_false_iff_eq.mpr c12
       clear c12
       by_cases c13 : t212.toList = ([45, 48, 49, 51, 48] : List UInt8)
       ·rw [if_pos c13] at H
        have c13b0 : (t212.toList == ([45, 48, 49, 51, 48] : List UInt8)) = true := beq_iff_eq.mpr c13
        have c13b1 : (t212.toList != ([45, 48, 49, 51, 48] : List UInt8)) = false := bne_eq_false_iff_eq.mpr c13
        clear c13
        by_cases c14 : t215 = 0
        ·rw [if_pos c14] at H
         have c14b0 : (t215 == 0) = true := beq_iff_eq.mpr c14
         have c14b1 : (t215 != 0) = false := bne_eq_false_iff_eq.mpr c14
         clear c14
         by_cases c15 : t214 = 5400
         ·rw [if_pos c15] at H
          have c15b0 : (t214 == 5400) = true := beq_iff_eq.mpr c15
          have c15b1 : (t214 != 5400) = false := bne_eq_false_iff_eq.mpr c15
          clear c15
          by_cases c16 : t218 = 19
          ·rw [if_pos c16] at H
           have c16b0 : (t218 == 19) = true := beq_iff_eq.mpr c16
           have c16b1 : (t218 != 19) = false := bne_eq_false_iff_eq.mpr c16
           clear c16
           by_cases c17 : t221 = 0
           ·rw [if_pos c17] at H
            have c17b0 : (t221 == 0) = true := beq_iff_eq.mpr c17
            have c17b1 : (t221 != 0) = false := bne_eq_false_iff_eq.mpr c17
            clear c17
            obtain ⟨y224, hy224⟩ : ∃ y_ : List Int, y_ = (([0, 86400] : List Int)) := ⟨_, rfl⟩
            replace H : ((solsticekeep_Ints.f k t219 y224).bind fun t227 => (some t227)) = some r := by first | (rw [hy224]; with_reducible exact H) | (have H2_ := (Option.bind_some _ _).symm.trans H; rw [hy224]; with_reducible exact H2_) | (have H2_ := (Option.bind_some _ _).symm.trans H; with_reducible exact H2_) | with_reducible exact H | (rw [hy224]; exact H) | exact H
            have Ny224 := Aside0.mk hy224
            clear hy224
            replace H := Option.bind_eq_some_iff.mp H
            obtain ⟨t227, A180, H⟩ := H
            replace H : (some t227) = some r := H
            have A18 := Aside0.mk A180
            clear A180
            obtain rfl := Option.some.inj H
            go_enter Tryd.func18, Tryd.ntmps18
            go_wp2_with (first | ((with_reducible refine gate_callee (f := 7) rfl ?_); refine goesL_ (some 17) rfl rfl Tryd.func7 (by kernel_rfl) rfl #[.int .i64 0, .bool true] rfl (by (try simp only [List.map_toArray, List.map_cons, List.map_nil]); first | done | rfl | (simp only [List.length_drop, List.length_take]; rfl)) ?_; (with_reducible refine (value_Time.calls k 0 true t207 t208 _ ?sideG A1.out).mono ?_); (case sideG => first | exact GP_below HG.out (by repeat (first | (with_reducible first | exact HB.out | apply below_alloc | apply pw_below_drewN | apply below_drew1) | exact HB.out)) | repeat (first | exact HG.out | refine GP_alloc ?_ _ | refine GP_drewN ?_ _ | refine GP_drew ?_)); rintro e w19 ⟨rfl, hb⟩; refine ⟨_, rfl, ?_⟩; have n0_ := Aside0.mk (below_step (by repeat (first | (with_reducible first | exact HB.out | apply below_alloc | apply pw_below_drewN | apply below_drew1) | exact HB.out)) hb); clear HB; have HB := n0_; clear n0_; (try clear hb); (try clear hb2); (try clear hk); (try clear hi)) | ((with_reducible refine gate_callee (f := 8) rfl ?_); refine goesL_ (some 21) rfl rfl Tryd.func8 (by kernel_rfl) rfl #[.string (⟨#[49, 57, 55, 48, 48, 49, 48, 50, 84, 48, 48, 48, 48, 48, 49]⟩ : ByteArray)] rfl (by (try simp only [List.map_toArray, List.map_cons, List.map_nil]); first | done | rfl | (simp only [List.length_drop, List.length_take]; rfl)) ?_; (with_reducible refine (value_ParseTime.calls k (⟨#[49, 57, 55, 48, 48, 49, 48, 50, 84, 48, 48, 48, 48, 48, 49]⟩ : ByteArray) t209 false t211 _ A2.out).mono ?_); rintro e w20 ⟨rfl, hb⟩; refine ⟨_, rfl, ?_⟩; have n0_ := Aside0.mk (below_step (by repeat (first | (with_reducible first | exact HB.out | apply below_alloc | apply pw_below_drewN | apply below_drew1) | exact HB.out)) hb); clear HB; have HB := n0_; clear n0_; (try clear hb); (try clear hb2); (try clear hk); (try clear hi)) | ((with_reducible refine gate_callee (f := 9) rfl ?_); refine goesL_ (some 26) rfl rfl Tryd.func9 (by kernel_rfl) rfl #[.int .i64 (-5400)] rfl (by (try simp only [List.map_toArray, List.map_cons, List.map_nil]); first | done | rfl | (simp only [List.length_drop, List.length_take]; rfl)) ?_; (with_reducible refine (value_Offset.calls k (-5400) t212 t213 _ ?sideG A3.out).mono ?_); (case sideG => first | exact GP_below HG.out (by repeat (first | (with_reducible first | exact HB.out | apply below_alloc | apply pw_below_drewN | apply below_drew1) | exact HB.out)) | repeat (first | exact HG.out | refine GP_alloc ?_ _ | refine GP_drewN ?_ _ | refine GP_drew ?_)); rintro e w21 ⟨rfl, hb⟩; refine ⟨_, rfl, ?_⟩; have n0_ := Aside0.mk (below_step (by repeat (first | (with_reducible first | exact HB.out | apply below_alloc | apply pw_below_drewN | apply below_drew1) | exact HB.out)) hb); clear HB; have HB := n0_; clear n0_; (try clear hb); (try clear hb2); (try clear hk); (try clear hi)) | ((with_reducible refine gate_callee (f := 10) rfl ?_); refine goesL_ (some 30) rfl rfl Tryd.func10 (by kernel_rfl) rfl #[.string (⟨#[43, 48, 49, 51, 48]⟩ : ByteArray)] rfl (by (try simp only [List.map_toArray, List.map_cons, List.map_nil]); first | done | rfl | (simp only [List.length_drop, List.length_take]; rfl)) ?_; (with_reducible refine (value_ParseOffset.calls k (⟨#[43, 48, 49, 51, 48]⟩ : ByteArray) t214 t215 _ A4.out).mono ?_); rintro e w22 ⟨rfl, hb⟩; refine ⟨_, rfl, ?_⟩; have n0_ := Aside0.mk (below_step (by repeat (first | (with_reducible first | exact HB.out | apply below_alloc | apply pw_below_drewN | apply below_drew1) | exact HB.out)) hb); clear HB; have HB := n0_; clear n0_; (try clear hb); (try clear hb2); (try clear hk); (try clear hi)) | ((with_reducible refine gate_callee (f := 8) rfl ?_); refine goesL_ (some 34) rfl rfl Tryd.func8 (by kernel_rfl) rfl #[.string (⟨#[49, 57, 55, 48, 48, 50, 51, 48, 84, 48, 48, 48, 48, 48, 48]⟩ : ByteArray)] rfl (by (try simp only [List.map_toArray, List.map_cons, List.map_nil]); first | done | rfl | (simp only [List.length_drop, List.length_take]; rfl)) ?_; (with_reducible refine (value_ParseTime.calls k (⟨#[49, 57, 55, 48, 48, 50, 51, 48, 84, 48, 48, 48, 48, 48, 48]⟩ : ByteArray) t216 t217 t218 _ A5.out).mono ?_); rintro e w23 ⟨rfl, hb⟩; refine ⟨_, rfl, ?_⟩; have n0_ := Aside0.mk (below_step (by repeat (first | (with_reducible first | exact HB.out | apply below_alloc | apply pw_below_drewN | apply below_drew1) | exact HB.out)) hb); clear HB; have HB := n0_; clear n0_; (try clear hb); (try clear hb2); (try clear hk); (try clear hi)) | ((with_reducible refine gate_callee (f := 11) rfl ?_); refine goesL_ (some 39) rfl rfl Tryd.func11 (by kernel_rfl) rfl #[.string (⟨#[49, 57, 55, 48, 48, 49, 48, 49, 84, 48, 48, 48, 48, 48, 48, 44, 49, 57, 55, 48, 48, 49, 48, 50, 84, 48, 48, 48, 48, 48, 48]⟩ : ByteArray)] rfl (by (try simp only [List.map_toArray, List.map_cons, List.map_nil]); first | done | rfl | (simp only [List.length_drop, List.length_take]; rfl)) ?_; (with_reducible refine (value_Times.calls k (⟨#[49, 57, 55, 48, 48, 49, 48, 49, 84, 48, 48, 48, 48, 48, 48, 44, 49, 57, 55, 48, 48, 49, 48, 50, 84, 48, 48, 48, 48, 48, 48]⟩ : ByteArray) t219 t220 t221 _ ?sideG A6.out).mono ?_); (case sideG => first | exact GP_below HG.out (by repeat (first | (with_reducible first | exact HB.out | apply below_alloc | apply pw_below_drewN | apply below_drew1) | exact HB.out)) | repeat (first | exact HG.out | refine GP_alloc ?_ _ | refine GP_drewN ?_ _ | refine GP_drew ?_)); rintro e w24 ⟨v222, rfl, ho0, hb⟩; refine ⟨_, rfl, ?_⟩; have n0_ := Aside0.mk (Kd.R_lower ho0 (below_size (by repeat (first | (with_reducible first | exact HB.out | apply below_alloc | apply pw_below_drewN | apply below_drew1) | exact HB.out)))); have n1_ := Aside0.mk (below_step (by repeat (first | (with_reducible first | exact HB.out | apply below_alloc | apply pw_below_drewN | apply below_drew1) | exact HB.out)) hb); clear HB; have HO223 := n0_; have HB := n1_; clear n0_ n1_; (try clear hb); (try clear hb2); (try clear hk); (try clear hi); (try clear ho0)) | ((with_reducible refine gate_dst (N := 87) rfl ?_); (try (refine gate_guard (by rfl) ?_; dsimp only)); refine Kd.R_lit (Kd.int .i64) _ 3 ?hg (N := 87) ?hd (xs := ([0, 86400] : List Int)) (inner := [.int .i64 0, .int .i64 86400]) (ok := fun _ => True) (okp := fun _ => True) ?hr ?hp (fun _ hk => hk) trivial (Below.refl _ _) (Nat.le_refl _) (by simp) ?_; (case hd => rfl); (case hg => rfl); (case hr => first | (go_simp; done) | (go_simp; rfl)); (case hp => exact (Reps.one (show Kd.M (Kd.int .i64) _ _ _ 0 [.int .i64 0] from rfl) (Reps.one (show Kd.M (Kd.int .i64) _ _ _ 86400 [.int .i64 86400] from rfl) (Reps.none _ _)))); intro v225 w25 ho26 hb hg_ hnew_; clear hg_ hnew_; (first | rw [← Ny224.out] at ho26 | (simp only [Int.reduceToNat] at ho26; rw [← Ny224.out] at ho26)); have n0_ := Aside0.mk (Kd.R_elder' (by (with_reducible repeat (first | apply Kd.R_alloc | apply Kd.R_drewN | apply Kd.R_drew)); exact HO223.out) (Kd.R_base ho26) hb); have n1_ := Aside0.mk (Kd.R_lower (Kd.R_new' ho26 (Kd.R_lt (by (with_reducible repeat (first | apply Kd.R_alloc | apply Kd.R_drewN | apply Kd.R_drew)); exact HO223.out))) (below_size (by repeat (first | (with_reducible first | exact HB.out | apply below_alloc | apply pw_below_drewN | apply below_drew1) | exact HB.out)))); have n2_ := Aside0.mk (below_step (by repeat (first | (with_reducible first | exact HB.out | apply below_alloc | apply pw_below_drewN | apply below_drew1) | exact HB.out)) hb); clear HO223; clear HB; have HO223 := n0_; have HO226 := n1_; have HB := n2_; clear n0_ n1_ n2_; clear hb ho26; obtain ⟨Ao27, co27, eo27⟩ := Kd.R_slice HO223.out; subst eo27; obtain ⟨Ao28, co28, eo28⟩ := Kd.R_slice HO226.out; subst eo28) | (go_at_call 15; (with_reducible refine (solsticekeep_Ints.calls k _ _ t219 _ _ y224 t227 _ ?side1 ?side2 ?side3 ?side4 A18.out).mono ?_); (case side1 => repeat (first | exact (Kd.R_reads' HO223.out).2.2 | (with_reducible refine Kd.C_alloc ?_ _) | (with_reducible refine Kd.C_drewN ?_ _) | (with_reducible refine Kd.C_drew ?_))); (case side2 => exact (Kd.R_reads' HO223.out).2.1); (case side3 => repeat (first | exact (Kd.R_reads' HO226.out).2.2 | (with_reducible refine Kd.C_alloc ?_ _) | (with_reducible refine Kd.C_drewN ?_ _) | (with_reducible refine Kd.C_drew ?_))); (case side4 => exact (Kd.R_reads' HO226.out).2.1); rintro e w' ⟨rfl, ⟨nd, rfl⟩⟩))
            go_ret
            exact ⟨by first | rfl | (simp [errW_none, errW_some] <;> rfl) | (simp [*, errW_none, errW_some] <;> rfl), by repeat (first | (with_reducible first | exact HB.out | apply below_alloc | apply pw_below_drewN | apply below_drew1) | exact HB.out)⟩
           ·rw [if_neg c17] at H
            have c17b0 : (t221 == 0) = false := beq_eq_false_iff_ne.mpr c17
            have c17b1 : (t221 != 0) = true := bne_iff_ne.mpr c17
            obtain rfl := Option.some.inj H
            cases htrue
          ·rw [if_neg c16] at H
           have c16b0 : (t218 == 19) = false := beq_eq_false_iff_ne.mpr c16
           have c16b1 : (t218 != 19) = true := bne_iff_ne.mpr c16
           obtain rfl := Option.some.inj H
           cases htrue
         ·rw [if_neg c15] at H
          have c15b0 : (t214 == 5400) = false := beq_eq_false_iff_ne.mpr c15
          have c15b1 : (t214 != 5400) = true := bne_iff_ne.mpr c15
          obtain rfl := Option.some.inj H
          cases htrue
        ·rw [if_neg c14] at H
         have c14b0 : (t215 == 0) = false := beq_eq_false_iff_ne.mpr c14
         have c14b1 : (t215 != 0) = true := bne_iff_ne.mpr c14
         obtain rfl := Option.some.inj H
         cases htrue
       ·rw [if_neg c13] at H
        have c13b0 : (t212.toList == ([45, 48, 49, 51, 48] : List UInt8)) = false := beq_eq_false_iff_ne.mpr c13
        have c13b1 : (t212.toList != ([45, 48, 49, 51, 48] : List UInt8)) = true := bne_iff_ne.mpr c13
        obtain rfl := Option.some.inj H
        cases htrue
      ·rw [if_neg c12] at H
       have c12b0 : (t213 == 0) = false := beq_eq_false_iff_ne.mpr c12
       have c12b1 : (t213 != 0) = true := bne_iff_ne.mpr c12
       obtain rfl := Option.some.inj H
       cases htrue
    ·rw [if_neg c10] at H
     have c10b0 : (t209 == 86401) = false := beq_eq_false_iff_ne.mpr c10
     have c10b1 : (t209 != 86401) = true := bne_iff_ne.mpr c10
     obtain rfl := Option.some.inj H
     cases htrue
   ·rw [if_neg c9] at H
    have c9b0 : (t211 == 0) = false := beq_eq_false_iff_ne.mpr c9
    have c9b1 : (t211 != 0) = true := bne_iff_ne.mpr c9
    obtain rfl := Option.some.inj H
    cases htrue
  ·rw [if_neg c8] at H
   have c8b0 : (t207.toList == ([49, 57, 55, 48, 48, 49, 48, 49, 84, 48, 48, 48, 48, 48, 48, 90] : List UInt8)) = false := beq_eq_false_iff_ne.mpr c8
   have c8b1 : (t207.toList != ([49, 57, 55, 48, 48, 49, 48, 49, 84, 48, 48, 48, 48, 48, 48, 90] : List UInt8)) = true := bne_iff_ne.mpr c8
   obtain rfl := Option.some.inj H
   cases htrue
 ·rw [if_neg c7] at H
  have c7b0 : (t208 == 0) = false := beq_eq_false_iff_ne.mpr c7
  have c7b1 : (t208 != 0) = true := bne_iff_ne.mpr c7
  obtain rfl := Option.some.inj H
  cases htrue
end Go.Proofs.YtligbecmbefclaaDoor.PVls