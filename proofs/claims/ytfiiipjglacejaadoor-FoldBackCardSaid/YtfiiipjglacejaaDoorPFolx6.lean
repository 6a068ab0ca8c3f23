-- Printed by a program of this session's over the kit's printer; library functions by contracts off the shelf.
import Derived.Test.YtfiiipjglacejaaDoorGP
import Derived.Test.YtfiiipjglacejaaDoorPFolx0
import Derived.Test.YtfiiipjglacejaaDoorPFolx1
import Derived.Test.YtfiiipjglacejaaDoorPFolx2
import Derived.Test.YtfiiipjglacejaaDoorPFolx3
import Derived.Test.YtfiiipjglacejaaDoorPFolx4
namespace Go.Proofs.YtfiiipjglacejaaDoor.PFol
open Go.RowKit Go.Proofs.YtfiiipjglacejaaDoorW.PrintWords Go.Proofs.YtfiiipjglacejaaDoorW.PrintLast Go.Proofs.YtfiiipjglacejaaDoorW.PrintMore Go.Proofs.YtfiiipjglacejaaDoor.Base
attribute [local go_sem] max2_int min2_int max_two min_two max_three min_three max_four min_four   -- for this text's walks alone
set_option linter.unusedVariables false
set_option linter.unusedSimpArgs false
mutual
def solsticelaw16_FoldBack.l0 : Nat → List ByteArray → ByteArray → Int → Option (Bool)
 | 0, _, _, _ => none
 | k + 1, x0, x3, x4 => if x4 < (x0.length : Int) then (if 0 ≤ x4 then (if ((rdOf ByteArray.empty x0 x4).size : Int) > 500 then (solsticelaw16_FoldBack.j1 k x0 x3 x4 true) else (solsticelaw16_FoldBack.j1 k x0 x3 x4 (((rdOf ByteArray.empty x0 x4).size : Int) == 0))) else (none)) else (solsticelaw16_FoldBack.l1 k x0 x3 0)
def solsticelaw16_FoldBack.j1 : Nat → List ByteArray → ByteArray → Int → Bool → Option (Bool)
 | 0, _, _, _, _ => none
 | k + 1, x0, x3, x4, x32 => if x32 = true then (some true) else (if 0 ≤ x4 then (if x4 < (x0.length : Int) then ((fold_Line.f k (rdOf ByteArray.empty x0 x4)).bind fun bt197 => (if bt197.2 = 0 then (if x3.size + bt197.1.size ≤ 9223372036854775807 then (solsticelaw16_FoldBack.l0 k x0 (x3 ++ bt197.1) (wrap64 (x4 + 1))) else (none)) else (if bt197.1.toList = ([] : List UInt8) then ((solsticelaw16_wakes.f k).bind fun t199 => (some t199)) else (some false)))) else (none)) else (none))
def solsticelaw16_FoldBack.l1 : Nat → List ByteArray → ByteArray → Int → Option (Bool)
 | 0, _, _, _ => none
 | k + 1, x0, x3, x7 => if x7 < (x0.length : Int) then (if 0 ≤ x7 then (if 0 < ((rdOf ByteArray.empty x0 x7).size : Int) then (if (bt (rdOf ByteArray.empty x0 x7) 0) = 32 then ((solsticelaw16_wakes.f k).bind fun t201 => (some t201)) else (if (bt (rdOf ByteArray.empty x0 x7) 0) = 9 then ((solsticelaw16_wakes.f k).bind fun t203 => (some t203)) else (solsticelaw16_FoldBack.l1 k x0 x3 (wrap64 (x7 + 1))))) else (none)) else (none)) else ((fold_Unfold.f k x3).bind fun bt204 => (if bt204.2 = 0 then ((solsticekeep_Texts.f k bt204.1 x0).bind fun t208 => (if t208 = true then ((solsticelaw16_wakes.f k).bind fun t209 => (some t209)) else (some false))) else (some false)))
end
def solsticelaw16_FoldBack.f (k : Nat) (l0 : List ByteArray) : Option (Bool) := if (l0.length : Int) > 20 then (some true) else (solsticelaw16_FoldBack.l0 k l0 (⟨#[]⟩ : ByteArray) 0)
theorem solsticelaw16_FoldBack.mono_l : ∀ k, (∀ y0 y1 y2, LeO (solsticelaw16_FoldBack.l0 k y0 y1 y2) (solsticelaw16_FoldBack.l0 (k + 1) y0 y1 y2)) ∧ (∀ y0 y1 y2 y3, LeO (solsticelaw16_FoldBack.j1 k y0 y1 y2 y3) (solsticelaw16_FoldBack.j1 (k + 1) y0 y1 y2 y3)) ∧ (∀ y0 y1 y2, LeO (solsticelaw16_FoldBack.l1 k y0 y1 y2) (solsticelaw16_FoldBack.l1 (k + 1) y0 y1 y2))
 | 0 => ⟨fun _ _ _ r h => by simp [solsticelaw16_FoldBack.l0] at h, fun _ _ _ _ r h => by simp [solsticelaw16_FoldBack.j1] at h, fun _ _ _ r h => by simp [solsticelaw16_FoldBack.l1] at h⟩
 | k + 1 => by
  obtain ⟨ih0, ih1, ih2⟩ := solsticelaw16_FoldBack.mono_l k
  refine ⟨?_, ?_, ?_⟩
  ·intro y0 y1 y2
   unfold solsticelaw16_FoldBack.l0
   repeat' first
   | (with_reducible exact ih0 _ _ _)
   | (with_reducible exact ih1 _ _ _ _)
   | (with_reducible exact ih2 _ _ _)
   | (with_reducible exact fold_Line.mono _ _)
   | (with_reducible exact fold_Unfold.mono _ _)
   | (with_reducible exact solsticekeep_Texts.mono _ _ _)
   | (with_reducible exact solsticelaw16_wakes.mono _)
   | (with_reducible exact LeO.refl _)
   | (with_reducible exact LeO.none _)
   | (with_reducible refine LeO.ite ?_ ?_)
   | (with_reducible refine LeO.bind ?_ (fun _ => ?_))
   | exact ih0 _ _ _
   | exact ih1 _ _ _ _
   | exact ih2 _ _ _
   | exact fold_Line.mono _ _
   | exact fold_Unfold.mono _ _
   | exact solsticekeep_Texts.mono _ _ _
   | exact solsticelaw16_wakes.mono _
   | exact LeO.none _
   | refine LeO.ite ?_ ?_
   | refine LeO.bind ?_ (fun _ => ?_)
  ·intro y0 y1 y2 y3
   unfold solsticelaw16_FoldBack.j1
   repeat' first
   | (with_reducible exact ih0 _ _ _)
   | (with_reducible exact ih1 _ _ _ _)
   | (with_reducible exact ih2 _ _ _)
   | (with_reducible exact fold_Line.mono _ _)
   | (with_reducible exact fold_Unfold.mono _ _)
   | (with_reducible exact solsticekeep_Texts.mono _ _ _)
   | (with_reducible exact solsticelaw16_wakes.mono _)
   | (with_reducible exact LeO.refl _)
   | (with_reducible exact LeO.none _)
   | (with_reducible refine LeO.ite ?_ ?_)
   | (with_reducible refine LeO.bind ?_ (fun _ => ?_))
   | exact ih0 _ _ _
   | exact ih1 _ _ _ _
   | exact ih2 _ _ _
   | exact fold_Line.mono _ _
   | exact fold_Unfold.mono _ _
   | exact solsticekeep_Texts.mono _ _ _
   | exact solsticelaw16_wakes.mono _
   | exact LeO.none _
   | refine LeO.ite ?_ ?_
   | refine LeO.bind ?_ (fun _ => ?_)
  ·intro y0 y1 y2
   unfold solsticelaw16_FoldBack.l1
   repeat' first
   | (with_reducible exact ih0 _ _ _)
   | (with_reducible exact ih1 _ _ _ _)
   | (with_reducible exact ih2 _ _ _)
   | (with_reducible exact fold_Line.mono _ _)
   | (with_reducible exact fold_Unfold.mono _ _)
   | (with_reducible exact solsticekeep_Texts.mono _ _ _)
   | (with_reducible exact solsticelaw16_wakes.mono _)
   | (with_reducible exact LeO.refl _)
   | (with_reducible exact LeO.none _)
   | (with_reducible refine LeO.ite ?_ ?_)
   | (with_reducible refine LeO.bind ?_ (fun _ => ?_))
   | exact ih0 _ _ _
   | exact ih1 _ _ _ _
   | exact ih2 _ _ _
   | exact fold_Line.mono _ _
   | exact fold_Unfold.mono _ _
   | exact solsticekeep_Texts.mono _ _ _
   | exact solsticelaw16_wakes.mono _
   | exact LeO.none _
   | refine LeO.ite ?_ ?_
   | refine LeO.bind ?_ (fun _ => ?_)
theorem solsticelaw16_FoldBack.mono : ∀ a0 k, LeO (solsticelaw16_FoldBack.f k a0) (solsticelaw16_FoldBack.f (k + 1) a0) := by
 intro a0 k
 obtain ⟨ih0, ih1, ih2⟩ := solsticelaw16_FoldBack.mono_l k
 unfold solsticelaw16_FoldBack.f
 repeat' first
   | (with_reducible exact ih0 _ _ _)
   | (with_reducible exact ih1 _ _ _ _)
   | (with_reducible exact ih2 _ _ _)
   | (with_reducible exact fold_Line.mono _ _)
   | (with_reducible exact fold_Unfold.mono _ _)
   | (with_reducible exact solsticekeep_Texts.mono _ _ _)
   | (with_reducible exact solsticelaw16_wakes.mono _)
   | (with_reducible exact LeO.refl _)
   | (with_reducible exact LeO.none _)
   | (with_reducible refine LeO.ite ?_ ?_)
   | (with_reducible refine LeO.bind ?_ (fun _ => ?_))
   | exact ih0 _ _ _
   | exact ih1 _ _ _ _
   | exact ih2 _ _ _
   | exact fold_Line.mono _ _
   | exact fold_Unfold.mono _ _
   | exact solsticekeep_Texts.mono _ _ _
   | exact solsticelaw16_wakes.mono _
   | exact LeO.none _
   | refine LeO.ite ?_ ?_
   | refine LeO.bind ?_ (fun _ => ?_)
set_option maxHeartbeats 8000000 in
set_option maxRecDepth 100000 in
theorem solsticelaw16_FoldBack.calls (k : Nat) (A0 : Option Addr) (c0 : Nat) (l0 : List ByteArray) (r : Bool) (w : World) (hr0 : Kd.C Kd.string w A0 l0.length l0) (hc0 : l0.length ≤ c0) (hG : GP w) (h : solsticelaw16_FoldBack.f k l0 = some r) :
  Calls Tryd.prog 4 #[.slice A0 l0.length c0] w fun e w' => e = .returned (.bool r) ∧ Below w.heap.size w w' := by
 have HG := Aside0.mk hG
 clear hG
 have HR0 := Aside0.mk hr0
 have HC0 := Aside0.mk hc0
 clear hr0 hc0
 have HB := Aside0.mk (Below.refl w.heap.size w)
 have H : (if (l0.length : Int) > 20 then (some true) else (solsticelaw16_FoldBack.l0 k l0 (⟨#[]⟩ : ByteArray) 0)) = some r := h
 clear h
 by_cases c2 : (l0.length : Int) > 20
 ·rw [if_pos c2] at H
  have c2b0 : decide (20 < (l0.length : Int)) = true := decide_eq_true c2
  have c2b1 : decide (20 < l0.length) = true := decide_eq_true (by omega)
  clear c2
  obtain rfl := Option.some.inj H
  go_enter Tryd.func4, Tryd.ntmps4
  go_wp2
  go_ret
  exact ⟨by first | rfl | (simp [errW_none, errW_some] <;> rfl) | (simp [*, errW_none, errW_some] <;> rfl), by repeat (first | (with_reducible first | exact HB.out | apply below_alloc | apply pw_below_drewN | apply below_drew1) | exact HB.out)⟩
 ·rw [if_neg c2] at H
  have c2b0 : decide (20 < (l0.length : Int)) = false := decide_eq_false c2
  have c2b1 : decide (20 < l0.length) = false := decide_eq_false (by omega)
  clear c2
  have H' := Aside0.mk H
  clear H
  go_enter Tryd.func4, Tryd.ntmps4
  go_wp2
  go_loopg [3, 4] k (fun kq v3 v4 w' => ∃ (x3_1 : ByteArray) (x4_1 : Int), v3 = .string x3_1 ∧ v4 = .int .i64 x4_1 ∧ Aside0 (solsticelaw16_FoldBack.l0 kq l0 x3_1 x4_1 = some r) ∧ Aside0 (kq ≤ k) ∧ Aside0 (Below w.heap.size w w'))
  case atStart => exact ⟨((⟨#[]⟩ : ByteArray)), (0), (by first | rfl | (simp; done) | (simp [*]; done)), (by first | rfl | (simp; done) | (simp [*]; done)), H', ⟨Nat.le_refl _⟩, ⟨by repeat (first | (with_reducible first | exact HB.out | apply below_alloc | apply pw_below_drewN | apply below_drew1) | exact HB.out)⟩⟩
  case round =>
   as_aux_lemma =>
    clear H'
    try clear c2
    try clear c2b0
    try clear c2b1
    try clear p2
    obtain ⟨x3_1, x4_1, rfl, rfl, HA, HK1, HB⟩ := hrel
    cases gk with
    | zero => exact absurd HA.out (by simp [solsticelaw16_FoldBack.l0])
    | succ k1 =>
     have H := HA.out
     clear HA
     simp only [solsticelaw16_FoldBack.l0] at H
     by_cases c3 : x4_1 < (l0.length : Int)
     ·rw [if_pos c3] at H
      have c3b0 : decide (x4_1 < (l0.length : Int)) = true := decide_eq_true c3
      clear c3
      have HC4 := Aside0.mk H
      clear H
      go_upto_region 7 with (fail)
      go_cut [32] (fun v32 wc => ∃ (kq : Nat) (x32_3 : Bool), v32 = .bool x32_3 ∧ Aside0 (solsticelaw16_FoldBack.j1 kq l0 x3_1 x4_1 x32_3 = some r) ∧ Aside0 (kq ≤ k1) ∧ Aside0 (Below w.heap.size w wc))
      case first =>
       have H := HC4.out
       clear HC4
       by_cases c5 : 0 ≤ x4_1
       ·rw [if_pos c5] at H
        have c5b0 : decide (0 ≤ x4_1) = true := decide_eq_true c5
        clear c5
        (first | rw [c5b0] | (simp only [i64_w, i32_w]; rw [c5b0]) | skip)
        by_cases c6 : ((rdOf ByteArray.empty l0 x4_1).size : Int) > 500
        ·rw [if_pos c6] at H
         have c6b0 : decide (500 < ((rdOf ByteArray.empty l0 x4_1).size : Int)) = true := decide_eq_true c6
         have c6b1 : decide (500 < (rdOf ByteArray.empty l0 x4_1).size) = true := decide_eq_true (by omega)
         clear c6
         have H' := Aside0.mk H
         clear H
         have p194 : 0 ≤ (x4_1 : Int) := of_decide_eq_true (by first | (with_reducible assumption) | assumption)
         have q194 : x4_1 < (l0.length : Int) := of_decide_eq_true (by first | (with_reducible assumption) | assumption)
         obtain ⟨ad194, e194, hx194_0⟩ := Kd.at_string HR0.out x4_1 p194 q194
         cases e194
         replace hx194_0 := (HB.out.cell (World.block_lt_of_cell? w _ hx194_0)).trans hx194_0
         replace p194 := eq_true p194
         replace q194 := eq_true q194
         go_wp2
         go_meet
         case rel => exact ⟨_, (true), (by first | rfl | (simp; done) | (simp [*]; done)), H', ⟨by have := HK1.out; first | omega | exact Nat.le_refl _⟩, ⟨by repeat (first | (with_reducible first | exact HB.out | apply below_alloc | apply pw_below_drewN | apply below_drew1) | exact HB.out)⟩⟩
        ·rw [if_neg c6] at H
         have c6b0 : decide (500 < ((rdOf ByteArray.empty l0 x4_1).size : Int)) = false := decide_eq_false c6
         have c6b1 : decide (500 < (rdOf ByteArray.empty l0 x4_1).size) = false := decide_eq_false (by omega)
         clear c6
         have H' := Aside0.mk H
         clear H
         have p194 : 0 ≤ (x4_1 : Int) := of_decide_eq_true (by first | (with_reducible assumption) | assumption)
         have q194 : x4_1 < (l0.length : Int) := of_decide_eq_true (by first | (with_reducible assumption) | assumption)
         obtain ⟨ad194, e194, hx194_0⟩ := Kd.at_string HR0.out x4_1 p194 q194
         cases e194
         replace hx194_0 := (HB.out.cell (World.block_lt_of_cell? w _ hx194_0)).trans hx194_0
         replace p194 := eq_true p194
         replace q194 := eq_true q194
         have p195 : 0 ≤ (x4_1 : Int) := of_decide_eq_true (by first | (with_reducible assumption) | assumption)
         have q195 : x4_1 < (l0.length : Int) := of_decide_eq_true (by first | (with_reducible assumption) | assumption)
         obtain ⟨ad195, e195, hx195_0⟩ := Kd.at_string HR0.out x4_1 p195 q195
         obtain rfl : ad194 = ad195 := (by injection e195)
         replace hx195_0 := (HB.out.cell (World.block_lt_of_cell? w _ hx195_0)).trans hx195_0
         replace p195 := eq_true p195
         replace q195 := eq_true q195
         go_wp2
         go_meet
         case rel => exact ⟨_, ((((rdOf ByteArray.empty l0 x4_1).size : Int) == 0)), (by first | rfl | (simp; done) | (simp [*]; done)), H', ⟨by have := HK1.out; first | omega | exact Nat.le_refl _⟩, ⟨by repeat (first | (with_reducible first | exact HB.out | apply below_alloc | apply pw_below_drewN | apply below_drew1) | exact HB.out)⟩⟩
       ·rw [if_neg c5] at H
        exact absurd H (by simp)
      case rest =>
       as_aux_lemma =>
        clear HC4
        try clear p1
        try clear q1
        try clear hx1
        try clear c2
        try clear c2b0
        try clear c2b1
        try clear p2
        try clear c3
        try clear c3b0
        try clear c4
        try clear c5
        try clear c5b0
        try clear c6
        try clear c6b0
        try clear c6b1
        try clear hx194_0
        try clear hx195_0
        try clear p194
        try clear p195
        try clear p2
        try clear q194
        try clear q195
        obtain ⟨kq, x32_3, rfl, HA, HJ3, HB⟩ := hcut
        cases kq with
        | zero => exact absurd HA.out (by simp [solsticelaw16_FoldBack.j1])
        | succ kj3 =>
         have H := HA.out
         clear HA
         simp only [solsticelaw16_FoldBack.j1] at H
         by_cases c7 : x32_3 = true
         ·subst c7
          have H1 : (some true) = some r := by rw [if_pos rfl] at H; exact H
          clear H
          have H := H1
          clear H1
          obtain rfl := Option.some.inj H
          go_wp2
          go_ret
          exact ⟨by first | rfl | (simp [errW_none, errW_some] <;> rfl) | (simp [*, errW_none, errW_some] <;> rfl), by repeat (first | (with_reducible first | exact HB.out | apply below_alloc | apply pw_below_drewN | apply below_drew1) | exact HB.out)⟩
         ·replace c7 := Bool.eq_false_iff.mpr c7
          subst c7
          have H1 : (if 0 ≤ x4_1 then (if x4_1 < (l0.length : Int) then ((fold_Line.f kj3 (rdOf ByteArray.empty l0 x4_1)).bind fun bt197 => (if bt197.2 = 0 then (if x3_1.size + bt197.1.size ≤ 9223372036854775807 then (solsticelaw16_FoldBack.l0 kj3 l0 (x3_1 ++ bt197.1) (wrap64 (x4_1 + 1))) else (none)) else (if bt197.1.toList = ([] : List UInt8) then ((solsticelaw16_wakes.f kj3).bind fun t199 => (some t199)) else (some false)))) else (none)) else (none)) = some r := by rw [if_neg (show ¬ (false = true) by decide)] at H; exact H
          clear H
          have H := H1
          clear H1
          by_cases c8 : 0 ≤ x4_1
          ·rw [if_pos c8] at H
           have c8b0 : decide (0 ≤ x4_1) = true := decide_eq_true c8
           clear c8
           by_cases c9 : x4_1 < (l0.length : Int)
           ·rw [if_pos c9] at H
            have c9b0 : decide (x4_1 < (l0.length : Int)) = true := decide_eq_true c9
            clear c9
            replace H := Option.bind_eq_some_iff.mp H
            obtain ⟨⟨t197, t198⟩, A100, H⟩ := H
            replace H : (if t198 = 0 then (if x3_1.size + t197.size ≤ 9223372036854775807 then (solsticelaw16_FoldBack.l0 kj3 l0 (x3_1 ++ t197) (wrap64 (x4_1 + 1))) else (none)) else (if t197.toList = ([] : List UInt8) then ((solsticelaw16_wakes.f kj3).bind fun t199 => (some t199)) else (some false))) = some r := H
            have A10 := Aside0.mk A100
            clear A100
            by_cases c11 : t198 = 0
            ·rw [if_pos c11] at H
             have c11b0 : (t198 == 0) = true := beq_iff_eq.mpr c11
             have c11b1 : (t198 != 0) = false := bne_eq_false_iff_eq.mpr c11
             clear c11
             by_cases c12 : x3_1.size + t197.size ≤ 9223372036854775807
             ·rw [if_pos c12] at H
              have c12b0 := eq_true c12
              have c12b1 : decide (x3_1.size + t197.size ≤ 9223372036854775807) = true := decide_eq_true c12
              try have c12b2 : (9223372036854775807 < x3_1.size + t197.size) = False := eq_false (Nat.not_lt.2 c12)
              have H' := Aside0.mk H
              clear H
              have p196 : 0 ≤ (x4_1 : Int) := of_decide_eq_true (by first | (with_reducible assumption) | assumption)
              have q196 : x4_1 < (l0.length : Int) := of_decide_eq_true (by first | (with_reducible assumption) | assumption)
              obtain ⟨ad196, e196, hx196_0⟩ := Kd.at_string HR0.out x4_1 p196 q196
              cases e196
              replace hx196_0 := (HB.out.cell (World.block_lt_of_cell? w _ hx196_0)).trans hx196_0
              replace p196 := eq_true p196
              replace q196 := eq_true q196
              go_wp2_with (first | ((with_reducible refine gate_callee (f := 12) rfl ?_); refine goesL_ (some 38) rfl rfl Tryd.func12 (by kernel_rfl) rfl #[.string (rdOf ByteArray.empty l0 x4_1)] rfl (by (try simp only [List.map_toArray, List.map_cons, List.map_nil]); first | done | rfl | (simp only [List.length_drop, List.length_take]; rfl)) ?_; (with_reducible refine (fold_Line.calls kj3 (rdOf ByteArray.empty l0 x4_1) t197 t198 _ A10.out).mono ?_); rintro e w13 ⟨rfl, hb⟩; refine ⟨_, rfl, ?_⟩; have n0_ := Aside0.mk (below_step (by repeat (first | (with_reducible first | exact HB.out | apply below_alloc | apply pw_below_drewN | apply below_drew1) | exact HB.out)) hb); clear HB; have HB := n0_; clear n0_; (try clear hb); (try clear hb2); (try clear hk); (try clear hi)))
              go_roundg kj3
              case measure => have := HK1.out; have := HJ3.out; omega
              case rel => exact ⟨(x3_1 ++ t197), (wrap64 (x4_1 + 1)), (by first | rfl | (simp; done) | (simp [*]; done)), (by first | rfl | (simp; done) | (simp [*]; done)), H', ⟨by have := HK1.out; have := HJ3.out; omega⟩, ⟨by repeat (first | (with_reducible first | exact HB.out | apply below_alloc | apply pw_below_drewN | apply below_drew1) | exact HB.out)⟩⟩
             ·rw [if_neg c12] at H
              exact absurd H (by simp)
            ·rw [if_neg c11] at H
             have c11b0 : (t198 == 0) = false := beq_eq_false_iff_ne.mpr c11
             have c11b1 : (t198 != 0) = true := bne_iff_ne.mpr c11
             by_cases c14 : t197.toList = ([] : List UInt8)
             ·rw [if_pos c14] at H
              have c14b0 : (t197.toList == ([] : List UInt8)) = true := beq_iff_eq.mpr c14
              have c14b1 : (t197.toList != ([] : List UInt8)) = false := bne_eq_false_iff_eq.mpr c14
              clear c14
              replace H := Option.bind_eq_some_iff.mp H
              obtain ⟨t199, A150, H⟩ := H
              replace H : (some t199) = some r := H
              have A15 := Aside0.mk A150
              clear A150
              obtain rfl := Option.some.inj H
              have p196 : 0 ≤ (x4_1 : Int) := of_decide_eq_true (by first | (with_reducible assumption) | assumption)
              have q196 : x4_1 < (l0.length : Int) := of_decide_eq_true (by first | (with_reducible assumption) | assumption)
              obtain ⟨ad196, e196, hx196_0⟩ := Kd.at_string HR0.out x4_1 p196 q196
              cases e196
              replace hx196_0 := (HB.out.cell (World.block_lt_of_cell? w _ hx196_0)).trans hx196_0
              replace p196 := eq_true p196
              replace q196 := eq_true q196
              go_wp2_with (first | ((with_reducible refine gate_callee (f := 12) rfl ?_); refine goesL_ (some 38) rfl rfl Tryd.func12 (by kernel_rfl) rfl #[.string (rdOf ByteArray.empty l0 x4_1)] rfl (by (try simp only [List.map_toArray, List.map_cons, List.map_nil]); first | done | rfl | (simp only [List.length_drop, List.length_take]; rfl)) ?_; (with_reducible refine (fold_Line.calls kj3 (rdOf ByteArray.empty l0 x4_1) t197 t198 _ A10.out).mono ?_); rintro e w16 ⟨rfl, hb⟩; refine ⟨_, rfl, ?_⟩; have n0_ := Aside0.mk (below_step (by repeat (first | (with_reducible first | exact HB.out | apply below_alloc | apply pw_below_drewN | apply below_drew1) | exact HB.out)) hb); clear HB; have HB := n0_; clear n0_; (try clear hb); (try clear hb2); (try clear hk); (try clear hi)) | (go_at_call 16; (with_reducible refine (solsticelaw16_wakes.calls kj3  t199 _ ?sideG A15.out).mono ?_); (case sideG => first | exact GP_below HG.out (by repeat (first | (with_reducible first | exact HB.out | apply below_alloc | apply pw_below_drewN | apply below_drew1) | exact HB.out)) | repeat (first | exact HG.out | refine GP_alloc ?_ _ | refine GP_drewN ?_ _ | refine GP_drew ?_)); rintro e w17 ⟨rfl, hb⟩; have n0_ := Aside0.mk (below_step (by repeat (first | (with_reducible first | exact HB.out | apply below_alloc | apply pw_below_drewN | apply below_drew1) | exact HB.out)) hb); clear HB; have HB := n0_; clear n0_; (try clear hb); (try clear hb2); (try clear hk); (try clear hi)))
              go_ret
              exact ⟨by first | rfl | (simp [errW_none, errW_some] <;> rfl) | (simp [*, errW_none, errW_some] <;> rfl), by repeat (first | (with_reducible first | exact HB.out | apply below_alloc | apply pw_below_drewN | apply below_drew1) | exact HB.out)⟩
             ·rw [if_neg c14] at H
              have c14b0 : (t197.toList == ([] : List UInt8)) = false := beq_eq_false_iff_ne.mpr c14
              have c14b1 : (t197.toList != ([] : List UInt8)) = true := bne_iff_ne.mpr c14
              obtain rfl := Option.some.inj H
              have p196 : 0 ≤ (x4_1 : Int) := of_decide_eq_true (by first | (with_reducible assumption) | assumption)
              have q196 : x4_1 < (l0.length : Int) := of_decide_eq_true (by first | (with_reducible assumption) | assumption)
              obtain ⟨ad196, e196, hx196_0⟩ := Kd.at_string HR0.out x4_1 p196 q196
              cases e196
              replace hx196_0 := (HB.out.cell (World.block_lt_of_cell? w _ hx196_0)).trans hx196_0
              replace p196 := eq_true p196
              replace q196 := eq_true q196
              go_wp2_with (first | ((with_reducible refine gate_callee (f := 12) rfl ?_); refine goesL_ (some 38) rfl rfl Tryd.func12 (by kernel_rfl) rfl #[.string (rdOf ByteArray.empty l0 x4_1)] rfl (by (try simp only [List.map_toArray, List.map_cons, List.map_nil]); first | done | rfl | (simp only [List.length_drop, List.length_take]; rfl)) ?_; (with_reducible refine (fold_Line.calls kj3 (rdOf ByteArray.empty l0 x4_1) t197 t198 _ A10.out).mono ?_); rintro e w18 ⟨rfl, hb⟩; refine ⟨_, rfl, ?_⟩; have n0_ := Aside0.mk (below_step (by repeat (first | (with_reducible first | exact HB.out | apply below_alloc | apply pw_below_drewN | apply below_drew1) | exact HB.out)) hb); clear HB; have HB := n0_; clear n0_; (try clear hb); (try clear hb2); (try clear hk); (try clear hi)))
              go_ret
              exact ⟨by first | rfl | (simp [errW_none, errW_some] <;> rfl) | (simp [*, errW_none, errW_some] <;> rfl), by repeat (first | (with_reducible first | exact HB.out | apply below_alloc | apply pw_below_drewN | apply below_drew1) | exact HB.out)⟩
           ·rw [if_neg c9] at H
            exact absurd H (by simp)
          ·rw [if_neg c8] at H
           exact absurd H (by simp)
     ·rw [if_neg c3] at H
      have c3b0 : decide (x4_1 < (l0.length : Int)) = false := decide_eq_false c3
      clear c3
      have H' := Aside0.mk H
      clear H
      go_wp2
      go_loopg [7] k1 (fun kq v7 w' => ∃ (x7_2 : Int), v7 = .int .i64 x7_2 ∧ Aside0 (solsticelaw16_FoldBack.l1 kq l0 x3_1 x7_2 = some r) ∧ Aside0 (kq ≤ k1) ∧ Aside0 (Below w.heap.size w w'))
      case atStart => exact ⟨(0), (by first | rfl | (simp; done) | (simp [*]; done)), H', ⟨Nat.le_refl _⟩, ⟨by repeat (first | (with_reducible first | exact HB.out | apply below_alloc | apply pw_below_drewN | apply below_drew1) | exact HB.out)⟩⟩
      case round =>
       as_aux_lemma =>
        clear H'
        try clear c1
        try clear p1
        try clear q1
        try clear hx1
        try clear c2
        try clear c2b0
        try clear c2b1
        try clear p2
        try clear c3
        try clear c3b0
        try clear c4
        try clear c5
        try clear c5b0
        try clear c6
        try clear c6b0
        try clear c6b1
        try clear p6
        try clear c7
        try clear c8
        try clear c8b0
        try clear c9
        try clear c9b0
        try clear c11
        try clear c11b0
        try clear c11b1
        try clear c12
        try clear c12b0
        try clear c12b1
        try clear c12b2
        try clear c14
        try clear c14b0
        try clear c14b1
        try clear hx194_0
        try clear hx195_0
        try clear hx196_0
        try clear p1
        try clear p194
        try clear p195
        try clear p196
        try clear p2
        try clear q1
        try clear q194
        try clear q195
        try clear q196
        obtain ⟨x7_2, rfl, HA, HK2, HB⟩ := hrel
        cases gk with
        | zero => exact absurd HA.out (by simp [solsticelaw16_FoldBack.l1])
        | succ k2 =>
         have H := HA.out
         clear HA
         simp only [solsticelaw16_FoldBack.l1] at H
         by_cases c19 : x7_2 < (l0.length : Int)
         ·rw [if_pos c19] at H
          have c19b0 : decide (x7_2 < (l0.length : Int)) = true := decide_eq_true c19
          clear c19
          by_cases c20 : 0 ≤ x7_2
          ·rw [if_pos c20] at H
           have c20b0 : decide (0 ≤ x7_2) = true := decide_eq_true c20
           clear c20
           by_cases c21 : 0 < ((rdOf ByteArray.empty l0 x7_2).size : Int)
           ·rw [if_pos c21] at H
            have c21b0 : decide (0 < ((rdOf ByteArray.empty l0 x7_2).size : Int)) = true := decide_eq_true c21
            have c21b1 : decide (0 < (rdOf ByteArray.empty l0 x7_2).size) = true := decide_eq_true (by omega)
            clear c21
            by_cases c23 : (bt (rdOf ByteArray.empty l0 x7_2) 0) = 32
            ·rw [if_pos c23] at H
             have c23b0 : ((bt (rdOf ByteArray.empty l0 x7_2) 0) == 32) = true := beq_iff_eq.mpr c23
             have c23b1 : ((bt (rdOf ByteArray.empty l0 x7_2) 0) != 32) = false := bne_eq_false_iff_eq.mpr c23
             clear c23
             replace H := Option.bind_eq_some_iff.mp H
             obtain ⟨t201, A240, H⟩ := H
             replace H : (some t201) = some r := H
             have A24 := Aside0.mk A240
             clear A240
             obtain rfl := Option.some.inj H
             have p200 : 0 ≤ (x7_2 : Int) := of_decide_eq_true (by first | (with_reducible assumption) | assumption)
             have q200 : x7_2 < (l0.length : Int) := of_decide_eq_true (by first | (with_reducible assumption) | assumption)
             obtain ⟨ad200, e200, hx200_0⟩ := Kd.at_string HR0.out x7_2 p200 q200
             cases e200
             replace hx200_0 := (HB.out.cell (World.block_lt_of_cell? w _ hx200_0)).trans hx200_0
             replace p200 := eq_true p200
             replace q200 := eq_true q200
             have p22 : 0 ≤ (0 : Int) := (by omega)
             have q22 : 0 < (rdOf ByteArray.empty l0 x7_2).size := (by have : (0 : Int) < ((rdOf ByteArray.empty l0 x7_2).size : Int) := of_decide_eq_true (by first | (with_reducible assumption) | assumption); omega)
             have hx22 : ∀ h : 0 < (rdOf ByteArray.empty l0 x7_2).size, (((rdOf ByteArray.empty l0 x7_2)[0]'h).toNat : Int) = bt (rdOf ByteArray.empty l0 x7_2) 0 := bt_at (rdOf ByteArray.empty l0 x7_2) 0
             clear p22
             have qi22 : (0 < ((rdOf ByteArray.empty l0 x7_2).size : Int)) = True := eq_true (of_decide_eq_true (by first | (with_reducible assumption) | assumption))
             replace q22 := eq_true q22
             go_wp2_with (first | ((with_reducible refine gate_callee (f := 16) rfl ?_); refine goesL_ (some 71) rfl rfl Tryd.func16 (by kernel_rfl) rfl #[] rfl (by (try simp only [List.map_toArray, List.map_cons, List.map_nil]); first | done | rfl | (simp only [List.length_drop, List.length_take]; rfl)) ?_; (with_reducible refine (solsticelaw16_wakes.calls k2  t201 _ ?sideG A24.out).mono ?_); (case sideG => first | exact GP_below HG.out (by repeat (first | (with_reducible first | exact HB.out | apply below_alloc | apply pw_below_drewN | apply below_drew1) | exact HB.out)) | repeat (first | exact HG.out | refine GP_alloc ?_ _ | refine GP_drewN ?_ _ | refine GP_drew ?_)); rintro e w25 ⟨rfl, hb⟩; refine ⟨_, rfl, ?_⟩; have n0_ := Aside0.mk (below_step (by repeat (first | (with_reducible first | exact HB.out | apply below_alloc | apply pw_below_drewN | apply below_drew1) | exact HB.out)) hb); clear HB; have HB := n0_; clear n0_; (try clear hb); (try clear hb2); (try clear hk); (try clear hi)))
             go_ret
             exact ⟨by first | rfl | (simp [errW_none, errW_some] <;> rfl) | (simp [*, errW_none, errW_some] <;> rfl), by repeat (first | (with_reducible first | exact HB.out | apply below_alloc | apply pw_below_drewN | apply below_drew1) | exact HB.out)⟩
            ·rw [if_neg c23] at H
             have c23b0 : ((bt (rdOf ByteArray.empty l0 x7_2) 0) == 32) = false := beq_eq_false_iff_ne.mpr c23
             have c23b1 : ((bt (rdOf ByteArray.empty l0 x7_2) 0) != 32) = true := bne_iff_ne.mpr c23
             by_cases c27 : (bt (rdOf ByteArray.empty l0 x7_2) 0) = 9
             ·rw [if_pos c27] at H
              have c27b0 : ((bt (rdOf ByteArray.empty l0 x7_2) 0) == 9) = true := beq_iff_eq.mpr c27
              have c27b1 : ((bt (rdOf ByteArray.empty l0 x7_2) 0) != 9) = false := bne_eq_false_iff_eq.mpr c27
              clear c27
              replace H := Option.bind_eq_some_iff.mp H
              obtain ⟨t203, A280, H⟩ := H
              replace H : (some t203) = some r := H
              have A28 := Aside0.mk A280
              clear A280
              obtain rfl := Option.some.inj H
              have p200 : 0 ≤ (x7_2 : Int) := of_decide_eq_true (by first | (with_reducible assumption) | assumption)
              have q200 : x7_2 < (l0.length : Int) := of_decide_eq_true (by first | (with_reducible assumption) | assumption)
              obtain ⟨ad200, e200, hx200_0⟩ := Kd.at_string HR0.out x7_2 p200 q200
              cases e200
              replace hx200_0 := (HB.out.cell (World.block_lt_of_cell? w _ hx200_0)).trans hx200_0
              replace p200 := eq_true p200
              replace q200 := eq_true q200
              have p22 : 0 ≤ (0 : Int) := (by omega)
              have q22 : 0 < (rdOf ByteArray.empty l0 x7_2).size := (by have : (0 : Int) < ((rdOf ByteArray.empty l0 x7_2).size : Int) := of_decide_eq_true (by first | (with_reducible assumption) | assumption); omega)
              have hx22 : ∀ h : 0 < (rdOf ByteArray.empty l0 x7_2).size, (((rdOf ByteArray.empty l0 x7_2)[0]'h).toNat : Int) = bt (rdOf ByteArray.empty l0 x7_2) 0 := bt_at (rdOf ByteArray.empty l0 x7_2) 0
              clear p22
              have qi22 : (0 < ((rdOf ByteArray.empty l0 x7_2).size : Int)) = True := eq_true (of_decide_eq_true (by first | (with_reducible assumption) | assumption))
              replace q22 := eq_true q22
              have p202 : 0 ≤ (x7_2 : Int) := of_decide_eq_true (by first | (with_reducible assumption) | assumption)
              have q202 : x7_2 < (l0.length : Int) := of_decide_eq_true (by first | (with_reducible assumption) | assumption)
              obtain ⟨ad202, e202, hx202_0⟩ := Kd.at_string HR0.out x7_2 p202 q202
              obtain rfl : ad200 = ad202 := (by injection e202)
              replace hx202_0 := (HB.out.cell (World.block_lt_of_cell? w _ hx202_0)).trans hx202_0
              replace p202 := eq_true p202
              replace q202 := eq_true q202
              have p26 : 0 ≤ (0 : Int) := (by omega)
              have q26 : 0 < (rdOf ByteArray.empty l0 x7_2).size := (by have : (0 : Int) < ((rdOf ByteArray.empty l0 x7_2).size : Int) := of_decide_eq_true (by first | (with_reducible assumption) | assumption); omega)
              have hx26 : ∀ h : 0 < (rdOf ByteArray.empty l0 x7_2).size, (((rdOf ByteArray.empty l0 x7_2)[0]'h).toNat : Int) = bt (rdOf ByteArray.empty l0 x7_2) 0 := bt_at (rdOf ByteArray.empty l0 x7_2) 0
              clear p26
              have qi26 : (0 < ((rdOf ByteArray.empty l0 x7_2).size : Int)) = True := eq_true (of_decide_eq_true (by first | (with_reducible assumption) | assumption))
              replace q26 := eq_true q26
              go_wp2_with (first | ((with_reducible refine gate_callee (f := 16) rfl ?_); refine goesL_ (some 71) rfl rfl Tryd.func16 (by kernel_rfl) rfl #[] rfl (by (try simp only [List.map_toArray, List.map_cons, List.map_nil]); first | done | rfl | (simp only [List.length_drop, List.length_take]; rfl)) ?_; (with_reducible refine (solsticelaw16_wakes.calls k2  t203 _ ?sideG A28.out).mono ?_); (case sideG => first | exact GP_below HG.out (by repeat (first | (with_reducible first | exact HB.out | apply below_alloc | apply pw_below_drewN | apply below_drew1) | exact HB.out)) | repeat (first | exact HG.out | refine GP_alloc ?_ _ | refine GP_drewN ?_ _ | refine GP_drew ?_)); rintro e w29 ⟨rfl, hb⟩; refine ⟨_, rfl, ?_⟩; have n0_ := Aside0.mk (below_step (by repeat (first | (with_reducible first | exact HB.out | apply below_alloc | apply pw_below_drewN | apply below_drew1) | exact HB.out)) hb); clear HB; have HB := n0_; clear n0_; (try clear hb); (try clear hb2); (try clear hk); (try clear hi)))
              go_ret
              exact ⟨by first | rfl | (simp [errW_none, errW_some] <;> rfl) | (simp [*, errW_none, errW_some] <;> rfl), by repeat (first | (with_reducible first | exact HB.out | apply below_alloc | apply pw_below_drewN | apply below_drew1) | exact HB.out)⟩
             ·rw [if_neg c27] at H
              have c27b0 : ((bt (rdOf ByteArray.empty l0 x7_2) 0) == 9) = false := beq_eq_false_iff_ne.mpr c27
              have c27b1 : ((bt (rdOf ByteArray.empty l0 x7_2) 0) != 9) = true := bne_iff_ne.mpr c27
              have H' := Aside0.mk H
              clear H
              have p200 : 0 ≤ (x7_2 : Int) := of_decide_eq_true (by first | (with_reducible assumption) | assumption)
              have q200 : x7_2 < (l0.length : Int) := of_decide_eq_true (by first | (with_reducible assumption) | assumption)
              obtain ⟨ad200, e200, hx200_0⟩ := Kd.at_string HR0.out x7_2 p200 q200
              cases e200
              replace hx200_0 := (HB.out.cell (World.block_lt_of_cell? w _ hx200_0)).trans hx200_0
              replace p200 := eq_true p200
              replace q200 := eq_true q200
              have p22 : 0 ≤ (0 : Int) := (by omega)
              have q22 : 0 < (rdOf ByteArray.empty l0 x7_2).size := (by have : (0 : Int) < ((rdOf ByteArray.empty l0 x7_2).size : Int) := of_decide_eq_true (by first | (with_reducible assumption) | assumption); omega)
              have hx22 : ∀ h : 0 < (rdOf ByteArray.empty l0 x7_2).size, (((rdOf ByteArray.empty l0 x7_2)[0]'h).toNat : Int) = bt (rdOf ByteArray.empty l0 x7_2) 0 := bt_at (rdOf ByteArray.empty l0 x7_2) 0
              clear p22
              have qi22 : (0 < ((rdOf ByteArray.empty l0 x7_2).size : Int)) = True := eq_true (of_decide_eq_true (by first | (with_reducible assumption) | assumption))
              replace q22 := eq_true q22
              have p202 : 0 ≤ (x7_2 : Int) := of_decide_eq_true (by first | (with_reducible assumption) | assumption)
              have q202 : x7_2 < (l0.length : Int) := of_decide_eq_true (by first | (with_reducible assumption) | assumption)
              obtain ⟨ad202, e202, hx202_0⟩ := Kd.at_string HR0.out x7_2 p202 q202
              obtain rfl : ad200 = ad202 := (by injection e202)
              replace hx202_0 := (HB.out.cell (World.block_lt_of_cell? w _ hx202_0)).trans hx202_0
              replace p202 := eq_true p202
              replace q202 := eq_true q202
              have p26 : 0 ≤ (0 : Int) := (by omega)
              have q26 : 0 < (rdOf ByteArray.empty l0 x7_2).size := (by have : (0 : Int) < ((rdOf ByteArray.empty l0 x7_2).size : Int) := of_decide_eq_true (by first | (with_reducible assumption) | assumption); omega)
              have hx26 : ∀ h : 0 < (rdOf ByteArray.empty l0 x7_2).size, (((rdOf ByteArray.empty l0 x7_2)[0]'h).toNat : Int) = bt (rdOf ByteArray.empty l0 x7_2) 0 := bt_at (rdOf ByteArray.empty l0 x7_2) 0
              clear p26
              have qi26 : (0 < ((rdOf ByteArray.empty l0 x7_2).size : Int)) = True := eq_true (of_decide_eq_true (by first | (with_reducible assumption) | assumption))
              replace q26 := eq_true q26
              go_wp2
              go_roundg k2
              case measure => have := HK1.out; have := HK2.out; omega
              case rel => exact ⟨(wrap64 (x7_2 + 1)), (by first | rfl | (simp; done) | (simp [*]; done)), H', ⟨by have := HK1.out; have := HK2.out; omega⟩, ⟨by repeat (first | (with_reducible first | exact HB.out | apply below_alloc | apply pw_below_drewN | apply below_drew1) | exact HB.out)⟩⟩
           ·rw [if_neg c21] at H
            exact absurd H (by simp)
          ·rw [if_neg c20] at H
           exact absurd H (by simp)
         ·rw [if_neg c19] at H
          have c19b0 : decide (x7_2 < (l0.length : Int)) = false := decide_eq_false c19
          clear c19
          replace H := Option.bind_eq_some_iff.mp H
          obtain ⟨⟨t204, t205⟩, A300, H⟩ := H
          replace H : (if t205 = 0 then ((solsticekeep_Texts.f k2 t204 l0).bind fun t208 => (if t208 = true then ((solsticelaw16_wakes.f k2).bind fun t209 => (some t209)) else (some false))) else (some false)) = some r := H
          have A30 := Aside0.mk A300
          clear A300
          by_cases c31 : t205 = 0
          ·rw [if_pos c31] at H
           have c31b0 : (t205 == 0) = true := beq_iff_eq.mpr c31
           have c31b1 : (t205 != 0) = false := bne_eq_false_iff_eq.mpr c31
           clear c31
           replace H := Option.bind_eq_some_iff.mp H
           obtain ⟨t208, A320, H⟩ := H
           replace H : (if t208 = true then ((solsticelaw16_wakes.f k2).bind fun t209 => (some t209)) else (some false)) = some r := H
           have A32 := Aside0.mk A320
           clear A320
           by_cases c33 : t208 = true
           ·subst c33
            have H1 : ((solsticelaw16_wakes.f k2).bind fun t209 => (some t209)) = some r := by rw [if_pos rfl] at H; exact H
            clear H
            have H := H1
            clear H1
            replace H := Option.bind_eq_some_iff.mp H
            obtain ⟨t209, A340, H⟩ := H
            replace H : (some t209) = some r := H
            have A34 := Aside0.mk A340
            clear A340
            obtain rfl := Option.some.inj H
            go_wp2_with (first | ((with_reducible refine gate_callee (f := 13) rfl ?_); refine goesL_ (some 74) rfl rfl Tryd.func13 (by kernel_rfl) rfl #[.string x3_1] rfl (by (try simp only [List.map_toArray, List.map_cons, List.map_nil]); first | done | rfl | (simp only [List.length_drop, List.length_take]; rfl)) ?_; (with_reducible refine (fold_Unfold.calls k2 x3_1 t204 t205 _ ?sideG A30.out).mono ?_); (case sideG => first | exact GP_below HG.out (by repeat (first | (with_reducible first | exact HB.out | apply below_alloc | apply pw_below_drewN | apply below_drew1) | exact HB.out)) | repeat (first | exact HG.out | refine GP_alloc ?_ _ | refine GP_drewN ?_ _ | refine GP_drew ?_)); rintro e w35 ⟨v206, rfl, ho0, hb⟩; refine ⟨_, rfl, ?_⟩; have n0_ := Aside0.mk (Kd.R_lower ho0 (below_size (by repeat (first | (with_reducible first | exact HB.out | apply below_alloc | apply pw_below_drewN | apply below_drew1) | exact HB.out)))); have n1_ := Aside0.mk (below_step (by repeat (first | (with_reducible first | exact HB.out | apply below_alloc | apply pw_below_drewN | apply below_drew1) | exact HB.out)) hb); clear HB; have HO207 := n0_; have HB := n1_; clear n0_ n1_; (try clear hb); (try clear hb2); (try clear hk); (try clear hi); (try clear ho0); obtain ⟨Ao36, co36, eo36⟩ := Kd.R_slice HO207.out; subst eo36) | (go_at_call 15; (with_reducible refine (solsticekeep_Texts.calls k2 _ _ t204 _ _ l0 true _ ?side1 ?side2 ?side3 ?side4 A32.out).mono ?_); (case side1 => repeat (first | exact (Kd.R_reads' HO207.out).2.2 | (with_reducible refine Kd.C_alloc ?_ _) | (with_reducible refine Kd.C_drewN ?_ _) | (with_reducible refine Kd.C_drew ?_))); (case side2 => exact (Kd.R_reads' HO207.out).2.1); (case side3 => repeat (first | exact (Kd.C_below HR0.out HB.out) | (with_reducible refine Kd.C_alloc ?_ _) | (with_reducible refine Kd.C_drewN ?_ _) | (with_reducible refine Kd.C_drew ?_))); (case side4 => exact HC0.out); rintro e w' ⟨rfl, ⟨nd, rfl⟩⟩) | (go_at_call 16; (with_reducible refine (solsticelaw16_wakes.calls k2  t209 _ ?sideG A34.out).mono ?_); (case sideG => first | exact GP_below HG.out (by repeat (first | (with_reducible first | exact HB.out | apply below_alloc | apply pw_below_drewN | apply below_drew1) | exact HB.out)) | repeat (first | exact HG.out | refine GP_alloc ?_ _ | refine GP_drewN ?_ _ | refine GP_drew ?_)); rintro e w37 ⟨rfl, hb⟩; have n0_ := Aside0.mk (Kd.R_below (by (with_reducible repeat (first | apply Kd.R_alloc | apply Kd.R_drewN | apply Kd.R_drew)); exact HO207.out) hb); have n1_ := Aside0.mk (below_step (by repeat (first | (with_reducible first | exact HB.out | apply below_alloc | apply pw_below_drewN | apply below_drew1) | exact HB.out)) hb); clear HO207; clear HB; have HO207 := n0_; have HB := n1_; clear n0_ n1_; (try clear hb); (try clear hb2); (try clear hk); (try clear hi)))
            go_ret
            exact ⟨by first | rfl | (simp [errW_none, errW_some] <;> rfl) | (simp [*, errW_none, errW_some] <;> rfl), by repeat (first | (with_reducible first | exact HB.out | apply below_alloc | apply pw_below_drewN | apply below_drew1) | exact HB.out)⟩
           ·replace c33 := Bool.eq_false_iff.mpr c33
            subst c33
            have H1 : (some false) = some r := by rw [if_neg (show ¬ (false = true) by decide)] at H; exact H
            clear H
            have H := H1
            clear H1
            obtain rfl := Option.some.inj H
            go_wp2_with (first | ((with_reducible refine gate_callee (f := 13) rfl ?_); refine goesL_ (some 74) rfl rfl Tryd.func13 (by kernel_rfl) rfl #[.string x3_1] rfl (by (try simp only [List.map_toArray, List.map_cons, List.map_nil]); first | done | rfl | (simp only [List.length_drop, List.length_take]; rfl)) ?_; (with_reducible refine (fold_Unfold.calls k2 x3_1 t204 t205 _ ?sideG A30.out).mono ?_); (case sideG => first | exact GP_below HG.out (by repeat (first | (with_reducible first | exact HB.out | apply below_alloc | apply pw_below_drewN | apply below_drew1) | exact HB.out)) | repeat (first | exact HG.out | refine GP_alloc ?_ _ | refine GP_drewN ?_ _ | refine GP_drew ?_)); rintro e w38 ⟨v206, rfl, ho0, hb⟩; refine ⟨_, rfl, ?_⟩; have n0_ := Aside0.mk (Kd.R_lower ho0 (below_size (by repeat (first | (with_reducible first | exact HB.out | apply below_alloc | apply pw_below_drewN | apply below_drew1) | exact HB.out)))); have n1_ := Aside0.mk (below_step (by repeat (first | (with_reducible first | exact HB.out | apply below_alloc | apply pw_below_drewN | apply below_drew1) | exact HB.out)) hb); clear HB; have HO207 := n0_; have HB := n1_; clear n0_ n1_; (try clear hb); (try clear hb2); (try clear hk); (try clear hi); (try clear ho0); obtain ⟨Ao39, co39, eo39⟩ := Kd.R_slice HO207.out; subst eo39) | (go_at_call 15; (with_reducible refine (solsticekeep_Texts.calls k2 _ _ t204 _ _ l0 false _ ?side1 ?side2 ?side3 ?side4 A32.out).mono ?_); (case side1 => repeat (first | exact (Kd.R_reads' HO207.out).2.2 | (with_reducible refine Kd.C_alloc ?_ _) | (with_reducible refine Kd.C_drewN ?_ _) | (with_reducible refine Kd.C_drew ?_))); (case side2 => exact (Kd.R_reads' HO207.out).2.1); (case side3 => repeat (first | exact (Kd.C_below HR0.out HB.out) | (with_reducible refine Kd.C_alloc ?_ _) | (with_reducible refine Kd.C_drewN ?_ _) | (with_reducible refine Kd.C_drew ?_))); (case side4 => exact HC0.out); rintro e w' ⟨rfl, ⟨nd, rfl⟩⟩))
            go_ret
            exact ⟨by first | rfl | (simp [errW_none, errW_some] <;> rfl) | (simp [*, errW_none, errW_some] <;> rfl), by repeat (first | (with_reducible first | exact HB.out | apply below_alloc | apply pw_below_drewN | apply below_drew1) | exact HB.out)⟩
          ·rw [if_neg c31] at H
           have c31b0 : (t205 == 0) = false := beq_eq_false_iff_ne.mpr c31
           have c31b1 : (t205 != 0) = true := bne_iff_ne.mpr c31
           obtain rfl := Option.some.inj H
           go_wp2_with (first | ((with_reducible refine gate_callee (f := 13) rfl ?_); refine goesL_ (some 74) rfl rfl Tryd.func13 (by kernel_rfl) rfl #[.string x3_1] rfl (by (try simp only [List.map_toArray, List.map_cons, List.map_nil]); first | done | rfl | (simp only [List.length_drop, List.length_take]; rfl)) ?_; (with_reducible refine (fold_Unfold.calls k2 x3_1 t204 t205 _ ?sideG A30.out).mono ?_); (case sideG => first | exact GP_below HG.out (by repeat (first | (with_reducible first | exact HB.out | apply below_alloc | apply pw_below_drewN | apply below_drew1) | exact HB.out)) | repeat (first | exact HG.out | refine GP_alloc ?_ _ | refine GP_drewN ?_ _ | refine GP_drew ?_)); rintro e w40 ⟨v206, rfl, ho0, hb⟩; refine ⟨_, rfl, ?_⟩; have n0_ := Aside0.mk (Kd.R_lower ho0 (below_size (by repeat (first | (with_reducible first | exact HB.out | apply below_alloc | apply pw_below_drewN | apply below_drew1) | exact HB.out)))); have n1_ := Aside0.mk (below_step (by repeat (first | (with_reducible first | exact HB.out | apply below_alloc | apply pw_below_drewN | apply below_drew1) | exact HB.out)) hb); clear HB; have HO207 := n0_; have HB := n1_; clear n0_ n1_; (try clear hb); (try clear hb2); (try clear hk); (try clear hi); (try clear ho0)))
           go_ret
           exact ⟨by first | rfl | (simp [errW_none, errW_some] <;> rfl) | (simp [*, errW_none, errW_some] <;> rfl), by repeat (first | (with_reducible first | exact HB.out | apply below_alloc | apply pw_below_drewN | apply below_drew1) | exact HB.out)⟩
end Go.Proofs.YtfiiipjglacejaaDoor.PFol