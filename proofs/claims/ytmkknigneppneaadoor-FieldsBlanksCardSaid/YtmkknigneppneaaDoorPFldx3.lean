-- Printed by a program of this session's over the kit's printer; library functions by contracts off the shelf.
import Derived.Test.YtmkknigneppneaaDoorGP
import Derived.Test.YtmkknigneppneaaDoorPFldx0
import Derived.Test.YtmkknigneppneaaDoorPFldx1
import Derived.Test.YtmkknigneppneaaDoorPFldx2
namespace Go.Proofs.YtmkknigneppneaaDoor.PFld
open Go.RowKit Go.Proofs.YtmkknigneppneaaDoorW.PrintWords Go.Proofs.YtmkknigneppneaaDoorW.PrintLast Go.Proofs.YtmkknigneppneaaDoorW.PrintMore Go.Proofs.YtmkknigneppneaaDoor.Base
attribute [local go_sem] max2_int min2_int max_two min_two max_three min_three max_four min_four   -- for this text's walks alone
set_option linter.unusedVariables false
set_option linter.unusedSimpArgs false
set_option maxHeartbeats 4000000 in
set_option maxRecDepth 100000 in
theorem lit3_0_ {ev : Operand → Value} (hev : ∀ v, ev (.const v) = v) {d : Option Tmp} {ty : TypeId} {ps : String} {af : Array _} {gd : Option _} (W : World) : (execOp ev { dst := d, op := Op.buildSlice 22 4 #[(0, Operand.const (Value.string (⟨#[32]⟩ : ByteArray))), (1, Operand.const (Value.string (⟨#[9]⟩ : ByteArray))), (2, Operand.const (Value.string (⟨#[32, 32]⟩ : ByteArray))), (3, Operand.const (Value.string (⟨#[32, 9, 13, 32]⟩ : ByteArray)))], type := ty, pos := ps, after := af, guard := gd }).run Tryd.prog W = .ok (.value (.slice (some ⟨W.heap.size, 0, none⟩) 4 4)) (W.alloc (.cells #[.string (⟨#[32]⟩ : ByteArray), .string (⟨#[9]⟩ : ByteArray), .string (⟨#[32, 32]⟩ : ByteArray), .string (⟨#[32, 9, 13, 32]⟩ : ByteArray)] 9)) := by
  go_simp
  first | done | rfl
mutual
def solsticelaw05_FieldsBlanks.j0 : Nat → List ByteArray → Int → ByteArray → Bool → Option (Bool)
 | 0, _, _, _, _ => none
 | k + 1, x0, x1, x2, x23 => if x23 = true then (some true) else ((some (([(⟨#[32]⟩ : ByteArray), (⟨#[9]⟩ : ByteArray), (⟨#[32, 32]⟩ : ByteArray), (⟨#[32, 9, 13, 32]⟩ : ByteArray)] : List ByteArray) : List ByteArray)).bind fun y146 => (if 0 ≤ (wrap64 (Int.tmod (IntKind.u64.wrap (x1)) 4)) then (if (wrap64 (Int.tmod (IntKind.u64.wrap (x1)) 4)) < (y146.length : Int) then (solsticelaw05_FieldsBlanks.l0 k x0 x1 x2 y146 (rdOf ByteArray.empty y146 (wrap64 (Int.tmod (IntKind.u64.wrap (x1)) 4))) 0) else (none)) else (none)))
def solsticelaw05_FieldsBlanks.l0 : Nat → List ByteArray → Int → ByteArray → List ByteArray → ByteArray → Int → Option (Bool)
 | 0, _, _, _, _, _, _ => none
 | k + 1, x0, x1, x2, x7, x8, x9 => if x9 < (x0.length : Int) then (if 0 ≤ x9 then (if ((rdOf ByteArray.empty x0 x9).size : Int) < 1 then (solsticelaw05_FieldsBlanks.j2 k x0 x1 x2 x7 x8 x9 true) else (solsticelaw05_FieldsBlanks.j2 k x0 x1 x2 x7 x8 x9 (decide (((rdOf ByteArray.empty x0 x9).size : Int) > 10)))) else (none)) else (solsticelaw05_FieldsBlanks.l2 k x0 x2 x8 0)
def solsticelaw05_FieldsBlanks.j2 : Nat → List ByteArray → Int → ByteArray → List ByteArray → ByteArray → Int → Bool → Option (Bool)
 | 0, _, _, _, _, _, _, _ => none
 | k + 1, x0, x1, x2, x7, x8, x9, x51 => if x51 = true then (some true) else (solsticelaw05_FieldsBlanks.l1 k x0 x1 x2 x7 x8 x9 0)
def solsticelaw05_FieldsBlanks.l1 : Nat → List ByteArray → Int → ByteArray → List ByteArray → ByteArray → Int → Int → Option (Bool)
 | 0, _, _, _, _, _, _, _ => none
 | k + 1, x0, x1, x2, x7, x8, x9, x10 => if 0 ≤ x9 then (if x9 < (x0.length : Int) then (if x10 < ((rdOf ByteArray.empty x0 x9).size : Int) then (if 0 ≤ x10 then (if (bt (rdOf ByteArray.empty x0 x9) x10) ≤ 32 then (some true) else (if (bt (rdOf ByteArray.empty x0 x9) x10) = 35 then (some true) else (if (bt (rdOf ByteArray.empty x0 x9) x10) = 34 then (some true) else (solsticelaw05_FieldsBlanks.l1 k x0 x1 x2 x7 x8 x9 (wrap64 (x10 + 1)))))) else (none)) else (if x8.size + (rdOf ByteArray.empty x0 x9).size ≤ 9223372036854775807 then (if 0 ≤ (wrap64 (Int.tmod (IntKind.u64.wrap (wrap64 (x1 + x9))) 4)) then (if (wrap64 (Int.tmod (IntKind.u64.wrap (wrap64 (x1 + x9))) 4)) < (x7.length : Int) then (if (x8 ++ (rdOf ByteArray.empty x0 x9)).size + (rdOf ByteArray.empty x7 (wrap64 (Int.tmod (IntKind.u64.wrap (wrap64 (x1 + x9))) 4))).size ≤ 9223372036854775807 then (solsticelaw05_FieldsBlanks.l0 k x0 x1 x2 x7 ((x8 ++ (rdOf ByteArray.empty x0 x9)) ++ (rdOf ByteArray.empty x7 (wrap64 (Int.tmod (IntKind.u64.wrap (wrap64 (x1 + x9))) 4)))) (wrap64 (x9 + 1))) else (none)) else (none)) else (none)) else (none))) else (none)) else (none)
def solsticelaw05_FieldsBlanks.l2 : Nat → List ByteArray → ByteArray → ByteArray → Int → Option (Bool)
 | 0, _, _, _, _ => none
 | k + 1, x0, x2, x8, x11 => if x11 < (x2.size : Int) then (if 0 ≤ x11 then (if (bt x2 x11) = 0 then (some true) else (if (bt x2 x11) = 10 then (some true) else (solsticelaw05_FieldsBlanks.l2 k x0 x2 x8 (wrap64 (x11 + 1))))) else (none)) else ((fields_Split.f x8).bind fun bt158 => (if x8.size + 1 ≤ 9223372036854775807 then (if (x8 ++ (⟨#[35]⟩ : ByteArray)).size + x2.size ≤ 9223372036854775807 then ((fields_Split.f ((x8 ++ (⟨#[35]⟩ : ByteArray)) ++ x2)).bind fun bt162 => (if bt158.2 = 0 then (if bt162.2 = 0 then ((solsticekeep_Texts.f k bt158.1 x0).bind fun t166 => (if t166 = true then ((solsticekeep_Texts.f k bt162.1 x0).bind fun t167 => (if t167 = true then ((solsticelaw05_wakes.f k).bind fun t168 => (some t168)) else (some false))) else (some false))) else (some false)) else (some false))) else (none)) else (none)))
end
def solsticelaw05_FieldsBlanks.f (k : Nat) (l0 : List ByteArray) (a1 : Int) (a2 : ByteArray) : Option (Bool) := if (l0.length : Int) > 20 then (solsticelaw05_FieldsBlanks.j0 k l0 a1 a2 true) else (solsticelaw05_FieldsBlanks.j0 k l0 a1 a2 (decide ((a2.size : Int) > 100)))
theorem solsticelaw05_FieldsBlanks.mono_l : ∀ k, (∀ y0 y1 y2 y3, LeO (solsticelaw05_FieldsBlanks.j0 k y0 y1 y2 y3) (solsticelaw05_FieldsBlanks.j0 (k + 1) y0 y1 y2 y3)) ∧ (∀ y0 y1 y2 y3 y4 y5, LeO (solsticelaw05_FieldsBlanks.l0 k y0 y1 y2 y3 y4 y5) (solsticelaw05_FieldsBlanks.l0 (k + 1) y0 y1 y2 y3 y4 y5)) ∧ (∀ y0 y1 y2 y3 y4 y5 y6, LeO (solsticelaw05_FieldsBlanks.j2 k y0 y1 y2 y3 y4 y5 y6) (solsticelaw05_FieldsBlanks.j2 (k + 1) y0 y1 y2 y3 y4 y5 y6)) ∧ (∀ y0 y1 y2 y3 y4 y5 y6, LeO (solsticelaw05_FieldsBlanks.l1 k y0 y1 y2 y3 y4 y5 y6) (solsticelaw05_FieldsBlanks.l1 (k + 1) y0 y1 y2 y3 y4 y5 y6)) ∧ (∀ y0 y1 y2 y3, LeO (solsticelaw05_FieldsBlanks.l2 k y0 y1 y2 y3) (solsticelaw05_FieldsBlanks.l2 (k + 1) y0 y1 y2 y3))
 | 0 => ⟨fun _ _ _ _ r h => by simp [solsticelaw05_FieldsBlanks.j0] at h, fun _ _ _ _ _ _ r h => by simp [solsticelaw05_FieldsBlanks.l0] at h, fun _ _ _ _ _ _ _ r h => by simp [solsticelaw05_FieldsBlanks.j2] at h, fun _ _ _ _ _ _ _ r h => by simp [solsticelaw05_FieldsBlanks.l1] at h, fun _ _ _ _ r h => by simp [solsticelaw05_FieldsBlanks.l2] at h⟩
 | k + 1 => by
  obtain ⟨ih0, ih1, ih2, ih3, ih4⟩ := solsticelaw05_FieldsBlanks.mono_l k
  refine ⟨?_, ?_, ?_, ?_, ?_⟩
  ·intro y0 y1 y2 y3
   unfold solsticelaw05_FieldsBlanks.j0
   repeat' first
   | (with_reducible exact ih0 _ _ _ _)
   | (with_reducible exact ih1 _ _ _ _ _ _)
   | (with_reducible exact ih2 _ _ _ _ _ _ _)
   | (with_reducible exact ih3 _ _ _ _ _ _ _)
   | (with_reducible exact ih4 _ _ _ _)
   | (with_reducible exact solsticekeep_Texts.mono _ _ _)
   | (with_reducible exact solsticelaw05_wakes.mono _)
   | (with_reducible exact LeO.refl _)
   | (with_reducible exact LeO.none _)
   | (with_reducible refine LeO.ite ?_ ?_)
   | (with_reducible refine LeO.bind ?_ (fun _ => ?_))
   | exact ih0 _ _ _ _
   | exact ih1 _ _ _ _ _ _
   | exact ih2 _ _ _ _ _ _ _
   | exact ih3 _ _ _ _ _ _ _
   | exact ih4 _ _ _ _
   | exact solsticekeep_Texts.mono _ _ _
   | exact solsticelaw05_wakes.mono _
   | exact LeO.none _
   | refine LeO.ite ?_ ?_
   | refine LeO.bind ?_ (fun _ => ?_)
  ·intro y0 y1 y2 y3 y4 y5
   unfold solsticelaw05_FieldsBlanks.l0
   repeat' first
   | (with_reducible exact ih0 _ _ _ _)
   | (with_reducible exact ih1 _ _ _ _ _ _)
   | (with_reducible exact ih2 _ _ _ _ _ _ _)
   | (with_reducible exact ih3 _ _ _ _ _ _ _)
   | (with_reducible exact ih4 _ _ _ _)
   | (with_reducible exact solsticekeep_Texts.mono _ _ _)
   | (with_reducible exact solsticelaw05_wakes.mono _)
   | (with_reducible exact LeO.refl _)
   | (with_reducible exact LeO.none _)
   | (with_reducible refine LeO.ite ?_ ?_)
   | (with_reducible refine LeO.bind ?_ (fun _ => ?_))
   | exact ih0 _ _ _ _
   | exact ih1 _ _ _ _ _ _
   | exact ih2 _ _ _ _ _ _ _
   | exact ih3 _ _ _ _ _ _ _
   | exact ih4 _ _ _ _
   | exact solsticekeep_Texts.mono _ _ _
   | exact solsticelaw05_wakes.mono _
   | exact LeO.none _
   | refine LeO.ite ?_ ?_
   | refine LeO.bind ?_ (fun _ => ?_)
  ·intro y0 y1 y2 y3 y4 y5 y6
   unfold solsticelaw05_FieldsBlanks.j2
   repeat' first
   | (with_reducible exact ih0 _ _ _ _)
   | (with_reducible exact ih1 _ _ _ _ _ _)
   | (with_reducible exact ih2 _ _ _ _ _ _ _)
   | (with_reducible exact ih3 _ _ _ _ _ _ _)
   | (with_reducible exact ih4 _ _ _ _)
   | (with_reducible exact solsticekeep_Texts.mono _ _ _)
   | (with_reducible exact solsticelaw05_wakes.mono _)
   | (with_reducible exact LeO.refl _)
   | (with_reducible exact LeO.none _)
   | (with_reducible refine LeO.ite ?_ ?_)
   | (with_reducible refine LeO.bind ?_ (fun _ => ?_))
   | exact ih0 _ _ _ _
   | exact ih1 _ _ _ _ _ _
   | exact ih2 _ _ _ _ _ _ _
   | exact ih3 _ _ _ _ _ _ _
   | exact ih4 _ _ _ _
   | exact solsticekeep_Texts.mono _ _ _
   | exact solsticelaw05_wakes.mono _
   | exact LeO.none _
   | refine LeO.ite ?_ ?_
   | refine LeO.bind ?_ (fun _ => ?_)
  ·intro y0 y1 y2 y3 y4 y5 y6
   unfold solsticelaw05_FieldsBlanks.l1
   repeat' first
   | (with_reducible exact ih0 _ _ _ _)
   | (with_reducible exact ih1 _ _ _ _ _ _)
   | (with_reducible exact ih2 _ _ _ _ _ _ _)
   | (with_reducible exact ih3 _ _ _ _ _ _ _)
   | (with_reducible exact ih4 _ _ _ _)
   | (with_reducible exact solsticekeep_Texts.mono _ _ _)
   | (with_reducible exact solsticelaw05_wakes.mono _)
   | (with_reducible exact LeO.refl _)
   | (with_reducible exact LeO.none _)
   | (with_reducible refine LeO.ite ?_ ?_)
   | (with_reducible refine LeO.bind ?_ (fun _ => ?_))
   | exact ih0 _ _ _ _
   | exact ih1 _ _ _ _ _ _
   | exact ih2 _ _ _ _ _ _ _
   | exact ih3 _ _ _ _ _ _ _
   | exact ih4 _ _ _ _
   | exact solsticekeep_Texts.mono _ _ _
   | exact solsticelaw05_wakes.mono _
   | exact LeO.none _
   | refine LeO.ite ?_ ?_
   | refine LeO.bind ?_ (fun _ => ?_)
  ·intro y0 y1 y2 y3
   unfold solsticelaw05_FieldsBlanks.l2
   repeat' first
   | (with_reducible exact ih0 _ _ _ _)
   | (with_reducible exact ih1 _ _ _ _ _ _)
   | (with_reducible exact ih2 _ _ _ _ _ _ _)
   | (with_reducible exact ih3 _ _ _ _ _ _ _)
   | (with_reducible exact ih4 _ _ _ _)
   | (with_reducible exact solsticekeep_Texts.mono _ _ _)
   | (with_reducible exact solsticelaw05_wakes.mono _)
   | (with_reducible exact LeO.refl _)
   | (with_reducible exact LeO.none _)
   | (with_reducible refine LeO.ite ?_ ?_)
   | (with_reducible refine LeO.bind ?_ (fun _ => ?_))
   | exact ih0 _ _ _ _
   | exact ih1 _ _ _ _ _ _
   | exact ih2 _ _ _ _ _ _ _
   | exact ih3 _ _ _ _ _ _ _
   | exact ih4 _ _ _ _
   | exact solsticekeep_Texts.mono _ _ _
   | exact solsticelaw05_wakes.mono _
   | exact LeO.none _
   | refine LeO.ite ?_ ?_
   | refine LeO.bind ?_ (fun _ => ?_)
theorem solsticelaw05_FieldsBlanks.mono : ∀ a0 a1 a2 k, LeO (solsticelaw05_FieldsBlanks.f k a0 a1 a2) (solsticelaw05_FieldsBlanks.f (k + 1) a0 a1 a2) := by
 intro a0 a1 a2 k
 obtain ⟨ih0, ih1, ih2, ih3, ih4⟩ := solsticelaw05_FieldsBlanks.mono_l k
 unfold solsticelaw05_FieldsBlanks.f
 repeat' first
   | (with_reducible exact ih0 _ _ _ _)
   | (with_reducible exact ih1 _ _ _ _ _ _)
   | (with_reducible exact ih2 _ _ _ _ _ _ _)
   | (with_reducible exact ih3 _ _ _ _ _ _ _)
   | (with_reducible exact ih4 _ _ _ _)
   | (with_reducible exact solsticekeep_Texts.mono _ _ _)
   | (with_reducible exact solsticelaw05_wakes.mono _)
   | (with_reducible exact LeO.refl _)
   | (with_reducible exact LeO.none _)
   | (with_reducible refine LeO.ite ?_ ?_)
   | (with_reducible refine LeO.bind ?_ (fun _ => ?_))
   | exact ih0 _ _ _ _
   | exact ih1 _ _ _ _ _ _
   | exact ih2 _ _ _ _ _ _ _
   | exact ih3 _ _ _ _ _ _ _
   | exact ih4 _ _ _ _
   | exact solsticekeep_Texts.mono _ _ _
   | exact solsticelaw05_wakes.mono _
   | exact LeO.none _
   | refine LeO.ite ?_ ?_
   | refine LeO.bind ?_ (fun _ => ?_)
set_option maxHeartbeats 8000000 in
set_option maxRecDepth 100000 in
theorem solsticelaw05_FieldsBlanks.calls (k : Nat) (A0 : Option Addr) (c0 : Nat) (l0 : List ByteArray) (a1 : Int) (a2 : ByteArray) (r : Bool) (htrue : r = true) (w : World) (hr0 : Kd.C Kd.string w A0 l0.length l0) (hc0 : l0.length ≤ c0) (hG : GP w) (h : solsticelaw05_FieldsBlanks.f k l0 a1 a2 = some r) :
  Calls Tryd.prog 4 #[.slice A0 l0.length c0, .int .i64 a1, .string a2] w fun e w' => e = .returned (.bool r) ∧ Below w.heap.size w w' := by
 have HG := Aside0.mk hG
 clear hG
 have HR0 := Aside0.mk hr0
 have HC0 := Aside0.mk hc0
 clear hr0 hc0
 have HB := Aside0.mk (Below.refl w.heap.size w)
 have H : (if (l0.length : Int) > 20 then (solsticelaw05_FieldsBlanks.j0 k l0 a1 a2 true) else (solsticelaw05_FieldsBlanks.j0 k l0 a1 a2 (decide ((a2.size : Int) > 100)))) = some r := h
 clear h
 have HC4 := Aside0.mk H
 clear H
 go_enter Tryd.func4, Tryd.ntmps4
 go_upto_region 1 with (fail)
 repeat (go_quiet (fail); go_upto_region 1 with (fail))
 go_cut [23] (fun v23 wc => ∃ (kq : Nat) (x23_3 : Bool), v23 = .bool x23_3 ∧ Aside0 (solsticelaw05_FieldsBlanks.j0 kq l0 a1 a2 x23_3 = some r) ∧ Aside0 (kq ≤ k) ∧ Aside0 (Below w.heap.size w wc))
 case first =>
  have H := HC4.out
  clear HC4
  by_cases c5 : (l0.length : Int) > 20
  ·rw [if_pos c5] at H
   have c5b0 : decide (20 < (l0.length : Int)) = true := decide_eq_true c5
   have c5b1 : decide (20 < l0.length) = true := decide_eq_true (by omega)
   clear c5
   (first | rw [c5b0] | (simp only [i64_w, i32_w]; rw [c5b0]) | skip)
   have H' := Aside0.mk H
   clear H
   go_wp2
   repeat (go_quiet (fail); try go_wp2)
   go_meet
   case rel => exact ⟨_, (true), (by first | rfl | (simp; done) | (simp [*]; done)), H', ⟨by first | omega | exact Nat.le_refl _⟩, ⟨by repeat (first | (with_reducible first | exact HB.out | apply below_alloc | apply pw_below_drewN | apply below_drew1) | exact HB.out)⟩⟩
  ·rw [if_neg c5] at H
   have c5b0 : decide (20 < (l0.length : Int)) = false := decide_eq_false c5
   have c5b1 : decide (20 < l0.length) = false := decide_eq_false (by omega)
   clear c5
   (first | rw [c5b0] | (simp only [i64_w, i32_w]; rw [c5b0]) | skip)
   have H' := Aside0.mk H
   clear H
   go_wp2
   repeat (go_quiet (fail); try go_wp2)
   go_meet
   case rel => exact ⟨_, (decide ((a2.size : Int) > 100)), (by first | rfl | (simp; done) | (simp [*]; done)), H', ⟨by first | omega | exact Nat.le_refl _⟩, ⟨by repeat (first | (with_reducible first | exact HB.out | apply below_alloc | apply pw_below_drewN | apply below_drew1) | exact HB.out)⟩⟩
 case rest =>
  as_aux_lemma =>
   clear HC4
   try clear p2
   try clear c4
   try clear c5
   try clear c5b0
   try clear c5b1
   obtain ⟨kq, x23_3, rfl, HA, HJ3, HB⟩ := hcut
   cases kq with
   | zero => exact absurd HA.out (by simp [solsticelaw05_FieldsBlanks.j0])
   | succ kj3 =>
    have H := HA.out
    clear HA
    simp only [solsticelaw05_FieldsBlanks.j0] at H
    by_cases c6 : x23_3 = true
    ·subst c6
     have H1 : (some true) = some r := by rw [if_pos rfl] at H; exact H
     clear H
     have H := H1
     clear H1
     obtain rfl := Option.some.inj H
     go_wp2
     repeat (go_quiet (fail); try go_wp2)
     go_ret
     exact ⟨by first | rfl | (simp [errW_none, errW_some] <;> rfl) | (simp [*, errW_none, errW_some] <;> rfl), by repeat (first | (with_reducible first | exact HB.out | apply below_alloc | apply pw_below_drewN | apply below_drew1) | exact HB.out)⟩
    ·replace c6 := Bool.eq_false_iff.mpr c6
     subst c6
     have H1 : ((some (([(⟨#[32]⟩ : ByteArray), (⟨#[9]⟩ : ByteArray), (⟨#[32, 32]⟩ : ByteArray), (⟨#[32, 9, 13, 32]⟩ : ByteArray)] : List ByteArray) : List ByteArray)).bind fun y146 => (if 0 ≤ (wrap64 (Int.tmod (IntKind.u64.wrap (a1)) 4)) then (if (wrap64 (Int.tmod (IntKind.u64.wrap (a1)) 4)) < (y146.length : Int) then (solsticelaw05_FieldsBlanks.l0 kj3 l0 a1 a2 y146 (rdOf ByteArray.empty y146 (wrap64 (Int.tmod (IntKind.u64.wrap (a1)) 4))) 0) else (none)) else (none))) = some r := by rw [if_neg (show ¬ (false = true) by decide)] at H; exact H
     clear H
     have H := H1
     clear H1
     obtain ⟨y146, hy146⟩ : ∃ y_ : List ByteArray, y_ = (([(⟨#[32]⟩ : ByteArray), (⟨#[9]⟩ : ByteArray), (⟨#[32, 32]⟩ : ByteArray), (⟨#[32, 9, 13, 32]⟩ : ByteArray)] : List ByteArray)) := ⟨_, rfl⟩
     replace H : (if 0 ≤ (wrap64 (Int.tmod (IntKind.u64.wrap (a1)) 4)) then (if (wrap64 (Int.tmod (IntKind.u64.wrap (a1)) 4)) < (y146.length : Int) then (solsticelaw05_FieldsBlanks.l0 kj3 l0 a1 a2 y146 (rdOf ByteArray.empty y146 (wrap64 (Int.tmod (IntKind.u64.wrap (a1)) 4))) 0) else (none)) else (none)) = some r := by first | (rw [hy146]; with_reducible exact H) | (have H2_ := (Option.bind_some _ _).symm.trans H; rw [hy146]; with_reducible exact H2_) | (have H2_ := (Option.bind_some _ _).symm.trans H; with_reducible exact H2_) | with_reducible exact H | (rw [hy146]; exact H) | exact H
     have Ny146 := Aside0.mk hy146
     clear hy146
     obtain ⟨ji7, hji7⟩ : ∃ j_ : Int, (wrap64 (Int.tmod (IntKind.u64.wrap (a1)) 4)) = j_ := ⟨_, rfl⟩
     replace H : (if 0 ≤ (ji7) then (if (ji7) < (y146.length : Int) then (solsticelaw05_FieldsBlanks.l0 kj3 l0 a1 a2 y146 (rdOf ByteArray.empty y146 (ji7)) 0) else (none)) else (none)) = some r := by first | (rw [hji7] at H; exact H) | (simp only [hji7] at H ⊢; exact H)
     have hji7w : (IntKind.i64.wrap (Int.tmod (IntKind.u64.wrap (a1)) 4)) = ji7 := (i64_w _).trans hji7
     by_cases c8 : 0 ≤ (ji7)
     ·rw [if_pos c8] at H
      have c8b0 : decide (0 ≤ (ji7)) = true := decide_eq_true c8
      clear c8
      by_cases c9 : (ji7) < (y146.length : Int)
      ·rw [if_pos c9] at H
       have c9b0 : decide ((ji7) < (y146.length : Int)) = true := decide_eq_true c9
       clear c9
       have H' := Aside0.mk H
       clear H
       go_wp2_with (first | ((with_reducible refine gate_dst (N := 24) rfl ?_); (try (refine gate_guard (by rfl) ?_; dsimp only)); refine Kd.R_lit Kd.string _ 9 ?hg (N := 24) ?hd (xs := ([(⟨#[32]⟩ : ByteArray), (⟨#[9]⟩ : ByteArray), (⟨#[32, 32]⟩ : ByteArray), (⟨#[32, 9, 13, 32]⟩ : ByteArray)] : List ByteArray)) (inner := [.string (⟨#[32]⟩ : ByteArray), .string (⟨#[9]⟩ : ByteArray), .string (⟨#[32, 32]⟩ : ByteArray), .string (⟨#[32, 9, 13, 32]⟩ : ByteArray)]) (ok := fun _ => True) (okp := fun _ => True) ?hr ?hp (fun _ hk => hk) trivial (Below.refl _ _) (Nat.le_refl _) (by simp) ?_; (case hd => rfl); (case hg => rfl); (case hr => exact lit3_0_ (fun _ => rfl) _); (case hp => exact (Reps.one (show Kd.M Kd.string _ _ _ (⟨#[32]⟩ : ByteArray) [.string (⟨#[32]⟩ : ByteArray)] from rfl) (Reps.one (show Kd.M Kd.string _ _ _ (⟨#[9]⟩ : ByteArray) [.string (⟨#[9]⟩ : ByteArray)] from rfl) (Reps.one (show Kd.M Kd.string _ _ _ (⟨#[32, 32]⟩ : ByteArray) [.string (⟨#[32, 32]⟩ : ByteArray)] from rfl) (Reps.one (show Kd.M Kd.string _ _ _ (⟨#[32, 9, 13, 32]⟩ : ByteArray) [.string (⟨#[32, 9, 13, 32]⟩ : ByteArray)] from rfl) (Reps.none _ _)))))); intro v147 w10 ho11 hb hg_ hnew_; clear hg_ hnew_; (first | rw [← Ny146.out] at ho11 | (simp only [Int.reduceToNat] at ho11; rw [← Ny146.out] at ho11)); have n0_ := Aside0.mk (Kd.R_lower ho11 (below_size (by repeat (first | (with_reducible first | exact HB.out | apply below_alloc | apply pw_below_drewN | apply below_drew1) | exact HB.out)))); have n1_ := Aside0.mk (below_step (by repeat (first | (with_reducible first | exact HB.out | apply below_alloc | apply pw_below_drewN | apply below_drew1) | exact HB.out)) hb); clear HB; have HO148 := n0_; have HB := n1_; clear n0_ n1_; clear hb ho11; obtain ⟨Ao12, co12, eo12⟩ := Kd.R_slice HO148.out; subst eo12; have p149 : 0 ≤ ((ji7) : Int) := of_decide_eq_true (by first | (with_reducible assumption) | assumption); have q149 : (ji7) < (y146.length : Int) := of_decide_eq_true (by first | (with_reducible assumption) | assumption); obtain ⟨ad149, e149, hx149_0⟩ := Kd.at_string (Kd.R_reads' HO148.out).2.2 (ji7) p149 q149; cases e149; replace p149 := eq_true p149; replace q149 := eq_true q149))
       repeat (go_quiet (first | ((with_reducible refine gate_dst (N := 24) rfl ?_); (try (refine gate_guard (by rfl) ?_; dsimp only)); refine Kd.R_lit Kd.string _ 9 ?hg (N := 24) ?hd (xs := ([(⟨#[32]⟩ : ByteArray), (⟨#[9]⟩ : ByteArray), (⟨#[32, 32]⟩ : ByteArray), (⟨#[32, 9, 13, 32]⟩ : ByteArray)] : List ByteArray)) (inner := [.string (⟨#[32]⟩ : ByteArray), .string (⟨#[9]⟩ : ByteArray), .string (⟨#[32, 32]⟩ : ByteArray), .string (⟨#[32, 9, 13, 32]⟩ : ByteArray)]) (ok := fun _ => True) (okp := fun _ => True) ?hr ?hp (fun _ hk => hk) trivial (Below.refl _ _) (Nat.le_refl _) (by simp) ?_; (case hd => rfl); (case hg => rfl); (case hr => exact lit3_0_ (fun _ => rfl) _); (case hp => exact (Reps.one (show Kd.M Kd.string _ _ _ (⟨#[32]⟩ : ByteArray) [.string (⟨#[32]⟩ : ByteArray)] from rfl) (Reps.one (show Kd.M Kd.string _ _ _ (⟨#[9]⟩ : ByteArray) [.string (⟨#[9]⟩ : ByteArray)] from rfl) (Reps.one (show Kd.M Kd.string _ _ _ (⟨#[32, 32]⟩ : ByteArray) [.string (⟨#[32, 32]⟩ : ByteArray)] from rfl) (Reps.one (show Kd.M Kd.string _ _ _ (⟨#[32, 9, 13, 32]⟩ : ByteArray) [.string (⟨#[32, 9, 13, 32]⟩ : ByteArray)] from rfl) (Reps.none _ _)))))); intro v147 w10 ho11 hb hg_ hnew_; clear hg_ hnew_; (first | rw [← Ny146.out] at ho11 | (simp only [Int.reduceToNat] at ho11; rw [← Ny146.out] at ho11)); have n0_ := Aside0.mk (Kd.R_lower ho11 (below_size (by repeat (first | (with_reducible first | exact HB.out | apply below_alloc | apply pw_below_drewN | apply below_drew1) | exact HB.out)))); have n1_ := Aside0.mk (below_step (by repeat (first | (with_reducible first | exact HB.out | apply below_alloc | apply pw_below_drewN | apply below_drew1) | exact HB.out)) hb); clear HB; have HO148 := n0_; have HB := n1_; clear n0_ n1_; clear hb ho11; obtain ⟨Ao12, co12, eo12⟩ := Kd.R_slice HO148.out; subst eo12; have p149 : 0 ≤ ((ji7) : Int) := of_decide_eq_true (by first | (with_reducible assumption) | assumption); have q149 : (ji7) < (y146.length : Int) := of_decide_eq_true (by first | (with_reducible assumption) | assumption); obtain ⟨ad149, e149, hx149_0⟩ := Kd.at_string (Kd.R_reads' HO148.out).2.2 (ji7) p149 q149; cases e149; replace p149 := eq_true p149; replace q149 := eq_true q149)); try go_wp2_with (first | ((with_reducible refine gate_dst (N := 24) rfl ?_); (try (refine gate_guard (by rfl) ?_; dsimp only)); refine Kd.R_lit Kd.string _ 9 ?hg (N := 24) ?hd (xs := ([(⟨#[32]⟩ : ByteArray), (⟨#[9]⟩ : ByteArray), (⟨#[32, 32]⟩ : ByteArray), (⟨#[32, 9, 13, 32]⟩ : ByteArray)] : List ByteArray)) (inner := [.string (⟨#[32]⟩ : ByteArray), .string (⟨#[9]⟩ : ByteArray), .string (⟨#[32, 32]⟩ : ByteArray), .string (⟨#[32, 9, 13, 32]⟩ : ByteArray)]) (ok := fun _ => True) (okp := fun _ => True) ?hr ?hp (fun _ hk => hk) trivial (Below.refl _ _) (Nat.le_refl _) (by simp) ?_; (case hd => rfl); (case hg => rfl); (case hr => exact lit3_0_ (fun _ => rfl) _); (case hp => exact (Reps.one (show Kd.M Kd.string _ _ _ (⟨#[32]⟩ : ByteArray) [.string (⟨#[32]⟩ : ByteArray)] from rfl) (Reps.one (show Kd.M Kd.string _ _ _ (⟨#[9]⟩ : ByteArray) [.string (⟨#[9]⟩ : ByteArray)] from rfl) (Reps.one (show Kd.M Kd.string _ _ _ (⟨#[32, 32]⟩ : ByteArray) [.string (⟨#[32, 32]⟩ : ByteArray)] from rfl) (Reps.one (show Kd.M Kd.string _ _ _ (⟨#[32, 9, 13, 32]⟩ : ByteArray) [.string (⟨#[32, 9, 13, 32]⟩ : ByteArray)] from rfl) (Reps.none _ _)))))); intro v147 w10 ho11 hb hg_ hnew_; clear hg_ hnew_; (first | rw [← Ny146.out] at ho11 | (simp only [Int.reduceToNat] at ho11; rw [← Ny146.out] at ho11)); have n0_ := Aside0.mk (Kd.R_lower ho11 (below_size (by repeat (first | (with_reducible first | exact HB.out | apply below_alloc | apply pw_below_drewN | apply below_drew1) | exact HB.out)))); have n1_ := Aside0.mk (below_step (by repeat (first | (with_reducible first | exact HB.out | apply below_alloc | apply pw_below_drewN | apply below_drew1) | exact HB.out)) hb); clear HB; have HO148 := n0_; have HB := n1_; clear n0_ n1_; clear hb ho11; obtain ⟨Ao12, co12, eo12⟩ := Kd.R_slice HO148.out; subst eo12; have p149 : 0 ≤ ((ji7) : Int) := of_decide_eq_true (by first | (with_reducible assumption) | assumption); have q149 : (ji7) < (y146.length : Int) := of_decide_eq_true (by first | (with_reducible assumption) | assumption); obtain ⟨ad149, e149, hx149_0⟩ := Kd.at_string (Kd.R_reads' HO148.out).2.2 (ji7) p149 q149; cases e149; replace p149 := eq_true p149; replace q149 := eq_true q149)))
       go_loopg [8, 9] kj3 (fun kq v8 v9 w' => ∃ (x8_2 : ByteArray) (x9_2 : Int), v8 = .string x8_2 ∧ v9 = .int .i64 x9_2 ∧ Aside0 (solsticelaw05_FieldsBlanks.l0 kq l0 a1 a2 y146 x8_2 x9_2 = some r) ∧ Aside0 (kq ≤ kj3) ∧ Aside0 (Kd.R Kd.string 9 w' w.heap.size (fun _ => True) (.slice (some ad149) y146.length co12) y146) ∧ Aside0 (Below w.heap.size w w'))
       case atStart => exact ⟨(rdOf ByteArray.empty y146 (ji7)), (0), (by first | rfl | (simp; done) | (simp only [← hji7] <;> (first | rfl | (simp; done))) | (simp [*]; done)), (by first | rfl | (simp; done) | (simp [*]; done)), H', ⟨Nat.le_refl _⟩, ⟨by (with_reducible repeat (first | apply Kd.R_alloc | apply Kd.R_drewN | apply Kd.R_drew)); exact HO148.out⟩, ⟨by repeat (first | (with_reducible first | exact HB.out | apply below_alloc | apply pw_below_drewN | apply below_drew1) | exact HB.out)⟩⟩
       case round =>
        as_aux_lemma =>
         clear H'
         try clear p1
         try clear q1
         try clear hx1
         try clear p2
         try clear c4
         try clear c5
         try clear c5b0
         try clear c5b1
         try clear c6
         try clear p6
         try clear c8
         try clear c8b0
         try clear c9
         try clear c9b0
         try clear hx149_0
         try clear p149
         try clear p2
         try clear q149
         obtain ⟨x8_2, x9_2, rfl, rfl, HA, HK2, HO_7, HB⟩ := hrel
         cases gk with
         | zero => exact absurd HA.out (by simp [solsticelaw05_FieldsBlanks.l0])
         | succ k2 =>
          have H := HA.out
          clear HA
          simp only [solsticelaw05_FieldsBlanks.l0] at H
          by_cases c13 : x9_2 < (l0.length : Int)
          ·rw [if_pos c13] at H
           have c13b0 : decide (x9_2 < (l0.length : Int)) = true := decide_eq_true c13
           clear c13
           have HC14 := Aside0.mk H
           clear H
           go_upto_region 8 with (fail)
           repeat (go_quiet (fail); go_upto_region 8 with (fail))
           go_cut [51] (fun v51 wc => ∃ (kq : Nat) (x51_13 : Bool), v51 = .bool x51_13 ∧ Aside0 (solsticelaw05_FieldsBlanks.j2 kq l0 a1 a2 y146 x8_2 x9_2 x51_13 = some r) ∧ Aside0 (kq ≤ k2) ∧ Aside0 (Kd.R Kd.string 9 wc w.heap.size (fun _ => True) (.slice (some ad149) y146.length co12) y146) ∧ Aside0 (Below w.heap.size w wc))
           case first =>
            have H := HC14.out
            clear HC14
            by_cases c15 : 0 ≤ x9_2
            ·rw [if_pos c15] at H
             have c15b0 : decide (0 ≤ x9_2) = true := decide_eq_true c15
             clear c15
             (first | rw [c15b0] | (simp only [i64_w, i32_w]; rw [c15b0]) | skip)
             by_cases c16 : ((rdOf ByteArray.empty l0 x9_2).size : Int) < 1
             ·rw [if_pos c16] at H
              have c16b0 : decide (((rdOf ByteArray.empty l0 x9_2).size : Int) < 1) = true := decide_eq_true c16
              have c16b1 : decide ((rdOf ByteArray.empty l0 x9_2).size < 1) = true := decide_eq_true (by omega)
              clear c16
              have H' := Aside0.mk H
              clear H
              have p150 : 0 ≤ (x9_2 : Int) := of_decide_eq_true (by first | (with_reducible assumption) | assumption)
              have q150 : x9_2 < (l0.length : Int) := of_decide_eq_true (by first | (with_reducible assumption) | assumption)
              obtain ⟨ad150, e150, hx150_0⟩ := Kd.at_string HR0.out x9_2 p150 q150
              cases e150
              replace hx150_0 := (HB.out.cell (World.block_lt_of_cell? w _ hx150_0)).trans hx150_0
              replace p150 := eq_true p150
              replace q150 := eq_true q150
              go_wp2
              repeat (go_quiet (fail); try go_wp2)
              go_meet
              case rel => exact ⟨_, (true), (by first | rfl | (simp; done) | (simp [*]; done)), H', ⟨by have := HJ3.out; have := HK2.out; first | omega | exact Nat.le_refl _⟩, ⟨by (with_reducible repeat (first | apply Kd.R_alloc | apply Kd.R_drewN | apply Kd.R_drew)); exact HO_7.out⟩, ⟨by repeat (first | (with_reducible first | exact HB.out | apply below_alloc | apply pw_below_drewN | apply below_drew1) | exact HB.out)⟩⟩
             ·rw [if_neg c16] at H
              have c16b0 : decide (((rdOf ByteArray.empty l0 x9_2).size : Int) < 1) = false := decide_eq_false c16
              have c16b1 : decide ((rdOf ByteArray.empty l0 x9_2).size < 1) = false := decide_eq_false (by omega)
              clear c16
              have H' := Aside0.mk H
              clear H
              have p150 : 0 ≤ (x9_2 : Int) := of_decide_eq_true (by first | (with_reducible assumption) | assumption)
              have q150 : x9_2 < (l0.length : Int) := of_decide_eq_true (by first | (with_reducible assumption) | assumption)
              obtain ⟨ad150, e150, hx150_0⟩ := Kd.at_string HR0.out x9_2 p150 q150
              cases e150
              replace hx150_0 := (HB.out.cell (World.block_lt_of_cell? w _ hx150_0)).trans hx150_0
              replace p150 := eq_true p150
              replace q150 := eq_true q150
              have p151 : 0 ≤ (x9_2 : Int) := of_decide_eq_true (by first | (with_reducible assumption) | assumption)
              have q151 : x9_2 < (l0.length : Int) := of_decide_eq_true (by first | (with_reducible assumption) | assumption)
              obtain ⟨ad151, e151, hx151_0⟩ := Kd.at_string HR0.out x9_2 p151 q151
              obtain rfl : ad150 = ad151 := (by injection e151)
              replace hx151_0 := (HB.out.cell (World.block_lt_of_cell? w _ hx151_0)).trans hx151_0
              replace p151 := eq_true p151
              replace q151 := eq_true q151
              go_wp2
              repeat (go_quiet (fail); try go_wp2)
              go_meet
              case rel => exact ⟨_, (decide (((rdOf ByteArray.empty l0 x9_2).size : Int) > 10)), (by first | rfl | (simp; done) | (simp [*]; done)), H', ⟨by have := HJ3.out; have := HK2.out; first | omega | exact Nat.le_refl _⟩, ⟨by (with_reducible repeat (first | apply Kd.R_alloc | apply Kd.R_drewN | apply Kd.R_drew)); exact HO_7.out⟩, ⟨by repeat (first | (with_reducible first | exact HB.out | apply below_alloc | apply pw_below_drewN | apply below_drew1) | exact HB.out)⟩⟩
            ·rw [if_neg c15] at H
             exact absurd H (by simp)
           case rest =>
            as_aux_lemma =>
             clear HC14
             try clear c1
             try clear p1
             try clear q1
             try clear hx1
             try clear p2
             try clear c4
             try clear c5
             try clear c5b0
             try clear c5b1
             try clear c6
             try clear p6
             try clear c8
             try clear c8b0
             try clear c9
             try clear c9b0
             try clear c13
             try clear c13b0
             try clear p14
             try clear q14
             try clear hx14
             try clear c15
             try clear c15b0
             try clear p15
             try clear q15
             try clear hx15
             try clear c16
             try clear c16b0
             try clear c16b1
             try clear hx149_0
             try clear hx150_0
             try clear hx151_0
             try clear p1
             try clear p149
             try clear p150
             try clear p151
             try clear p2
             try clear p6
             try clear q1
             try clear q149
             try clear q150
             try clear q151
             obtain ⟨kq, x51_13, rfl, HA, HJ13, HO_7, HB⟩ := hcut
             cases kq with
             | zero => exact absurd HA.out (by simp [solsticelaw05_FieldsBlanks.j2])
             | succ kj13 =>
              have H := HA.out
              clear HA
              simp only [solsticelaw05_FieldsBlanks.j2] at H
              by_cases c17 : x51_13 = true
              ·subst c17
               have H1 : (some true) = some r := by rw [if_pos rfl] at H; exact H
               clear H
               have H := H1
               clear H1
               obtain rfl := Option.some.inj H
               go_wp2
               repeat (go_quiet (fail); try go_wp2)
               go_ret
               exact ⟨by first | rfl | (simp [errW_none, errW_some] <;> rfl) | (simp only [← hji7]; first | rfl | (simp [errW_none, errW_some] <;> rfl)) | (simp [*, errW_none, errW_some] <;> rfl), by repeat (first | (with_reducible first | exact HB.out | apply below_alloc | apply pw_below_drewN | apply below_drew1) | exact HB.out)⟩
              ·replace c17 := Bool.eq_false_iff.mpr c17
               subst c17
               have H1 : (solsticelaw05_FieldsBlanks.l1 kj13 l0 a1 a2 y146 x8_2 x9_2 0) = some r := by rw [if_neg (show ¬ (false = true) by decide)] at H; exact H
               clear H
               have H := H1
               clear H1
               have H' := Aside0.mk H
               clear H
               go_wp2
               repeat (go_quiet (fail); try go_wp2)
               go_loopg [10] kj13 (fun kq v10 w' => ∃ (x10_4 : Int), v10 = .int .i64 x10_4 ∧ Aside0 (solsticelaw05_FieldsBlanks.l1 kq l0 a1 a2 y146 x8_2 x9_2 x10_4 = some r) ∧ Aside0 (kq ≤ kj13) ∧ Aside0 (Kd.R Kd.string 9 w' w.heap.size (fun _ => True) (.slice (some ad149) y146.length co12) y146) ∧ Aside0 (Below w.heap.size w w'))
               case atStart => exact ⟨(0), (by first | rfl | (simp; done) | (simp [*]; done)), H', ⟨Nat.le_refl _⟩, ⟨by (with_reducible repeat (first | apply Kd.R_alloc | apply Kd.R_drewN | apply Kd.R_drew)); exact HO_7.out⟩, ⟨by repeat (first | (with_reducible first | exact HB.out | apply below_alloc | apply pw_below_drewN | apply below_drew1) | exact HB.out)⟩⟩
               case round =>
                as_aux_lemma =>
                 clear H'
                 try clear c1
                 try clear p1
                 try clear q1
                 try clear hx1
                 try clear p2
                 try clear c4
                 try clear c5
                 try clear c5b0
                 try clear c5b1
                 try clear c6
                 try clear p6
                 try clear c8
                 try clear c8b0
                 try clear c9
                 try clear c9b0
                 try clear c13
                 try clear c13b0
                 try clear p14
                 try clear q14
                 try clear hx14
                 try clear c15
                 try clear c15b0
                 try clear p15
                 try clear q15
                 try clear hx15
                 try clear c16
                 try clear c16b0
                 try clear c16b1
                 try clear c17
                 try clear hx149_0
                 try clear hx150_0
                 try clear hx151_0
                 try clear p1
                 try clear p14
                 try clear p149
                 try clear p15
                 try clear p150
                 try clear p151
                 try clear p2
                 try clear p6
                 try clear q1
                 try clear q14
                 try clear q149
                 try clear q15
                 try clear q150
                 try clear q151
                 obtain ⟨x10_4, rfl, HA, HK4, HO_7, HB⟩ := hrel
                 cases gk with
                 | zero => exact absurd HA.out (by simp [solsticelaw05_FieldsBlanks.l1])
                 | succ k4 =>
                  have H := HA.out
                  clear HA
                  simp only [solsticelaw05_FieldsBlanks.l1] at H
                  by_cases c18 : 0 ≤ x9_2
                  ·rw [if_pos c18] at H
                   have c18b0 : decide (0 ≤ x9_2) = true := decide_eq_true c18
                   clear c18
                   by_cases c19 : x9_2 < (l0.length : Int)
                   ·rw [if_pos c19] at H
                    have c19b0 : decide (x9_2 < (l0.length : Int)) = true := decide_eq_true c19
                    clear c19
                    by_cases c20 : x10_4 < ((rdOf ByteArray.empty l0 x9_2).size : Int)
                    ·rw [if_pos c20] at H
                     have c20b0 : decide (x10_4 < ((rdOf ByteArray.empty l0 x9_2).size : Int)) = true := decide_eq_true c20
                     clear c20
                     by_cases c21 : 0 ≤ x10_4
                     ·rw [if_pos c21] at H
                      have c21b0 : decide (0 ≤ x10_4) = true := decide_eq_true c21
                      clear c21
                      by_cases c23 : (bt (rdOf ByteArray.empty l0 x9_2) x10_4) ≤ 32
                      ·rw [if_pos c23] at H
                       have c23b0 : decide ((bt (rdOf ByteArray.empty l0 x9_2) x10_4) ≤ 32) = true := decide_eq_true c23
                       clear c23
                       obtain rfl := Option.some.inj H
                       have p152 : 0 ≤ (x9_2 : Int) := of_decide_eq_true (by first | (with_reducible assumption) | assumption)
                       have q152 : x9_2 < (l0.length : Int) := of_decide_eq_true (by first | (with_reducible assumption) | assumption)
                       obtain ⟨ad152, e152, hx152_0⟩ := Kd.at_string HR0.out x9_2 p152 q152
                       cases e152
                       replace hx152_0 := (HB.out.cell (World.block_lt_of_cell? w _ hx152_0)).trans hx152_0
                       replace p152 := eq_true p152
                       replace q152 := eq_true q152
                       have p153 : 0 ≤ (x9_2 : Int) := of_decide_eq_true (by first | (with_reducible assumption) | assumption)
                       have q153 : x9_2 < (l0.length : Int) := of_decide_eq_true (by first | (with_reducible assumption) | assumption)
                       obtain ⟨ad153, e153, hx153_0⟩ := Kd.at_string HR0.out x9_2 p153 q153
                       obtain rfl : ad152 = ad153 := (by injection e153)
                       replace hx153_0 := (HB.out.cell (World.block_lt_of_cell? w _ hx153_0)).trans hx153_0
                       replace p153 := eq_true p153
                       replace q153 := eq_true q153
                       have p22 : 0 ≤ (x10_4 : Int) := of_decide_eq_true (by first | (with_reducible assumption) | assumption)
                       have q22 : x10_4 < ((rdOf ByteArray.empty l0 x9_2).size : Int) := of_decide_eq_true (by first | (with_reducible assumption) | assumption)
                       have hx22 := bt_at (rdOf ByteArray.empty l0 x9_2) x10_4
                       replace p22 := eq_true p22
                       replace q22 := eq_true q22
                       go_wp2
                       repeat (go_quiet (fail); try go_wp2)
                       go_ret
                       exact ⟨by first | rfl | (simp [errW_none, errW_some] <;> rfl) | (simp only [← hji7]; first | rfl | (simp [errW_none, errW_some] <;> rfl)) | (simp [*, errW_none, errW_some] <;> rfl), by repeat (first | (with_reducible first | exact HB.out | apply below_alloc | apply pw_below_drewN | apply below_drew1) | exact HB.out)⟩
                      ·rw [if_neg c23] at H
                       have c23b0 : decide ((bt (rdOf ByteArray.empty l0 x9_2) x10_4) ≤ 32) = false := decide_eq_false c23
                       clear c23
                       by_cases c25 : (bt (rdOf ByteArray.empty l0 x9_2) x10_4) = 35
                       ·rw [if_pos c25] at H
                        have c25b0 : ((bt (rdOf ByteArray.empty l0 x9_2) x10_4) == 35) = true := beq_iff_eq.mpr c25
                        have c25b1 : ((bt (rdOf ByteArray.empty l0 x9_2) x10_4) != 35) = false := bne_eq_false_iff_eq.mpr c25
                        clear c25
                        obtain rfl := Option.some.inj H
                        have p152 : 0 ≤ (x9_2 : Int) := of_decide_eq_true (by first | (with_reducible assumption) | assumption)
                        have q152 : x9_2 < (l0.length : Int) := of_decide_eq_true (by first | (with_reducible assumption) | assumption)
                        obtain ⟨ad152, e152, hx152_0⟩ := Kd.at_string HR0.out x9_2 p152 q152
                        cases e152
                        replace hx152_0 := (HB.out.cell (World.block_lt_of_cell? w _ hx152_0)).trans hx152_0
                        replace p152 := eq_true p152
                        replace q152 := eq_true q152
                        have p153 : 0 ≤ (x9_2 : Int) := of_decide_eq_true (by first | (with_reducible assumption) | assumption)
                        have q153 : x9_2 < (l0.length : Int) := of_decide_eq_true (by first | (with_reducible assumption) | assumption)
                        obtain ⟨ad153, e153, hx153_0⟩ := Kd.at_string HR0.out x9_2 p153 q153
                        obtain rfl : ad152 = ad153 := (by injection e153)
                        replace hx153_0 := (HB.out.cell (World.block_lt_of_cell? w _ hx153_0)).trans hx153_0
                        replace p153 := eq_true p153
                        replace q153 := eq_true q153
                        have p22 : 0 ≤ (x10_4 : Int) := of_decide_eq_true (by first | (with_reducible assumption) | assumption)
                        have q22 : x10_4 < ((rdOf ByteArray.empty l0 x9_2).size : Int) := of_decide_eq_true (by first | (with_reducible assumption) | assumption)
                        have hx22 := bt_at (rdOf ByteArray.empty l0 x9_2) x10_4
                        replace p22 := eq_true p22
                        replace q22 := eq_true q22
                        have p154 : 0 ≤ (x9_2 : Int) := of_decide_eq_true (by first | (with_reducible assumption) | assumption)
                        have q154 : x9_2 < (l0.length : Int) := of_decide_eq_true (by first | (with_reducible assumption) | assumption)
                        obtain ⟨ad154, e154, hx154_0⟩ := Kd.at_string HR0.out x9_2 p154 q154
                        obtain rfl : ad152 = ad154 := (by injection e154)
                        replace hx154_0 := (HB.out.cell (World.block_lt_of_cell? w _ hx154_0)).trans hx154_0
                        replace p154 := eq_true p154
                        replace q154 := eq_true q154
                        have p24 : 0 ≤ (x10_4 : Int) := of_decide_eq_true (by first | (with_reducible assumption) | assumption)
                        have q24 : x10_4 < ((rdOf ByteArray.empty l0 x9_2).size : Int) := of_decide_eq_true (by first | (with_reducible assumption) | assumption)
                        have hx24 := bt_at (rdOf ByteArray.empty l0 x9_2) x10_4
                        replace p24 := eq_true p24
                        replace q24 := eq_true q24
                        go_wp2
                        repeat (go_quiet (fail); try go_wp2)
                        go_ret
                        exact ⟨by first | rfl | (simp [errW_none, errW_some] <;> rfl) | (simp only [← hji7]; first | rfl | (simp [errW_none, errW_some] <;> rfl)) | (simp [*, errW_none, errW_some] <;> rfl), by repeat (first | (with_reducible first | exact HB.out | apply below_alloc | apply pw_below_drewN | apply below_drew1) | exact HB.out)⟩
                       ·rw [if_neg c25] at H
                        have c25b0 : ((bt (rdOf ByteArray.empty l0 x9_2) x10_4) == 35) = false := beq_eq_false_iff_ne.mpr c25
                        have c25b1 : ((bt (rdOf ByteArray.empty l0 x9_2) x10_4) != 35) = true := bne_iff_ne.mpr c25
                        by_cases c27 : (bt (rdOf ByteArray.empty l0 x9_2) x10_4) = 34
                        ·rw [if_pos c27] at H
                         have c27b0 : ((bt (rdOf ByteArray.empty l0 x9_2) x10_4) == 34) = true := beq_iff_eq.mpr c27
                         have c27b1 : ((bt (rdOf ByteArray.empty l0 x9_2) x10_4) != 34) = false := bne_eq_false_iff_eq.mpr c27
                         clear c27
                         obtain rfl := Option.some.inj H
                         have p152 : 0 ≤ (x9_2 : Int) := of_decide_eq_true (by first | (with_reducible assumption) | assumption)
                         have q152 : x9_2 < (l0.length : Int) := of_decide_eq_true (by first | (with_reducible assumption) | assumption)
                         obtain ⟨ad152, e152, hx152_0⟩ := Kd.at_string HR0.out x9_2 p152 q152
                         cases e152
                         replace hx152_0 := (HB.out.cell (World.block_lt_of_cell? w _ hx152_0)).trans hx152_0
                         replace p152 := eq_true p152
                         replace q152 := eq_true q152
                         have p153 : 0 ≤ (x9_2 : Int) := of_decide_eq_true (by first | (with_reducible assumption) | assumption)
                         have q153 : x9_2 < (l0.length : Int) := of_decide_eq_true (by first | (with_reducible assumption) | assumption)
                         obtain ⟨ad153, e153, hx153_0⟩ := Kd.at_string HR0.out x9_2 p153 q153
                         obtain rfl : ad152 = ad153 := (by injection e153)
                         replace hx153_0 := (HB.out.cell (World.block_lt_of_cell? w _ hx153_0)).trans hx153_0
                         replace p153 := eq_true p153
                         replace q153 := eq_true q153
                         have p22 : 0 ≤ (x10_4 : Int) := of_decide_eq_true (by first | (with_reducible assumption) | assumption)
                         have q22 : x10_4 < ((rdOf ByteArray.empty l0 x9_2).size : Int) := of_decide_eq_true (by first | (with_reducible assumption) | assumption)
                         have hx22 := bt_at (rdOf ByteArray.empty l0 x9_2) x10_4
                         replace p22 := eq_true p22
                         replace q22 := eq_true q22
                         have p154 : 0 ≤ (x9_2 : Int) := of_decide_eq_true (by first | (with_reducible assumption) | assumption)
                         have q154 : x9_2 < (l0.length : Int) := of_decide_eq_true (by first | (with_reducible assumption) | assumption)
                         obtain ⟨ad154, e154, hx154_0⟩ := Kd.at_string HR0.out x9_2 p154 q154
                         obtain rfl : ad152 = ad154 := (by injection e154)
                         replace hx154_0 := (HB.out.cell (World.block_lt_of_cell? w _ hx154_0)).trans hx154_0
                         replace p154 := eq_true p154
                         replace q154 := eq_true q154
                         have p24 : 0 ≤ (x10_4 : Int) := of_decide_eq_true (by first | (with_reducible assumption) | assumption)
                         have q24 : x10_4 < ((rdOf ByteArray.empty l0 x9_2).size : Int) := of_decide_eq_true (by first | (with_reducible assumption) | assumption)
                         have hx24 := bt_at (rdOf ByteArray.empty l0 x9_2) x10_4
                         replace p24 := eq_true p24
                         replace q24 := eq_true q24
                         have p155 : 0 ≤ (x9_2 : Int) := of_decide_eq_true (by first | (with_reducible assumption) | assumption)
                         have q155 : x9_2 < (l0.length : Int) := of_decide_eq_true (by first | (with_reducible assumption) | assumption)
                         obtain ⟨ad155, e155, hx155_0⟩ := Kd.at_string HR0.out x9_2 p155 q155
                         obtain rfl : ad152 = ad155 := (by injection e155)
                         replace hx155_0 := (HB.out.cell (World.block_lt_of_cell? w _ hx155_0)).trans hx155_0
                         replace p155 := eq_true p155
                         replace q155 := eq_true q155
                         have p26 : 0 ≤ (x10_4 : Int) := of_decide_eq_true (by first | (with_reducible assumption) | assumption)
                         have q26 : x10_4 < ((rdOf ByteArray.empty l0 x9_2).size : Int) := of_decide_eq_true (by first | (with_reducible assumption) | assumption)
                         have hx26 := bt_at (rdOf ByteArray.empty l0 x9_2) x10_4
                         replace p26 := eq_true p26
                         replace q26 := eq_true q26
                         go_wp2
                         repeat (go_quiet (fail); try go_wp2)
                         go_ret
                         exact ⟨by first | rfl | (simp [errW_none, errW_some] <;> rfl) | (simp only [← hji7]; first | rfl | (simp [errW_none, errW_some] <;> rfl)) | (simp [*, errW_none, errW_some] <;> rfl), by repeat (first | (with_reducible first | exact HB.out | apply below_alloc | apply pw_below_drewN | apply below_drew1) | exact HB.out)⟩
                        ·rw [if_neg c27] at H
                         have c27b0 : ((bt (rdOf ByteArray.empty l0 x9_2) x10_4) == 34) = false := beq_eq_false_iff_ne.mpr c27
                         have c27b1 : ((bt (rdOf ByteArray.empty l0 x9_2) x10_4) != 34) = true := bne_iff_ne.mpr c27
                         have H' := Aside0.mk H
                         clear H
                         have p152 : 0 ≤ (x9_2 : Int) := of_decide_eq_true (by first | (with_reducible assumption) | assumption)
                         have q152 : x9_2 < (l0.length : Int) := of_decide_eq_true (by first | (with_reducible assumption) | assumption)
                         obtain ⟨ad152, e152, hx152_0⟩ := Kd.at_string HR0.out x9_2 p152 q152
                         cases e152
                         replace hx152_0 := (HB.out.cell (World.block_lt_of_cell? w _ hx152_0)).trans hx152_0
                         replace p152 := eq_true p152
                         replace q152 := eq_true q152
                         have p153 : 0 ≤ (x9_2 : Int) := of_decide_eq_true (by first | (with_reducible assumption) | assumption)
                         have q153 : x9_2 < (l0.length : Int) := of_decide_eq_true (by first | (with_reducible assumption) | assumption)
                         obtain ⟨ad153, e153, hx153_0⟩ := Kd.at_string HR0.out x9_2 p153 q153
                         obtain rfl : ad152 = ad153 := (by injection e153)
                         replace hx153_0 := (HB.out.cell (World.block_lt_of_cell? w _ hx153_0)).trans hx153_0
                         replace p153 := eq_true p153
                         replace q153 := eq_true q153
                         have p22 : 0 ≤ (x10_4 : Int) := of_decide_eq_true (by first | (with_reducible assumption) | assumption)
                         have q22 : x10_4 < ((rdOf ByteArray.empty l0 x9_2).size : Int) := of_decide_eq_true (by first | (with_reducible assumption) | assumption)
                         have hx22 := bt_at (rdOf ByteArray.empty l0 x9_2) x10_4
                         replace p22 := eq_true p22
                         replace q22 := eq_true q22
                         have p154 : 0 ≤ (x9_2 : Int) := of_decide_eq_true (by first | (with_reducible assumption) | assumption)
                         have q154 : x9_2 < (l0.length : Int) := of_decide_eq_true (by first | (with_reducible assumption) | assumption)
                         obtain ⟨ad154, e154, hx154_0⟩ := Kd.at_string HR0.out x9_2 p154 q154
                         obtain rfl : ad152 = ad154 := (by injection e154)
                         replace hx154_0 := (HB.out.cell (World.block_lt_of_cell? w _ hx154_0)).trans hx154_0
                         replace p154 := eq_true p154
                         replace q154 := eq_true q154
                         have p24 : 0 ≤ (x10_4 : Int) := of_decide_eq_true (by first | (with_reducible assumption) | assumption)
                         have q24 : x10_4 < ((rdOf ByteArray.empty l0 x9_2).size : Int) := of_decide_eq_true (by first | (with_reducible assumption) | assumption)
                         have hx24 := bt_at (rdOf ByteArray.empty l0 x9_2) x10_4
                         replace p24 := eq_true p24
                         replace q24 := eq_true q24
                         have p155 : 0 ≤ (x9_2 : Int) := of_decide_eq_true (by first | (with_reducible assumption) | assumption)
                         have q155 : x9_2 < (l0.length : Int) := of_decide_eq_true (by first | (with_reducible assumption) | assumption)
                         obtain ⟨ad155, e155, hx155_0⟩ := Kd.at_string HR0.out x9_2 p155 q155
                         obtain rfl : ad152 = ad155 := (by injection e155)
                         replace hx155_0 := (HB.out.cell (World.block_lt_of_cell? w _ hx155_0)).trans hx155_0
                         replace p155 := eq_true p155
                         replace q155 := eq_true q155
                         have p26 : 0 ≤ (x10_4 : Int) := of_decide_eq_true (by first | (with_reducible assumption) | assumption)
                         have q26 : x10_4 < ((rdOf ByteArray.empty l0 x9_2).size : Int) := of_decide_eq_true (by first | (with_reducible assumption) | assumption)
                         have hx26 := bt_at (rdOf ByteArray.empty l0 x9_2) x10_4
                         replace p26 := eq_true p26
                         replace q26 := eq_true q26
                         go_wp2
                         repeat (go_quiet (fail); try go_wp2)
                         go_roundg k4
                         case measure => have := HJ3.out; have := HK2.out; have := HJ13.out; have := HK4.out; omega
                         case rel => exact ⟨(wrap64 (x10_4 + 1)), (by first | rfl | (simp; done) | (simp [*]; done)), H', ⟨by have := HJ3.out; have := HK2.out; have := HJ13.out; have := HK4.out; omega⟩, ⟨by (with_reducible repeat (first | apply Kd.R_alloc | apply Kd.R_drewN | apply Kd.R_drew)); exact HO_7.out⟩, ⟨by repeat (first | (with_reducible first | exact HB.out | apply below_alloc | apply pw_below_drewN | apply below_drew1) | exact HB.out)⟩⟩
                     ·rw [if_neg c21] at H
                      exact absurd H (by simp)
                    ·rw [if_neg c20] at H
                     have c20b0 : decide (x10_4 < ((rdOf ByteArray.empty l0 x9_2).size : Int)) = false := decide_eq_false c20
                     clear c20
                     by_cases c28 : x8_2.size + (rdOf ByteArray.empty l0 x9_2).size ≤ 9223372036854775807
                     ·rw [if_pos c28] at H
                      have c28b0 := eq_true c28
                      have c28b1 : decide (x8_2.size + (rdOf ByteArray.empty l0 x9_2).size ≤ 9223372036854775807) = true := decide_eq_true c28
                      try have c28b2 : (9223372036854775807 < x8_2.size + (rdOf ByteArray.empty l0 x9_2).size) = False := eq_false (Nat.not_lt.2 c28)
                      obtain ⟨ji29, hji29⟩ : ∃ j_ : Int, (wrap64 (Int.tmod (IntKind.u64.wrap (wrap64 (a1 + x9_2))) 4)) = j_ := ⟨_, rfl⟩
                      replace H : (if 0 ≤ (ji29) then (if (ji29) < (y146.length : Int) then (if (x8_2 ++ (rdOf ByteArray.empty l0 x9_2)).size + (rdOf ByteArray.empty y146 (ji29)).size ≤ 9223372036854775807 then (solsticelaw05_FieldsBlanks.l0 k4 l0 a1 a2 y146 ((x8_2 ++ (rdOf ByteArray.empty l0 x9_2)) ++ (rdOf ByteArray.empty y146 (ji29))) (wrap64 (x9_2 + 1))) else (none)) else (none)) else (none)) = some r := by first | (rw [hji29] at H; exact H) | (simp only [hji29] at H ⊢; exact H)
                      have hji29w : (IntKind.i64.wrap (Int.tmod (IntKind.u64.wrap (wrap64 (a1 + x9_2))) 4)) = ji29 := (i64_w _).trans hji29
                      by_cases c30 : 0 ≤ (ji29)
                      ·rw [if_pos c30] at H
                       have c30b0 : decide (0 ≤ (ji29)) = true := decide_eq_true c30
                       clear c30
                       by_cases c31 : (ji29) < (y146.length : Int)
                       ·rw [if_pos c31] at H
                        have c31b0 : decide ((ji29) < (y146.length : Int)) = true := decide_eq_true c31
                        clear c31
                        by_cases c32 : (x8_2 ++ (rdOf ByteArray.empty l0 x9_2)).size + (rdOf ByteArray.empty y146 (ji29)).size ≤ 9223372036854775807
                        ·rw [if_pos c32] at H
                         have c32b0 := eq_true c32
                         have c32b1 : decide ((x8_2 ++ (rdOf ByteArray.empty l0 x9_2)).size + (rdOf ByteArray.empty y146 (ji29)).size ≤ 9223372036854775807) = true := decide_eq_true c32
                         try have c32b3 : (9223372036854775807 < (x8_2.size + (rdOf ByteArray.empty l0 x9_2).size) + (rdOf ByteArray.empty y146 (ji29)).size) = False := eq_false (Nat.not_lt.2 (by have h_ := c32; simp only [ByteArray.size_append] at h_; omega))
                         try have c32b2 : (9223372036854775807 < (x8_2 ++ (rdOf ByteArray.empty l0 x9_2)).size + (rdOf ByteArray.empty y146 (ji29)).size) = False := eq_false (Nat.not_lt.2 c32)
                         have H' := Aside0.mk H
                         clear H
                         have p152 : 0 ≤ (x9_2 : Int) := of_decide_eq_true (by first | (with_reducible assumption) | assumption)
                         have q152 : x9_2 < (l0.length : Int) := of_decide_eq_true (by first | (with_reducible assumption) | assumption)
                         obtain ⟨ad152, e152, hx152_0⟩ := Kd.at_string HR0.out x9_2 p152 q152
                         cases e152
                         replace hx152_0 := (HB.out.cell (World.block_lt_of_cell? w _ hx152_0)).trans hx152_0
                         replace p152 := eq_true p152
                         replace q152 := eq_true q152
                         have p156 : 0 ≤ (x9_2 : Int) := of_decide_eq_true (by first | (with_reducible assumption) | assumption)
                         have q156 : x9_2 < (l0.length : Int) := of_decide_eq_true (by first | (with_reducible assumption) | assumption)
                         obtain ⟨ad156, e156, hx156_0⟩ := Kd.at_string HR0.out x9_2 p156 q156
                         obtain rfl : ad152 = ad156 := (by injection e156)
                         replace hx156_0 := (HB.out.cell (World.block_lt_of_cell? w _ hx156_0)).trans hx156_0
                         replace p156 := eq_true p156
                         replace q156 := eq_true q156
                         have p157 : 0 ≤ ((ji29) : Int) := of_decide_eq_true (by first | (with_reducible assumption) | assumption)
                         have q157 : (ji29) < (y146.length : Int) := of_decide_eq_true (by first | (with_reducible assumption) | assumption)
                         obtain ⟨ad157, e157, hx157_0⟩ := Kd.at_string (Kd.R_reads' HO_7.out).2.2 (ji29) p157 q157
                         obtain rfl : ad149 = ad157 := (by injection e157)
                         replace p157 := eq_true p157
                         replace q157 := eq_true q157
                         go_wp2
                         repeat (go_quiet (fail); try go_wp2)
                         go_roundg k4
                         case measure => have := HJ3.out; have := HK2.out; have := HJ13.out; have := HK4.out; omega
                         case rel => exact ⟨((x8_2 ++ (rdOf ByteArray.empty l0 x9_2)) ++ (rdOf ByteArray.empty y146 (ji29))), (wrap64 (x9_2 + 1)), (by first | rfl | (simp; done) | (simp only [← hji29] <;> (first | rfl | (simp; done))) | (simp [*]; done)), (by first | rfl | (simp; done) | (simp [*]; done)), (by first | exact H' | (rw [hji29]; exact H')), ⟨by have := HJ3.out; have := HK2.out; have := HJ13.out; have := HK4.out; omega⟩, ⟨by (with_reducible repeat (first | apply Kd.R_alloc | apply Kd.R_drewN | apply Kd.R_drew)); exact HO_7.out⟩, ⟨by repeat (first | (with_reducible first | exact HB.out | apply below_alloc | apply pw_below_drewN | apply below_drew1) | exact HB.out)⟩⟩
                        ·rw [if_neg c32] at H
                         exact absurd H (by simp)
                       ·rw [if_neg c31] at H
                        exact absurd H (by simp)
                      ·rw [if_neg c30] at H
                       exact absurd H (by simp)
                     ·rw [if_neg c28] at H
                      exact absurd H (by simp)
                   ·rw [if_neg c19] at H
                    exact absurd H (by simp)
                  ·rw [if_neg c18] at H
                   exact absurd H (by simp)
          ·rw [if_neg c13] at H
           have c13b0 : decide (x9_2 < (l0.length : Int)) = false := decide_eq_false c13
           clear c13
           have H' := Aside0.mk H
           clear H
           go_wp2
           repeat (go_quiet (fail); try go_wp2)
           go_loopg [11] k2 (fun kq v11 w' => ∃ (x11_3 : Int), v11 = .int .i64 x11_3 ∧ Aside0 (solsticelaw05_FieldsBlanks.l2 kq l0 a2 x8_2 x11_3 = some r) ∧ Aside0 (kq ≤ k2) ∧ Aside0 (Below w.heap.size w w'))
           case atStart => exact ⟨(0), (by first | rfl | (simp; done) | (simp [*]; done)), H', ⟨Nat.le_refl _⟩, ⟨by repeat (first | (with_reducible first | exact HB.out | apply below_alloc | apply pw_below_drewN | apply below_drew1) | exact HB.out)⟩⟩
           case round =>
            as_aux_lemma =>
             clear H'
             try clear c1
             try clear p1
             try clear q1
             try clear hx1
             try clear c2
             try clear p2
             try clear q2
             try clear hx2
             try clear c3
             try clear c4
             try clear c5
             try clear c5b0
             try clear c5b1
             try clear c6
             try clear p6
             try clear c8
             try clear c8b0
             try clear c9
             try clear c9b0
             try clear c13
             try clear c13b0
             try clear p14
             try clear q14
             try clear hx14
             try clear c15
             try clear c15b0
             try clear p15
             try clear q15
             try clear hx15
             try clear c16
             try clear c16b0
             try clear c16b1
             try clear c17
             try clear c18
             try clear c18b0
             try clear c19
             try clear c19b0
             try clear c20
             try clear c20b0
             try clear c21
             try clear c21b0
             try clear p22
             try clear q22
             try clear hx22
             try clear c23
             try clear c23b0
             try clear p24
             try clear q24
             try clear hx24
             try clear c25
             try clear c25b0
             try clear c25b1
             try clear p26
             try clear q26
             try clear hx26
             try clear c27
             try clear c27b0
             try clear c27b1
             try clear c28
             try clear c28b0
             try clear c28b1
             try clear c28b2
             try clear c30
             try clear c30b0
             try clear c31
             try clear c31b0
             try clear c32
             try clear c32b0
             try clear c32b1
             try clear c32b2
             try clear hx149_0
             try clear hx150_0
             try clear hx151_0
             try clear hx152_0
             try clear hx153_0
             try clear hx154_0
             try clear hx155_0
             try clear hx156_0
             try clear hx157_0
             try clear p1
             try clear p14
             try clear p149
             try clear p15
             try clear p150
             try clear p151
             try clear p152
             try clear p153
             try clear p154
             try clear p155
             try clear p156
             try clear p157
             try clear p2
             try clear p22
             try clear p24
             try clear p26
             try clear p6
             try clear q1
             try clear q14
             try clear q149
             try clear q15
             try clear q150
             try clear q151
             try clear q152
             try clear q153
             try clear q154
             try clear q155
             try clear q156
             try clear q157
             try clear q22
             try clear q24
             try clear q26
             obtain ⟨x11_3, rfl, HA, HK3, HB⟩ := hrel
             cases gk with
             | zero => exact absurd HA.out (by simp [solsticelaw05_FieldsBlanks.l2])
             | succ k3 =>
              have H := HA.out
              clear HA
              simp only [solsticelaw05_FieldsBlanks.l2] at H
              by_cases c33 : x11_3 < (a2.size : Int)
              ·rw [if_pos c33] at H
               have c33b0 : decide (x11_3 < (a2.size : Int)) = true := decide_eq_true c33
               clear c33
               by_cases c34 : 0 ≤ x11_3
               ·rw [if_pos c34] at H
                have c34b0 : decide (0 ≤ x11_3) = true := decide_eq_true c34
                clear c34
                by_cases c36 : (bt a2 x11_3) = 0
                ·rw [if_pos c36] at H
                 have c36b0 : ((bt a2 x11_3) == 0) = true := beq_iff_eq.mpr c36
                 have c36b1 : ((bt a2 x11_3) != 0) = false := bne_eq_false_iff_eq.mpr c36
                 clear c36
                 obtain rfl := Option.some.inj H
                 have p35 : 0 ≤ (x11_3 : Int) := of_decide_eq_true (by first | (with_reducible assumption) | assumption)
                 have q35 : x11_3 < (a2.size : Int) := of_decide_eq_true (by first | (with_reducible assumption) | assumption)
                 have hx35 := bt_at a2 x11_3
                 replace p35 := eq_true p35
                 replace q35 := eq_true q35
                 go_wp2
                 repeat (go_quiet (fail); try go_wp2)
                 go_ret
                 exact ⟨by first | rfl | (simp [errW_none, errW_some] <;> rfl) | (simp only [← hji7]; first | rfl | (simp [errW_none, errW_some] <;> rfl)) | (simp [*, errW_none, errW_some] <;> rfl), by repeat (first | (with_reducible first | exact HB.out | apply below_alloc | apply pw_below_drewN | apply below_drew1) | exact HB.out)⟩
                ·rw [if_neg c36] at H
                 have c36b0 : ((bt a2 x11_3) == 0) = false := beq_eq_false_iff_ne.mpr c36
                 have c36b1 : ((bt a2 x11_3) != 0) = true := bne_iff_ne.mpr c36
                 by_cases c38 : (bt a2 x11_3) = 10
                 ·rw [if_pos c38] at H
                  have c38b0 : ((bt a2 x11_3) == 10) = true := beq_iff_eq.mpr c38
                  have c38b1 : ((bt a2 x11_3) != 10) = false := bne_eq_false_iff_eq.mpr c38
                  clear c38
                  obtain rfl := Option.some.inj H
                  have p35 : 0 ≤ (x11_3 : Int) := of_decide_eq_true (by first | (with_reducible assumption) | assumption)
                  have q35 : x11_3 < (a2.size : Int) := of_decide_eq_true (by first | (with_reducible assumption) | assumption)
                  have hx35 := bt_at a2 x11_3
                  replace p35 := eq_true p35
                  replace q35 := eq_true q35
                  have p37 : 0 ≤ (x11_3 : Int) := of_decide_eq_true (by first | (with_reducible assumption) | assumption)
                  have q37 : x11_3 < (a2.size : Int) := of_decide_eq_true (by first | (with_reducible assumption) | assumption)
                  have hx37 := bt_at a2 x11_3
                  replace p37 := eq_true p37
                  replace q37 := eq_true q37
                  go_wp2
                  repeat (go_quiet (fail); try go_wp2)
                  go_ret
                  exact ⟨by first | rfl | (simp [errW_none, errW_some] <;> rfl) | (simp only [← hji7]; first | rfl | (simp [errW_none, errW_some] <;> rfl)) | (simp [*, errW_none, errW_some] <;> rfl), by repeat (first | (with_reducible first | exact HB.out | apply below_alloc | apply pw_below_drewN | apply below_drew1) | exact HB.out)⟩
                 ·rw [if_neg c38] at H
                  have c38b0 : ((bt a2 x11_3) == 10) = false := beq_eq_false_iff_ne.mpr c38
                  have c38b1 : ((bt a2 x11_3) != 10) = true := bne_iff_ne.mpr c38
                  have H' := Aside0.mk H
                  clear H
                  have p35 : 0 ≤ (x11_3 : Int) := of_decide_eq_true (by first | (with_reducible assumption) | assumption)
                  have q35 : x11_3 < (a2.size : Int) := of_decide_eq_true (by first | (with_reducible assumption) | assumption)
                  have hx35 := bt_at a2 x11_3
                  replace p35 := eq_true p35
                  replace q35 := eq_true q35
                  have p37 : 0 ≤ (x11_3 : Int) := of_decide_eq_true (by first | (with_reducible assumption) | assumption)
                  have q37 : x11_3 < (a2.size : Int) := of_decide_eq_true (by first | (with_reducible assumption) | assumption)
                  have hx37 := bt_at a2 x11_3
                  replace p37 := eq_true p37
                  replace q37 := eq_true q37
                  go_wp2
                  repeat (go_quiet (fail); try go_wp2)
                  go_roundg k3
                  case measure => have := HJ3.out; have := HK2.out; have := HK3.out; omega
                  case rel => exact ⟨(wrap64 (x11_3 + 1)), (by first | rfl | (simp; done) | (simp [*]; done)), H', ⟨by have := HJ3.out; have := HK2.out; have := HK3.out; omega⟩, ⟨by repeat (first | (with_reducible first | exact HB.out | apply below_alloc | apply pw_below_drewN | apply below_drew1) | exact HB.out)⟩⟩
               ·rw [if_neg c34] at H
                exact absurd H (by simp)
              ·rw [if_neg c33] at H
               have c33b0 : decide (x11_3 < (a2.size : Int)) = false := decide_eq_false c33
               clear c33
               replace H := Option.bind_eq_some_iff.mp H
               obtain ⟨⟨t158, t159⟩, A390, H⟩ := H
               replace H : (if x8_2.size + 1 ≤ 9223372036854775807 then (if (x8_2 ++ (⟨#[35]⟩ : ByteArray)).size + a2.size ≤ 9223372036854775807 then ((fields_Split.f ((x8_2 ++ (⟨#[35]⟩ : ByteArray)) ++ a2)).bind fun bt162 => (if t159 = 0 then (if bt162.2 = 0 then ((solsticekeep_Texts.f k3 t158 l0).bind fun t166 => (if t166 = true then ((solsticekeep_Texts.f k3 bt162.1 l0).bind fun t167 => (if t167 = true then ((solsticelaw05_wakes.f k3).bind fun t168 => (some t168)) else (some false))) else (some false))) else (some false)) else (some false))) else (none)) else (none)) = some r := H
               have A39 := Aside0.mk A390
               clear A390
               by_cases c40 : x8_2.size + 1 ≤ 9223372036854775807
               ·rw [if_pos c40] at H
                have c40b0 := eq_true c40
                have c40b1 : decide (x8_2.size + 1 ≤ 9223372036854775807) = true := decide_eq_true c40
                try have c40b2 : (9223372036854775807 < x8_2.size + 1) = False := eq_false (Nat.not_lt.2 c40)
                by_cases c41 : (x8_2 ++ (⟨#[35]⟩ : ByteArray)).size + a2.size ≤ 9223372036854775807
                ·rw [if_pos c41] at H
                 have c41b0 := eq_true c41
                 have c41b1 : decide ((x8_2 ++ (⟨#[35]⟩ : ByteArray)).size + a2.size ≤ 9223372036854775807) = true := decide_eq_true c41
                 try have c41b3 : (9223372036854775807 < (x8_2.size + 1) + a2.size) = False := eq_false (Nat.not_lt.2 (by have h_ := c41; simp only [ByteArray.size_append, show (⟨#[35]⟩ : ByteArray).size = 1 from rfl] at h_; omega))
                 try have c41b2 : (9223372036854775807 < (x8_2 ++ (⟨#[35]⟩ : ByteArray)).size + a2.size) = False := eq_false (Nat.not_lt.2 c41)
                 replace H := Option.bind_eq_some_iff.mp H
                 obtain ⟨⟨t162, t163⟩, A420, H⟩ := H
                 replace H : (if t159 = 0 then (if t163 = 0 then ((solsticekeep_Texts.f k3 t158 l0).bind fun t166 => (if t166 = true then ((solsticekeep_Texts.f k3 t162 l0).bind fun t167 => (if t167 = true then ((solsticelaw05_wakes.f k3).bind fun t168 => (some t168)) else (some false))) else (some false))) else (some false)) else (some false)) = some r := H
                 have A42 := Aside0.mk A420
                 clear A420
                 by_cases c43 : t159 = 0
                 ·rw [if_pos c43] at H
                  have c43b0 : (t159 == 0) = true := beq_iff_eq.mpr c43
                  have c43b1 : (t159 != 0) = false := bne_eq_false_iff_eq.mpr c43
                  clear c43
                  by_cases c44 : t163 = 0
                  ·rw [if_pos c44] at H
                   have c44b0 : (t163 == 0) = true := beq_iff_eq.mpr c44
                   have c44b1 : (t163 != 0) = false := bne_eq_false_iff_eq.mpr c44
                   clear c44
                   replace H := Option.bind_eq_some_iff.mp H
                   obtain ⟨t166, A450, H⟩ := H
                   replace H : (if t166 = true then ((solsticekeep_Texts.f k3 t162 l0).bind fun t167 => (if t167 = true then ((solsticelaw05_wakes.f k3).bind fun t168 => (some t168)) else (some false))) else (some false)) = some r := H
                   have A45 := Aside0.mk A450
                   clear A450
                   by_cases c46 : t166 = true
                   ·subst c46
                    have H1 : ((solsticekeep_Texts.f k3 t162 l0).bind fun t167 => (if t167 = true then ((solsticelaw05_wakes.f k3).bind fun t168 => (some t168)) else (some false))) = some r := by rw [if_pos rfl] at H; exact H
                    clear H
                    have H := H1
                    clear H1
                    replace H := Option.bind_eq_some_iff.mp H
                    obtain ⟨t167, A470, H⟩ := H
                    replace H : (if t167 = true then ((solsticelaw05_wakes.f k3).bind fun t168 => (some t168)) else (some false)) = some r := H
                    have A47 := Aside0.mk A470
                    clear A470
                    by_cases c48 : t167 = true
                    ·subst c48
                     have H1 : ((solsticelaw05_wakes.f k3).bind fun t168 => (some t168)) = some r := by rw [if_pos rfl] at H; exact H
                     clear H
                     have H := H1
                     clear H1
                     replace H := Option.bind_eq_some_iff.mp H
                     obtain ⟨t168, A490, H⟩ := H
                     replace H : (some t168) = some r := H
                     have A49 := Aside0.mk A490
                     clear A490
                     obtain rfl := Option.some.inj H
                     go_wp2_with (first | (go_at_call 8; (with_reducible refine (fields_Split.calls x8_2 t158 t159 _ A39.out).mono ?_); rintro e w50 ⟨v160, rfl, ho0, hb⟩; have n0_ := Aside0.mk (Kd.R_lower ho0 (below_size (by repeat (first | (with_reducible first | exact HB.out | apply below_alloc | apply pw_below_drewN | apply below_drew1) | exact HB.out)))); have n1_ := Aside0.mk (below_step (by repeat (first | (with_reducible first | exact HB.out | apply below_alloc | apply pw_below_drewN | apply below_drew1) | exact HB.out)) hb); clear HB; have HO161 := n0_; have HB := n1_; clear n0_ n1_; (try clear hb); (try clear hb2); (try clear hk); (try clear hi); (try clear ho0)) | (go_at_call 8; (with_reducible refine (fields_Split.calls ((x8_2 ++ (⟨#[35]⟩ : ByteArray)) ++ a2) t162 t163 _ A42.out).mono ?_); rintro e w51 ⟨v164, rfl, ho0, hb⟩; have n0_ := Aside0.mk (Kd.R_elder' (by (with_reducible repeat (first | apply Kd.R_alloc | apply Kd.R_drewN | apply Kd.R_drew)); exact HO161.out) (Kd.R_base ho0) hb); have n1_ := Aside0.mk (Kd.R_lower (Kd.R_new' ho0 (Kd.R_lt (by (with_reducible repeat (first | apply Kd.R_alloc | apply Kd.R_drewN | apply Kd.R_drew)); exact HO161.out))) (below_size (by repeat (first | (with_reducible first | exact HB.out | apply below_alloc | apply pw_below_drewN | apply below_drew1) | exact HB.out)))); have n2_ := Aside0.mk (below_step (by repeat (first | (with_reducible first | exact HB.out | apply below_alloc | apply pw_below_drewN | apply below_drew1) | exact HB.out)) hb); clear HO161; clear HB; have HO161 := n0_; have HO165 := n1_; have HB := n2_; clear n0_ n1_ n2_; (try clear hb); (try clear hb2); (try clear hk); (try clear hi); (try clear ho0); obtain ⟨Ao52, co52, eo52⟩ := Kd.R_slice HO161.out; subst eo52) | (go_at_call 9; (with_reducible refine (solsticekeep_Texts.calls k3 _ _ t158 _ _ l0 true _ ?side1 ?side2 ?side3 ?side4 A45.out).mono ?_); (case side1 => repeat (first | exact (Kd.R_reads' HO161.out).2.2 | (with_reducible refine Kd.C_alloc ?_ _) | (with_reducible refine Kd.C_drewN ?_ _) | (with_reducible refine Kd.C_drew ?_))); (case side2 => exact (Kd.R_reads' HO161.out).2.1); (case side3 => repeat (first | exact (Kd.C_below HR0.out HB.out) | (with_reducible refine Kd.C_alloc ?_ _) | (with_reducible refine Kd.C_drewN ?_ _) | (with_reducible refine Kd.C_drew ?_))); (case side4 => exact HC0.out); rintro e w' ⟨rfl, ⟨nd, rfl⟩⟩; (try first | exact ⟨rfl, _, World.drewN_drewN _ _ _⟩ | exact ⟨rfl, _, Eq.trans (World.drewN_drewN _ _ _) (congrArg (World.drewN _) (Nat.add_assoc _ _ _))⟩); obtain ⟨Ao53, co53, eo53⟩ := Kd.R_slice HO165.out; subst eo53) | (go_at_call 9; (with_reducible refine (solsticekeep_Texts.calls k3 _ _ t162 _ _ l0 true _ ?side1 ?side2 ?side3 ?side4 A47.out).mono ?_); (case side1 => repeat (first | exact (Kd.R_reads' HO165.out).2.2 | (with_reducible refine Kd.C_alloc ?_ _) | (with_reducible refine Kd.C_drewN ?_ _) | (with_reducible refine Kd.C_drew ?_))); (case side2 => exact (Kd.R_reads' HO165.out).2.1); (case side3 => repeat (first | exact (Kd.C_below HR0.out (by repeat (first | (with_reducible first | exact HB.out | apply below_alloc | apply pw_below_drewN | apply below_drew1) | exact HB.out))) | (with_reducible refine Kd.C_alloc ?_ _) | (with_reducible refine Kd.C_drewN ?_ _) | (with_reducible refine Kd.C_drew ?_))); (case side4 => exact HC0.out); rintro e w' ⟨rfl, ⟨nd, rfl⟩⟩; (try first | exact ⟨rfl, _, World.drewN_drewN _ _ _⟩ | exact ⟨rfl, _, Eq.trans (World.drewN_drewN _ _ _) (congrArg (World.drewN _) (Nat.add_assoc _ _ _))⟩)) | (go_at_call 7; (with_reducible refine (solsticelaw05_wakes.calls k3  t168 htrue _ ?sideG A49.out).mono ?_); (case sideG => first | exact GP_below HG.out (by repeat (first | (with_reducible first | exact HB.out | apply below_alloc | apply pw_below_drewN | apply below_drew1) | exact HB.out)) | repeat (first | exact HG.out | refine GP_alloc ?_ _ | refine GP_drewN ?_ _ | refine GP_drew ?_)); rintro e w54 ⟨rfl, hb⟩; have n0_ := Aside0.mk (Kd.R_below (by (with_reducible repeat (first | apply Kd.R_alloc | apply Kd.R_drewN | apply Kd.R_drew)); exact HO161.out) hb); have n1_ := Aside0.mk (Kd.R_below (by (with_reducible repeat (first | apply Kd.R_alloc | apply Kd.R_drewN | apply Kd.R_drew)); exact HO165.out) hb); have n2_ := Aside0.mk (below_step (by repeat (first | (with_reducible first | exact HB.out | apply below_alloc | apply pw_below_drewN | apply below_drew1) | exact HB.out)) hb); clear HO161; clear HO165; clear HB; have HO161 := n0_; have HO165 := n1_; have HB := n2_; clear n0_ n1_ n2_; (try clear hb); (try clear hb2); (try clear hk); (try clear hi)))
                     repeat (go_quiet (first | (go_at_call 8; (with_reducible refine (fields_Split.calls x8_2 t158 t159 _ A39.out).mono ?_); rintro e w50 ⟨v160, rfl, ho0, hb⟩; have n0_ := Aside0.mk (Kd.R_lower ho0 (below_size (by repeat (first | (with_reducible first | exact HB.out | apply below_alloc | apply pw_below_drewN | apply below_drew1) | exact HB.out)))); have n1_ := Aside0.mk (below_step (by repeat (first | (with_reducible first | exact HB.out | apply below_alloc | apply pw_below_drewN | apply below_drew1) | exact HB.out)) hb); clear HB; have HO161 := n0_; have HB := n1_; clear n0_ n1_; (try clear hb); (try clear hb2); (try clear hk); (try clear hi); (try clear ho0)) | (go_at_call 8; (with_reducible refine (fields_Split.calls ((x8_2 ++ (⟨#[35]⟩ : ByteArray)) ++ a2) t162 t163 _ A42.out).mono ?_); rintro e w51 ⟨v164, rfl, ho0, hb⟩; have n0_ := Aside0.mk (Kd.R_elder' (by (with_reducible repeat (first | apply Kd.R_alloc | apply Kd.R_drewN | apply Kd.R_drew)); exact HO161.out) (Kd.R_base ho0) hb); have n1_ := Aside0.mk (Kd.R_lower (Kd.R_new' ho0 (Kd.R_lt (by (with_reducible repeat (first | apply Kd.R_alloc | apply Kd.R_drewN | apply Kd.R_drew)); exact HO161.out))) (below_size (by repeat (first | (with_reducible first | exact HB.out | apply below_alloc | apply pw_below_drewN | apply below_drew1) | exact HB.out)))); have n2_ := Aside0.mk (below_step (by repeat (first | (with_reducible first | exact HB.out | apply below_alloc | apply pw_below_drewN | apply below_drew1) | exact HB.out)) hb); clear HO161; clear HB; have HO161 := n0_; have HO165 := n1_; have HB := n2_; clear n0_ n1_ n2_; (try clear hb); (try clear hb2); (try clear hk); (try clear hi); (try clear ho0); obtain ⟨Ao52, co52, eo52⟩ := Kd.R_slice HO161.out; subst eo52) | (go_at_call 9; (with_reducible refine (solsticekeep_Texts.calls k3 _ _ t158 _ _ l0 true _ ?side1 ?side2 ?side3 ?side4 A45.out).mono ?_); (case side1 => repeat (first | exact (Kd.R_reads' HO161.out).2.2 | (with_reducible refine Kd.C_alloc ?_ _) | (with_reducible refine Kd.C_drewN ?_ _) | (with_reducible refine Kd.C_drew ?_))); (case side2 => exact (Kd.R_reads' HO161.out).2.1); (case side3 => repeat (first | exact (Kd.C_below HR0.out HB.out) | (with_reducible refine Kd.C_alloc ?_ _) | (with_reducible refine Kd.C_drewN ?_ _) | (with_reducible refine Kd.C_drew ?_))); (case side4 => exact HC0.out); rintro e w' ⟨rfl, ⟨nd, rfl⟩⟩; (try first | exact ⟨rfl, _, World.drewN_drewN _ _ _⟩ | exact ⟨rfl, _, Eq.trans (World.drewN_drewN _ _ _) (congrArg (World.drewN _) (Nat.add_assoc _ _ _))⟩); obtain ⟨Ao53, co53, eo53⟩ := Kd.R_slice HO165.out; subst eo53) | (go_at_call 9; (with_reducible refine (solsticekeep_Texts.calls k3 _ _ t162 _ _ l0 true _ ?side1 ?side2 ?side3 ?side4 A47.out).mono ?_); (case side1 => repeat (first | exact (Kd.R_reads' HO165.out).2.2 | (with_reducible refine Kd.C_alloc ?_ _) | (with_reducible refine Kd.C_drewN ?_ _) | (with_reducible refine Kd.C_drew ?_))); (case side2 => exact (Kd.R_reads' HO165.out).2.1); (case side3 => repeat (first | exact (Kd.C_below HR0.out (by repeat (first | (with_reducible first | exact HB.out | apply below_alloc | apply pw_below_drewN | apply below_drew1) | exact HB.out))) | (with_reducible refine Kd.C_alloc ?_ _) | (with_reducible refine Kd.C_drewN ?_ _) | (with_reducible refine Kd.C_drew ?_))); (case side4 => exact HC0.out); rintro e w' ⟨rfl, ⟨nd, rfl⟩⟩; (try first | exact ⟨rfl, _, World.drewN_drewN _ _ _⟩ | exact ⟨rfl, _, Eq.trans (World.drewN_drewN _ _ _) (congrArg (World.drewN _) (Nat.add_assoc _ _ _))⟩)) | (go_at_call 7; (with_reducible refine (solsticelaw05_wakes.calls k3  t168 htrue _ ?sideG A49.out).mono ?_); (case sideG => first | exact GP_below HG.out (by repeat (first | (with_reducible first | exact HB.out | apply below_alloc | apply pw_below_drewN | apply below_drew1) | exact HB.out)) | repeat (first | exact HG.out | refine GP_alloc ?_ _ | refine GP_drewN ?_ _ | refine GP_drew ?_)); rintro e w54 ⟨rfl, hb⟩; have n0_ := Aside0.mk (Kd.R_below (by (with_reducible repeat (first | apply Kd.R_alloc | apply Kd.R_drewN | apply Kd.R_drew)); exact HO161.out) hb); have n1_ := Aside0.mk (Kd.R_below (by (with_reducible repeat (first | apply Kd.R_alloc | apply Kd.R_drewN | apply Kd.R_drew)); exact HO165.out) hb); have n2_ := Aside0.mk (below_step (by repeat (first | (with_reducible first | exact HB.out | apply below_alloc | apply pw_below_drewN | apply below_drew1) | exact HB.out)) hb); clear HO161; clear HO165; clear HB; have HO161 := n0_; have HO165 := n1_; have HB := n2_; clear n0_ n1_ n2_; (try clear hb); (try clear hb2); (try clear hk); (try clear hi))); try go_wp2_with (first | (go_at_call 8; (with_reducible refine (fields_Split.calls x8_2 t158 t159 _ A39.out).mono ?_); rintro e w50 ⟨v160, rfl, ho0, hb⟩; have n0_ := Aside0.mk (Kd.R_lower ho0 (below_size (by repeat (first | (with_reducible first | exact HB.out | apply below_alloc | apply pw_below_drewN | apply below_drew1) | exact HB.out)))); have n1_ := Aside0.mk (below_step (by repeat (first | (with_reducible first | exact HB.out | apply below_alloc | apply pw_below_drewN | apply below_drew1) | exact HB.out)) hb); clear HB; have HO161 := n0_; have HB := n1_; clear n0_ n1_; (try clear hb); (try clear hb2); (try clear hk); (try clear hi); (try clear ho0)) | (go_at_call 8; (with_reducible refine (fields_Split.calls ((x8_2 ++ (⟨#[35]⟩ : ByteArray)) ++ a2) t162 t163 _ A42.out).mono ?_); rintro e w51 ⟨v164, rfl, ho0, hb⟩; have n0_ := Aside0.mk (Kd.R_elder' (by (with_reducible repeat (first | apply Kd.R_alloc | apply Kd.R_drewN | apply Kd.R_drew)); exact HO161.out) (Kd.R_base ho0) hb); have n1_ := Aside0.mk (Kd.R_lower (Kd.R_new' ho0 (Kd.R_lt (by (with_reducible repeat (first | apply Kd.R_alloc | apply Kd.R_drewN | apply Kd.R_drew)); exact HO161.out))) (below_size (by repeat (first | (with_reducible first | exact HB.out | apply below_alloc | apply pw_below_drewN | apply below_drew1) | exact HB.out)))); have n2_ := Aside0.mk (below_step (by repeat (first | (with_reducible first | exact HB.out | apply below_alloc | apply pw_below_drewN | apply below_drew1) | exact HB.out)) hb); clear HO161; clear HB; have HO161 := n0_; have HO165 := n1_; have HB := n2_; clear n0_ n1_ n2_; (try clear hb); (try clear hb2); (try clear hk); (try clear hi); (try clear ho0); obtain ⟨Ao52, co52, eo52⟩ := Kd.R_slice HO161.out; subst eo52) | (go_at_call 9; (with_reducible refine (solsticekeep_Texts.calls k3 _ _ t158 _ _ l0 true _ ?side1 ?side2 ?side3 ?side4 A45.out).mono ?_); (case side1 => repeat (first | exact (Kd.R_reads' HO161.out).2.2 | (with_reducible refine Kd.C_alloc ?_ _) | (with_reducible refine Kd.C_drewN ?_ _) | (with_reducible refine Kd.C_drew ?_))); (case side2 => exact (Kd.R_reads' HO161.out).2.1); (case side3 => repeat (first | exact (Kd.C_below HR0.out HB.out) | (with_reducible refine Kd.C_alloc ?_ _) | (with_reducible refine Kd.C_drewN ?_ _) | (with_reducible refine Kd.C_drew ?_))); (case side4 => exact HC0.out); rintro e w' ⟨rfl, ⟨nd, rfl⟩⟩; (try first | exact ⟨rfl, _, World.drewN_drewN _ _ _⟩ | exact ⟨rfl, _, Eq.trans (World.drewN_drewN _ _ _) (congrArg (World.drewN _) (Nat.add_assoc _ _ _))⟩); obtain ⟨Ao53, co53, eo53⟩ := Kd.R_slice HO165.out; subst eo53) | (go_at_call 9; (with_reducible refine (solsticekeep_Texts.calls k3 _ _ t162 _ _ l0 true _ ?side1 ?side2 ?side3 ?side4 A47.out).mono ?_); (case side1 => repeat (first | exact (Kd.R_reads' HO165.out).2.2 | (with_reducible refine Kd.C_alloc ?_ _) | (with_reducible refine Kd.C_drewN ?_ _) | (with_reducible refine Kd.C_drew ?_))); (case side2 => exact (Kd.R_reads' HO165.out).2.1); (case side3 => repeat (first | exact (Kd.C_below HR0.out (by repeat (first | (with_reducible first | exact HB.out | apply below_alloc | apply pw_below_drewN | apply below_drew1) | exact HB.out))) | (with_reducible refine Kd.C_alloc ?_ _) | (with_reducible refine Kd.C_drewN ?_ _) | (with_reducible refine Kd.C_drew ?_))); (case side4 => exact HC0.out); rintro e w' ⟨rfl, ⟨nd, rfl⟩⟩; (try first | exact ⟨rfl, _, World.drewN_drewN _ _ _⟩ | exact ⟨rfl, _, Eq.trans (World.drewN_drewN _ _ _) (congrArg (World.drewN _) (Nat.add_assoc _ _ _))⟩)) | (go_at_call 7; (with_reducible refine (solsticelaw05_wakes.calls k3  t168 htrue _ ?sideG A49.out).mono ?_); (case sideG => first | exact GP_below HG.out (by repeat (first | (with_reducible first | exact HB.out | apply below_alloc | apply pw_below_drewN | apply below_drew1) | exact HB.out)) | repeat (first | exact HG.out | refine GP_alloc ?_ _ | refine GP_drewN ?_ _ | refine GP_drew ?_)); rintro e w54 ⟨rfl, hb⟩; have n0_ := Aside0.mk (Kd.R_below (by (with_reducible repeat (first | apply Kd.R_alloc | apply Kd.R_drewN | apply Kd.R_drew)); exact HO161.out) hb); have n1_ := Aside0.mk (Kd.R_below (by (with_reducible repeat (first | apply Kd.R_alloc | apply Kd.R_drewN | apply Kd.R_drew)); exact HO165.out) hb); have n2_ := Aside0.mk (below_step (by repeat (first | (with_reducible first | exact HB.out | apply below_alloc | apply pw_below_drewN | apply below_drew1) | exact HB.out)) hb); clear HO161; clear HO165; clear HB; have HO161 := n0_; have HO165 := n1_; have HB := n2_; clear n0_ n1_ n2_; (try clear hb); (try clear hb2); (try clear hk); (try clear hi))))
                     go_ret
                     exact ⟨by first | rfl | (simp [errW_none, errW_some] <;> rfl) | (simp only [← hji7]; first | rfl | (simp [errW_none, errW_some] <;> rfl)) | (simp [*, errW_none, errW_some] <;> rfl), by repeat (first | (with_reducible first | exact HB.out | apply below_alloc | apply pw_below_drewN | apply below_drew1) | exact HB.out)⟩
                    ·replace c48 := Bool.eq_false_iff.mpr c48
                     subst c48
                     have H1 : (some false) = some r := by rw [if_neg (show ¬ (false = true) by decide)] at H; exact H
                     clear H
                     have H := H1
                     clear H1
                     obtain rfl := Option.some.inj H
                     cases htrue
                   ·replace c46 := Bool.eq_false_iff.mpr c46
                    subst c46
                    have H1 : (some false) = some r := by rw [if_neg (show ¬ (false = true) by decide)] at H; exact H
                    clear H
                    have H := H1
                    clear H1
                    obtain rfl := Option.some.inj H
                    cases htrue
                  ·rw [if_neg c44] at H
                   have c44b0 : (t163 == 0) = false := beq_eq_false_iff_ne.mpr c44
                   have c44b1 : (t163 != 0) = true := bne_iff_ne.mpr c44
                   obtain rfl := Option.some.inj H
                   cases htrue
                 ·rw [if_neg c43] at H
                  have c43b0 : (t159 == 0) = false := beq_eq_false_iff_ne.mpr c43
                  have c43b1 : (t159 != 0) = true := bne_iff_ne.mpr c43
                  obtain rfl := Option.some.inj H
                  cases htrue
                ·rw [if_neg c41] at H
                 exact absurd H (by simp)
               ·rw [if_neg c40] at H
                exact absurd H (by simp)
      ·rw [if_neg c9] at H
       exact absurd H (by simp)
     ·rw [if_neg c8] at H
      exact absurd H (by simp)
end Go.Proofs.YtmkknigneppneaaDoor.PFld