-- Printed by a program of this session's over the kit's printer; library functions by contracts off the shelf.
import Derived.Test.YtfiiipjglacejaaDoorGP
import Derived.Test.YtfiiipjglacejaaDoorPFolx0
import Derived.Test.YtfiiipjglacejaaDoorPFolx2
import Derived.Test.YtfiiipjglacejaaDoorPFolx3
import Derived.Test.YtfiiipjglacejaaDoorPFolx4
namespace Go.Proofs.YtfiiipjglacejaaDoor.PFol
open Go.RowKit Go.Proofs.YtfiiipjglacejaaDoorW.PrintWords Go.Proofs.YtfiiipjglacejaaDoorW.PrintLast Go.Proofs.YtfiiipjglacejaaDoorW.PrintMore Go.Proofs.YtfiiipjglacejaaDoor.Base
attribute [local go_sem] max2_int min2_int max_two min_two max_three min_three max_four min_four   -- for this text's walks alone
set_option linter.unusedVariables false
set_option linter.unusedSimpArgs false
mutual
def solsticelaw16_FoldAnywhere.j0 : Nat → ByteArray → List Int → Bool → Bool → Bool → Option (Bool)
 | 0, _, _, _, _, _ => none
 | k + 1, x0, x1, x2, x3, x29 => if x29 = true then (some true) else (solsticelaw16_FoldAnywhere.l0 k x0 x1 x2 x3 0)
def solsticelaw16_FoldAnywhere.l0 : Nat → ByteArray → List Int → Bool → Bool → Int → Option (Bool)
 | 0, _, _, _, _, _ => none
 | k + 1, x0, x1, x2, x3, x9 => if x9 < (x0.size : Int) then (if 0 ≤ x9 then (if (bt x0 x9) = 10 then (some true) else (if (bt x0 x9) = 13 then (some true) else (solsticelaw16_FoldAnywhere.l0 k x0 x1 x2 x3 (wrap64 (x9 + 1))))) else (none)) else (if x3 = true then (solsticelaw16_FoldAnywhere.j2 k x0 x1 x2 (⟨#[10]⟩ : ByteArray) (⟨#[32]⟩ : ByteArray)) else (solsticelaw16_FoldAnywhere.j2 k x0 x1 x2 (⟨#[13, 10]⟩ : ByteArray) (⟨#[32]⟩ : ByteArray)))
def solsticelaw16_FoldAnywhere.j2 : Nat → ByteArray → List Int → Bool → ByteArray → ByteArray → Option (Bool)
 | 0, _, _, _, _, _ => none
 | k + 1, x0, x1, x2, x10, x11 => if x2 = true then (solsticelaw16_FoldAnywhere.j3 k x0 x1 x10 (⟨#[9]⟩ : ByteArray)) else (solsticelaw16_FoldAnywhere.j3 k x0 x1 x10 x11)
def solsticelaw16_FoldAnywhere.j3 : Nat → ByteArray → List Int → ByteArray → ByteArray → Option (Bool)
 | 0, _, _, _, _ => none
 | k + 1, x0, x1, x10, x11 => solsticelaw16_FoldAnywhere.l1 k x0 x1 x10 x11 (⟨#[]⟩ : ByteArray) 0
def solsticelaw16_FoldAnywhere.l1 : Nat → ByteArray → List Int → ByteArray → ByteArray → ByteArray → Int → Option (Bool)
 | 0, _, _, _, _, _, _ => none
 | k + 1, x0, x1, x10, x11, x12, x13 => if x13 < (x0.size : Int) then (solsticelaw16_FoldAnywhere.l2 k x0 x1 x10 x11 x12 x13 0) else (if 0 < (x0.size : Int) then (if (bt x0 0) = 32 then (solsticelaw16_FoldAnywhere.j6 k x0 x10 x12 true) else (solsticelaw16_FoldAnywhere.j6 k x0 x10 x12 ((bt x0 0) == 9))) else (none))
def solsticelaw16_FoldAnywhere.l2 : Nat → ByteArray → List Int → ByteArray → ByteArray → ByteArray → Int → Int → Option (Bool)
 | 0, _, _, _, _, _, _, _ => none
 | k + 1, x0, x1, x10, x11, x12, x13, x14 => if x14 < (x1.length : Int) then (if 0 ≤ x14 then (if (IntKind.u64.wrap ((x0.size : Int))) = 0 then (none) else (if (wrap64 (Int.tmod (IntKind.u64.wrap (rd x1 x14)) (IntKind.u64.wrap ((x0.size : Int))))) = x13 then (if x12.size + x10.size ≤ 9223372036854775807 then (if (x12 ++ x10).size + x11.size ≤ 9223372036854775807 then (solsticelaw16_FoldAnywhere.l2 k x0 x1 x10 x11 ((x12 ++ x10) ++ x11) x13 (wrap64 (x14 + 1))) else (none)) else (none)) else (solsticelaw16_FoldAnywhere.l2 k x0 x1 x10 x11 x12 x13 (wrap64 (x14 + 1))))) else (none)) else (if 0 ≤ x13 then (if x13 ≤ (wrap64 (x13 + 1)) then (if (wrap64 (x13 + 1)) ≤ (x0.size : Int) then (if x12.size + (x0.extract (x13 : Int).toNat ((wrap64 (x13 + 1)) : Int).toNat).size ≤ 9223372036854775807 then (solsticelaw16_FoldAnywhere.l1 k x0 x1 x10 x11 (x12 ++ (x0.extract (x13 : Int).toNat ((wrap64 (x13 + 1)) : Int).toNat)) (wrap64 (x13 + 1))) else (none)) else (none)) else (none)) else (none))
def solsticelaw16_FoldAnywhere.j6 : Nat → ByteArray → ByteArray → ByteArray → Bool → Option (Bool)
 | 0, _, _, _, _ => none
 | k + 1, x0, x10, x12, x91 => if x91 = true then ((solsticelaw16_wakes.f k).bind fun t216 => (some t216)) else (if x12.size + x10.size ≤ 9223372036854775807 then ((fold_Unfold.f k (x12 ++ x10)).bind fun bt217 => (if bt217.2 = 0 then ((solsticekeep_Texts.f k bt217.1 (([x0] : List ByteArray))).bind fun t224 => (if t224 = true then ((solsticelaw16_wakes.f k).bind fun t225 => (some t225)) else (some false))) else (some false))) else (none))
end
def solsticelaw16_FoldAnywhere.f (k : Nat) (a0 : ByteArray) (l1 : List Int) (a2 : Bool) (a3 : Bool) : Option (Bool) := if (a0.size : Int) > 300 then (solsticelaw16_FoldAnywhere.j0 k a0 l1 a2 a3 true) else (if (a0.size : Int) = 0 then (solsticelaw16_FoldAnywhere.j0 k a0 l1 a2 a3 true) else (solsticelaw16_FoldAnywhere.j0 k a0 l1 a2 a3 (decide ((l1.length : Int) > 20))))
theorem solsticelaw16_FoldAnywhere.mono_l : ∀ k, (∀ y0 y1 y2 y3 y4, LeO (solsticelaw16_FoldAnywhere.j0 k y0 y1 y2 y3 y4) (solsticelaw16_FoldAnywhere.j0 (k + 1) y0 y1 y2 y3 y4)) ∧ (∀ y0 y1 y2 y3 y4, LeO (solsticelaw16_FoldAnywhere.l0 k y0 y1 y2 y3 y4) (solsticelaw16_FoldAnywhere.l0 (k + 1) y0 y1 y2 y3 y4)) ∧ (∀ y0 y1 y2 y3 y4, LeO (solsticelaw16_FoldAnywhere.j2 k y0 y1 y2 y3 y4) (solsticelaw16_FoldAnywhere.j2 (k + 1) y0 y1 y2 y3 y4)) ∧ (∀ y0 y1 y2 y3, LeO (solsticelaw16_FoldAnywhere.j3 k y0 y1 y2 y3) (solsticelaw16_FoldAnywhere.j3 (k + 1) y0 y1 y2 y3)) ∧ (∀ y0 y1 y2 y3 y4 y5, LeO (solsticelaw16_FoldAnywhere.l1 k y0 y1 y2 y3 y4 y5) (solsticelaw16_FoldAnywhere.l1 (k + 1) y0 y1 y2 y3 y4 y5)) ∧ (∀ y0 y1 y2 y3 y4 y5 y6, LeO (solsticelaw16_FoldAnywhere.l2 k y0 y1 y2 y3 y4 y5 y6) (solsticelaw16_FoldAnywhere.l2 (k + 1) y0 y1 y2 y3 y4 y5 y6)) ∧ (∀ y0 y1 y2 y3, LeO (solsticelaw16_FoldAnywhere.j6 k y0 y1 y2 y3) (solsticelaw16_FoldAnywhere.j6 (k + 1) y0 y1 y2 y3))
 | 0 => ⟨fun _ _ _ _ _ r h => by simp [solsticelaw16_FoldAnywhere.j0] at h, fun _ _ _ _ _ r h => by simp [solsticelaw16_FoldAnywhere.l0] at h, fun _ _ _ _ _ r h => by simp [solsticelaw16_FoldAnywhere.j2] at h, fun _ _ _ _ r h => by simp [solsticelaw16_FoldAnywhere.j3] at h, fun _ _ _ _ _ _ r h => by simp [solsticelaw16_FoldAnywhere.l1] at h, fun _ _ _ _ _ _ _ r h => by simp [solsticelaw16_FoldAnywhere.l2] at h, fun _ _ _ _ r h => by simp [solsticelaw16_FoldAnywhere.j6] at h⟩
 | k + 1 => by
  obtain ⟨ih0, ih1, ih2, ih3, ih4, ih5, ih6⟩ := solsticelaw16_FoldAnywhere.mono_l k
  refine ⟨?_, ?_, ?_, ?_, ?_, ?_, ?_⟩
  ·intro y0 y1 y2 y3 y4
   unfold solsticelaw16_FoldAnywhere.j0
   repeat' first
   | (with_reducible exact ih0 _ _ _ _ _)
   | (with_reducible exact ih1 _ _ _ _ _)
   | (with_reducible exact ih2 _ _ _ _ _)
   | (with_reducible exact ih3 _ _ _ _)
   | (with_reducible exact ih4 _ _ _ _ _ _)
   | (with_reducible exact ih5 _ _ _ _ _ _ _)
   | (with_reducible exact ih6 _ _ _ _)
   | (with_reducible exact fold_Unfold.mono _ _)
   | (with_reducible exact solsticekeep_Texts.mono _ _ _)
   | (with_reducible exact solsticelaw16_wakes.mono _)
   | (with_reducible exact LeO.refl _)
   | (with_reducible exact LeO.none _)
   | (with_reducible refine LeO.ite ?_ ?_)
   | (with_reducible refine LeO.bind ?_ (fun _ => ?_))
   | exact ih0 _ _ _ _ _
   | exact ih1 _ _ _ _ _
   | exact ih2 _ _ _ _ _
   | exact ih3 _ _ _ _
   | exact ih4 _ _ _ _ _ _
   | exact ih5 _ _ _ _ _ _ _
   | exact ih6 _ _ _ _
   | exact fold_Unfold.mono _ _
   | exact solsticekeep_Texts.mono _ _ _
   | exact solsticelaw16_wakes.mono _
   | exact LeO.none _
   | refine LeO.ite ?_ ?_
   | refine LeO.bind ?_ (fun _ => ?_)
  ·intro y0 y1 y2 y3 y4
   unfold solsticelaw16_FoldAnywhere.l0
   repeat' first
   | (with_reducible exact ih0 _ _ _ _ _)
   | (with_reducible exact ih1 _ _ _ _ _)
   | (with_reducible exact ih2 _ _ _ _ _)
   | (with_reducible exact ih3 _ _ _ _)
   | (with_reducible exact ih4 _ _ _ _ _ _)
   | (with_reducible exact ih5 _ _ _ _ _ _ _)
   | (with_reducible exact ih6 _ _ _ _)
   | (with_reducible exact fold_Unfold.mono _ _)
   | (with_reducible exact solsticekeep_Texts.mono _ _ _)
   | (with_reducible exact solsticelaw16_wakes.mono _)
   | (with_reducible exact LeO.refl _)
   | (with_reducible exact LeO.none _)
   | (with_reducible refine LeO.ite ?_ ?_)
   | (with_reducible refine LeO.bind ?_ (fun _ => ?_))
   | exact ih0 _ _ _ _ _
   | exact ih1 _ _ _ _ _
   | exact ih2 _ _ _ _ _
   | exact ih3 _ _ _ _
   | exact ih4 _ _ _ _ _ _
   | exact ih5 _ _ _ _ _ _ _
   | exact ih6 _ _ _ _
   | exact fold_Unfold.mono _ _
   | exact solsticekeep_Texts.mono _ _ _
   | exact solsticelaw16_wakes.mono _
   | exact LeO.none _
   | refine LeO.ite ?_ ?_
   | refine LeO.bind ?_ (fun _ => ?_)
  ·intro y0 y1 y2 y3 y4
   unfold solsticelaw16_FoldAnywhere.j2
   repeat' first
   | (with_reducible exact ih0 _ _ _ _ _)
   | (with_reducible exact ih1 _ _ _ _ _)
   | (with_reducible exact ih2 _ _ _ _ _)
   | (with_reducible exact ih3 _ _ _ _)
   | (with_reducible exact ih4 _ _ _ _ _ _)
   | (with_reducible exact ih5 _ _ _ _ _ _ _)
   | (with_reducible exact ih6 _ _ _ _)
   | (with_reducible exact fold_Unfold.mono _ _)
   | (with_reducible exact solsticekeep_Texts.mono _ _ _)
   | (with_reducible exact solsticelaw16_wakes.mono _)
   | (with_reducible exact LeO.refl _)
   | (with_reducible exact LeO.none _)
   | (with_reducible refine LeO.ite ?_ ?_)
   | (with_reducible refine LeO.bind ?_ (fun _ => ?_))
   | exact ih0 _ _ _ _ _
   | exact ih1 _ _ _ _ _
   | exact ih2 _ _ _ _ _
   | exact ih3 _ _ _ _
   | exact ih4 _ _ _ _ _ _
   | exact ih5 _ _ _ _ _ _ _
   | exact ih6 _ _ _ _
   | exact fold_Unfold.mono _ _
   | exact solsticekeep_Texts.mono _ _ _
   | exact solsticelaw16_wakes.mono _
   | exact LeO.none _
   | refine LeO.ite ?_ ?_
   | refine LeO.bind ?_ (fun _ => ?_)
  ·intro y0 y1 y2 y3
   unfold solsticelaw16_FoldAnywhere.j3
   repeat' first
   | (with_reducible exact ih0 _ _ _ _ _)
   | (with_reducible exact ih1 _ _ _ _ _)
   | (with_reducible exact ih2 _ _ _ _ _)
   | (with_reducible exact ih3 _ _ _ _)
   | (with_reducible exact ih4 _ _ _ _ _ _)
   | (with_reducible exact ih5 _ _ _ _ _ _ _)
   | (with_reducible exact ih6 _ _ _ _)
   | (with_reducible exact fold_Unfold.mono _ _)
   | (with_reducible exact solsticekeep_Texts.mono _ _ _)
   | (with_reducible exact solsticelaw16_wakes.mono _)
   | (with_reducible exact LeO.refl _)
   | (with_reducible exact LeO.none _)
   | (with_reducible refine LeO.ite ?_ ?_)
   | (with_reducible refine LeO.bind ?_ (fun _ => ?_))
   | exact ih0 _ _ _ _ _
   | exact ih1 _ _ _ _ _
   | exact ih2 _ _ _ _ _
   | exact ih3 _ _ _ _
   | exact ih4 _ _ _ _ _ _
   | exact ih5 _ _ _ _ _ _ _
   | exact ih6 _ _ _ _
   | exact fold_Unfold.mono _ _
   | exact solsticekeep_Texts.mono _ _ _
   | exact solsticelaw16_wakes.mono _
   | exact LeO.none _
   | refine LeO.ite ?_ ?_
   | refine LeO.bind ?_ (fun _ => ?_)
  ·intro y0 y1 y2 y3 y4 y5
   unfold solsticelaw16_FoldAnywhere.l1
   repeat' first
   | (with_reducible exact ih0 _ _ _ _ _)
   | (with_reducible exact ih1 _ _ _ _ _)
   | (with_reducible exact ih2 _ _ _ _ _)
   | (with_reducible exact ih3 _ _ _ _)
   | (with_reducible exact ih4 _ _ _ _ _ _)
   | (with_reducible exact ih5 _ _ _ _ _ _ _)
   | (with_reducible exact ih6 _ _ _ _)
   | (with_reducible exact fold_Unfold.mono _ _)
   | (with_reducible exact solsticekeep_Texts.mono _ _ _)
   | (with_reducible exact solsticelaw16_wakes.mono _)
   | (with_reducible exact LeO.refl _)
   | (with_reducible exact LeO.none _)
   | (with_reducible refine LeO.ite ?_ ?_)
   | (with_reducible refine LeO.bind ?_ (fun _ => ?_))
   | exact ih0 _ _ _ _ _
   | exact ih1 _ _ _ _ _
   | exact ih2 _ _ _ _ _
   | exact ih3 _ _ _ _
   | exact ih4 _ _ _ _ _ _
   | exact ih5 _ _ _ _ _ _ _
   | exact ih6 _ _ _ _
   | exact fold_Unfold.mono _ _
   | exact solsticekeep_Texts.mono _ _ _
   | exact solsticelaw16_wakes.mono _
   | exact LeO.none _
   | refine LeO.ite ?_ ?_
   | refine LeO.bind ?_ (fun _ => ?_)
  ·intro y0 y1 y2 y3 y4 y5 y6
   unfold solsticelaw16_FoldAnywhere.l2
   repeat' first
   | (with_reducible exact ih0 _ _ _ _ _)
   | (with_reducible exact ih1 _ _ _ _ _)
   | (with_reducible exact ih2 _ _ _ _ _)
   | (with_reducible exact ih3 _ _ _ _)
   | (with_reducible exact ih4 _ _ _ _ _ _)
   | (with_reducible exact ih5 _ _ _ _ _ _ _)
   | (with_reducible exact ih6 _ _ _ _)
   | (with_reducible exact fold_Unfold.mono _ _)
   | (with_reducible exact solsticekeep_Texts.mono _ _ _)
   | (with_reducible exact solsticelaw16_wakes.mono _)
   | (with_reducible exact LeO.refl _)
   | (with_reducible exact LeO.none _)
   | (with_reducible refine LeO.ite ?_ ?_)
   | (with_reducible refine LeO.bind ?_ (fun _ => ?_))
   | exact ih0 _ _ _ _ _
   | exact ih1 _ _ _ _ _
   | exact ih2 _ _ _ _ _
   | exact ih3 _ _ _ _
   | exact ih4 _ _ _ _ _ _
   | exact ih5 _ _ _ _ _ _ _
   | exact ih6 _ _ _ _
   | exact fold_Unfold.mono _ _
   | exact solsticekeep_Texts.mono _ _ _
   | exact solsticelaw16_wakes.mono _
   | exact LeO.none _
   | refine LeO.ite ?_ ?_
   | refine LeO.bind ?_ (fun _ => ?_)
  ·intro y0 y1 y2 y3
   unfold solsticelaw16_FoldAnywhere.j6
   repeat' first
   | (with_reducible exact ih0 _ _ _ _ _)
   | (with_reducible exact ih1 _ _ _ _ _)
   | (with_reducible exact ih2 _ _ _ _ _)
   | (with_reducible exact ih3 _ _ _ _)
   | (with_reducible exact ih4 _ _ _ _ _ _)
   | (with_reducible exact ih5 _ _ _ _ _ _ _)
   | (with_reducible exact ih6 _ _ _ _)
   | (with_reducible exact fold_Unfold.mono _ _)
   | (with_reducible exact solsticekeep_Texts.mono _ _ _)
   | (with_reducible exact solsticelaw16_wakes.mono _)
   | (with_reducible exact LeO.refl _)
   | (with_reducible exact LeO.none _)
   | (with_reducible refine LeO.ite ?_ ?_)
   | (with_reducible refine LeO.bind ?_ (fun _ => ?_))
   | exact ih0 _ _ _ _ _
   | exact ih1 _ _ _ _ _
   | exact ih2 _ _ _ _ _
   | exact ih3 _ _ _ _
   | exact ih4 _ _ _ _ _ _
   | exact ih5 _ _ _ _ _ _ _
   | exact ih6 _ _ _ _
   | exact fold_Unfold.mono _ _
   | exact solsticekeep_Texts.mono _ _ _
   | exact solsticelaw16_wakes.mono _
   | exact LeO.none _
   | refine LeO.ite ?_ ?_
   | refine LeO.bind ?_ (fun _ => ?_)
theorem solsticelaw16_FoldAnywhere.mono : ∀ a0 a1 a2 a3 k, LeO (solsticelaw16_FoldAnywhere.f k a0 a1 a2 a3) (solsticelaw16_FoldAnywhere.f (k + 1) a0 a1 a2 a3) := by
 intro a0 a1 a2 a3 k
 obtain ⟨ih0, ih1, ih2, ih3, ih4, ih5, ih6⟩ := solsticelaw16_FoldAnywhere.mono_l k
 unfold solsticelaw16_FoldAnywhere.f
 repeat' first
   | (with_reducible exact ih0 _ _ _ _ _)
   | (with_reducible exact ih1 _ _ _ _ _)
   | (with_reducible exact ih2 _ _ _ _ _)
   | (with_reducible exact ih3 _ _ _ _)
   | (with_reducible exact ih4 _ _ _ _ _ _)
   | (with_reducible exact ih5 _ _ _ _ _ _ _)
   | (with_reducible exact ih6 _ _ _ _)
   | (with_reducible exact fold_Unfold.mono _ _)
   | (with_reducible exact solsticekeep_Texts.mono _ _ _)
   | (with_reducible exact solsticelaw16_wakes.mono _)
   | (with_reducible exact LeO.refl _)
   | (with_reducible exact LeO.none _)
   | (with_reducible refine LeO.ite ?_ ?_)
   | (with_reducible refine LeO.bind ?_ (fun _ => ?_))
   | exact ih0 _ _ _ _ _
   | exact ih1 _ _ _ _ _
   | exact ih2 _ _ _ _ _
   | exact ih3 _ _ _ _
   | exact ih4 _ _ _ _ _ _
   | exact ih5 _ _ _ _ _ _ _
   | exact ih6 _ _ _ _
   | exact fold_Unfold.mono _ _
   | exact solsticekeep_Texts.mono _ _ _
   | exact solsticelaw16_wakes.mono _
   | exact LeO.none _
   | refine LeO.ite ?_ ?_
   | refine LeO.bind ?_ (fun _ => ?_)
set_option maxHeartbeats 8000000 in
set_option maxRecDepth 100000 in
theorem solsticelaw16_FoldAnywhere.calls (k : Nat) (a0 : ByteArray) (A1 : Option Addr) (c1 : Nat) (l1 : List Int) (a2 : Bool) (a3 : Bool) (r : Bool) (w : World) (hr1 : Kd.C (Kd.int .i64) w A1 l1.length l1) (hc1 : l1.length ≤ c1) (hG : GP w) (h : solsticelaw16_FoldAnywhere.f k a0 l1 a2 a3 = some r) :
  Calls Tryd.prog 6 #[.string a0, .slice A1 l1.length c1, .bool a2, .bool a3] w fun e w' => e = .returned (.bool r) ∧ Below w.heap.size w w' := by
 have HG := Aside0.mk hG
 clear hG
 have HR1 := Aside0.mk hr1
 have HC1 := Aside0.mk hc1
 clear hr1 hc1
 have HB := Aside0.mk (Below.refl w.heap.size w)
 have H : (if (a0.size : Int) > 300 then (solsticelaw16_FoldAnywhere.j0 k a0 l1 a2 a3 true) else (if (a0.size : Int) = 0 then (solsticelaw16_FoldAnywhere.j0 k a0 l1 a2 a3 true) else (solsticelaw16_FoldAnywhere.j0 k a0 l1 a2 a3 (decide ((l1.length : Int) > 20))))) = some r := h
 clear h
 have HC5 := Aside0.mk H
 clear H
 go_enter Tryd.func6, Tryd.ntmps6
 go_upto_region 1 with (fail)
 go_cut [29] (fun v29 wc => ∃ (kq : Nat) (x29_4 : Bool), v29 = .bool x29_4 ∧ Aside0 (solsticelaw16_FoldAnywhere.j0 kq a0 l1 a2 a3 x29_4 = some r) ∧ Aside0 (kq ≤ k) ∧ Aside0 (Below w.heap.size w wc))
 case first =>
  have H := HC5.out
  clear HC5
  by_cases c6 : (a0.size : Int) > 300
  ·rw [if_pos c6] at H
   have c6b0 : decide (300 < (a0.size : Int)) = true := decide_eq_true c6
   have c6b1 : decide (300 < a0.size) = true := decide_eq_true (by omega)
   clear c6
   (first | rw [c6b0] | (simp only [i64_w, i32_w]; rw [c6b0]) | skip)
   have H' := Aside0.mk H
   clear H
   go_wp2
   go_meet
   case rel => exact ⟨_, (true), (by first | rfl | (simp; done) | (simp [*]; done)), H', ⟨by first | omega | exact Nat.le_refl _⟩, ⟨by repeat (first | (with_reducible first | exact HB.out | apply below_alloc | apply pw_below_drewN | apply below_drew1) | exact HB.out)⟩⟩
  ·rw [if_neg c6] at H
   have c6b0 : decide (300 < (a0.size : Int)) = false := decide_eq_false c6
   have c6b1 : decide (300 < a0.size) = false := decide_eq_false (by omega)
   clear c6
   (first | rw [c6b0] | (simp only [i64_w, i32_w]; rw [c6b0]) | skip)
   by_cases c7 : (a0.size : Int) = 0
   ·rw [if_pos c7] at H
    have c7b0 : ((a0.size : Int) == 0) = true := beq_iff_eq.mpr c7
    have c7b1 : ((a0.size : Int) != 0) = false := bne_eq_false_iff_eq.mpr c7
    clear c7
    have H' := Aside0.mk H
    clear H
    go_wp2
    go_meet
    case rel => exact ⟨_, (true), (by first | rfl | (simp; done) | (simp [*]; done)), H', ⟨by first | omega | exact Nat.le_refl _⟩, ⟨by repeat (first | (with_reducible first | exact HB.out | apply below_alloc | apply pw_below_drewN | apply below_drew1) | exact HB.out)⟩⟩
   ·rw [if_neg c7] at H
    have c7b0 : ((a0.size : Int) == 0) = false := beq_eq_false_iff_ne.mpr c7
    have c7b1 : ((a0.size : Int) != 0) = true := bne_iff_ne.mpr c7
    have H' := Aside0.mk H
    clear H
    go_wp2
    go_meet
    case rel => exact ⟨_, (decide ((l1.length : Int) > 20)), (by first | rfl | (simp; done) | (simp [*]; done)), H', ⟨by first | omega | exact Nat.le_refl _⟩, ⟨by repeat (first | (with_reducible first | exact HB.out | apply below_alloc | apply pw_below_drewN | apply below_drew1) | exact HB.out)⟩⟩
 case rest =>
  as_aux_lemma =>
   clear HC5
   try clear c1
   try clear p2
   try clear c6
   try clear c6b0
   try clear c6b1
   try clear c7
   try clear c7b0
   try clear c7b1
   obtain ⟨kq, x29_4, rfl, HA, HJ4, HB⟩ := hcut
   cases kq with
   | zero => exact absurd HA.out (by simp [solsticelaw16_FoldAnywhere.j0])
   | succ kj4 =>
    have H := HA.out
    clear HA
    simp only [solsticelaw16_FoldAnywhere.j0] at H
    by_cases c8 : x29_4 = true
    ·subst c8
     have H1 : (some true) = some r := by rw [if_pos rfl] at H; exact H
     clear H
     have H := H1
     clear H1
     obtain rfl := Option.some.inj H
     go_wp2
     go_ret
     exact ⟨by first | rfl | (simp [errW_none, errW_some] <;> rfl) | (simp [*, errW_none, errW_some] <;> rfl), by repeat (first | (with_reducible first | exact HB.out | apply below_alloc | apply pw_below_drewN | apply below_drew1) | exact HB.out)⟩
    ·replace c8 := Bool.eq_false_iff.mpr c8
     subst c8
     have H1 : (solsticelaw16_FoldAnywhere.l0 kj4 a0 l1 a2 a3 0) = some r := by rw [if_neg (show ¬ (false = true) by decide)] at H; exact H
     clear H
     have H := H1
     clear H1
     have H' := Aside0.mk H
     clear H
     go_wp2
     go_loopg [9] kj4 (fun kq v9 w' => ∃ (x9_2 : Int), v9 = .int .i64 x9_2 ∧ Aside0 (solsticelaw16_FoldAnywhere.l0 kq a0 l1 a2 a3 x9_2 = some r) ∧ Aside0 (kq ≤ kj4) ∧ Aside0 (Below w.heap.size w w'))
     case atStart => exact ⟨(0), (by first | rfl | (simp; done) | (simp [*]; done)), H', ⟨Nat.le_refl _⟩, ⟨by repeat (first | (with_reducible first | exact HB.out | apply below_alloc | apply pw_below_drewN | apply below_drew1) | exact HB.out)⟩⟩
     case round =>
      as_aux_lemma =>
       clear H'
       try clear c1
       try clear p2
       try clear c6
       try clear c6b0
       try clear c6b1
       try clear c7
       try clear c7b0
       try clear c7b1
       try clear c8
       try clear p2
       obtain ⟨x9_2, rfl, HA, HK2, HB⟩ := hrel
       cases gk with
       | zero => exact absurd HA.out (by simp [solsticelaw16_FoldAnywhere.l0])
       | succ k2 =>
        have H := HA.out
        clear HA
        simp only [solsticelaw16_FoldAnywhere.l0] at H
        by_cases c9 : x9_2 < (a0.size : Int)
        ·rw [if_pos c9] at H
         have c9b0 : decide (x9_2 < (a0.size : Int)) = true := decide_eq_true c9
         clear c9
         by_cases c10 : 0 ≤ x9_2
         ·rw [if_pos c10] at H
          have c10b0 : decide (0 ≤ x9_2) = true := decide_eq_true c10
          clear c10
          by_cases c12 : (bt a0 x9_2) = 10
          ·rw [if_pos c12] at H
           have c12b0 : ((bt a0 x9_2) == 10) = true := beq_iff_eq.mpr c12
           have c12b1 : ((bt a0 x9_2) != 10) = false := bne_eq_false_iff_eq.mpr c12
           clear c12
           obtain rfl := Option.some.inj H
           have p11 : 0 ≤ (x9_2 : Int) := of_decide_eq_true (by first | (with_reducible assumption) | assumption)
           have q11 : x9_2 < (a0.size : Int) := of_decide_eq_true (by first | (with_reducible assumption) | assumption)
           have hx11 := bt_at a0 x9_2
           replace p11 := eq_true p11
           replace q11 := eq_true q11
           go_wp2
           go_ret
           exact ⟨by first | rfl | (simp [errW_none, errW_some] <;> rfl) | (simp [*, errW_none, errW_some] <;> rfl), by repeat (first | (with_reducible first | exact HB.out | apply below_alloc | apply pw_below_drewN | apply below_drew1) | exact HB.out)⟩
          ·rw [if_neg c12] at H
           have c12b0 : ((bt a0 x9_2) == 10) = false := beq_eq_false_iff_ne.mpr c12
           have c12b1 : ((bt a0 x9_2) != 10) = true := bne_iff_ne.mpr c12
           by_cases c14 : (bt a0 x9_2) = 13
           ·rw [if_pos c14] at H
            have c14b0 : ((bt a0 x9_2) == 13) = true := beq_iff_eq.mpr c14
            have c14b1 : ((bt a0 x9_2) != 13) = false := bne_eq_false_iff_eq.mpr c14
            clear c14
            obtain rfl := Option.some.inj H
            have p11 : 0 ≤ (x9_2 : Int) := of_decide_eq_true (by first | (with_reducible assumption) | assumption)
            have q11 : x9_2 < (a0.size : Int) := of_decide_eq_true (by first | (with_reducible assumption) | assumption)
            have hx11 := bt_at a0 x9_2
            replace p11 := eq_true p11
            replace q11 := eq_true q11
            have p13 : 0 ≤ (x9_2 : Int) := of_decide_eq_true (by first | (with_reducible assumption) | assumption)
            have q13 : x9_2 < (a0.size : Int) := of_decide_eq_true (by first | (with_reducible assumption) | assumption)
            have hx13 := bt_at a0 x9_2
            replace p13 := eq_true p13
            replace q13 := eq_true q13
            go_wp2
            go_ret
            exact ⟨by first | rfl | (simp [errW_none, errW_some] <;> rfl) | (simp [*, errW_none, errW_some] <;> rfl), by repeat (first | (with_reducible first | exact HB.out | apply below_alloc | apply pw_below_drewN | apply below_drew1) | exact HB.out)⟩
           ·rw [if_neg c14] at H
            have c14b0 : ((bt a0 x9_2) == 13) = false := beq_eq_false_iff_ne.mpr c14
            have c14b1 : ((bt a0 x9_2) != 13) = true := bne_iff_ne.mpr c14
            have H' := Aside0.mk H
            clear H
            have p11 : 0 ≤ (x9_2 : Int) := of_decide_eq_true (by first | (with_reducible assumption) | assumption)
            have q11 : x9_2 < (a0.size : Int) := of_decide_eq_true (by first | (with_reducible assumption) | assumption)
            have hx11 := bt_at a0 x9_2
            replace p11 := eq_true p11
            replace q11 := eq_true q11
            have p13 : 0 ≤ (x9_2 : Int) := of_decide_eq_true (by first | (with_reducible assumption) | assumption)
            have q13 : x9_2 < (a0.size : Int) := of_decide_eq_true (by first | (with_reducible assumption) | assumption)
            have hx13 := bt_at a0 x9_2
            replace p13 := eq_true p13
            replace q13 := eq_true q13
            go_wp2
            go_roundg k2
            case measure => have := HJ4.out; have := HK2.out; omega
            case rel => exact ⟨(wrap64 (x9_2 + 1)), (by first | rfl | (simp; done) | (simp [*]; done)), H', ⟨by have := HJ4.out; have := HK2.out; omega⟩, ⟨by repeat (first | (with_reducible first | exact HB.out | apply below_alloc | apply pw_below_drewN | apply below_drew1) | exact HB.out)⟩⟩
         ·rw [if_neg c10] at H
          exact absurd H (by simp)
        ·rw [if_neg c9] at H
         have c9b0 : decide (x9_2 < (a0.size : Int)) = false := decide_eq_false c9
         clear c9
         have HC15 := Aside0.mk H
         clear H
         go_upto_if 46 with (fail)
         go_cut [10] (fun v10 wc => ∃ (kq : Nat) (x10_14 : ByteArray), v10 = .string x10_14 ∧ Aside0 (solsticelaw16_FoldAnywhere.j2 kq a0 l1 a2 x10_14 (⟨#[32]⟩ : ByteArray) = some r) ∧ Aside0 (kq ≤ k2) ∧ Aside0 (Below w.heap.size w wc))
         case first =>
          have H := HC15.out
          clear HC15
          by_cases c16 : a3 = true
          ·subst c16
           have H1 : (solsticelaw16_FoldAnywhere.j2 k2 a0 l1 a2 (⟨#[10]⟩ : ByteArray) (⟨#[32]⟩ : ByteArray)) = some r := by rw [if_pos rfl] at H; exact H
           clear H
           have H := H1
           clear H1
           have H' := Aside0.mk H
           clear H
           go_wp2
           go_meet
           case rel => exact ⟨_, ((⟨#[10]⟩ : ByteArray)), (by first | rfl | (simp; done) | (simp [*]; done)), H', ⟨by have := HJ4.out; have := HK2.out; first | omega | exact Nat.le_refl _⟩, ⟨by repeat (first | (with_reducible first | exact HB.out | apply below_alloc | apply pw_below_drewN | apply below_drew1) | exact HB.out)⟩⟩
          ·replace c16 := Bool.eq_false_iff.mpr c16
           subst c16
           have H1 : (solsticelaw16_FoldAnywhere.j2 k2 a0 l1 a2 (⟨#[13, 10]⟩ : ByteArray) (⟨#[32]⟩ : ByteArray)) = some r := by rw [if_neg (show ¬ (false = true) by decide)] at H; exact H
           clear H
           have H := H1
           clear H1
           have H' := Aside0.mk H
           clear H
           go_wp2
           go_meet
           case rel => exact ⟨_, ((⟨#[13, 10]⟩ : ByteArray)), (by first | rfl | (simp; done) | (simp [*]; done)), H', ⟨by have := HJ4.out; have := HK2.out; first | omega | exact Nat.le_refl _⟩, ⟨by repeat (first | (with_reducible first | exact HB.out | apply below_alloc | apply pw_below_drewN | apply below_drew1) | exact HB.out)⟩⟩
         case rest =>
          as_aux_lemma =>
           clear HC15
           try clear c1
           try clear p1
           try clear q1
           try clear hx1
           try clear p2
           try clear c6
           try clear c6b0
           try clear c6b1
           try clear p6
           try clear c7
           try clear c7b0
           try clear c7b1
           try clear c8
           try clear c9
           try clear c9b0
           try clear c10
           try clear c10b0
           try clear p11
           try clear q11
           try clear hx11
           try clear c12
           try clear c12b0
           try clear c12b1
           try clear p13
           try clear q13
           try clear hx13
           try clear c14
           try clear c14b0
           try clear c14b1
           try clear c16
           try clear p11
           try clear p13
           try clear p2
           try clear q11
           try clear q13
           obtain ⟨kq, x10_14, rfl, HA, HJ14, HB⟩ := hcut
           cases kq with
           | zero => exact absurd HA.out (by simp [solsticelaw16_FoldAnywhere.j2])
           | succ kj14 =>
            have H := HA.out
            clear HA
            simp only [solsticelaw16_FoldAnywhere.j2] at H
            have HC17 := Aside0.mk H
            clear H
            go_upto_if 47 with (fail)
            go_cut [11] (fun v11 wc => ∃ (kq : Nat) (x11_16 : ByteArray), v11 = .string x11_16 ∧ Aside0 (solsticelaw16_FoldAnywhere.j3 kq a0 l1 x10_14 x11_16 = some r) ∧ Aside0 (kq ≤ kj14) ∧ Aside0 (Below w.heap.size w wc))
            case first =>
             have H := HC17.out
             clear HC17
             by_cases c18 : a2 = true
             ·subst c18
              have H1 : (solsticelaw16_FoldAnywhere.j3 kj14 a0 l1 x10_14 (⟨#[9]⟩ : ByteArray)) = some r := by rw [if_pos rfl] at H; exact H
              clear H
              have H := H1
              clear H1
              have H' := Aside0.mk H
              clear H
              go_wp2
              go_meet
              case rel => exact ⟨_, ((⟨#[9]⟩ : ByteArray)), (by first | rfl | (simp; done) | (simp [*]; done)), H', ⟨by have := HJ4.out; have := HK2.out; have := HJ14.out; first | omega | exact Nat.le_refl _⟩, ⟨by repeat (first | (with_reducible first | exact HB.out | apply below_alloc | apply pw_below_drewN | apply below_drew1) | exact HB.out)⟩⟩
             ·replace c18 := Bool.eq_false_iff.mpr c18
              subst c18
              have H1 : (solsticelaw16_FoldAnywhere.j3 kj14 a0 l1 x10_14 (⟨#[32]⟩ : ByteArray)) = some r := by rw [if_neg (show ¬ (false = true) by decide)] at H; exact H
              clear H
              have H := H1
              clear H1
              have H' := Aside0.mk H
              clear H
              go_wp2
              go_meet
              case rel => exact ⟨_, ((⟨#[32]⟩ : ByteArray)), (by first | rfl | (simp; done) | (simp [*]; done)), H', ⟨by have := HJ4.out; have := HK2.out; have := HJ14.out; first | omega | exact Nat.le_refl _⟩, ⟨by repeat (first | (with_reducible first | exact HB.out | apply below_alloc | apply pw_below_drewN | apply below_drew1) | exact HB.out)⟩⟩
            case rest =>
             as_aux_lemma =>
              clear HC17
              try clear c1
              try clear p1
              try clear q1
              try clear hx1
              try clear p2
              try clear c6
              try clear c6b0
              try clear c6b1
              try clear p6
              try clear c7
              try clear c7b0
              try clear c7b1
              try clear c8
              try clear c9
              try clear c9b0
              try clear c10
              try clear c10b0
              try clear p11
              try clear q11
              try clear hx11
              try clear c12
              try clear c12b0
              try clear c12b1
              try clear p13
              try clear q13
              try clear hx13
              try clear c14
              try clear c14b0
              try clear c14b1
              try clear c16
              try clear c18
              try clear p1
              try clear p11
              try clear p13
              try clear p2
              try clear p6
              try clear q1
              try clear q11
              try clear q13
              obtain ⟨kq, x11_16, rfl, HA, HJ16, HB⟩ := hcut
              cases kq with
              | zero => exact absurd HA.out (by simp [solsticelaw16_FoldAnywhere.j3])
              | succ kj16 =>
               have H := HA.out
               clear HA
               simp only [solsticelaw16_FoldAnywhere.j3] at H
               have H' := Aside0.mk H
               clear H
               go_wp2
               go_loopg [12, 13] kj16 (fun kq v12 v13 w' => ∃ (x12_5 : ByteArray) (x13_5 : Int), v12 = .string x12_5 ∧ v13 = .int .i64 x13_5 ∧ Aside0 (solsticelaw16_FoldAnywhere.l1 kq a0 l1 x10_14 x11_16 x12_5 x13_5 = some r) ∧ Aside0 (kq ≤ kj16) ∧ Aside0 (Below w.heap.size w w'))
               case atStart => exact ⟨((⟨#[]⟩ : ByteArray)), (0), (by first | rfl | (simp; done) | (simp [*]; done)), (by first | rfl | (simp; done) | (simp [*]; done)), H', ⟨Nat.le_refl _⟩, ⟨by repeat (first | (with_reducible first | exact HB.out | apply below_alloc | apply pw_below_drewN | apply below_drew1) | exact HB.out)⟩⟩
               case round =>
                as_aux_lemma =>
                 clear H'
                 try clear c1
                 try clear p1
                 try clear q1
                 try clear hx1
                 try clear p2
                 try clear c6
                 try clear c6b0
                 try clear c6b1
                 try clear p6
                 try clear c7
                 try clear c7b0
                 try clear c7b1
                 try clear c8
                 try clear c9
                 try clear c9b0
                 try clear c10
                 try clear c10b0
                 try clear p11
                 try clear q11
                 try clear hx11
                 try clear c12
                 try clear c12b0
                 try clear c12b1
                 try clear p13
                 try clear q13
                 try clear hx13
                 try clear c14
                 try clear c14b0
                 try clear c14b1
                 try clear c16
                 try clear c18
                 try clear p1
                 try clear p11
                 try clear p13
                 try clear p2
                 try clear p6
                 try clear q1
                 try clear q11
                 try clear q13
                 obtain ⟨x12_5, x13_5, rfl, rfl, HA, HK5, HB⟩ := hrel
                 cases gk with
                 | zero => exact absurd HA.out (by simp [solsticelaw16_FoldAnywhere.l1])
                 | succ k5 =>
                  have H := HA.out
                  clear HA
                  simp only [solsticelaw16_FoldAnywhere.l1] at H
                  by_cases c19 : x13_5 < (a0.size : Int)
                  ·rw [if_pos c19] at H
                   have c19b0 : decide (x13_5 < (a0.size : Int)) = true := decide_eq_true c19
                   clear c19
                   have H' := Aside0.mk H
                   clear H
                   go_wp2
                   go_loopg [12, 14] k5 (fun kq v12 v14 w' => ∃ (x12_6 : ByteArray) (x14_6 : Int), v12 = .string x12_6 ∧ v14 = .int .i64 x14_6 ∧ Aside0 (solsticelaw16_FoldAnywhere.l2 kq a0 l1 x10_14 x11_16 x12_6 x13_5 x14_6 = some r) ∧ Aside0 (kq ≤ k5) ∧ Aside0 (Below w.heap.size w w'))
                   case atStart => exact ⟨(x12_5), (0), (by first | rfl | (simp; done) | (simp [*]; done)), (by first | rfl | (simp; done) | (simp [*]; done)), H', ⟨Nat.le_refl _⟩, ⟨by repeat (first | (with_reducible first | exact HB.out | apply below_alloc | apply pw_below_drewN | apply below_drew1) | exact HB.out)⟩⟩
                   case round =>
                    as_aux_lemma =>
                     clear H'
                     try clear c1
                     try clear p1
                     try clear q1
                     try clear hx1
                     try clear p2
                     try clear c6
                     try clear c6b0
                     try clear c6b1
                     try clear p6
                     try clear c7
                     try clear c7b0
                     try clear c7b1
                     try clear c8
                     try clear c9
                     try clear c9b0
                     try clear c10
                     try clear c10b0
                     try clear p11
                     try clear q11
                     try clear hx11
                     try clear c12
                     try clear c12b0
                     try clear c12b1
                     try clear p13
                     try clear q13
                     try clear hx13
                     try clear c14
                     try clear c14b0
                     try clear c14b1
                     try clear c16
                     try clear c18
                     try clear c19
                     try clear c19b0
                     try clear p1
                     try clear p11
                     try clear p13
                     try clear p2
                     try clear p6
                     try clear q1
                     try clear q11
                     try clear q13
                     obtain ⟨x12_6, x14_6, rfl, rfl, HA, HK6, HB⟩ := hrel
                     cases gk with
                     | zero => exact absurd HA.out (by simp [solsticelaw16_FoldAnywhere.l2])
                     | succ k6 =>
                      have H := HA.out
                      clear HA
                      simp only [solsticelaw16_FoldAnywhere.l2] at H
                      by_cases c20 : x14_6 < (l1.length : Int)
                      ·rw [if_pos c20] at H
                       have c20b0 : decide (x14_6 < (l1.length : Int)) = true := decide_eq_true c20
                       clear c20
                       by_cases c21 : 0 ≤ x14_6
                       ·rw [if_pos c21] at H
                        have c21b0 : decide (0 ≤ x14_6) = true := decide_eq_true c21
                        clear c21
                        by_cases c22 : (IntKind.u64.wrap ((a0.size : Int))) = 0
                        ·rw [if_pos c22] at H
                         exact absurd H (by simp)
                        ·rw [if_neg c22] at H
                         have c22b0 : ((IntKind.u64.wrap ((a0.size : Int))) == 0) = false := beq_eq_false_iff_ne.mpr c22
                         have c22b1 : ((IntKind.u64.wrap ((a0.size : Int))) != 0) = true := bne_iff_ne.mpr c22
                         by_cases c23 : (wrap64 (Int.tmod (IntKind.u64.wrap (rd l1 x14_6)) (IntKind.u64.wrap ((a0.size : Int))))) = x13_5
                         ·rw [if_pos c23] at H
                          have c23b0 : ((wrap64 (Int.tmod (IntKind.u64.wrap (rd l1 x14_6)) (IntKind.u64.wrap ((a0.size : Int))))) == x13_5) = true := beq_iff_eq.mpr c23
                          have c23b1 : ((wrap64 (Int.tmod (IntKind.u64.wrap (rd l1 x14_6)) (IntKind.u64.wrap ((a0.size : Int))))) != x13_5) = false := bne_eq_false_iff_eq.mpr c23
                          clear c23
                          by_cases c24 : x12_6.size + x10_14.size ≤ 9223372036854775807
                          ·rw [if_pos c24] at H
                           have c24b0 := eq_true c24
                           have c24b1 : decide (x12_6.size + x10_14.size ≤ 9223372036854775807) = true := decide_eq_true c24
                           try have c24b2 : (9223372036854775807 < x12_6.size + x10_14.size) = False := eq_false (Nat.not_lt.2 c24)
                           by_cases c25 : (x12_6 ++ x10_14).size + x11_16.size ≤ 9223372036854775807
                           ·rw [if_pos c25] at H
                            have c25b0 := eq_true c25
                            have c25b1 : decide ((x12_6 ++ x10_14).size + x11_16.size ≤ 9223372036854775807) = true := decide_eq_true c25
                            try have c25b3 : (9223372036854775807 < (x12_6.size + x10_14.size) + x11_16.size) = False := eq_false (Nat.not_lt.2 (by have h_ := c25; simp only [ByteArray.size_append] at h_; omega))
                            try have c25b2 : (9223372036854775807 < (x12_6 ++ x10_14).size + x11_16.size) = False := eq_false (Nat.not_lt.2 c25)
                            have H' := Aside0.mk H
                            clear H
                            have p215 : 0 ≤ (x14_6 : Int) := of_decide_eq_true (by first | (with_reducible assumption) | assumption)
                            have q215 : x14_6 < (l1.length : Int) := of_decide_eq_true (by first | (with_reducible assumption) | assumption)
                            obtain ⟨ad215, e215, hx215_0⟩ := Kd.at_int HR1.out x14_6 p215 q215
                            cases e215
                            replace hx215_0 := (HB.out.cell (World.block_lt_of_cell? w _ hx215_0)).trans hx215_0
                            replace p215 := eq_true p215
                            replace q215 := eq_true q215
                            go_wp2
                            go_roundg k6
                            case measure => have := HJ4.out; have := HK2.out; have := HJ14.out; have := HJ16.out; have := HK5.out; have := HK6.out; omega
                            case rel => exact ⟨((x12_6 ++ x10_14) ++ x11_16), (wrap64 (x14_6 + 1)), (by first | rfl | (simp; done) | (simp [*]; done)), (by first | rfl | (simp; done) | (simp [*]; done)), H', ⟨by have := HJ4.out; have := HK2.out; have := HJ14.out; have := HJ16.out; have := HK5.out; have := HK6.out; omega⟩, ⟨by repeat (first | (with_reducible first | exact HB.out | apply below_alloc | apply pw_below_drewN | apply below_drew1) | exact HB.out)⟩⟩
                           ·rw [if_neg c25] at H
                            exact absurd H (by simp)
                          ·rw [if_neg c24] at H
                           exact absurd H (by simp)
                         ·rw [if_neg c23] at H
                          have c23b0 : ((wrap64 (Int.tmod (IntKind.u64.wrap (rd l1 x14_6)) (IntKind.u64.wrap ((a0.size : Int))))) == x13_5) = false := beq_eq_false_iff_ne.mpr c23
                          have c23b1 : ((wrap64 (Int.tmod (IntKind.u64.wrap (rd l1 x14_6)) (IntKind.u64.wrap ((a0.size : Int))))) != x13_5) = true := bne_iff_ne.mpr c23
                          have H' := Aside0.mk H
                          clear H
                          have p215 : 0 ≤ (x14_6 : Int) := of_decide_eq_true (by first | (with_reducible assumption) | assumption)
                          have q215 : x14_6 < (l1.length : Int) := of_decide_eq_true (by first | (with_reducible assumption) | assumption)
                          obtain ⟨ad215, e215, hx215_0⟩ := Kd.at_int HR1.out x14_6 p215 q215
                          cases e215
                          replace hx215_0 := (HB.out.cell (World.block_lt_of_cell? w _ hx215_0)).trans hx215_0
                          replace p215 := eq_true p215
                          replace q215 := eq_true q215
                          go_wp2
                          go_roundg k6
                          case measure => have := HJ4.out; have := HK2.out; have := HJ14.out; have := HJ16.out; have := HK5.out; have := HK6.out; omega
                          case rel => exact ⟨(x12_6), (wrap64 (x14_6 + 1)), (by first | rfl | (simp; done) | (simp [*]; done)), (by first | rfl | (simp; done) | (simp [*]; done)), H', ⟨by have := HJ4.out; have := HK2.out; have := HJ14.out; have := HJ16.out; have := HK5.out; have := HK6.out; omega⟩, ⟨by repeat (first | (with_reducible first | exact HB.out | apply below_alloc | apply pw_below_drewN | apply below_drew1) | exact HB.out)⟩⟩
                       ·rw [if_neg c21] at H
                        exact absurd H (by simp)
                      ·rw [if_neg c20] at H
                       have c20b0 : decide (x14_6 < (l1.length : Int)) = false := decide_eq_false c20
                       clear c20
                       by_cases c26 : 0 ≤ x13_5
                       ·rw [if_pos c26] at H
                        have c26b0 := eq_true c26
                        have c26b1 : decide (0 ≤ x13_5) = true := decide_eq_true c26
                        clear c26
                        by_cases c27 : x13_5 ≤ (wrap64 (x13_5 + 1))
                        ·rw [if_pos c27] at H
                         have c27b0 := eq_true c27
                         have c27b1 : decide (x13_5 ≤ (wrap64 (x13_5 + 1))) = true := decide_eq_true c27
                         by_cases c28 : (wrap64 (x13_5 + 1)) ≤ (a0.size : Int)
                         ·rw [if_pos c28] at H
                          have c28b0 := eq_true c28
                          have c28b1 : decide ((wrap64 (x13_5 + 1)) ≤ (a0.size : Int)) = true := decide_eq_true c28
                          by_cases c29 : x12_6.size + (a0.extract (x13_5 : Int).toNat ((wrap64 (x13_5 + 1)) : Int).toNat).size ≤ 9223372036854775807
                          ·rw [if_pos c29] at H
                           have c29b0 := eq_true c29
                           have c29b1 : decide (x12_6.size + (a0.extract (x13_5 : Int).toNat ((wrap64 (x13_5 + 1)) : Int).toNat).size ≤ 9223372036854775807) = true := decide_eq_true c29
                           try have c29b3 : (9223372036854775807 < x12_6.size + (a0.extract (x13_5 : Int).toNat ((wrap64 (x13_5 + 1)) : Int).toNat).size) = False := eq_false (Nat.not_lt.2 (by have h_ := c29; simp only [ByteArray.size_append] at h_; omega))
                           try have c29b5 : (9223372036854775807 < x12_6.size + (a0.extract (x13_5 : Int).toNat ((wrap64 (x13_5 + 1)) : Int).toNat).size) = False := eq_false (Nat.not_lt.2 (by have h_ := c29; simp only [ByteArray.size_append, ByteArray.size_extract] at h_; simp only [eq_iff_iff, iff_true] at *; omega))
                           try have c29b2 : (9223372036854775807 < x12_6.size + (a0.extract (x13_5 : Int).toNat ((wrap64 (x13_5 + 1)) : Int).toNat).size) = False := eq_false (Nat.not_lt.2 c29)
                           have H' := Aside0.mk H
                           clear H
                           go_wp2
                           go_roundg k6
                           case measure => have := HJ4.out; have := HK2.out; have := HJ14.out; have := HJ16.out; have := HK5.out; have := HK6.out; omega
                           case rel => exact ⟨(x12_6 ++ (a0.extract (x13_5 : Int).toNat ((wrap64 (x13_5 + 1)) : Int).toNat)), (wrap64 (x13_5 + 1)), (by first | rfl | (simp; done) | (simp [*]; done)), (by first | rfl | (simp; done) | (simp [*]; done)), H', ⟨by have := HJ4.out; have := HK2.out; have := HJ14.out; have := HJ16.out; have := HK5.out; have := HK6.out; omega⟩, ⟨by repeat (first | (with_reducible first | exact HB.out | apply below_alloc | apply pw_below_drewN | apply below_drew1) | exact HB.out)⟩⟩
                          ·rw [if_neg c29] at H
                           exact absurd H (by simp)
                         ·rw [if_neg c28] at H
                          exact absurd H (by simp)
                        ·rw [if_neg c27] at H
                         exact absurd H (by simp)
                       ·rw [if_neg c26] at H
                        exact absurd H (by simp)
                  ·rw [if_neg c19] at H
                   have c19b0 : decide (x13_5 < (a0.size : Int)) = false := decide_eq_false c19
                   clear c19
                   have HC30 := Aside0.mk H
                   clear H
                   go_upto_region 23 with (fail)
                   go_cut [91] (fun v91 wc => ∃ (kq : Nat) (x91_29 : Bool), v91 = .bool x91_29 ∧ Aside0 (solsticelaw16_FoldAnywhere.j6 kq a0 x10_14 x12_5 x91_29 = some r) ∧ Aside0 (kq ≤ k5) ∧ Aside0 (Below w.heap.size w wc))
                   case first =>
                    have H := HC30.out
                    clear HC30
                    by_cases c31 : 0 < (a0.size : Int)
                    ·rw [if_pos c31] at H
                     have c31b0 : decide (0 < (a0.size : Int)) = true := decide_eq_true c31
                     have c31b1 : decide (0 < a0.size) = true := decide_eq_true (by omega)
                     clear c31
                     (first | rw [c31b0] | (simp only [i64_w, i32_w]; rw [c31b0]) | skip)
                     by_cases c33 : (bt a0 0) = 32
                     ·rw [if_pos c33] at H
                      have c33b0 : ((bt a0 0) == 32) = true := beq_iff_eq.mpr c33
                      have c33b1 : ((bt a0 0) != 32) = false := bne_eq_false_iff_eq.mpr c33
                      clear c33
                      have H' := Aside0.mk H
                      clear H
                      have p32 : 0 ≤ (0 : Int) := (by omega)
                      have q32 : 0 < a0.size := (by have : (0 : Int) < (a0.size : Int) := of_decide_eq_true (by first | (with_reducible assumption) | assumption); omega)
                      have hx32 : ∀ h : 0 < a0.size, ((a0[0]'h).toNat : Int) = bt a0 0 := bt_at a0 0
                      clear p32
                      have qi32 : (0 < (a0.size : Int)) = True := eq_true (of_decide_eq_true (by first | (with_reducible assumption) | assumption))
                      replace q32 := eq_true q32
                      go_wp2
                      go_meet
                      case rel => exact ⟨_, (true), (by first | rfl | (simp; done) | (simp [*]; done)), H', ⟨by have := HJ4.out; have := HK2.out; have := HJ14.out; have := HJ16.out; have := HK5.out; first | omega | exact Nat.le_refl _⟩, ⟨by repeat (first | (with_reducible first | exact HB.out | apply below_alloc | apply pw_below_drewN | apply below_drew1) | exact HB.out)⟩⟩
                     ·rw [if_neg c33] at H
                      have c33b0 : ((bt a0 0) == 32) = false := beq_eq_false_iff_ne.mpr c33
                      have c33b1 : ((bt a0 0) != 32) = true := bne_iff_ne.mpr c33
                      have H' := Aside0.mk H
                      clear H
                      have p32 : 0 ≤ (0 : Int) := (by omega)
                      have q32 : 0 < a0.size := (by have : (0 : Int) < (a0.size : Int) := of_decide_eq_true (by first | (with_reducible assumption) | assumption); omega)
                      have hx32 : ∀ h : 0 < a0.size, ((a0[0]'h).toNat : Int) = bt a0 0 := bt_at a0 0
                      clear p32
                      have qi32 : (0 < (a0.size : Int)) = True := eq_true (of_decide_eq_true (by first | (with_reducible assumption) | assumption))
                      replace q32 := eq_true q32
                      have p34 : 0 ≤ (0 : Int) := (by omega)
                      have q34 : 0 < a0.size := (by have : (0 : Int) < (a0.size : Int) := of_decide_eq_true (by first | (with_reducible assumption) | assumption); omega)
                      have hx34 : ∀ h : 0 < a0.size, ((a0[0]'h).toNat : Int) = bt a0 0 := bt_at a0 0
                      clear p34
                      have qi34 : (0 < (a0.size : Int)) = True := eq_true (of_decide_eq_true (by first | (with_reducible assumption) | assumption))
                      replace q34 := eq_true q34
                      go_wp2
                      go_meet
                      case rel => exact ⟨_, (((bt a0 0) == 9)), (by first | rfl | (simp; done) | (simp [*]; done)), H', ⟨by have := HJ4.out; have := HK2.out; have := HJ14.out; have := HJ16.out; have := HK5.out; first | omega | exact Nat.le_refl _⟩, ⟨by repeat (first | (with_reducible first | exact HB.out | apply below_alloc | apply pw_below_drewN | apply below_drew1) | exact HB.out)⟩⟩
                    ·rw [if_neg c31] at H
                     exact absurd H (by simp)
                   case rest =>
                    as_aux_lemma =>
                     clear HC30
                     try clear c1
                     try clear p1
                     try clear q1
                     try clear hx1
                     try clear c2
                     try clear p2
                     try clear q2
                     try clear hx2
                     try clear c3
                     try clear p3
                     try clear q3
                     try clear hx3
                     try clear qi3
                     try clear c6
                     try clear c6b0
                     try clear c6b1
                     try clear p6
                     try clear c7
                     try clear c7b0
                     try clear c7b1
                     try clear c8
                     try clear c9
                     try clear c9b0
                     try clear c10
                     try clear c10b0
                     try clear p11
                     try clear q11
                     try clear hx11
                     try clear c12
                     try clear c12b0
                     try clear c12b1
                     try clear p13
                     try clear q13
                     try clear hx13
                     try clear c14
                     try clear c14b0
                     try clear c14b1
                     try clear c16
                     try clear c18
                     try clear c19
                     try clear c19b0
                     try clear c20
                     try clear c20b0
                     try clear c21
                     try clear c21b0
                     try clear p21
                     try clear q21
                     try clear hx21
                     try clear c22
                     try clear c22b0
                     try clear c22b1
                     try clear c23
                     try clear c23b0
                     try clear c23b1
                     try clear c24
                     try clear c24b0
                     try clear c24b1
                     try clear c24b2
                     try clear c25
                     try clear c25b0
                     try clear c25b1
                     try clear c25b2
                     try clear c26
                     try clear c26b0
                     try clear c26b1
                     try clear c27
                     try clear c27b0
                     try clear c27b1
                     try clear c28
                     try clear c28b0
                     try clear c28b1
                     try clear c29
                     try clear c29b0
                     try clear c29b1
                     try clear c29b2
                     try clear c31
                     try clear c31b0
                     try clear c31b1
                     try clear p32
                     try clear q32
                     try clear hx32
                     try clear qi32
                     try clear c33
                     try clear c33b0
                     try clear c33b1
                     try clear p34
                     try clear q34
                     try clear hx34
                     try clear qi34
                     try clear hx215_0
                     try clear p1
                     try clear p11
                     try clear p13
                     try clear p2
                     try clear p215
                     try clear p32
                     try clear p34
                     try clear p6
                     try clear q1
                     try clear q11
                     try clear q13
                     try clear q215
                     try clear q32
                     try clear q34
                     obtain ⟨kq, x91_29, rfl, HA, HJ29, HB⟩ := hcut
                     cases kq with
                     | zero => exact absurd HA.out (by simp [solsticelaw16_FoldAnywhere.j6])
                     | succ kj29 =>
                      have H := HA.out
                      clear HA
                      simp only [solsticelaw16_FoldAnywhere.j6] at H
                      by_cases c35 : x91_29 = true
                      ·subst c35
                       have H1 : ((solsticelaw16_wakes.f kj29).bind fun t216 => (some t216)) = some r := by rw [if_pos rfl] at H; exact H
                       clear H
                       have H := H1
                       clear H1
                       replace H := Option.bind_eq_some_iff.mp H
                       obtain ⟨t216, A360, H⟩ := H
                       replace H : (some t216) = some r := H
                       have A36 := Aside0.mk A360
                       clear A360
                       obtain rfl := Option.some.inj H
                       go_wp2_with (first | ((with_reducible refine gate_callee (f := 16) rfl ?_); refine goesL_ (some 92) rfl rfl Tryd.func16 (by kernel_rfl) rfl #[] rfl (by (try simp only [List.map_toArray, List.map_cons, List.map_nil]); first | done | rfl | (simp only [List.length_drop, List.length_take]; rfl)) ?_; (with_reducible refine (solsticelaw16_wakes.calls kj29  t216 _ ?sideG A36.out).mono ?_); (case sideG => first | exact GP_below HG.out (by repeat (first | (with_reducible first | exact HB.out | apply below_alloc | apply pw_below_drewN | apply below_drew1) | exact HB.out)) | repeat (first | exact HG.out | refine GP_alloc ?_ _ | refine GP_drewN ?_ _ | refine GP_drew ?_)); rintro e w37 ⟨rfl, hb⟩; refine ⟨_, rfl, ?_⟩; have n0_ := Aside0.mk (below_step (by repeat (first | (with_reducible first | exact HB.out | apply below_alloc | apply pw_below_drewN | apply below_drew1) | exact HB.out)) hb); clear HB; have HB := n0_; clear n0_; (try clear hb); (try clear hb2); (try clear hk); (try clear hi)))
                       go_ret
                       exact ⟨by first | rfl | (simp [errW_none, errW_some] <;> rfl) | (simp [*, errW_none, errW_some] <;> rfl), by repeat (first | (with_reducible first | exact HB.out | apply below_alloc | apply pw_below_drewN | apply below_drew1) | exact HB.out)⟩
                      ·replace c35 := Bool.eq_false_iff.mpr c35
                       subst c35
                       have H1 : (if x12_5.size + x10_14.size ≤ 9223372036854775807 then ((fold_Unfold.f kj29 (x12_5 ++ x10_14)).bind fun bt217 => (if bt217.2 = 0 then ((solsticekeep_Texts.f kj29 bt217.1 (([a0] : List ByteArray))).bind fun t224 => (if t224 = true then ((solsticelaw16_wakes.f kj29).bind fun t225 => (some t225)) else (some false))) else (some false))) else (none)) = some r := by rw [if_neg (show ¬ (false = true) by decide)] at H; exact H
                       clear H
                       have H := H1
                       clear H1
                       by_cases c38 : x12_5.size + x10_14.size ≤ 9223372036854775807
                       ·rw [if_pos c38] at H
                        have c38b0 := eq_true c38
                        have c38b1 : decide (x12_5.size + x10_14.size ≤ 9223372036854775807) = true := decide_eq_true c38
                        try have c38b2 : (9223372036854775807 < x12_5.size + x10_14.size) = False := eq_false (Nat.not_lt.2 c38)
                        replace H := Option.bind_eq_some_iff.mp H
                        obtain ⟨⟨t217, t218⟩, A390, H⟩ := H
                        replace H : (if t218 = 0 then ((solsticekeep_Texts.f kj29 t217 (([a0] : List ByteArray))).bind fun t224 => (if t224 = true then ((solsticelaw16_wakes.f kj29).bind fun t225 => (some t225)) else (some false))) else (some false)) = some r := H
                        have A39 := Aside0.mk A390
                        clear A390
                        by_cases c40 : t218 = 0
                        ·rw [if_pos c40] at H
                         have c40b0 : (t218 == 0) = true := beq_iff_eq.mpr c40
                         have c40b1 : (t218 != 0) = false := bne_eq_false_iff_eq.mpr c40
                         clear c40
                         obtain ⟨y221, hy221⟩ : ∃ y_ : List ByteArray, y_ = (([a0] : List ByteArray)) := ⟨_, rfl⟩
                         replace H : ((solsticekeep_Texts.f kj29 t217 y221).bind fun t224 => (if t224 = true then ((solsticelaw16_wakes.f kj29).bind fun t225 => (some t225)) else (some false))) = some r := by first | (rw [hy221]; with_reducible exact H) | (have H2_ := (Option.bind_some _ _).symm.trans H; rw [hy221]; with_reducible exact H2_) | (have H2_ := (Option.bind_some _ _).symm.trans H; with_reducible exact H2_) | with_reducible exact H | (rw [hy221]; exact H) | exact H
                         have Ny221 := Aside0.mk hy221
                         clear hy221
                         replace H := Option.bind_eq_some_iff.mp H
                         obtain ⟨t224, A410, H⟩ := H
                         replace H : (if t224 = true then ((solsticelaw16_wakes.f kj29).bind fun t225 => (some t225)) else (some false)) = some r := H
                         have A41 := Aside0.mk A410
                         clear A410
                         by_cases c42 : t224 = true
                         ·subst c42
                          have H1 : ((solsticelaw16_wakes.f kj29).bind fun t225 => (some t225)) = some r := by rw [if_pos rfl] at H; exact H
                          clear H
                          have H := H1
                          clear H1
                          replace H := Option.bind_eq_some_iff.mp H
                          obtain ⟨t225, A430, H⟩ := H
                          replace H : (some t225) = some r := H
                          have A43 := Aside0.mk A430
                          clear A430
                          obtain rfl := Option.some.inj H
                          go_wp2_with (first | ((with_reducible refine gate_callee (f := 13) rfl ?_); refine goesL_ (some 97) rfl rfl Tryd.func13 (by kernel_rfl) rfl #[.string (x12_5 ++ x10_14)] rfl (by (try simp only [List.map_toArray, List.map_cons, List.map_nil]); first | done | rfl | (simp only [List.length_drop, List.length_take]; rfl)) ?_; (with_reducible refine (fold_Unfold.calls kj29 (x12_5 ++ x10_14) t217 t218 _ ?sideG A39.out).mono ?_); (case sideG => first | exact GP_below HG.out (by repeat (first | (with_reducible first | exact HB.out | apply below_alloc | apply pw_below_drewN | apply below_drew1) | exact HB.out)) | repeat (first | exact HG.out | refine GP_alloc ?_ _ | refine GP_drewN ?_ _ | refine GP_drew ?_)); rintro e w44 ⟨v219, rfl, ho0, hb⟩; refine ⟨_, rfl, ?_⟩; have n0_ := Aside0.mk (Kd.R_lower ho0 (below_size (by repeat (first | (with_reducible first | exact HB.out | apply below_alloc | apply pw_below_drewN | apply below_drew1) | exact HB.out)))); have n1_ := Aside0.mk (below_step (by repeat (first | (with_reducible first | exact HB.out | apply below_alloc | apply pw_below_drewN | apply below_drew1) | exact HB.out)) hb); clear HB; have HO220 := n0_; have HB := n1_; clear n0_ n1_; (try clear hb); (try clear hb2); (try clear hk); (try clear hi); (try clear ho0)) | ((with_reducible refine gate_dst (N := 105) rfl ?_); (try (refine gate_guard (by rfl) ?_; dsimp only)); refine Kd.R_lit Kd.string _ 9 ?hg (N := 105) ?hd (xs := ([a0] : List ByteArray)) (inner := [.string a0]) (ok := fun _ => True) (okp := fun _ => True) ?hr ?hp (fun _ hk => hk) trivial (Below.refl _ _) (Nat.le_refl _) (by simp) ?_; (case hd => rfl); (case hg => rfl); (case hr => first | (go_simp; done) | (go_simp; rfl)); (case hp => exact (Reps.one (show Kd.M Kd.string _ _ _ a0 [.string a0] from rfl) (Reps.none _ _))); intro v222 w45 ho46 hb hg_ hnew_; clear hg_ hnew_; (first | rw [← Ny221.out] at ho46 | (simp only [Int.reduceToNat] at ho46; rw [← Ny221.out] at ho46)); have n0_ := Aside0.mk (Kd.R_elder' (by (with_reducible repeat (first | apply Kd.R_alloc | apply Kd.R_drewN | apply Kd.R_drew)); exact HO220.out) (Kd.R_base ho46) hb); have n1_ := Aside0.mk (Kd.R_lower (Kd.R_new' ho46 (Kd.R_lt (by (with_reducible repeat (first | apply Kd.R_alloc | apply Kd.R_drewN | apply Kd.R_drew)); exact HO220.out))) (below_size (by repeat (first | (with_reducible first | exact HB.out | apply below_alloc | apply pw_below_drewN | apply below_drew1) | exact HB.out)))); have n2_ := Aside0.mk (below_step (by repeat (first | (with_reducible first | exact HB.out | apply below_alloc | apply pw_below_drewN | apply below_drew1) | exact HB.out)) hb); clear HO220; clear HB; have HO220 := n0_; have HO223 := n1_; have HB := n2_; clear n0_ n1_ n2_; clear hb ho46; obtain ⟨Ao47, co47, eo47⟩ := Kd.R_slice HO220.out; subst eo47; obtain ⟨Ao48, co48, eo48⟩ := Kd.R_slice HO223.out; subst eo48) | (go_at_call 15; (with_reducible refine (solsticekeep_Texts.calls kj29 _ _ t217 _ _ y221 true _ ?side1 ?side2 ?side3 ?side4 A41.out).mono ?_); (case side1 => repeat (first | exact (Kd.R_reads' HO220.out).2.2 | (with_reducible refine Kd.C_alloc ?_ _) | (with_reducible refine Kd.C_drewN ?_ _) | (with_reducible refine Kd.C_drew ?_))); (case side2 => exact (Kd.R_reads' HO220.out).2.1); (case side3 => repeat (first | exact (Kd.R_reads' HO223.out).2.2 | (with_reducible refine Kd.C_alloc ?_ _) | (with_reducible refine Kd.C_drewN ?_ _) | (with_reducible refine Kd.C_drew ?_))); (case side4 => exact (Kd.R_reads' HO223.out).2.1); rintro e w' ⟨rfl, ⟨nd, rfl⟩⟩) | (go_at_call 16; (with_reducible refine (solsticelaw16_wakes.calls kj29  t225 _ ?sideG A43.out).mono ?_); (case sideG => first | exact GP_below HG.out (by repeat (first | (with_reducible first | exact HB.out | apply below_alloc | apply pw_below_drewN | apply below_drew1) | exact HB.out)) | repeat (first | exact HG.out | refine GP_alloc ?_ _ | refine GP_drewN ?_ _ | refine GP_drew ?_)); rintro e w49 ⟨rfl, hb⟩; have n0_ := Aside0.mk (Kd.R_below (by (with_reducible repeat (first | apply Kd.R_alloc | apply Kd.R_drewN | apply Kd.R_drew)); exact HO220.out) hb); have n1_ := Aside0.mk (Kd.R_below (by (with_reducible repeat (first | apply Kd.R_alloc | apply Kd.R_drewN | apply Kd.R_drew)); exact HO223.out) hb); have n2_ := Aside0.mk (below_step (by repeat (first | (with_reducible first | exact HB.out | apply below_alloc | apply pw_below_drewN | apply below_drew1) | exact HB.out)) hb); clear HO220; clear HO223; clear HB; have HO220 := n0_; have HO223 := n1_; have HB := n2_; clear n0_ n1_ n2_; (try clear hb); (try clear hb2); (try clear hk); (try clear hi)))
                          go_ret
                          exact ⟨by first | rfl | (simp [errW_none, errW_some] <;> rfl) | (simp [*, errW_none, errW_some] <;> rfl), by repeat (first | (with_reducible first | exact HB.out | apply below_alloc | apply pw_below_drewN | apply below_drew1) | exact HB.out)⟩
                         ·replace c42 := Bool.eq_false_iff.mpr c42
                          subst c42
                          have H1 : (some false) = some r := by rw [if_neg (show ¬ (false = true) by decide)] at H; exact H
                          clear H
                          have H := H1
                          clear H1
                          obtain rfl := Option.some.inj H
                          go_wp2_with (first | ((with_reducible refine gate_callee (f := 13) rfl ?_); refine goesL_ (some 97) rfl rfl Tryd.func13 (by kernel_rfl) rfl #[.string (x12_5 ++ x10_14)] rfl (by (try simp only [List.map_toArray, List.map_cons, List.map_nil]); first | done | rfl | (simp only [List.length_drop, List.length_take]; rfl)) ?_; (with_reducible refine (fold_Unfold.calls kj29 (x12_5 ++ x10_14) t217 t218 _ ?sideG A39.out).mono ?_); (case sideG => first | exact GP_below HG.out (by repeat (first | (with_reducible first | exact HB.out | apply below_alloc | apply pw_below_drewN | apply below_drew1) | exact HB.out)) | repeat (first | exact HG.out | refine GP_alloc ?_ _ | refine GP_drewN ?_ _ | refine GP_drew ?_)); rintro e w50 ⟨v219, rfl, ho0, hb⟩; refine ⟨_, rfl, ?_⟩; have n0_ := Aside0.mk (Kd.R_lower ho0 (below_size (by repeat (first | (with_reducible first | exact HB.out | apply below_alloc | apply pw_below_drewN | apply below_drew1) | exact HB.out)))); have n1_ := Aside0.mk (below_step (by repeat (first | (with_reducible first | exact HB.out | apply below_alloc | apply pw_below_drewN | apply below_drew1) | exact HB.out)) hb); clear HB; have HO220 := n0_; have HB := n1_; clear n0_ n1_; (try clear hb); (try clear hb2); (try clear hk); (try clear hi); (try clear ho0)) | ((with_reducible refine gate_dst (N := 105) rfl ?_); (try (refine gate_guard (by rfl) ?_; dsimp only)); refine Kd.R_lit Kd.string _ 9 ?hg (N := 105) ?hd (xs := ([a0] : List ByteArray)) (inner := [.string a0]) (ok := fun _ => True) (okp := fun _ => True) ?hr ?hp (fun _ hk => hk) trivial (Below.refl _ _) (Nat.le_refl _) (by simp) ?_; (case hd => rfl); (case hg => rfl); (case hr => first | (go_simp; done) | (go_simp; rfl)); (case hp => exact (Reps.one (show Kd.M Kd.string _ _ _ a0 [.string a0] from rfl) (Reps.none _ _))); intro v222 w51 ho52 hb hg_ hnew_; clear hg_ hnew_; (first | rw [← Ny221.out] at ho52 | (simp only [Int.reduceToNat] at ho52; rw [← Ny221.out] at ho52)); have n0_ := Aside0.mk (Kd.R_elder' (by (with_reducible repeat (first | apply Kd.R_alloc | apply Kd.R_drewN | apply Kd.R_drew)); exact HO220.out) (Kd.R_base ho52) hb); have n1_ := Aside0.mk (Kd.R_lower (Kd.R_new' ho52 (Kd.R_lt (by (with_reducible repeat (first | apply Kd.R_alloc | apply Kd.R_drewN | apply Kd.R_drew)); exact HO220.out))) (below_size (by repeat (first | (with_reducible first | exact HB.out | apply below_alloc | apply pw_below_drewN | apply below_drew1) | exact HB.out)))); have n2_ := Aside0.mk (below_step (by repeat (first | (with_reducible first | exact HB.out | apply below_alloc | apply pw_below_drewN | apply below_drew1) | exact HB.out)) hb); clear HO220; clear HB; have HO220 := n0_; have HO223 := n1_; have HB := n2_; clear n0_ n1_ n2_; clear hb ho52; obtain ⟨Ao53, co53, eo53⟩ := Kd.R_slice HO220.out; subst eo53; obtain ⟨Ao54, co54, eo54⟩ := Kd.R_slice HO223.out; subst eo54) | (go_at_call 15; (with_reducible refine (solsticekeep_Texts.calls kj29 _ _ t217 _ _ y221 false _ ?side1 ?side2 ?side3 ?side4 A41.out).mono ?_); (case side1 => repeat (first | exact (Kd.R_reads' HO220.out).2.2 | (with_reducible refine Kd.C_alloc ?_ _) | (with_reducible refine Kd.C_drewN ?_ _) | (with_reducible refine Kd.C_drew ?_))); (case side2 => exact (Kd.R_reads' HO220.out).2.1); (case side3 => repeat (first | exact (Kd.R_reads' HO223.out).2.2 | (with_reducible refine Kd.C_alloc ?_ _) | (with_reducible refine Kd.C_drewN ?_ _) | (with_reducible refine Kd.C_drew ?_))); (case side4 => exact (Kd.R_reads' HO223.out).2.1); rintro e w' ⟨rfl, ⟨nd, rfl⟩⟩))
                          go_ret
                          exact ⟨by first | rfl | (simp [errW_none, errW_some] <;> rfl) | (simp [*, errW_none, errW_some] <;> rfl), by repeat (first | (with_reducible first | exact HB.out | apply below_alloc | apply pw_below_drewN | apply below_drew1) | exact HB.out)⟩
                        ·rw [if_neg c40] at H
                         have c40b0 : (t218 == 0) = false := beq_eq_false_iff_ne.mpr c40
                         have c40b1 : (t218 != 0) = true := bne_iff_ne.mpr c40
                         obtain rfl := Option.some.inj H
                         go_wp2_with (first | ((with_reducible refine gate_callee (f := 13) rfl ?_); refine goesL_ (some 97) rfl rfl Tryd.func13 (by kernel_rfl) rfl #[.string (x12_5 ++ x10_14)] rfl (by (try simp only [List.map_toArray, List.map_cons, List.map_nil]); first | done | rfl | (simp only [List.length_drop, List.length_take]; rfl)) ?_; (with_reducible refine (fold_Unfold.calls kj29 (x12_5 ++ x10_14) t217 t218 _ ?sideG A39.out).mono ?_); (case sideG => first | exact GP_below HG.out (by repeat (first | (with_reducible first | exact HB.out | apply below_alloc | apply pw_below_drewN | apply below_drew1) | exact HB.out)) | repeat (first | exact HG.out | refine GP_alloc ?_ _ | refine GP_drewN ?_ _ | refine GP_drew ?_)); rintro e w55 ⟨v219, rfl, ho0, hb⟩; refine ⟨_, rfl, ?_⟩; have n0_ := Aside0.mk (Kd.R_lower ho0 (below_size (by repeat (first | (with_reducible first | exact HB.out | apply below_alloc | apply pw_below_drewN | apply below_drew1) | exact HB.out)))); have n1_ := Aside0.mk (below_step (by repeat (first | (with_reducible first | exact HB.out | apply below_alloc | apply pw_below_drewN | apply below_drew1) | exact HB.out)) hb); clear HB; have HO220 := n0_; have HB := n1_; clear n0_ n1_; (try clear hb); (try clear hb2); (try clear hk); (try clear hi); (try clear ho0)))
                         go_ret
                         exact ⟨by first | rfl | (simp [errW_none, errW_some] <;> rfl) | (simp [*, errW_none, errW_some] <;> rfl), by repeat (first | (with_reducible first | exact HB.out | apply below_alloc | apply pw_below_drewN | apply below_drew1) | exact HB.out)⟩
                       ·rw [if_neg c38] at H
                        exact absurd H (by simp)
def solsticelaw16_FoldAnywhere.Pure : Prop := ∀ (a0 : ByteArray) (l1 : List Int) (a2 : Bool) (a3 : Bool), a0.size ≤ 140737488351232 → l1.length ≤ maxLen → l1.length * 8 ≤ 140737488351232 → (∀ x ∈ l1, (Lit.int .i64 x).wf = true) → ∃ k, solsticelaw16_FoldAnywhere.f k a0 l1 a2 a3 = some true
end Go.Proofs.YtfiiipjglacejaaDoor.PFol