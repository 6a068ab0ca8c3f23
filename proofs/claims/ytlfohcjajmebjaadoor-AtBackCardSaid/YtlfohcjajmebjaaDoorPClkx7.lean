-- Printed by a program of this session's over the kit's printer; library functions by contracts off the shelf.
import Derived.Test.YtlfohcjajmebjaaDoorGP
import Derived.Test.YtlfohcjajmebjaaDoorPClkx0
import Derived.Test.YtlfohcjajmebjaaDoorPClkx5
import Derived.Test.YtlfohcjajmebjaaDoorPClkx6
namespace Go.Proofs.YtlfohcjajmebjaaDoor.PClk
open Go.RowKit Go.Proofs.YtlfohcjajmebjaaDoorW.PrintWords Go.Proofs.YtlfohcjajmebjaaDoorW.PrintLast Go.Proofs.YtlfohcjajmebjaaDoorW.PrintMore Go.Proofs.YtlfohcjajmebjaaDoor.Base
attribute [local go_sem] max2_int min2_int max_two min_two max_three min_three max_four min_four   -- for this text's walks alone
set_option linter.unusedVariables false
set_option linter.unusedSimpArgs false
mutual
def solsticeref01_Clock.j0 : Nat → ByteArray → Int → Bool → Option (Int × Bool)
 | 0, _, _, _ => none
 | k + 1, x0, x4, x19 => if x19 = true then (if 1 ≤ (x0.size : Int) then (solsticeref01_Clock.j1 k (x0.extract 1 x0.size) (-1)) else (none)) else (solsticeref01_Clock.j1 k x0 x4)
def solsticeref01_Clock.j1 : Nat → ByteArray → Int → Option (Int × Bool)
 | 0, _, _ => none
 | k + 1, x0, x4 => solsticeref01_Clock.l0 k x0 x4 ([] : List ByteArray) 0 0
def solsticeref01_Clock.l0 : Nat → ByteArray → Int → List ByteArray → Int → Int → Option (Int × Bool)
 | 0, _, _, _, _, _ => none
 | k + 1, x0, x4, x5, x6, x7 => if x7 ≤ (x0.size : Int) then (if x7 = (x0.size : Int) then (if 0 ≤ x6 then (if x6 ≤ x7 then (if x5.length < 8796093022208 then (solsticeref01_Clock.l0 k x0 x4 (x5 ++ [x0.extract (x6 : Int).toNat (x7 : Int).toNat]) (wrap64 (x7 + 1)) (wrap64 (x7 + 1))) else (none)) else (none)) else (none)) else (if 0 ≤ x7 then (if x7 < (x0.size : Int) then (if (bt x0 x7) = 58 then (if 0 ≤ x6 then (if x6 ≤ x7 then (if x5.length < 8796093022208 then (solsticeref01_Clock.l0 k x0 x4 (x5 ++ [x0.extract (x6 : Int).toNat (x7 : Int).toNat]) (wrap64 (x7 + 1)) (wrap64 (x7 + 1))) else (none)) else (none)) else (none)) else (solsticeref01_Clock.l0 k x0 x4 x5 x6 (wrap64 (x7 + 1)))) else (none)) else (none))) else (if (x5.length : Int) > 3 then (solsticeref01_Clock.j3 k x4 x5 true) else (if 0 < (x5.length : Int) then ((solsticeref01_Digits.f k (rdOf ByteArray.empty x5 0) 1 3).bind fun t175 => (solsticeref01_Clock.j3 k x4 x5 (!t175))) else (none)))
def solsticeref01_Clock.j3 : Nat → Int → List ByteArray → Bool → Option (Int × Bool)
 | 0, _, _, _ => none
 | k + 1, x4, x5, x56 => if x56 = true then (some (0, false)) else (if 0 < (x5.length : Int) then ((solsticeref01_Value.f k (rdOf ByteArray.empty x5 0)).bind fun t177 => (solsticeref01_Clock.l1 k x4 x5 (wrap64 (3600 * t177)) 1)) else (none))
def solsticeref01_Clock.l1 : Nat → Int → List ByteArray → Int → Int → Option (Int × Bool)
 | 0, _, _, _, _ => none
 | k + 1, x4, x5, x8, x9 => if x9 < (x5.length : Int) then (if 0 ≤ x9 then ((solsticeref01_Digits.f k (rdOf ByteArray.empty x5 x9) 2 2).bind fun t179 => (if t179 = true then ((solsticeref01_Value.f k (rdOf ByteArray.empty x5 x9)).bind fun t181 => (solsticeref01_Clock.j5 k x4 x5 x8 x9 (decide (t181 > 59)))) else (solsticeref01_Clock.j5 k x4 x5 x8 x9 true))) else (none)) else (if x8 > 345600 then (some (0, false)) else (some (wrap64 (x4 * x8), true)))
def solsticeref01_Clock.j5 : Nat → Int → List ByteArray → Int → Int → Bool → Option (Int × Bool)
 | 0, _, _, _, _, _ => none
 | k + 1, x4, x5, x8, x9, x81 => if x81 = true then (some (0, false)) else (if x9 = 1 then (if 0 ≤ x9 then (if x9 < (x5.length : Int) then ((solsticeref01_Value.f k (rdOf ByteArray.empty x5 x9)).bind fun t183 => (solsticeref01_Clock.l1 k x4 x5 (wrap64 (x8 + (wrap64 (60 * t183)))) (wrap64 (x9 + 1)))) else (none)) else (none)) else (if 0 ≤ x9 then (if x9 < (x5.length : Int) then ((solsticeref01_Value.f k (rdOf ByteArray.empty x5 x9)).bind fun t185 => (solsticeref01_Clock.l1 k x4 x5 (wrap64 (x8 + t185)) (wrap64 (x9 + 1)))) else (none)) else (none)))
end
def solsticeref01_Clock.f (k : Nat) (a0 : ByteArray) : Option (Int × Bool) := if a0.toList = ([45] : List UInt8) then (some (0, true)) else (if (a0.size : Int) > 0 then (if 0 < (a0.size : Int) then (solsticeref01_Clock.j0 k a0 1 ((bt a0 0) == 45)) else (none)) else (solsticeref01_Clock.j0 k a0 1 false))
theorem solsticeref01_Clock.mono_l : ∀ k, (∀ y0 y1 y2, LeO (solsticeref01_Clock.j0 k y0 y1 y2) (solsticeref01_Clock.j0 (k + 1) y0 y1 y2)) ∧ (∀ y0 y1, LeO (solsticeref01_Clock.j1 k y0 y1) (solsticeref01_Clock.j1 (k + 1) y0 y1)) ∧ (∀ y0 y1 y2 y3 y4, LeO (solsticeref01_Clock.l0 k y0 y1 y2 y3 y4) (solsticeref01_Clock.l0 (k + 1) y0 y1 y2 y3 y4)) ∧ (∀ y0 y1 y2, LeO (solsticeref01_Clock.j3 k y0 y1 y2) (solsticeref01_Clock.j3 (k + 1) y0 y1 y2)) ∧ (∀ y0 y1 y2 y3, LeO (solsticeref01_Clock.l1 k y0 y1 y2 y3) (solsticeref01_Clock.l1 (k + 1) y0 y1 y2 y3)) ∧ (∀ y0 y1 y2 y3 y4, LeO (solsticeref01_Clock.j5 k y0 y1 y2 y3 y4) (solsticeref01_Clock.j5 (k + 1) y0 y1 y2 y3 y4))
 | 0 => ⟨fun _ _ _ r h => by simp [solsticeref01_Clock.j0] at h, fun _ _ r h => by simp [solsticeref01_Clock.j1] at h, fun _ _ _ _ _ r h => by simp [solsticeref01_Clock.l0] at h, fun _ _ _ r h => by simp [solsticeref01_Clock.j3] at h, fun _ _ _ _ r h => by simp [solsticeref01_Clock.l1] at h, fun _ _ _ _ _ r h => by simp [solsticeref01_Clock.j5] at h⟩
 | k + 1 => by
  obtain ⟨ih0, ih1, ih2, ih3, ih4, ih5⟩ := solsticeref01_Clock.mono_l k
  refine ⟨?_, ?_, ?_, ?_, ?_, ?_⟩
  ·intro y0 y1 y2
   unfold solsticeref01_Clock.j0
   repeat' first
   | (with_reducible exact ih0 _ _ _)
   | (with_reducible exact ih1 _ _)
   | (with_reducible exact ih2 _ _ _ _ _)
   | (with_reducible exact ih3 _ _ _)
   | (with_reducible exact ih4 _ _ _ _)
   | (with_reducible exact ih5 _ _ _ _ _)
   | (with_reducible exact solsticeref01_Digits.mono _ _ _ _)
   | (with_reducible exact solsticeref01_Value.mono _ _)
   | (with_reducible exact LeO.refl _)
   | (with_reducible exact LeO.none _)
   | (with_reducible refine LeO.ite ?_ ?_)
   | (with_reducible refine LeO.bind ?_ (fun _ => ?_))
   | exact ih0 _ _ _
   | exact ih1 _ _
   | exact ih2 _ _ _ _ _
   | exact ih3 _ _ _
   | exact ih4 _ _ _ _
   | exact ih5 _ _ _ _ _
   | exact solsticeref01_Digits.mono _ _ _ _
   | exact solsticeref01_Value.mono _ _
   | exact LeO.none _
   | refine LeO.ite ?_ ?_
   | refine LeO.bind ?_ (fun _ => ?_)
  ·intro y0 y1
   unfold solsticeref01_Clock.j1
   repeat' first
   | (with_reducible exact ih0 _ _ _)
   | (with_reducible exact ih1 _ _)
   | (with_reducible exact ih2 _ _ _ _ _)
   | (with_reducible exact ih3 _ _ _)
   | (with_reducible exact ih4 _ _ _ _)
   | (with_reducible exact ih5 _ _ _ _ _)
   | (with_reducible exact solsticeref01_Digits.mono _ _ _ _)
   | (with_reducible exact solsticeref01_Value.mono _ _)
   | (with_reducible exact LeO.refl _)
   | (with_reducible exact LeO.none _)
   | (with_reducible refine LeO.ite ?_ ?_)
   | (with_reducible refine LeO.bind ?_ (fun _ => ?_))
   | exact ih0 _ _ _
   | exact ih1 _ _
   | exact ih2 _ _ _ _ _
   | exact ih3 _ _ _
   | exact ih4 _ _ _ _
   | exact ih5 _ _ _ _ _
   | exact solsticeref01_Digits.mono _ _ _ _
   | exact solsticeref01_Value.mono _ _
   | exact LeO.none _
   | refine LeO.ite ?_ ?_
   | refine LeO.bind ?_ (fun _ => ?_)
  ·intro y0 y1 y2 y3 y4
   unfold solsticeref01_Clock.l0
   repeat' first
   | (with_reducible exact ih0 _ _ _)
   | (with_reducible exact ih1 _ _)
   | (with_reducible exact ih2 _ _ _ _ _)
   | (with_reducible exact ih3 _ _ _)
   | (with_reducible exact ih4 _ _ _ _)
   | (with_reducible exact ih5 _ _ _ _ _)
   | (with_reducible exact solsticeref01_Digits.mono _ _ _ _)
   | (with_reducible exact solsticeref01_Value.mono _ _)
   | (with_reducible exact LeO.refl _)
   | (with_reducible exact LeO.none _)
   | (with_reducible refine LeO.ite ?_ ?_)
   | (with_reducible refine LeO.bind ?_ (fun _ => ?_))
   | exact ih0 _ _ _
   | exact ih1 _ _
   | exact ih2 _ _ _ _ _
   | exact ih3 _ _ _
   | exact ih4 _ _ _ _
   | exact ih5 _ _ _ _ _
   | exact solsticeref01_Digits.mono _ _ _ _
   | exact solsticeref01_Value.mono _ _
   | exact LeO.none _
   | refine LeO.ite ?_ ?_
   | refine LeO.bind ?_ (fun _ => ?_)
  ·intro y0 y1 y2
   unfold solsticeref01_Clock.j3
   repeat' first
   | (with_reducible exact ih0 _ _ _)
   | (with_reducible exact ih1 _ _)
   | (with_reducible exact ih2 _ _ _ _ _)
   | (with_reducible exact ih3 _ _ _)
   | (with_reducible exact ih4 _ _ _ _)
   | (with_reducible exact ih5 _ _ _ _ _)
   | (with_reducible exact solsticeref01_Digits.mono _ _ _ _)
   | (with_reducible exact solsticeref01_Value.mono _ _)
   | (with_reducible exact LeO.refl _)
   | (with_reducible exact LeO.none _)
   | (with_reducible refine LeO.ite ?_ ?_)
   | (with_reducible refine LeO.bind ?_ (fun _ => ?_))
   | exact ih0 _ _ _
   | exact ih1 _ _
   | exact ih2 _ _ _ _ _
   | exact ih3 _ _ _
   | exact ih4 _ _ _ _
   | exact ih5 _ _ _ _ _
   | exact solsticeref01_Digits.mono _ _ _ _
   | exact solsticeref01_Value.mono _ _
   | exact LeO.none _
   | refine LeO.ite ?_ ?_
   | refine LeO.bind ?_ (fun _ => ?_)
  ·intro y0 y1 y2 y3
   unfold solsticeref01_Clock.l1
   repeat' first
   | (with_reducible exact ih0 _ _ _)
   | (with_reducible exact ih1 _ _)
   | (with_reducible exact ih2 _ _ _ _ _)
   | (with_reducible exact ih3 _ _ _)
   | (with_reducible exact ih4 _ _ _ _)
   | (with_reducible exact ih5 _ _ _ _ _)
   | (with_reducible exact solsticeref01_Digits.mono _ _ _ _)
   | (with_reducible exact solsticeref01_Value.mono _ _)
   | (with_reducible exact LeO.refl _)
   | (with_reducible exact LeO.none _)
   | (with_reducible refine LeO.ite ?_ ?_)
   | (with_reducible refine LeO.bind ?_ (fun _ => ?_))
   | exact ih0 _ _ _
   | exact ih1 _ _
   | exact ih2 _ _ _ _ _
   | exact ih3 _ _ _
   | exact ih4 _ _ _ _
   | exact ih5 _ _ _ _ _
   | exact solsticeref01_Digits.mono _ _ _ _
   | exact solsticeref01_Value.mono _ _
   | exact LeO.none _
   | refine LeO.ite ?_ ?_
   | refine LeO.bind ?_ (fun _ => ?_)
  ·intro y0 y1 y2 y3 y4
   unfold solsticeref01_Clock.j5
   repeat' first
   | (with_reducible exact ih0 _ _ _)
   | (with_reducible exact ih1 _ _)
   | (with_reducible exact ih2 _ _ _ _ _)
   | (with_reducible exact ih3 _ _ _)
   | (with_reducible exact ih4 _ _ _ _)
   | (with_reducible exact ih5 _ _ _ _ _)
   | (with_reducible exact solsticeref01_Digits.mono _ _ _ _)
   | (with_reducible exact solsticeref01_Value.mono _ _)
   | (with_reducible exact LeO.refl _)
   | (with_reducible exact LeO.none _)
   | (with_reducible refine LeO.ite ?_ ?_)
   | (with_reducible refine LeO.bind ?_ (fun _ => ?_))
   | exact ih0 _ _ _
   | exact ih1 _ _
   | exact ih2 _ _ _ _ _
   | exact ih3 _ _ _
   | exact ih4 _ _ _ _
   | exact ih5 _ _ _ _ _
   | exact solsticeref01_Digits.mono _ _ _ _
   | exact solsticeref01_Value.mono _ _
   | exact LeO.none _
   | refine LeO.ite ?_ ?_
   | refine LeO.bind ?_ (fun _ => ?_)
theorem solsticeref01_Clock.mono : ∀ a0 k, LeO (solsticeref01_Clock.f k a0) (solsticeref01_Clock.f (k + 1) a0) := by
 intro a0 k
 obtain ⟨ih0, ih1, ih2, ih3, ih4, ih5⟩ := solsticeref01_Clock.mono_l k
 unfold solsticeref01_Clock.f
 repeat' first
   | (with_reducible exact ih0 _ _ _)
   | (with_reducible exact ih1 _ _)
   | (with_reducible exact ih2 _ _ _ _ _)
   | (with_reducible exact ih3 _ _ _)
   | (with_reducible exact ih4 _ _ _ _)
   | (with_reducible exact ih5 _ _ _ _ _)
   | (with_reducible exact solsticeref01_Digits.mono _ _ _ _)
   | (with_reducible exact solsticeref01_Value.mono _ _)
   | (with_reducible exact LeO.refl _)
   | (with_reducible exact LeO.none _)
   | (with_reducible refine LeO.ite ?_ ?_)
   | (with_reducible refine LeO.bind ?_ (fun _ => ?_))
   | exact ih0 _ _ _
   | exact ih1 _ _
   | exact ih2 _ _ _ _ _
   | exact ih3 _ _ _
   | exact ih4 _ _ _ _
   | exact ih5 _ _ _ _ _
   | exact solsticeref01_Digits.mono _ _ _ _
   | exact solsticeref01_Value.mono _ _
   | exact LeO.none _
   | refine LeO.ite ?_ ?_
   | refine LeO.bind ?_ (fun _ => ?_)
set_option maxHeartbeats 8000000 in
set_option maxRecDepth 100000 in
theorem solsticeref01_Clock.calls (k : Nat) (a0 : ByteArray) (r1 : Int) (r2 : Bool) (w : World) (h : solsticeref01_Clock.f k a0 = some (r1, r2)) :
  Calls Tryd.prog 37 #[.string a0] w fun e w' => e = .returned (.tuple #[.int .i64 r1, .bool r2]) ∧ Below w.heap.size w w' := by
 have HB := Aside0.mk (Below.refl w.heap.size w)
 have H : (if a0.toList = ([45] : List UInt8) then (some (0, true)) else (if (a0.size : Int) > 0 then (if 0 < (a0.size : Int) then (solsticeref01_Clock.j0 k a0 1 ((bt a0 0) == 45)) else (none)) else (solsticeref01_Clock.j0 k a0 1 false))) = some (r1, r2) := h
 clear h
 by_cases c2 : a0.toList = ([45] : List UInt8)
 ·rw [if_pos c2] at H
  have c2b0 : (a0.toList == ([45] : List UInt8)) = true := beq_iff_eq.mpr c2
  have c2b1 : (a0.toList != ([45] : List UInt8)) = false := bne_eq_false_iff_eq.mpr c2
  clear c2
  simp only [Option.some.injEq, Prod.mk.injEq] at H
  obtain ⟨rfl, rfl⟩ := H
  go_enter Tryd.func37, Tryd.ntmps37
  go_wp2
  repeat (go_quiet (fail); try go_wp2)
  go_ret2
  exact ⟨by first | rfl | (simp [errW_none, errW_some] <;> rfl) | (simp [*, errW_none, errW_some] <;> rfl), by repeat (first | (with_reducible first | exact HB.out | apply below_alloc | apply pw_below_drewN | apply below_drew1) | exact HB.out)⟩
 ·rw [if_neg c2] at H
  have c2b0 : (a0.toList == ([45] : List UInt8)) = false := beq_eq_false_iff_ne.mpr c2
  have c2b1 : (a0.toList != ([45] : List UInt8)) = true := bne_iff_ne.mpr c2
  have HC3 := Aside0.mk H
  clear H
  go_enter Tryd.func37, Tryd.ntmps37
  go_upto_region 4 with (fail)
  repeat (go_quiet (fail); go_upto_region 4 with (fail))
  go_cut [19] (fun v19 wc => ∃ (kq : Nat) (x19_2 : Bool), v19 = .bool x19_2 ∧ Aside0 (solsticeref01_Clock.j0 kq a0 1 x19_2 = some (r1, r2)) ∧ Aside0 (kq ≤ k) ∧ Aside0 (Below w.heap.size w wc))
  case first =>
   have H := HC3.out
   clear HC3
   by_cases c4 : (a0.size : Int) > 0
   ·rw [if_pos c4] at H
    have c4b0 : decide (0 < (a0.size : Int)) = true := decide_eq_true c4
    have c4b1 : decide (0 < a0.size) = true := decide_eq_true (by omega)
    clear c4
    (first | rw [c4b0] | (simp only [i64_w, i32_w]; rw [c4b0]) | skip)
    by_cases c5 : 0 < (a0.size : Int)
    ·rw [if_pos c5] at H
     have c5b0 : decide (0 < (a0.size : Int)) = true := decide_eq_true c5
     have c5b1 : decide (0 < a0.size) = true := decide_eq_true (by omega)
     clear c5
     have H' := Aside0.mk H
     clear H
     have p6 : 0 ≤ (0 : Int) := (by omega)
     have q6 : 0 < a0.size := (by have : (0 : Int) < (a0.size : Int) := of_decide_eq_true (by first | (with_reducible assumption) | assumption); omega)
     have hx6 : ∀ h : 0 < a0.size, ((a0[0]'h).toNat : Int) = bt a0 0 := bt_at a0 0
     clear p6
     have qi6 : (0 < (a0.size : Int)) = True := eq_true (of_decide_eq_true (by first | (with_reducible assumption) | assumption))
     replace q6 := eq_true q6
     go_wp2
     repeat (go_quiet (fail); try go_wp2)
     go_meet
     case rel => exact ⟨_, (((bt a0 0) == 45)), (by first | rfl | (simp; done) | (simp [*]; done)), H', ⟨by first | omega | exact Nat.le_refl _⟩, ⟨by repeat (first | (with_reducible first | exact HB.out | apply below_alloc | apply pw_below_drewN | apply below_drew1) | exact HB.out)⟩⟩
    ·rw [if_neg c5] at H
     exact absurd H (by simp)
   ·rw [if_neg c4] at H
    have c4b0 : decide (0 < (a0.size : Int)) = false := decide_eq_false c4
    have c4b1 : decide (0 < a0.size) = false := decide_eq_false (by omega)
    clear c4
    (first | rw [c4b0] | (simp only [i64_w, i32_w]; rw [c4b0]) | skip)
    have H' := Aside0.mk H
    clear H
    go_wp2
    repeat (go_quiet (fail); try go_wp2)
    go_meet
    case rel => exact ⟨_, (false), (by first | rfl | (simp; done) | (simp [*]; done)), H', ⟨by first | omega | exact Nat.le_refl _⟩, ⟨by repeat (first | (with_reducible first | exact HB.out | apply below_alloc | apply pw_below_drewN | apply below_drew1) | exact HB.out)⟩⟩
  case rest =>
   as_aux_lemma =>
    clear HC3
    try clear c2
    try clear c2b0
    try clear c2b1
    try clear p2
    try clear c3
    try clear c4
    try clear c4b0
    try clear c4b1
    try clear c5
    try clear c5b0
    try clear c5b1
    try clear p6
    try clear q6
    try clear hx6
    try clear qi6
    try clear p6
    try clear q6
    obtain ⟨kq, x19_2, rfl, HA, HJ2, HB⟩ := hcut
    cases kq with
    | zero => exact absurd HA.out (by simp [solsticeref01_Clock.j0])
    | succ kj2 =>
     have H := HA.out
     clear HA
     simp only [solsticeref01_Clock.j0] at H
     have HC7 := Aside0.mk H
     clear H
     go_upto_if 19 with (fail)
     repeat (go_quiet (fail); go_upto_if 19 with (fail))
     go_cut [0, 4] (fun v0 v4 wc => ∃ (kq : Nat) (x0_6 : ByteArray) (x4_6 : Int), v0 = .string x0_6 ∧ v4 = .int .i64 x4_6 ∧ Aside0 (solsticeref01_Clock.j1 kq x0_6 x4_6 = some (r1, r2)) ∧ Aside0 (kq ≤ kj2) ∧ Aside0 (Below w.heap.size w wc))
     case first =>
      have H := HC7.out
      clear HC7
      by_cases c8 : x19_2 = true
      ·subst c8
       have H1 : (if 1 ≤ (a0.size : Int) then (solsticeref01_Clock.j1 kj2 (a0.extract 1 a0.size) (-1)) else (none)) = some (r1, r2) := by rw [if_pos rfl] at H; exact H
       clear H
       have H := H1
       clear H1
       by_cases c9 : 1 ≤ (a0.size : Int)
       ·rw [if_pos c9] at H
        have c9b0 := eq_true c9
        have c9b1 : decide (1 ≤ (a0.size : Int)) = true := decide_eq_true c9
        clear c9
        have H' := Aside0.mk H
        clear H
        go_wp2
        repeat (go_quiet (fail); try go_wp2)
        go_meet
        case rel => exact ⟨_, (a0.extract 1 a0.size), ((-1)), (by first | rfl | (simp; done) | (simp [*]; done)), (by first | rfl | (simp; done) | (simp [*]; done)), H', ⟨by have := HJ2.out; first | omega | exact Nat.le_refl _⟩, ⟨by repeat (first | (with_reducible first | exact HB.out | apply below_alloc | apply pw_below_drewN | apply below_drew1) | exact HB.out)⟩⟩
       ·rw [if_neg c9] at H
        exact absurd H (by simp)
      ·replace c8 := Bool.eq_false_iff.mpr c8
       subst c8
       have H1 : (solsticeref01_Clock.j1 kj2 a0 1) = some (r1, r2) := by rw [if_neg (show ¬ (false = true) by decide)] at H; exact H
       clear H
       have H := H1
       clear H1
       have H' := Aside0.mk H
       clear H
       go_wp2
       repeat (go_quiet (fail); try go_wp2)
       go_meet
       case rel => exact ⟨_, (a0), (1), (by first | rfl | (simp; done) | (simp [*]; done)), (by first | rfl | (simp; done) | (simp [*]; done)), H', ⟨by have := HJ2.out; first | omega | exact Nat.le_refl _⟩, ⟨by repeat (first | (with_reducible first | exact HB.out | apply below_alloc | apply pw_below_drewN | apply below_drew1) | exact HB.out)⟩⟩
     case rest =>
      as_aux_lemma =>
       clear HC7
       try clear c2
       try clear c2b0
       try clear c2b1
       try clear p2
       try clear c3
       try clear c4
       try clear c4b0
       try clear c4b1
       try clear c5
       try clear c5b0
       try clear c5b1
       try clear p6
       try clear q6
       try clear hx6
       try clear qi6
       try clear c8
       try clear c9
       try clear c9b0
       try clear c9b1
       try clear p2
       try clear p6
       try clear q6
       obtain ⟨kq, x0_6, x4_6, rfl, rfl, HA, HJ6, HB⟩ := hcut
       cases kq with
       | zero => exact absurd HA.out (by simp [solsticeref01_Clock.j1])
       | succ kj6 =>
        have H := HA.out
        clear HA
        simp only [solsticeref01_Clock.j1] at H
        have H' := Aside0.mk H
        clear H
        go_wp2
        repeat (go_quiet (fail); try go_wp2)
        go_loopg [5, 6, 7] kj6 (fun kq v5 v6 v7 w' => ∃ (x5_3 : List ByteArray) (x6_3 : Int) (x7_3 : Int), v6 = .int .i64 x6_3 ∧ v7 = .int .i64 x7_3 ∧ Aside0 (solsticeref01_Clock.l0 kq x0_6 x4_6 x5_3 x6_3 x7_3 = some (r1, r2)) ∧ Aside0 (kq ≤ kj6) ∧ Aside0 (Kd.R Kd.string 9 w' w.heap.size (fun _ => True) v5 x5_3) ∧ Aside0 (Below w.heap.size w w'))
        case atStart => exact ⟨(([] : List ByteArray)), (0), (0), (by first | rfl | (simp; done) | (simp [*]; done)), (by first | rfl | (simp; done) | (simp [*]; done)), H', ⟨Nat.le_refl _⟩, ⟨by first | exact Kd.R_nil _ _ _ _ _ | exact Kd.N_nil _ _ _ _ _ | exact Kd.V_nil _ _ _ _ _ | exact Kd.Q_nil _ _ _ _ _ | exact Kd.S_nil _ _ _ _ _⟩, ⟨by repeat (first | (with_reducible first | exact HB.out | apply below_alloc | apply pw_below_drewN | apply below_drew1) | exact HB.out)⟩⟩
        case round =>
         as_aux_lemma =>
          clear H'
          try clear c2
          try clear c2b0
          try clear c2b1
          try clear p2
          try clear c3
          try clear c4
          try clear c4b0
          try clear c4b1
          try clear c5
          try clear c5b0
          try clear c5b1
          try clear p6
          try clear q6
          try clear hx6
          try clear qi6
          try clear c8
          try clear c9
          try clear c9b0
          try clear c9b1
          try clear p2
          try clear p6
          try clear q6
          obtain ⟨x5_3, x6_3, x7_3, rfl, rfl, HA, HK3, HO_5, HB⟩ := hrel
          cases gk with
          | zero => exact absurd HA.out (by simp [solsticeref01_Clock.l0])
          | succ k3 =>
           have H := HA.out
           clear HA
           simp only [solsticeref01_Clock.l0] at H
           by_cases c10 : x7_3 ≤ (x0_6.size : Int)
           ·rw [if_pos c10] at H
            have c10b0 : decide (x7_3 ≤ (x0_6.size : Int)) = true := decide_eq_true c10
            clear c10
            by_cases c11 : x7_3 = (x0_6.size : Int)
            ·rw [if_pos c11] at H
             have c11b0 : (x7_3 == (x0_6.size : Int)) = true := beq_iff_eq.mpr c11
             have c11b1 : (x7_3 != (x0_6.size : Int)) = false := bne_eq_false_iff_eq.mpr c11
             clear c11
             by_cases c12 : 0 ≤ x6_3
             ·rw [if_pos c12] at H
              have c12b0 := eq_true c12
              have c12b1 : decide (0 ≤ x6_3) = true := decide_eq_true c12
              clear c12
              by_cases c13 : x6_3 ≤ x7_3
              ·rw [if_pos c13] at H
               have c13b0 := eq_true c13
               have c13b1 : decide (x6_3 ≤ x7_3) = true := decide_eq_true c13
               clear c13
               have c14b0 := eq_true (of_decide_eq_true (by first | (with_reducible assumption) | assumption) : x7_3 ≤ (x0_6.size : Int))
               by_cases c15 : x5_3.length < 8796093022208
               ·rw [if_pos c15] at H
                have LMc15 := Aside0.mk c15
                clear c15
                obtain ⟨y168, hy168⟩ : ∃ y_ : List ByteArray, y_ = (x5_3 ++ [x0_6.extract (x6_3 : Int).toNat (x7_3 : Int).toNat]) := ⟨_, rfl⟩
                replace H : (solsticeref01_Clock.l0 k3 x0_6 x4_6 y168 (wrap64 (x7_3 + 1)) (wrap64 (x7_3 + 1))) = some (r1, r2) := by first | (rw [hy168]; with_reducible exact H) | (have H2_ := (Option.bind_some _ _).symm.trans H; rw [hy168]; with_reducible exact H2_) | (have H2_ := (Option.bind_some _ _).symm.trans H; with_reducible exact H2_) | with_reducible exact H | (rw [hy168]; exact H) | exact H
                have Ny168 := Aside0.mk hy168
                clear hy168
                have H' := Aside0.mk H
                clear H
                go_wp2_with (first | ((with_reducible refine gate_builtin (b := .append) (xs := #[.tmp 38, .tmp 43]) rfl ?_); at_builtin; refine Kd.R_append Kd.string (w0 := w) w.heap.size rfl (.tmp 38) (.tmp 43) 29 9 (.string ⟨#[]⟩) 16 rfl Tryd.underlying29 info9 rfl (by decide) (by omega) u5 x5_3 (x0_6.extract (x6_3 : Int).toNat (x7_3 : Int).toNat) [.string (x0_6.extract (x6_3 : Int).toNat (x7_3 : Int).toNat)] (fun _ => True) (fun _ => False) rfl rfl ?aP (fun _ hk => hk.elim) ?aF ?aO ?aB ?aS ?aL ?_; (case aP => exact rfl); (case aB => exact (by repeat (first | (with_reducible first | exact HB.out | apply below_alloc | apply pw_below_drewN | apply below_drew1) | exact HB.out))); (case aF => exact (fun _ _ => trivial)); (case aO => exact (by (with_reducible repeat (first | apply Kd.R_alloc | apply Kd.R_drewN | apply Kd.R_drew)); exact HO_5.out)); (case aS => exact (below_size (by repeat (first | (with_reducible first | exact HB.out | apply below_alloc | apply pw_below_drewN | apply below_drew1) | exact HB.out)))); (case aL => have := LMc15.out; omega); intro v169 w16 ho hb hg hat; rw [← Ny168.out] at ho; have n0_ := Aside0.mk (hb); have n1_ := Aside0.mk (ho); clear HB; clear HO_5; have HB := n0_; have HO170 := n1_; clear n0_ n1_; clear ho hb hg hat))
                repeat (go_quiet (first | ((with_reducible refine gate_builtin (b := .append) (xs := #[.tmp 38, .tmp 43]) rfl ?_); at_builtin; refine Kd.R_append Kd.string (w0 := w) w.heap.size rfl (.tmp 38) (.tmp 43) 29 9 (.string ⟨#[]⟩) 16 rfl Tryd.underlying29 info9 rfl (by decide) (by omega) u5 x5_3 (x0_6.extract (x6_3 : Int).toNat (x7_3 : Int).toNat) [.string (x0_6.extract (x6_3 : Int).toNat (x7_3 : Int).toNat)] (fun _ => True) (fun _ => False) rfl rfl ?aP (fun _ hk => hk.elim) ?aF ?aO ?aB ?aS ?aL ?_; (case aP => exact rfl); (case aB => exact (by repeat (first | (with_reducible first | exact HB.out | apply below_alloc | apply pw_below_drewN | apply below_drew1) | exact HB.out))); (case aF => exact (fun _ _ => trivial)); (case aO => exact (by (with_reducible repeat (first | apply Kd.R_alloc | apply Kd.R_drewN | apply Kd.R_drew)); exact HO_5.out)); (case aS => exact (below_size (by repeat (first | (with_reducible first | exact HB.out | apply below_alloc | apply pw_below_drewN | apply below_drew1) | exact HB.out)))); (case aL => have := LMc15.out; omega); intro v169 w16 ho hb hg hat; rw [← Ny168.out] at ho; have n0_ := Aside0.mk (hb); have n1_ := Aside0.mk (ho); clear HB; clear HO_5; have HB := n0_; have HO170 := n1_; clear n0_ n1_; clear ho hb hg hat)); try go_wp2_with (first | ((with_reducible refine gate_builtin (b := .append) (xs := #[.tmp 38, .tmp 43]) rfl ?_); at_builtin; refine Kd.R_append Kd.string (w0 := w) w.heap.size rfl (.tmp 38) (.tmp 43) 29 9 (.string ⟨#[]⟩) 16 rfl Tryd.underlying29 info9 rfl (by decide) (by omega) u5 x5_3 (x0_6.extract (x6_3 : Int).toNat (x7_3 : Int).toNat) [.string (x0_6.extract (x6_3 : Int).toNat (x7_3 : Int).toNat)] (fun _ => True) (fun _ => False) rfl rfl ?aP (fun _ hk => hk.elim) ?aF ?aO ?aB ?aS ?aL ?_; (case aP => exact rfl); (case aB => exact (by repeat (first | (with_reducible first | exact HB.out | apply below_alloc | apply pw_below_drewN | apply below_drew1) | exact HB.out))); (case aF => exact (fun _ _ => trivial)); (case aO => exact (by (with_reducible repeat (first | apply Kd.R_alloc | apply Kd.R_drewN | apply Kd.R_drew)); exact HO_5.out)); (case aS => exact (below_size (by repeat (first | (with_reducible first | exact HB.out | apply below_alloc | apply pw_below_drewN | apply below_drew1) | exact HB.out)))); (case aL => have := LMc15.out; omega); intro v169 w16 ho hb hg hat; rw [← Ny168.out] at ho; have n0_ := Aside0.mk (hb); have n1_ := Aside0.mk (ho); clear HB; clear HO_5; have HB := n0_; have HO170 := n1_; clear n0_ n1_; clear ho hb hg hat)))
                go_roundg k3
                case measure => have := HJ2.out; have := HJ6.out; have := HK3.out; omega
                case rel => exact ⟨(y168), (wrap64 (x7_3 + 1)), (wrap64 (x7_3 + 1)), (by first | rfl | (simp; done) | (simp [*]; done)), (by first | rfl | (simp; done) | (simp [*]; done)), H', ⟨by have := HJ2.out; have := HJ6.out; have := HK3.out; omega⟩, ⟨by (with_reducible repeat (first | apply Kd.R_alloc | apply Kd.R_drewN | apply Kd.R_drew)); exact HO170.out⟩, ⟨by repeat (first | (with_reducible first | exact HB.out | apply below_alloc | apply pw_below_drewN | apply below_drew1) | exact HB.out)⟩⟩
               ·rw [if_neg c15] at H
                exact absurd H (by simp)
              ·rw [if_neg c13] at H
               exact absurd H (by simp)
             ·rw [if_neg c12] at H
              exact absurd H (by simp)
            ·rw [if_neg c11] at H
             have c11b0 : (x7_3 == (x0_6.size : Int)) = false := beq_eq_false_iff_ne.mpr c11
             have c11b1 : (x7_3 != (x0_6.size : Int)) = true := bne_iff_ne.mpr c11
             by_cases c17 : 0 ≤ x7_3
             ·rw [if_pos c17] at H
              have c17b0 : decide (0 ≤ x7_3) = true := decide_eq_true c17
              clear c17
              by_cases c18 : x7_3 < (x0_6.size : Int)
              ·rw [if_pos c18] at H
               have c18b0 : decide (x7_3 < (x0_6.size : Int)) = true := decide_eq_true c18
               clear c18
               by_cases c20 : (bt x0_6 x7_3) = 58
               ·rw [if_pos c20] at H
                have c20b0 : ((bt x0_6 x7_3) == 58) = true := beq_iff_eq.mpr c20
                have c20b1 : ((bt x0_6 x7_3) != 58) = false := bne_eq_false_iff_eq.mpr c20
                clear c20
                by_cases c21 : 0 ≤ x6_3
                ·rw [if_pos c21] at H
                 have c21b0 := eq_true c21
                 have c21b1 : decide (0 ≤ x6_3) = true := decide_eq_true c21
                 clear c21
                 by_cases c22 : x6_3 ≤ x7_3
                 ·rw [if_pos c22] at H
                  have c22b0 := eq_true c22
                  have c22b1 : decide (x6_3 ≤ x7_3) = true := decide_eq_true c22
                  clear c22
                  have c23b0 := eq_true (of_decide_eq_true (by first | (with_reducible assumption) | assumption) : x7_3 ≤ (x0_6.size : Int))
                  by_cases c24 : x5_3.length < 8796093022208
                  ·rw [if_pos c24] at H
                   have LMc24 := Aside0.mk c24
                   clear c24
                   obtain ⟨y171, hy171⟩ : ∃ y_ : List ByteArray, y_ = (x5_3 ++ [x0_6.extract (x6_3 : Int).toNat (x7_3 : Int).toNat]) := ⟨_, rfl⟩
                   replace H : (solsticeref01_Clock.l0 k3 x0_6 x4_6 y171 (wrap64 (x7_3 + 1)) (wrap64 (x7_3 + 1))) = some (r1, r2) := by first | (rw [hy171]; with_reducible exact H) | (have H2_ := (Option.bind_some _ _).symm.trans H; rw [hy171]; with_reducible exact H2_) | (have H2_ := (Option.bind_some _ _).symm.trans H; with_reducible exact H2_) | with_reducible exact H | (rw [hy171]; exact H) | exact H
                   have Ny171 := Aside0.mk hy171
                   clear hy171
                   have H' := Aside0.mk H
                   clear H
                   have p19 : 0 ≤ (x7_3 : Int) := of_decide_eq_true (by first | (with_reducible assumption) | assumption)
                   have q19 : x7_3 < (x0_6.size : Int) := of_decide_eq_true (by first | (with_reducible assumption) | assumption)
                   have hx19 := bt_at x0_6 x7_3
                   replace p19 := eq_true p19
                   replace q19 := eq_true q19
                   go_wp2_with (first | ((with_reducible refine gate_builtin (b := .append) (xs := #[.tmp 38, .tmp 43]) rfl ?_); at_builtin; refine Kd.R_append Kd.string (w0 := w) w.heap.size rfl (.tmp 38) (.tmp 43) 29 9 (.string ⟨#[]⟩) 16 rfl Tryd.underlying29 info9 rfl (by decide) (by omega) u5 x5_3 (x0_6.extract (x6_3 : Int).toNat (x7_3 : Int).toNat) [.string (x0_6.extract (x6_3 : Int).toNat (x7_3 : Int).toNat)] (fun _ => True) (fun _ => False) rfl rfl ?aP (fun _ hk => hk.elim) ?aF ?aO ?aB ?aS ?aL ?_; (case aP => exact rfl); (case aB => exact (by repeat (first | (with_reducible first | exact HB.out | apply below_alloc | apply pw_below_drewN | apply below_drew1) | exact HB.out))); (case aF => exact (fun _ _ => trivial)); (case aO => exact (by (with_reducible repeat (first | apply Kd.R_alloc | apply Kd.R_drewN | apply Kd.R_drew)); exact HO_5.out)); (case aS => exact (below_size (by repeat (first | (with_reducible first | exact HB.out | apply below_alloc | apply pw_below_drewN | apply below_drew1) | exact HB.out)))); (case aL => have := LMc24.out; omega); intro v172 w25 ho hb hg hat; rw [← Ny171.out] at ho; have n0_ := Aside0.mk (hb); have n1_ := Aside0.mk (ho); clear HB; clear HO_5; have HB := n0_; have HO173 := n1_; clear n0_ n1_; clear ho hb hg hat))
                   repeat (go_quiet (first | ((with_reducible refine gate_builtin (b := .append) (xs := #[.tmp 38, .tmp 43]) rfl ?_); at_builtin; refine Kd.R_append Kd.string (w0 := w) w.heap.size rfl (.tmp 38) (.tmp 43) 29 9 (.string ⟨#[]⟩) 16 rfl Tryd.underlying29 info9 rfl (by decide) (by omega) u5 x5_3 (x0_6.extract (x6_3 : Int).toNat (x7_3 : Int).toNat) [.string (x0_6.extract (x6_3 : Int).toNat (x7_3 : Int).toNat)] (fun _ => True) (fun _ => False) rfl rfl ?aP (fun _ hk => hk.elim) ?aF ?aO ?aB ?aS ?aL ?_; (case aP => exact rfl); (case aB => exact (by repeat (first | (with_reducible first | exact HB.out | apply below_alloc | apply pw_below_drewN | apply below_drew1) | exact HB.out))); (case aF => exact (fun _ _ => trivial)); (case aO => exact (by (with_reducible repeat (first | apply Kd.R_alloc | apply Kd.R_drewN | apply Kd.R_drew)); exact HO_5.out)); (case aS => exact (below_size (by repeat (first | (with_reducible first | exact HB.out | apply below_alloc | apply pw_below_drewN | apply below_drew1) | exact HB.out)))); (case aL => have := LMc24.out; omega); intro v172 w25 ho hb hg hat; rw [← Ny171.out] at ho; have n0_ := Aside0.mk (hb); have n1_ := Aside0.mk (ho); clear HB; clear HO_5; have HB := n0_; have HO173 := n1_; clear n0_ n1_; clear ho hb hg hat)); try go_wp2_with (first | ((with_reducible refine gate_builtin (b := .append) (xs := #[.tmp 38, .tmp 43]) rfl ?_); at_builtin; refine Kd.R_append Kd.string (w0 := w) w.heap.size rfl (.tmp 38) (.tmp 43) 29 9 (.string ⟨#[]⟩) 16 rfl Tryd.underlying29 info9 rfl (by decide) (by omega) u5 x5_3 (x0_6.extract (x6_3 : Int).toNat (x7_3 : Int).toNat) [.string (x0_6.extract (x6_3 : Int).toNat (x7_3 : Int).toNat)] (fun _ => True) (fun _ => False) rfl rfl ?aP (fun _ hk => hk.elim) ?aF ?aO ?aB ?aS ?aL ?_; (case aP => exact rfl); (case aB => exact (by repeat (first | (with_reducible first | exact HB.out | apply below_alloc | apply pw_below_drewN | apply below_drew1) | exact HB.out))); (case aF => exact (fun _ _ => trivial)); (case aO => exact (by (with_reducible repeat (first | apply Kd.R_alloc | apply Kd.R_drewN | apply Kd.R_drew)); exact HO_5.out)); (case aS => exact (below_size (by repeat (first | (with_reducible first | exact HB.out | apply below_alloc | apply pw_below_drewN | apply below_drew1) | exact HB.out)))); (case aL => have := LMc24.out; omega); intro v172 w25 ho hb hg hat; rw [← Ny171.out] at ho; have n0_ := Aside0.mk (hb); have n1_ := Aside0.mk (ho); clear HB; clear HO_5; have HB := n0_; have HO173 := n1_; clear n0_ n1_; clear ho hb hg hat)))
                   go_roundg k3
                   case measure => have := HJ2.out; have := HJ6.out; have := HK3.out; omega
                   case rel => exact ⟨(y171), (wrap64 (x7_3 + 1)), (wrap64 (x7_3 + 1)), (by first | rfl | (simp; done) | (simp [*]; done)), (by first | rfl | (simp; done) | (simp [*]; done)), H', ⟨by have := HJ2.out; have := HJ6.out; have := HK3.out; omega⟩, ⟨by (with_reducible repeat (first | apply Kd.R_alloc | apply Kd.R_drewN | apply Kd.R_drew)); exact HO173.out⟩, ⟨by repeat (first | (with_reducible first | exact HB.out | apply below_alloc | apply pw_below_drewN | apply below_drew1) | exact HB.out)⟩⟩
                  ·rw [if_neg c24] at H
                   exact absurd H (by simp)
                 ·rw [if_neg c22] at H
                  exact absurd H (by simp)
                ·rw [if_neg c21] at H
                 exact absurd H (by simp)
               ·rw [if_neg c20] at H
                have c20b0 : ((bt x0_6 x7_3) == 58) = false := beq_eq_false_iff_ne.mpr c20
                have c20b1 : ((bt x0_6 x7_3) != 58) = true := bne_iff_ne.mpr c20
                have H' := Aside0.mk H
                clear H
                have p19 : 0 ≤ (x7_3 : Int) := of_decide_eq_true (by first | (with_reducible assumption) | assumption)
                have q19 : x7_3 < (x0_6.size : Int) := of_decide_eq_true (by first | (with_reducible assumption) | assumption)
                have hx19 := bt_at x0_6 x7_3
                replace p19 := eq_true p19
                replace q19 := eq_true q19
                go_wp2
                repeat (go_quiet (fail); try go_wp2)
                go_roundg k3
                case measure => have := HJ2.out; have := HJ6.out; have := HK3.out; omega
                case rel => exact ⟨(x5_3), (x6_3), (wrap64 (x7_3 + 1)), (by first | rfl | (simp; done) | (simp [*]; done)), (by first | rfl | (simp; done) | (simp [*]; done)), H', ⟨by have := HJ2.out; have := HJ6.out; have := HK3.out; omega⟩, ⟨by (with_reducible repeat (first | apply Kd.R_alloc | apply Kd.R_drewN | apply Kd.R_drew)); exact HO_5.out⟩, ⟨by repeat (first | (with_reducible first | exact HB.out | apply below_alloc | apply pw_below_drewN | apply below_drew1) | exact HB.out)⟩⟩
              ·rw [if_neg c18] at H
               exact absurd H (by simp)
             ·rw [if_neg c17] at H
              exact absurd H (by simp)
           ·rw [if_neg c10] at H
            have c10b0 : decide (x7_3 ≤ (x0_6.size : Int)) = false := decide_eq_false c10
            clear c10
            have HC26 := Aside0.mk H
            clear H
            go_upto_region 14 with (fail)
            repeat (go_quiet (fail); go_upto_region 14 with (fail))
            go_cut [56] (fun v56 wc => ∃ (kq : Nat) (x56_25 : Bool), v56 = .bool x56_25 ∧ Aside0 (solsticeref01_Clock.j3 kq x4_6 x5_3 x56_25 = some (r1, r2)) ∧ Aside0 (kq ≤ k3) ∧ Aside0 (Kd.R Kd.string 9 wc w.heap.size (fun _ => True) u5 x5_3) ∧ Aside0 (Below w.heap.size w wc))
            case first =>
             have H := HC26.out
             clear HC26
             by_cases c27 : (x5_3.length : Int) > 3
             ·rw [if_pos c27] at H
              have c27b0 : decide (3 < (x5_3.length : Int)) = true := decide_eq_true c27
              have c27b1 : decide (3 < x5_3.length) = true := decide_eq_true (by omega)
              clear c27
              (first | rw [c27b0] | (simp only [i64_w, i32_w]; rw [c27b0]) | skip)
              have H' := Aside0.mk H
              clear H
              obtain ⟨Ao28, co28, eo28⟩ := Kd.R_slice HO_5.out
              subst eo28
              go_wp2
              repeat (go_quiet (fail); try go_wp2)
              go_meet
              case rel => exact ⟨_, (true), (by first | rfl | (simp; done) | (simp [*]; done)), H', ⟨by have := HJ2.out; have := HJ6.out; have := HK3.out; first | omega | exact Nat.le_refl _⟩, ⟨by (with_reducible repeat (first | apply Kd.R_alloc | apply Kd.R_drewN | apply Kd.R_drew)); exact HO_5.out⟩, ⟨by repeat (first | (with_reducible first | exact HB.out | apply below_alloc | apply pw_below_drewN | apply below_drew1) | exact HB.out)⟩⟩
             ·rw [if_neg c27] at H
              have c27b0 : decide (3 < (x5_3.length : Int)) = false := decide_eq_false c27
              have c27b1 : decide (3 < x5_3.length) = false := decide_eq_false (by omega)
              clear c27
              (first | rw [c27b0] | (simp only [i64_w, i32_w]; rw [c27b0]) | skip)
              by_cases c29 : 0 < (x5_3.length : Int)
              ·rw [if_pos c29] at H
               have c29b0 : decide (0 < (x5_3.length : Int)) = true := decide_eq_true c29
               have c29b1 : decide (0 < x5_3.length) = true := decide_eq_true (by omega)
               clear c29
               replace H := Option.bind_eq_some_iff.mp H
               obtain ⟨t175, A300, H⟩ := H
               replace H : (solsticeref01_Clock.j3 k3 x4_6 x5_3 (!t175)) = some (r1, r2) := H
               have A30 := Aside0.mk A300
               clear A300
               have H' := Aside0.mk H
               clear H
               obtain ⟨Ao31, co31, eo31⟩ := Kd.R_slice HO_5.out
               subst eo31
               have p174 : 0 ≤ (0 : Int) := (by omega)
               have q174 : 0 < (x5_3.length : Int) := of_decide_eq_true (by first | (with_reducible assumption) | assumption)
               obtain ⟨ad174, e174, hx174_0⟩ := Kd.at_string (Kd.R_reads' HO_5.out).2.2 0 p174 q174
               cases e174
               have qi174 : (0 < x5_3.length) = True := eq_true (by omega)
               (try rw [show ((0 : Int)).toNat = 0 from rfl] at hx174_0)
               (try rw [Addr.add_zero'] at hx174_0)
               replace p174 := eq_true p174
               replace q174 := eq_true q174
               go_wp2_with (first | (go_at_call 31; (with_reducible refine (solsticeref01_Digits.calls k3 (rdOf ByteArray.empty x5_3 0) 1 3 t175 _ A30.out).mono ?_); rintro e w' ⟨rfl, ⟨nd, rfl⟩⟩; (try first | exact ⟨rfl, _, World.drewN_drewN _ _ _⟩ | exact ⟨rfl, _, Eq.trans (World.drewN_drewN _ _ _) (congrArg (World.drewN _) (Nat.add_assoc _ _ _))⟩)))
               repeat (go_quiet (first | (go_at_call 31; (with_reducible refine (solsticeref01_Digits.calls k3 (rdOf ByteArray.empty x5_3 0) 1 3 t175 _ A30.out).mono ?_); rintro e w' ⟨rfl, ⟨nd, rfl⟩⟩; (try first | exact ⟨rfl, _, World.drewN_drewN _ _ _⟩ | exact ⟨rfl, _, Eq.trans (World.drewN_drewN _ _ _) (congrArg (World.drewN _) (Nat.add_assoc _ _ _))⟩))); try go_wp2_with (first | (go_at_call 31; (with_reducible refine (solsticeref01_Digits.calls k3 (rdOf ByteArray.empty x5_3 0) 1 3 t175 _ A30.out).mono ?_); rintro e w' ⟨rfl, ⟨nd, rfl⟩⟩; (try first | exact ⟨rfl, _, World.drewN_drewN _ _ _⟩ | exact ⟨rfl, _, Eq.trans (World.drewN_drewN _ _ _) (congrArg (World.drewN _) (Nat.add_assoc _ _ _))⟩))))
               go_meet
               case rel => exact ⟨_, (!t175), (by first | rfl | (simp; done) | (simp [*]; done)), H', ⟨by have := HJ2.out; have := HJ6.out; have := HK3.out; first | omega | exact Nat.le_refl _⟩, ⟨by (with_reducible repeat (first | apply Kd.R_alloc | apply Kd.R_drewN | apply Kd.R_drew)); exact HO_5.out⟩, ⟨by repeat (first | (with_reducible first | exact HB.out | apply below_alloc | apply pw_below_drewN | apply below_drew1) | exact HB.out)⟩⟩
              ·rw [if_neg c29] at H
               exact absurd H (by simp)
            case rest =>
             as_aux_lemma =>
              clear HC26
              try clear c1
              try clear p1
              try clear q1
              try clear hx1
              try clear qi1
              try clear c2
              try clear c2b0
              try clear c2b1
              try clear p2
              try clear c3
              try clear c4
              try clear c4b0
              try clear c4b1
              try clear c5
              try clear c5b0
              try clear c5b1
              try clear p6
              try clear q6
              try clear hx6
              try clear qi6
              try clear c8
              try clear c9
              try clear c9b0
              try clear c9b1
              try clear c10
              try clear c10b0
              try clear c11
              try clear c11b0
              try clear c11b1
              try clear c12
              try clear c12b0
              try clear c12b1
              try clear c13
              try clear c13b0
              try clear c13b1
              try clear c14
              try clear c14b0
              try clear c15
              try clear c17
              try clear c17b0
              try clear p17
              try clear q17
              try clear hx17
              try clear qi17
              try clear c18
              try clear c18b0
              try clear p19
              try clear q19
              try clear hx19
              try clear c20
              try clear c20b0
              try clear c20b1
              try clear c21
              try clear c21b0
              try clear c21b1
              try clear c22
              try clear c22b0
              try clear c22b1
              try clear c23
              try clear c23b0
              try clear c24
              try clear c27
              try clear c27b0
              try clear c27b1
              try clear c29
              try clear c29b0
              try clear c29b1
              try clear hx174_0
              try clear p174
              try clear p19
              try clear p2
              try clear p6
              try clear q174
              try clear q19
              try clear q6
              obtain ⟨kq, x56_25, rfl, HA, HJ25, HO_5, HB⟩ := hcut
              cases kq with
              | zero => exact absurd HA.out (by simp [solsticeref01_Clock.j3])
              | succ kj25 =>
               have H := HA.out
               clear HA
               simp only [solsticeref01_Clock.j3] at H
               by_cases c32 : x56_25 = true
               ·subst c32
                have H1 : (some (0, false)) = some (r1, r2) := by rw [if_pos rfl] at H; exact H
                clear H
                have H := H1
                clear H1
                simp only [Option.some.injEq, Prod.mk.injEq] at H
                obtain ⟨rfl, rfl⟩ := H
                go_wp2
                repeat (go_quiet (fail); try go_wp2)
                go_ret2
                exact ⟨by first | rfl | (simp [errW_none, errW_some] <;> rfl) | (simp [*, errW_none, errW_some] <;> rfl), by repeat (first | (with_reducible first | exact HB.out | apply below_alloc | apply pw_below_drewN | apply below_drew1) | exact HB.out)⟩
               ·replace c32 := Bool.eq_false_iff.mpr c32
                subst c32
                have H1 : (if 0 < (x5_3.length : Int) then ((solsticeref01_Value.f kj25 (rdOf ByteArray.empty x5_3 0)).bind fun t177 => (solsticeref01_Clock.l1 kj25 x4_6 x5_3 (wrap64 (3600 * t177)) 1)) else (none)) = some (r1, r2) := by rw [if_neg (show ¬ (false = true) by decide)] at H; exact H
                clear H
                have H := H1
                clear H1
                by_cases c33 : 0 < (x5_3.length : Int)
                ·rw [if_pos c33] at H
                 have c33b0 : decide (0 < (x5_3.length : Int)) = true := decide_eq_true c33
                 have c33b1 : decide (0 < x5_3.length) = true := decide_eq_true (by omega)
                 clear c33
                 replace H := Option.bind_eq_some_iff.mp H
                 obtain ⟨t177, A340, H⟩ := H
                 replace H : (solsticeref01_Clock.l1 kj25 x4_6 x5_3 (wrap64 (3600 * t177)) 1) = some (r1, r2) := H
                 have A34 := Aside0.mk A340
                 clear A340
                 have H' := Aside0.mk H
                 clear H
                 obtain ⟨Ao35, co35, eo35⟩ := Kd.R_slice HO_5.out
                 subst eo35
                 have p176 : 0 ≤ (0 : Int) := (by omega)
                 have q176 : 0 < (x5_3.length : Int) := of_decide_eq_true (by first | (with_reducible assumption) | assumption)
                 obtain ⟨ad176, e176, hx176_0⟩ := Kd.at_string (Kd.R_reads' HO_5.out).2.2 0 p176 q176
                 cases e176
                 have qi176 : (0 < x5_3.length) = True := eq_true (by omega)
                 (try rw [show ((0 : Int)).toNat = 0 from rfl] at hx176_0)
                 (try rw [Addr.add_zero'] at hx176_0)
                 replace p176 := eq_true p176
                 replace q176 := eq_true q176
                 go_wp2_with (first | (go_at_call 32; (with_reducible refine (solsticeref01_Value.calls kj25 (rdOf ByteArray.empty x5_3 0) t177 _ A34.out).mono ?_); rintro e w' ⟨rfl, ⟨nd, rfl⟩⟩; (try first | exact ⟨rfl, _, World.drewN_drewN _ _ _⟩ | exact ⟨rfl, _, Eq.trans (World.drewN_drewN _ _ _) (congrArg (World.drewN _) (Nat.add_assoc _ _ _))⟩)))
                 repeat (go_quiet (first | (go_at_call 32; (with_reducible refine (solsticeref01_Value.calls kj25 (rdOf ByteArray.empty x5_3 0) t177 _ A34.out).mono ?_); rintro e w' ⟨rfl, ⟨nd, rfl⟩⟩; (try first | exact ⟨rfl, _, World.drewN_drewN _ _ _⟩ | exact ⟨rfl, _, Eq.trans (World.drewN_drewN _ _ _) (congrArg (World.drewN _) (Nat.add_assoc _ _ _))⟩))); try go_wp2_with (first | (go_at_call 32; (with_reducible refine (solsticeref01_Value.calls kj25 (rdOf ByteArray.empty x5_3 0) t177 _ A34.out).mono ?_); rintro e w' ⟨rfl, ⟨nd, rfl⟩⟩; (try first | exact ⟨rfl, _, World.drewN_drewN _ _ _⟩ | exact ⟨rfl, _, Eq.trans (World.drewN_drewN _ _ _) (congrArg (World.drewN _) (Nat.add_assoc _ _ _))⟩))))
                 go_loopg [8, 9] kj25 (fun kq v8 v9 w' => ∃ (x8_5 : Int) (x9_5 : Int), v8 = .int .i64 x8_5 ∧ v9 = .int .i64 x9_5 ∧ Aside0 (solsticeref01_Clock.l1 kq x4_6 x5_3 x8_5 x9_5 = some (r1, r2)) ∧ Aside0 (kq ≤ kj25) ∧ Aside0 (Kd.R Kd.string 9 w' w.heap.size (fun _ => True) (.slice (some ad176) x5_3.length co35) x5_3) ∧ Aside0 (Below w.heap.size w w'))
                 case atStart => exact ⟨(wrap64 (3600 * t177)), (1), (by first | rfl | (simp; done) | (simp [*]; done)), (by first | rfl | (simp; done) | (simp [*]; done)), H', ⟨Nat.le_refl _⟩, ⟨by (with_reducible repeat (first | apply Kd.R_alloc | apply Kd.R_drewN | apply Kd.R_drew)); exact HO_5.out⟩, ⟨by repeat (first | (with_reducible first | exact HB.out | apply below_alloc | apply pw_below_drewN | apply below_drew1) | exact HB.out)⟩⟩
                 case round =>
                  as_aux_lemma =>
                   clear H'
                   try clear c1
                   try clear p1
                   try clear q1
                   try clear hx1
                   try clear qi1
                   try clear c2
                   try clear c2b0
                   try clear c2b1
                   try clear p2
                   try clear c3
                   try clear c4
                   try clear c4b0
                   try clear c4b1
                   try clear c5
                   try clear c5b0
                   try clear c5b1
                   try clear p6
                   try clear q6
                   try clear hx6
                   try clear qi6
                   try clear c8
                   try clear c9
                   try clear c9b0
                   try clear c9b1
                   try clear c10
                   try clear c10b0
                   try clear c11
                   try clear c11b0
                   try clear c11b1
                   try clear c12
                   try clear c12b0
                   try clear c12b1
                   try clear c13
                   try clear c13b0
                   try clear c13b1
                   try clear c14
                   try clear c14b0
                   try clear c15
                   try clear c17
                   try clear c17b0
                   try clear p17
                   try clear q17
                   try clear hx17
                   try clear qi17
                   try clear c18
                   try clear c18b0
                   try clear p19
                   try clear q19
                   try clear hx19
                   try clear c20
                   try clear c20b0
                   try clear c20b1
                   try clear c21
                   try clear c21b0
                   try clear c21b1
                   try clear c22
                   try clear c22b0
                   try clear c22b1
                   try clear c23
                   try clear c23b0
                   try clear c24
                   try clear c27
                   try clear c27b0
                   try clear c27b1
                   try clear c29
                   try clear c29b0
                   try clear c29b1
                   try clear c32
                   try clear c33
                   try clear c33b0
                   try clear c33b1
                   try clear hx174_0
                   try clear hx176_0
                   try clear p1
                   try clear p17
                   try clear p174
                   try clear p176
                   try clear p19
                   try clear p2
                   try clear p6
                   try clear q1
                   try clear q17
                   try clear q174
                   try clear q176
                   try clear q19
                   try clear q6
                   obtain ⟨x8_5, x9_5, rfl, rfl, HA, HK5, HO_5, HB⟩ := hrel
                   cases gk with
                   | zero => exact absurd HA.out (by simp [solsticeref01_Clock.l1])
                   | succ k5 =>
                    have H := HA.out
                    clear HA
                    simp only [solsticeref01_Clock.l1] at H
                    by_cases c36 : x9_5 < (x5_3.length : Int)
                    ·rw [if_pos c36] at H
                     have c36b0 : decide (x9_5 < (x5_3.length : Int)) = true := decide_eq_true c36
                     clear c36
                     have HC37 := Aside0.mk H
                     clear H
                     go_upto_region 20 with (fail)
                     repeat (go_quiet (fail); go_upto_region 20 with (fail))
                     go_cut [81] (fun v81 wc => ∃ (kq : Nat) (x81_36 : Bool), v81 = .bool x81_36 ∧ Aside0 (solsticeref01_Clock.j5 kq x4_6 x5_3 x8_5 x9_5 x81_36 = some (r1, r2)) ∧ Aside0 (kq ≤ k5) ∧ Aside0 (Kd.R Kd.string 9 wc w.heap.size (fun _ => True) (.slice (some ad176) x5_3.length co35) x5_3) ∧ Aside0 (Below w.heap.size w wc))
                     case first =>
                      have H := HC37.out
                      clear HC37
                      by_cases c38 : 0 ≤ x9_5
                      ·rw [if_pos c38] at H
                       have c38b0 : decide (0 ≤ x9_5) = true := decide_eq_true c38
                       clear c38
                       (first | rw [c38b0] | (simp only [i64_w, i32_w]; rw [c38b0]) | skip)
                       replace H := Option.bind_eq_some_iff.mp H
                       obtain ⟨t179, A390, H⟩ := H
                       replace H : (if t179 = true then ((solsticeref01_Value.f k5 (rdOf ByteArray.empty x5_3 x9_5)).bind fun t181 => (solsticeref01_Clock.j5 k5 x4_6 x5_3 x8_5 x9_5 (decide (t181 > 59)))) else (solsticeref01_Clock.j5 k5 x4_6 x5_3 x8_5 x9_5 true)) = some (r1, r2) := H
                       have A39 := Aside0.mk A390
                       clear A390
                       by_cases c40 : t179 = true
                       ·subst c40
                        have H1 : ((solsticeref01_Value.f k5 (rdOf ByteArray.empty x5_3 x9_5)).bind fun t181 => (solsticeref01_Clock.j5 k5 x4_6 x5_3 x8_5 x9_5 (decide (t181 > 59)))) = some (r1, r2) := by rw [if_pos rfl] at H; exact H
                        clear H
                        have H := H1
                        clear H1
                        replace H := Option.bind_eq_some_iff.mp H
                        obtain ⟨t181, A410, H⟩ := H
                        replace H : (solsticeref01_Clock.j5 k5 x4_6 x5_3 x8_5 x9_5 (decide (t181 > 59))) = some (r1, r2) := H
                        have A41 := Aside0.mk A410
                        clear A410
                        have H' := Aside0.mk H
                        clear H
                        have p178 : 0 ≤ (x9_5 : Int) := of_decide_eq_true (by first | (with_reducible assumption) | assumption)
                        have q178 : x9_5 < (x5_3.length : Int) := of_decide_eq_true (by first | (with_reducible assumption) | assumption)
                        obtain ⟨ad178, e178, hx178_0⟩ := Kd.at_string (Kd.R_reads' HO_5.out).2.2 x9_5 p178 q178
                        obtain rfl : ad176 = ad178 := (by injection e178)
                        replace p178 := eq_true p178
                        replace q178 := eq_true q178
                        go_wp2_with (first | (go_at_call 31; (with_reducible refine (solsticeref01_Digits.calls k5 (rdOf ByteArray.empty x5_3 x9_5) 2 2 true _ A39.out).mono ?_); rintro e w' ⟨rfl, ⟨nd, rfl⟩⟩; (try first | exact ⟨rfl, _, World.drewN_drewN _ _ _⟩ | exact ⟨rfl, _, Eq.trans (World.drewN_drewN _ _ _) (congrArg (World.drewN _) (Nat.add_assoc _ _ _))⟩); have p180 : 0 ≤ (x9_5 : Int) := of_decide_eq_true (by first | (with_reducible assumption) | assumption); have q180 : x9_5 < (x5_3.length : Int) := of_decide_eq_true (by first | (with_reducible assumption) | assumption); obtain ⟨ad180, e180, hx180_0⟩ := Kd.at_string (Kd.R_reads' HO_5.out).2.2 x9_5 p180 q180; obtain rfl : ad176 = ad180 := (by injection e180); replace p180 := eq_true p180; replace q180 := eq_true q180) | (go_at_call 32; (with_reducible refine (solsticeref01_Value.calls k5 (rdOf ByteArray.empty x5_3 x9_5) t181 _ A41.out).mono ?_); rintro e w' ⟨rfl, ⟨nd, rfl⟩⟩; (try first | exact ⟨rfl, _, World.drewN_drewN _ _ _⟩ | exact ⟨rfl, _, Eq.trans (World.drewN_drewN _ _ _) (congrArg (World.drewN _) (Nat.add_assoc _ _ _))⟩)))
                        repeat (go_quiet (first | (go_at_call 31; (with_reducible refine (solsticeref01_Digits.calls k5 (rdOf ByteArray.empty x5_3 x9_5) 2 2 true _ A39.out).mono ?_); rintro e w' ⟨rfl, ⟨nd, rfl⟩⟩; (try first | exact ⟨rfl, _, World.drewN_drewN _ _ _⟩ | exact ⟨rfl, _, Eq.trans (World.drewN_drewN _ _ _) (congrArg (World.drewN _) (Nat.add_assoc _ _ _))⟩); have p180 : 0 ≤ (x9_5 : Int) := of_decide_eq_true (by first | (with_reducible assumption) | assumption); have q180 : x9_5 < (x5_3.length : Int) := of_decide_eq_true (by first | (with_reducible assumption) | assumption); obtain ⟨ad180, e180, hx180_0⟩ := Kd.at_string (Kd.R_reads' HO_5.out).2.2 x9_5 p180 q180; obtain rfl : ad176 = ad180 := (by injection e180); replace p180 := eq_true p180; replace q180 := eq_true q180) | (go_at_call 32; (with_reducible refine (solsticeref01_Value.calls k5 (rdOf ByteArray.empty x5_3 x9_5) t181 _ A41.out).mono ?_); rintro e w' ⟨rfl, ⟨nd, rfl⟩⟩; (try first | exact ⟨rfl, _, World.drewN_drewN _ _ _⟩ | exact ⟨rfl, _, Eq.trans (World.drewN_drewN _ _ _) (congrArg (World.drewN _) (Nat.add_assoc _ _ _))⟩))); try go_wp2_with (first | (go_at_call 31; (with_reducible refine (solsticeref01_Digits.calls k5 (rdOf ByteArray.empty x5_3 x9_5) 2 2 true _ A39.out).mono ?_); rintro e w' ⟨rfl, ⟨nd, rfl⟩⟩; (try first | exact ⟨rfl, _, World.drewN_drewN _ _ _⟩ | exact ⟨rfl, _, Eq.trans (World.drewN_drewN _ _ _) (congrArg (World.drewN _) (Nat.add_assoc _ _ _))⟩); have p180 : 0 ≤ (x9_5 : Int) := of_decide_eq_true (by first | (with_reducible assumption) | assumption); have q180 : x9_5 < (x5_3.length : Int) := of_decide_eq_true (by first | (with_reducible assumption) | assumption); obtain ⟨ad180, e180, hx180_0⟩ := Kd.at_string (Kd.R_reads' HO_5.out).2.2 x9_5 p180 q180; obtain rfl : ad176 = ad180 := (by injection e180); replace p180 := eq_true p180; replace q180 := eq_true q180) | (go_at_call 32; (with_reducible refine (solsticeref01_Value.calls k5 (rdOf ByteArray.empty x5_3 x9_5) t181 _ A41.out).mono ?_); rintro e w' ⟨rfl, ⟨nd, rfl⟩⟩; (try first | exact ⟨rfl, _, World.drewN_drewN _ _ _⟩ | exact ⟨rfl, _, Eq.trans (World.drewN_drewN _ _ _) (congrArg (World.drewN _) (Nat.add_assoc _ _ _))⟩))))
                        go_meet
                        case rel => exact ⟨_, (decide (t181 > 59)), (by first | rfl | (simp; done) | (simp [*]; done)), H', ⟨by have := HJ2.out; have := HJ6.out; have := HK3.out; have := HJ25.out; have := HK5.out; first | omega | exact Nat.le_refl _⟩, ⟨by (with_reducible repeat (first | apply Kd.R_alloc | apply Kd.R_drewN | apply Kd.R_drew)); exact HO_5.out⟩, ⟨by repeat (first | (with_reducible first | exact HB.out | apply below_alloc | apply pw_below_drewN | apply below_drew1) | exact HB.out)⟩⟩
                       ·replace c40 := Bool.eq_false_iff.mpr c40
                        subst c40
                        have H1 : (solsticeref01_Clock.j5 k5 x4_6 x5_3 x8_5 x9_5 true) = some (r1, r2) := by rw [if_neg (show ¬ (false = true) by decide)] at H; exact H
                        clear H
                        have H := H1
                        clear H1
                        have H' := Aside0.mk H
                        clear H
                        have p178 : 0 ≤ (x9_5 : Int) := of_decide_eq_true (by first | (with_reducible assumption) | assumption)
                        have q178 : x9_5 < (x5_3.length : Int) := of_decide_eq_true (by first | (with_reducible assumption) | assumption)
                        obtain ⟨ad178, e178, hx178_0⟩ := Kd.at_string (Kd.R_reads' HO_5.out).2.2 x9_5 p178 q178
                        obtain rfl : ad176 = ad178 := (by injection e178)
                        replace p178 := eq_true p178
                        replace q178 := eq_true q178
                        go_wp2_with (first | (go_at_call 31; (with_reducible refine (solsticeref01_Digits.calls k5 (rdOf ByteArray.empty x5_3 x9_5) 2 2 false _ A39.out).mono ?_); rintro e w' ⟨rfl, ⟨nd, rfl⟩⟩; (try first | exact ⟨rfl, _, World.drewN_drewN _ _ _⟩ | exact ⟨rfl, _, Eq.trans (World.drewN_drewN _ _ _) (congrArg (World.drewN _) (Nat.add_assoc _ _ _))⟩)))
                        repeat (go_quiet (first | (go_at_call 31; (with_reducible refine (solsticeref01_Digits.calls k5 (rdOf ByteArray.empty x5_3 x9_5) 2 2 false _ A39.out).mono ?_); rintro e w' ⟨rfl, ⟨nd, rfl⟩⟩; (try first | exact ⟨rfl, _, World.drewN_drewN _ _ _⟩ | exact ⟨rfl, _, Eq.trans (World.drewN_drewN _ _ _) (congrArg (World.drewN _) (Nat.add_assoc _ _ _))⟩))); try go_wp2_with (first | (go_at_call 31; (with_reducible refine (solsticeref01_Digits.calls k5 (rdOf ByteArray.empty x5_3 x9_5) 2 2 false _ A39.out).mono ?_); rintro e w' ⟨rfl, ⟨nd, rfl⟩⟩; (try first | exact ⟨rfl, _, World.drewN_drewN _ _ _⟩ | exact ⟨rfl, _, Eq.trans (World.drewN_drewN _ _ _) (congrArg (World.drewN _) (Nat.add_assoc _ _ _))⟩))))
                        go_meet
                        case rel => exact ⟨_, (true), (by first | rfl | (simp; done) | (simp [*]; done)), H', ⟨by have := HJ2.out; have := HJ6.out; have := HK3.out; have := HJ25.out; have := HK5.out; first | omega | exact Nat.le_refl _⟩, ⟨by (with_reducible repeat (first | apply Kd.R_alloc | apply Kd.R_drewN | apply Kd.R_drew)); exact HO_5.out⟩, ⟨by repeat (first | (with_reducible first | exact HB.out | apply below_alloc | apply pw_below_drewN | apply below_drew1) | exact HB.out)⟩⟩
                      ·rw [if_neg c38] at H
                       exact absurd H (by simp)
                     case rest =>
                      as_aux_lemma =>
                       clear HC37
                       try clear c1
                       try clear p1
                       try clear q1
                       try clear hx1
                       try clear qi1
                       try clear c2
                       try clear c2b0
                       try clear c2b1
                       try clear p2
                       try clear c3
                       try clear c4
                       try clear c4b0
                       try clear c4b1
                       try clear c5
                       try clear c5b0
                       try clear c5b1
                       try clear p6
                       try clear q6
                       try clear hx6
                       try clear qi6
                       try clear c8
                       try clear c9
                       try clear c9b0
                       try clear c9b1
                       try clear c10
                       try clear c10b0
                       try clear c11
                       try clear c11b0
                       try clear c11b1
                       try clear c12
                       try clear c12b0
                       try clear c12b1
                       try clear c13
                       try clear c13b0
                       try clear c13b1
                       try clear c14
                       try clear c14b0
                       try clear c15
                       try clear c17
                       try clear c17b0
                       try clear p17
                       try clear q17
                       try clear hx17
                       try clear qi17
                       try clear c18
                       try clear c18b0
                       try clear p18
                       try clear q18
                       try clear hx18
                       try clear p19
                       try clear q19
                       try clear hx19
                       try clear c20
                       try clear c20b0
                       try clear c20b1
                       try clear c21
                       try clear c21b0
                       try clear c21b1
                       try clear c22
                       try clear c22b0
                       try clear c22b1
                       try clear c23
                       try clear c23b0
                       try clear c24
                       try clear c27
                       try clear c27b0
                       try clear c27b1
                       try clear c29
                       try clear c29b0
                       try clear c29b1
                       try clear c32
                       try clear c33
                       try clear c33b0
                       try clear c33b1
                       try clear c36
                       try clear c36b0
                       try clear c38
                       try clear c38b0
                       try clear c40
                       try clear hx174_0
                       try clear hx176_0
                       try clear hx178_0
                       try clear hx180_0
                       try clear p1
                       try clear p17
                       try clear p174
                       try clear p176
                       try clear p178
                       try clear p180
                       try clear p19
                       try clear p2
                       try clear p6
                       try clear q1
                       try clear q17
                       try clear q174
                       try clear q176
                       try clear q178
                       try clear q180
                       try clear q19
                       try clear q6
                       obtain ⟨kq, x81_36, rfl, HA, HJ36, HO_5, HB⟩ := hcut
                       cases kq with
                       | zero => exact absurd HA.out (by simp [solsticeref01_Clock.j5])
                       | succ kj36 =>
                        have H := HA.out
                        clear HA
                        simp only [solsticeref01_Clock.j5] at H
                        by_cases c42 : x81_36 = true
                        ·subst c42
                         have H1 : (some (0, false)) = some (r1, r2) := by rw [if_pos rfl] at H; exact H
                         clear H
                         have H := H1
                         clear H1
                         simp only [Option.some.injEq, Prod.mk.injEq] at H
                         obtain ⟨rfl, rfl⟩ := H
                         go_wp2
                         repeat (go_quiet (fail); try go_wp2)
                         go_ret2
                         exact ⟨by first | rfl | (simp [errW_none, errW_some] <;> rfl) | (simp [*, errW_none, errW_some] <;> rfl), by repeat (first | (with_reducible first | exact HB.out | apply below_alloc | apply pw_below_drewN | apply below_drew1) | exact HB.out)⟩
                        ·replace c42 := Bool.eq_false_iff.mpr c42
                         subst c42
                         have H1 : (if x9_5 = 1 then (if 0 ≤ x9_5 then (if x9_5 < (x5_3.length : Int) then ((solsticeref01_Value.f kj36 (rdOf ByteArray.empty x5_3 x9_5)).bind fun t183 => (solsticeref01_Clock.l1 kj36 x4_6 x5_3 (wrap64 (x8_5 + (wrap64 (60 * t183)))) (wrap64 (x9_5 + 1)))) else (none)) else (none)) else (if 0 ≤ x9_5 then (if x9_5 < (x5_3.length : Int) then ((solsticeref01_Value.f kj36 (rdOf ByteArray.empty x5_3 x9_5)).bind fun t185 => (solsticeref01_Clock.l1 kj36 x4_6 x5_3 (wrap64 (x8_5 + t185)) (wrap64 (x9_5 + 1)))) else (none)) else (none))) = some (r1, r2) := by rw [if_neg (show ¬ (false = true) by decide)] at H; exact H
                         clear H
                         have H := H1
                         clear H1
                         by_cases c43 : x9_5 = 1
                         ·rw [if_pos c43] at H
                          have c43b0 : (x9_5 == 1) = true := beq_iff_eq.mpr c43
                          have c43b1 : (x9_5 != 1) = false := bne_eq_false_iff_eq.mpr c43
                          clear c43
                          by_cases c44 : 0 ≤ x9_5
                          ·rw [if_pos c44] at H
                           have c44b0 : decide (0 ≤ x9_5) = true := decide_eq_true c44
                           clear c44
                           by_cases c45 : x9_5 < (x5_3.length : Int)
                           ·rw [if_pos c45] at H
                            have c45b0 : decide (x9_5 < (x5_3.length : Int)) = true := decide_eq_true c45
                            clear c45
                            replace H := Option.bind_eq_some_iff.mp H
                            obtain ⟨t183, A460, H⟩ := H
                            replace H : (solsticeref01_Clock.l1 kj36 x4_6 x5_3 (wrap64 (x8_5 + (wrap64 (60 * t183)))) (wrap64 (x9_5 + 1))) = some (r1, r2) := H
                            have A46 := Aside0.mk A460
                            clear A460
                            have H' := Aside0.mk H
                            clear H
                            have p182 : 0 ≤ (x9_5 : Int) := of_decide_eq_true (by first | (with_reducible assumption) | assumption)
                            have q182 : x9_5 < (x5_3.length : Int) := of_decide_eq_true (by first | (with_reducible assumption) | assumption)
                            obtain ⟨ad182, e182, hx182_0⟩ := Kd.at_string (Kd.R_reads' HO_5.out).2.2 x9_5 p182 q182
                            obtain rfl : ad176 = ad182 := (by injection e182)
                            replace p182 := eq_true p182
                            replace q182 := eq_true q182
                            go_wp2_with (first | (go_at_call 32; (with_reducible refine (solsticeref01_Value.calls kj36 (rdOf ByteArray.empty x5_3 x9_5) t183 _ A46.out).mono ?_); rintro e w' ⟨rfl, ⟨nd, rfl⟩⟩; (try first | exact ⟨rfl, _, World.drewN_drewN _ _ _⟩ | exact ⟨rfl, _, Eq.trans (World.drewN_drewN _ _ _) (congrArg (World.drewN _) (Nat.add_assoc _ _ _))⟩)))
                            repeat (go_quiet (first | (go_at_call 32; (with_reducible refine (solsticeref01_Value.calls kj36 (rdOf ByteArray.empty x5_3 x9_5) t183 _ A46.out).mono ?_); rintro e w' ⟨rfl, ⟨nd, rfl⟩⟩; (try first | exact ⟨rfl, _, World.drewN_drewN _ _ _⟩ | exact ⟨rfl, _, Eq.trans (World.drewN_drewN _ _ _) (congrArg (World.drewN _) (Nat.add_assoc _ _ _))⟩))); try go_wp2_with (first | (go_at_call 32; (with_reducible refine (solsticeref01_Value.calls kj36 (rdOf ByteArray.empty x5_3 x9_5) t183 _ A46.out).mono ?_); rintro e w' ⟨rfl, ⟨nd, rfl⟩⟩; (try first | exact ⟨rfl, _, World.drewN_drewN _ _ _⟩ | exact ⟨rfl, _, Eq.trans (World.drewN_drewN _ _ _) (congrArg (World.drewN _) (Nat.add_assoc _ _ _))⟩))))
                            go_roundg kj36
                            case measure => have := HJ2.out; have := HJ6.out; have := HK3.out; have := HJ25.out; have := HK5.out; have := HJ36.out; omega
                            case rel => exact ⟨(wrap64 (x8_5 + (wrap64 (60 * t183)))), (wrap64 (x9_5 + 1)), (by first | rfl | (simp; done) | (simp [*]; done)), (by first | rfl | (simp; done) | (simp [*]; done)), H', ⟨by have := HJ2.out; have := HJ6.out; have := HK3.out; have := HJ25.out; have := HK5.out; have := HJ36.out; omega⟩, ⟨by (with_reducible repeat (first | apply Kd.R_alloc | apply Kd.R_drewN | apply Kd.R_drew)); exact HO_5.out⟩, ⟨by repeat (first | (with_reducible first | exact HB.out | apply below_alloc | apply pw_below_drewN | apply below_drew1) | exact HB.out)⟩⟩
                           ·rw [if_neg c45] at H
                            exact absurd H (by simp)
                          ·rw [if_neg c44] at H
                           exact absurd H (by simp)
                         ·rw [if_neg c43] at H
                          have c43b0 : (x9_5 == 1) = false := beq_eq_false_iff_ne.mpr c43
                          have c43b1 : (x9_5 != 1) = true := bne_iff_ne.mpr c43
                          by_cases c47 : 0 ≤ x9_5
                          ·rw [if_pos c47] at H
                           have c47b0 : decide (0 ≤ x9_5) = true := decide_eq_true c47
                           clear c47
                           by_cases c48 : x9_5 < (x5_3.length : Int)
                           ·rw [if_pos c48] at H
                            have c48b0 : decide (x9_5 < (x5_3.length : Int)) = true := decide_eq_true c48
                            clear c48
                            replace H := Option.bind_eq_some_iff.mp H
                            obtain ⟨t185, A490, H⟩ := H
                            replace H : (solsticeref01_Clock.l1 kj36 x4_6 x5_3 (wrap64 (x8_5 + t185)) (wrap64 (x9_5 + 1))) = some (r1, r2) := H
                            have A49 := Aside0.mk A490
                            clear A490
                            have H' := Aside0.mk H
                            clear H
                            have p184 : 0 ≤ (x9_5 : Int) := of_decide_eq_true (by first | (with_reducible assumption) | assumption)
                            have q184 : x9_5 < (x5_3.length : Int) := of_decide_eq_true (by first | (with_reducible assumption) | assumption)
                            obtain ⟨ad184, e184, hx184_0⟩ := Kd.at_string (Kd.R_reads' HO_5.out).2.2 x9_5 p184 q184
                            obtain rfl : ad176 = ad184 := (by injection e184)
                            replace p184 := eq_true p184
                            replace q184 := eq_true q184
                            go_wp2_with (first | (go_at_call 32; (with_reducible refine (solsticeref01_Value.calls kj36 (rdOf ByteArray.empty x5_3 x9_5) t185 _ A49.out).mono ?_); rintro e w' ⟨rfl, ⟨nd, rfl⟩⟩; (try first | exact ⟨rfl, _, World.drewN_drewN _ _ _⟩ | exact ⟨rfl, _, Eq.trans (World.drewN_drewN _ _ _) (congrArg (World.drewN _) (Nat.add_assoc _ _ _))⟩)))
                            repeat (go_quiet (first | (go_at_call 32; (with_reducible refine (solsticeref01_Value.calls kj36 (rdOf ByteArray.empty x5_3 x9_5) t185 _ A49.out).mono ?_); rintro e w' ⟨rfl, ⟨nd, rfl⟩⟩; (try first | exact ⟨rfl, _, World.drewN_drewN _ _ _⟩ | exact ⟨rfl, _, Eq.trans (World.drewN_drewN _ _ _) (congrArg (World.drewN _) (Nat.add_assoc _ _ _))⟩))); try go_wp2_with (first | (go_at_call 32; (with_reducible refine (solsticeref01_Value.calls kj36 (rdOf ByteArray.empty x5_3 x9_5) t185 _ A49.out).mono ?_); rintro e w' ⟨rfl, ⟨nd, rfl⟩⟩; (try first | exact ⟨rfl, _, World.drewN_drewN _ _ _⟩ | exact ⟨rfl, _, Eq.trans (World.drewN_drewN _ _ _) (congrArg (World.drewN _) (Nat.add_assoc _ _ _))⟩))))
                            go_roundg kj36
                            case measure => have := HJ2.out; have := HJ6.out; have := HK3.out; have := HJ25.out; have := HK5.out; have := HJ36.out; omega
                            case rel => exact ⟨(wrap64 (x8_5 + t185)), (wrap64 (x9_5 + 1)), (by first | rfl | (simp; done) | (simp [*]; done)), (by first | rfl | (simp; done) | (simp [*]; done)), H', ⟨by have := HJ2.out; have := HJ6.out; have := HK3.out; have := HJ25.out; have := HK5.out; have := HJ36.out; omega⟩, ⟨by (with_reducible repeat (first | apply Kd.R_alloc | apply Kd.R_drewN | apply Kd.R_drew)); exact HO_5.out⟩, ⟨by repeat (first | (with_reducible first | exact HB.out | apply below_alloc | apply pw_below_drewN | apply below_drew1) | exact HB.out)⟩⟩
                           ·rw [if_neg c48] at H
                            exact absurd H (by simp)
                          ·rw [if_neg c47] at H
                           exact absurd H (by simp)
                    ·rw [if_neg c36] at H
                     have c36b0 : decide (x9_5 < (x5_3.length : Int)) = false := decide_eq_false c36
                     clear c36
                     by_cases c50 : x8_5 > 345600
                     ·rw [if_pos c50] at H
                      have c50b0 : decide (345600 < x8_5) = true := decide_eq_true c50
                      clear c50
                      simp only [Option.some.injEq, Prod.mk.injEq] at H
                      obtain ⟨rfl, rfl⟩ := H
                      go_wp2
                      repeat (go_quiet (fail); try go_wp2)
                      go_ret2
                      exact ⟨by first | rfl | (simp [errW_none, errW_some] <;> rfl) | (simp [*, errW_none, errW_some] <;> rfl), by repeat (first | (with_reducible first | exact HB.out | apply below_alloc | apply pw_below_drewN | apply below_drew1) | exact HB.out)⟩
                     ·rw [if_neg c50] at H
                      have c50b0 : decide (345600 < x8_5) = false := decide_eq_false c50
                      clear c50
                      simp only [Option.some.injEq, Prod.mk.injEq] at H
                      obtain ⟨rfl, rfl⟩ := H
                      go_wp2
                      repeat (go_quiet (fail); try go_wp2)
                      go_ret2
                      exact ⟨by first | rfl | (simp [errW_none, errW_some] <;> rfl) | (simp [*, errW_none, errW_some] <;> rfl), by repeat (first | (with_reducible first | exact HB.out | apply below_alloc | apply pw_below_drewN | apply below_drew1) | exact HB.out)⟩
                ·rw [if_neg c33] at H
                 exact absurd H (by simp)
end Go.Proofs.YtlfohcjajmebjaaDoor.PClk