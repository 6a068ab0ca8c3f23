-- Printed by a program of this session's over the kit's printer; library functions by contracts off the shelf.
import Derived.Test.YtookjnpmbenheaaDoorGP
import Derived.Test.YtookjnpmbenheaaDoorPFmtx0
import Derived.Test.YtookjnpmbenheaaDoorPFmtx3
import Derived.Test.YtookjnpmbenheaaDoorPFmtx4
import Derived.Test.YtookjnpmbenheaaDoorPFmtx5
namespace Go.Proofs.YtookjnpmbenheaaDoor.PFmt
open Go.RowKit Go.Proofs.YtookjnpmbenheaaDoorW.PrintWords Go.Proofs.YtookjnpmbenheaaDoorW.PrintLast Go.Proofs.YtookjnpmbenheaaDoorW.PrintMore Go.Proofs.YtookjnpmbenheaaDoor.Base
attribute [local go_sem] max2_int min2_int max_two min_two max_three min_three max_four min_four   -- for this text's walks alone
set_option linter.unusedVariables false
set_option linter.unusedSimpArgs false
mutual
def solsticeref09_Abbr.j0 : Nat → ByteArray → ByteArray → Int → Int → Bool → Option (ByteArray × Bool)
 | 0, _, _, _, _, _ => none
 | k + 1, x0, x1, x2, x3, x24 => if x24 = true then (some ((⟨#[]⟩ : ByteArray), false)) else (solsticeref09_Abbr.l0 k x0 x1 x2 x3 x0 0)
def solsticeref09_Abbr.l0 : Nat → ByteArray → ByteArray → Int → Int → ByteArray → Int → Option (ByteArray × Bool)
 | 0, _, _, _, _, _, _ => none
 | k + 1, x0, x1, x2, x3, x10, x11 => if x11 < (x0.size : Int) then (if 0 ≤ x11 then (if (bt x0 x11) = 47 then (solsticeref09_Abbr.j2 k x0 x1 x2 x3 x10 x11 (x3 == 0)) else (solsticeref09_Abbr.j2 k x0 x1 x2 x3 x10 x11 false)) else (none)) else ((solsticeref09_Plain.f k x10 40).bind fun t163 => (if t163 = true then (some (x10, true)) else (some ((⟨#[]⟩ : ByteArray), false))))
def solsticeref09_Abbr.j2 : Nat → ByteArray → ByteArray → Int → Int → ByteArray → Int → Bool → Option (ByteArray × Bool)
 | 0, _, _, _, _, _, _, _ => none
 | k + 1, x0, x1, x2, x3, x10, x11, x32 => if x32 = true then (if 0 ≤ x11 then (if x11 ≤ (x0.size : Int) then (solsticeref09_Abbr.l0 k x0 x1 x2 x3 (x0.extract 0 (x11 : Int).toNat) (wrap64 (x11 + 1))) else (none)) else (none)) else (if 0 ≤ x11 then (if x11 < (x0.size : Int) then (if (bt x0 x11) = 47 then (if 0 ≤ (wrap64 (x11 + 1)) then (if (wrap64 (x11 + 1)) ≤ (x0.size : Int) then (solsticeref09_Abbr.l0 k x0 x1 x2 x3 (x0.extract ((wrap64 (x11 + 1)) : Int).toNat x0.size) (wrap64 (x11 + 1))) else (none)) else (none)) else (if (bt x0 x11) = 37 then (if 0 ≤ (wrap64 (x11 + 1)) then (if (wrap64 (x11 + 1)) < (x0.size : Int) then (solsticeref09_Abbr.j3 k x0 x1 x2 x3 x10 x11 ((bt x0 (wrap64 (x11 + 1))) == 115)) else (none)) else (none)) else (solsticeref09_Abbr.j3 k x0 x1 x2 x3 x10 x11 false))) else (none)) else (none))
def solsticeref09_Abbr.j3 : Nat → ByteArray → ByteArray → Int → Int → ByteArray → Int → Bool → Option (ByteArray × Bool)
 | 0, _, _, _, _, _, _, _ => none
 | k + 1, x0, x1, x2, x3, x10, x11, x53 => if x53 = true then (if 0 ≤ x11 then (if x11 ≤ (x0.size : Int) then (if (x0.extract 0 (x11 : Int).toNat).size + x1.size ≤ 9223372036854775807 then (if 0 ≤ (wrap64 (x11 + 2)) then (if (wrap64 (x11 + 2)) ≤ (x0.size : Int) then (if ((x0.extract 0 (x11 : Int).toNat) ++ x1).size + (x0.extract ((wrap64 (x11 + 2)) : Int).toNat x0.size).size ≤ 9223372036854775807 then (solsticeref09_Abbr.l0 k x0 x1 x2 x3 (((x0.extract 0 (x11 : Int).toNat) ++ x1) ++ (x0.extract ((wrap64 (x11 + 2)) : Int).toNat x0.size)) (wrap64 (x11 + 1))) else (none)) else (none)) else (none)) else (none)) else (none)) else (none)) else (if 0 ≤ x11 then (if x11 < (x0.size : Int) then (if (bt x0 x11) = 37 then (if x11 ≤ (x0.size : Int) then ((solsticeref09_Short.f k x2).bind fun t164 => (if (x0.extract 0 (x11 : Int).toNat).size + t164.size ≤ 9223372036854775807 then (if 0 ≤ (wrap64 (x11 + 2)) then (if (wrap64 (x11 + 2)) ≤ (x0.size : Int) then (if ((x0.extract 0 (x11 : Int).toNat) ++ t164).size + (x0.extract ((wrap64 (x11 + 2)) : Int).toNat x0.size).size ≤ 9223372036854775807 then (solsticeref09_Abbr.l0 k x0 x1 x2 x3 (((x0.extract 0 (x11 : Int).toNat) ++ t164) ++ (x0.extract ((wrap64 (x11 + 2)) : Int).toNat x0.size)) (wrap64 (x11 + 1))) else (none)) else (none)) else (none)) else (none))) else (none)) else (solsticeref09_Abbr.l0 k x0 x1 x2 x3 x10 (wrap64 (x11 + 1)))) else (none)) else (none))
end
def solsticeref09_Abbr.f (k : Nat) (a0 : ByteArray) (a1 : ByteArray) (a2 : Int) (a3 : Int) : Option (ByteArray × Bool) := (solsticeref09_Format.f k a0).bind fun t160 => (if t160 = true then ((solsticeref09_Letter.f k a1).bind fun t161 => (if t161 = true then ((solsticeref09_in.f a2 (-172799) 172799).bind fun t162 => (solsticeref09_Abbr.j0 k a0 a1 a2 a3 (!t162))) else (solsticeref09_Abbr.j0 k a0 a1 a2 a3 true))) else (solsticeref09_Abbr.j0 k a0 a1 a2 a3 true))
theorem solsticeref09_Abbr.mono_l : ∀ k, (∀ y0 y1 y2 y3 y4, LeO (solsticeref09_Abbr.j0 k y0 y1 y2 y3 y4) (solsticeref09_Abbr.j0 (k + 1) y0 y1 y2 y3 y4)) ∧ (∀ y0 y1 y2 y3 y4 y5, LeO (solsticeref09_Abbr.l0 k y0 y1 y2 y3 y4 y5) (solsticeref09_Abbr.l0 (k + 1) y0 y1 y2 y3 y4 y5)) ∧ (∀ y0 y1 y2 y3 y4 y5 y6, LeO (solsticeref09_Abbr.j2 k y0 y1 y2 y3 y4 y5 y6) (solsticeref09_Abbr.j2 (k + 1) y0 y1 y2 y3 y4 y5 y6)) ∧ (∀ y0 y1 y2 y3 y4 y5 y6, LeO (solsticeref09_Abbr.j3 k y0 y1 y2 y3 y4 y5 y6) (solsticeref09_Abbr.j3 (k + 1) y0 y1 y2 y3 y4 y5 y6))
 | 0 => ⟨fun _ _ _ _ _ r h => by simp [solsticeref09_Abbr.j0] at h, fun _ _ _ _ _ _ r h => by simp [solsticeref09_Abbr.l0] at h, fun _ _ _ _ _ _ _ r h => by simp [solsticeref09_Abbr.j2] at h, fun _ _ _ _ _ _ _ r h => by simp [solsticeref09_Abbr.j3] at h⟩
 | k + 1 => by
  obtain ⟨ih0, ih1, ih2, ih3⟩ := solsticeref09_Abbr.mono_l k
  refine ⟨?_, ?_, ?_, ?_⟩
  ·intro y0 y1 y2 y3 y4
   unfold solsticeref09_Abbr.j0
   repeat' first
   | (with_reducible exact ih0 _ _ _ _ _)
   | (with_reducible exact ih1 _ _ _ _ _ _)
   | (with_reducible exact ih2 _ _ _ _ _ _ _)
   | (with_reducible exact ih3 _ _ _ _ _ _ _)
   | (with_reducible exact solsticeref09_Format.mono _ _)
   | (with_reducible exact solsticeref09_Letter.mono _ _)
   | (with_reducible exact solsticeref09_Plain.mono _ _ _)
   | (with_reducible exact solsticeref09_Short.mono _ _)
   | (with_reducible exact LeO.refl _)
   | (with_reducible exact LeO.none _)
   | (with_reducible refine LeO.ite ?_ ?_)
   | (with_reducible refine LeO.bind ?_ (fun _ => ?_))
   | exact ih0 _ _ _ _ _
   | exact ih1 _ _ _ _ _ _
   | exact ih2 _ _ _ _ _ _ _
   | exact ih3 _ _ _ _ _ _ _
   | exact solsticeref09_Format.mono _ _
   | exact solsticeref09_Letter.mono _ _
   | exact solsticeref09_Plain.mono _ _ _
   | exact solsticeref09_Short.mono _ _
   | exact LeO.none _
   | refine LeO.ite ?_ ?_
   | refine LeO.bind ?_ (fun _ => ?_)
  ·intro y0 y1 y2 y3 y4 y5
   unfold solsticeref09_Abbr.l0
   repeat' first
   | (with_reducible exact ih0 _ _ _ _ _)
   | (with_reducible exact ih1 _ _ _ _ _ _)
   | (with_reducible exact ih2 _ _ _ _ _ _ _)
   | (with_reducible exact ih3 _ _ _ _ _ _ _)
   | (with_reducible exact solsticeref09_Format.mono _ _)
   | (with_reducible exact solsticeref09_Letter.mono _ _)
   | (with_reducible exact solsticeref09_Plain.mono _ _ _)
   | (with_reducible exact solsticeref09_Short.mono _ _)
   | (with_reducible exact LeO.refl _)
   | (with_reducible exact LeO.none _)
   | (with_reducible refine LeO.ite ?_ ?_)
   | (with_reducible refine LeO.bind ?_ (fun _ => ?_))
   | exact ih0 _ _ _ _ _
   | exact ih1 _ _ _ _ _ _
   | exact ih2 _ _ _ _ _ _ _
   | exact ih3 _ _ _ _ _ _ _
   | exact solsticeref09_Format.mono _ _
   | exact solsticeref09_Letter.mono _ _
   | exact solsticeref09_Plain.mono _ _ _
   | exact solsticeref09_Short.mono _ _
   | exact LeO.none _
   | refine LeO.ite ?_ ?_
   | refine LeO.bind ?_ (fun _ => ?_)
  ·intro y0 y1 y2 y3 y4 y5 y6
   unfold solsticeref09_Abbr.j2
   repeat' first
   | (with_reducible exact ih0 _ _ _ _ _)
   | (with_reducible exact ih1 _ _ _ _ _ _)
   | (with_reducible exact ih2 _ _ _ _ _ _ _)
   | (with_reducible exact ih3 _ _ _ _ _ _ _)
   | (with_reducible exact solsticeref09_Format.mono _ _)
   | (with_reducible exact solsticeref09_Letter.mono _ _)
   | (with_reducible exact solsticeref09_Plain.mono _ _ _)
   | (with_reducible exact solsticeref09_Short.mono _ _)
   | (with_reducible exact LeO.refl _)
   | (with_reducible exact LeO.none _)
   | (with_reducible refine LeO.ite ?_ ?_)
   | (with_reducible refine LeO.bind ?_ (fun _ => ?_))
   | exact ih0 _ _ _ _ _
   | exact ih1 _ _ _ _ _ _
   | exact ih2 _ _ _ _ _ _ _
   | exact ih3 _ _ _ _ _ _ _
   | exact solsticeref09_Format.mono _ _
   | exact solsticeref09_Letter.mono _ _
   | exact solsticeref09_Plain.mono _ _ _
   | exact solsticeref09_Short.mono _ _
   | exact LeO.none _
   | refine LeO.ite ?_ ?_
   | refine LeO.bind ?_ (fun _ => ?_)
  ·intro y0 y1 y2 y3 y4 y5 y6
   unfold solsticeref09_Abbr.j3
   repeat' first
   | (with_reducible exact ih0 _ _ _ _ _)
   | (with_reducible exact ih1 _ _ _ _ _ _)
   | (with_reducible exact ih2 _ _ _ _ _ _ _)
   | (with_reducible exact ih3 _ _ _ _ _ _ _)
   | (with_reducible exact solsticeref09_Format.mono _ _)
   | (with_reducible exact solsticeref09_Letter.mono _ _)
   | (with_reducible exact solsticeref09_Plain.mono _ _ _)
   | (with_reducible exact solsticeref09_Short.mono _ _)
   | (with_reducible exact LeO.refl _)
   | (with_reducible exact LeO.none _)
   | (with_reducible refine LeO.ite ?_ ?_)
   | (with_reducible refine LeO.bind ?_ (fun _ => ?_))
   | exact ih0 _ _ _ _ _
   | exact ih1 _ _ _ _ _ _
   | exact ih2 _ _ _ _ _ _ _
   | exact ih3 _ _ _ _ _ _ _
   | exact solsticeref09_Format.mono _ _
   | exact solsticeref09_Letter.mono _ _
   | exact solsticeref09_Plain.mono _ _ _
   | exact solsticeref09_Short.mono _ _
   | exact LeO.none _
   | refine LeO.ite ?_ ?_
   | refine LeO.bind ?_ (fun _ => ?_)
theorem solsticeref09_Abbr.mono : ∀ a0 a1 a2 a3 k, LeO (solsticeref09_Abbr.f k a0 a1 a2 a3) (solsticeref09_Abbr.f (k + 1) a0 a1 a2 a3) := by
 intro a0 a1 a2 a3 k
 obtain ⟨ih0, ih1, ih2, ih3⟩ := solsticeref09_Abbr.mono_l k
 unfold solsticeref09_Abbr.f
 repeat' first
   | (with_reducible exact ih0 _ _ _ _ _)
   | (with_reducible exact ih1 _ _ _ _ _ _)
   | (with_reducible exact ih2 _ _ _ _ _ _ _)
   | (with_reducible exact ih3 _ _ _ _ _ _ _)
   | (with_reducible exact solsticeref09_Format.mono _ _)
   | (with_reducible exact solsticeref09_Letter.mono _ _)
   | (with_reducible exact solsticeref09_Plain.mono _ _ _)
   | (with_reducible exact solsticeref09_Short.mono _ _)
   | (with_reducible exact LeO.refl _)
   | (with_reducible exact LeO.none _)
   | (with_reducible refine LeO.ite ?_ ?_)
   | (with_reducible refine LeO.bind ?_ (fun _ => ?_))
   | exact ih0 _ _ _ _ _
   | exact ih1 _ _ _ _ _ _
   | exact ih2 _ _ _ _ _ _ _
   | exact ih3 _ _ _ _ _ _ _
   | exact solsticeref09_Format.mono _ _
   | exact solsticeref09_Letter.mono _ _
   | exact solsticeref09_Plain.mono _ _ _
   | exact solsticeref09_Short.mono _ _
   | exact LeO.none _
   | refine LeO.ite ?_ ?_
   | refine LeO.bind ?_ (fun _ => ?_)
def solsticeref09_Abbr.T12 : Bool × List (List Nat × List Nat) := (true, [([], []), ([], []), ([0, 1], [0, 1]), ([], []), ([2, 3], [2, 3]), ([], []), ([], []), ([6], [6]), ([5, 7], [5, 7]), ([4, 8], [4, 8]), ([9, 0, 1, 2, 3, 4, 5, 6, 7, 8, 9], [9])])
def solsticeref09_Abbr.B12 : List Nat := [0, 0, 3, 0, 15, 0, 0, 64, 224, 511, 1023]
theorem solsticeref09_Abbr.tab12 : rtab .any (opsOf Tryd.f9 12) = solsticeref09_Abbr.T12 := by kernel_rfl
theorem solsticeref09_Abbr.bits12 : waitsOk solsticeref09_Abbr.T12.2 solsticeref09_Abbr.B12 = true := by kernel_rfl
def solsticeref09_Abbr.T14 : Bool × List (List Nat × List Nat) := (true, [([], []), ([], []), ([0, 1], [0, 1]), ([], []), ([3], [3]), ([2, 4], [2, 4]), ([], []), ([], []), ([7], [7]), ([6, 8], [6, 8]), ([5, 9], [5, 9]), ([10, 4, 0, 1, 2, 3, 4, 5, 6, 7, 8, 9, 10], [10])])
def solsticeref09_Abbr.B14 : List Nat := [0, 0, 3, 0, 8, 31, 0, 0, 128, 448, 1023, 2047]
theorem solsticeref09_Abbr.tab14 : rtab .any (opsOf Tryd.f9 14) = solsticeref09_Abbr.T14 := by kernel_rfl
theorem solsticeref09_Abbr.bits14 : waitsOk solsticeref09_Abbr.T14.2 solsticeref09_Abbr.B14 = true := by kernel_rfl
set_option maxHeartbeats 8000000 in
set_option maxRecDepth 100000 in
theorem solsticeref09_Abbr.calls (k : Nat) (a0 : ByteArray) (a1 : ByteArray) (a2 : Int) (a3 : Int) (r1 : ByteArray) (r2 : Bool) (w : World) (h : solsticeref09_Abbr.f k a0 a1 a2 a3 = some (r1, r2)) :
  Calls Tryd.prog 9 #[.string a0, .string a1, .int .i64 a2, .int .i64 a3] w fun e w' => e = .returned (.tuple #[.string r1, .bool r2]) ∧ Below w.heap.size w w' := by
 have HB := Aside0.mk (Below.refl w.heap.size w)
 have H : ((solsticeref09_Format.f k a0).bind fun t160 => (if t160 = true then ((solsticeref09_Letter.f k a1).bind fun t161 => (if t161 = true then ((solsticeref09_in.f a2 (-172799) 172799).bind fun t162 => (solsticeref09_Abbr.j0 k a0 a1 a2 a3 (!t162))) else (solsticeref09_Abbr.j0 k a0 a1 a2 a3 true))) else (solsticeref09_Abbr.j0 k a0 a1 a2 a3 true))) = some (r1, r2) := h
 clear h
 have HC5 := Aside0.mk H
 clear H
 go_enter Tryd.func9, Tryd.ntmps9
 go_upto_region 1 with (fail)
 go_cut [24] (fun v24 wc => ∃ (kq : Nat) (x24_4 : Bool), v24 = .bool x24_4 ∧ Aside0 (solsticeref09_Abbr.j0 kq a0 a1 a2 a3 x24_4 = some (r1, r2)) ∧ Aside0 (kq ≤ k) ∧ Aside0 (Below w.heap.size w wc))
 case first =>
  have H := HC5.out
  clear HC5
  replace H := Option.bind_eq_some_iff.mp H
  obtain ⟨t160, A60, H⟩ := H
  replace H : (if t160 = true then ((solsticeref09_Letter.f k a1).bind fun t161 => (if t161 = true then ((solsticeref09_in.f a2 (-172799) 172799).bind fun t162 => (solsticeref09_Abbr.j0 k a0 a1 a2 a3 (!t162))) else (solsticeref09_Abbr.j0 k a0 a1 a2 a3 true))) else (solsticeref09_Abbr.j0 k a0 a1 a2 a3 true)) = some (r1, r2) := H
  have A6 := Aside0.mk A60
  clear A60
  by_cases c7 : t160 = true
  ·subst c7
   have H1 : ((solsticeref09_Letter.f k a1).bind fun t161 => (if t161 = true then ((solsticeref09_in.f a2 (-172799) 172799).bind fun t162 => (solsticeref09_Abbr.j0 k a0 a1 a2 a3 (!t162))) else (solsticeref09_Abbr.j0 k a0 a1 a2 a3 true))) = some (r1, r2) := by rw [if_pos rfl] at H; exact H
   clear H
   have H := H1
   clear H1
   replace H := Option.bind_eq_some_iff.mp H
   obtain ⟨t161, A80, H⟩ := H
   replace H : (if t161 = true then ((solsticeref09_in.f a2 (-172799) 172799).bind fun t162 => (solsticeref09_Abbr.j0 k a0 a1 a2 a3 (!t162))) else (solsticeref09_Abbr.j0 k a0 a1 a2 a3 true)) = some (r1, r2) := H
   have A8 := Aside0.mk A80
   clear A80
   by_cases c9 : t161 = true
   ·subst c9
    have H1 : ((solsticeref09_in.f a2 (-172799) 172799).bind fun t162 => (solsticeref09_Abbr.j0 k a0 a1 a2 a3 (!t162))) = some (r1, r2) := by rw [if_pos rfl] at H; exact H
    clear H
    have H := H1
    clear H1
    replace H := Option.bind_eq_some_iff.mp H
    obtain ⟨t162, A100, H⟩ := H
    replace H : (solsticeref09_Abbr.j0 k a0 a1 a2 a3 (!t162)) = some (r1, r2) := H
    have A10 := Aside0.mk A100
    clear A100
    have H' := Aside0.mk H
    clear H
    go_wp2_with (first | ((with_reducible refine gate_callee (f := 21) rfl ?_); refine goesL_ (some 13) rfl rfl Tryd.func21 (by kernel_rfl) rfl #[.string a0] rfl (by (try simp only [List.map_toArray, List.map_cons, List.map_nil]); first | done | rfl | (simp only [List.length_drop, List.length_take]; rfl)) ?_; (with_reducible refine (solsticeref09_Format.calls k a0 true _ A6.out).mono ?_); rintro e w' ⟨rfl, ⟨nd, rfl⟩⟩; refine ⟨_, rfl, ?_⟩) | (go_at_call 22; (with_reducible refine (solsticeref09_Letter.calls k a1 true _ A8.out).mono ?_); rintro e w' ⟨rfl, ⟨nd, rfl⟩⟩) | (go_at_call 23; (with_reducible refine (solsticeref09_in.calls a2 (-172799) 172799 t162 _ A10.out).mono ?_); rintro e w' ⟨rfl, ⟨nd, rfl⟩⟩))
    go_meet
    case rel => exact ⟨_, (!t162), (by first | rfl | (simp; done) | (simp [*]; done)), H', ⟨by first | omega | exact Nat.le_refl _⟩, ⟨by repeat (first | (with_reducible first | exact HB.out | apply below_alloc | apply pw_below_drewN | apply below_drew1) | exact HB.out)⟩⟩
   ·replace c9 := Bool.eq_false_iff.mpr c9
    subst c9
    have H1 : (solsticeref09_Abbr.j0 k a0 a1 a2 a3 true) = some (r1, r2) := by rw [if_neg (show ¬ (false = true) by decide)] at H; exact H
    clear H
    have H := H1
    clear H1
    have H' := Aside0.mk H
    clear H
    go_wp2_with (first | ((with_reducible refine gate_callee (f := 21) rfl ?_); refine goesL_ (some 13) rfl rfl Tryd.func21 (by kernel_rfl) rfl #[.string a0] rfl (by (try simp only [List.map_toArray, List.map_cons, List.map_nil]); first | done | rfl | (simp only [List.length_drop, List.length_take]; rfl)) ?_; (with_reducible refine (solsticeref09_Format.calls k a0 true _ A6.out).mono ?_); rintro e w' ⟨rfl, ⟨nd, rfl⟩⟩; refine ⟨_, rfl, ?_⟩) | (go_at_call 22; (with_reducible refine (solsticeref09_Letter.calls k a1 false _ A8.out).mono ?_); rintro e w' ⟨rfl, ⟨nd, rfl⟩⟩))
    go_meet
    case rel => exact ⟨_, (true), (by first | rfl | (simp; done) | (simp [*]; done)), H', ⟨by first | omega | exact Nat.le_refl _⟩, ⟨by repeat (first | (with_reducible first | exact HB.out | apply below_alloc | apply pw_below_drewN | apply below_drew1) | exact HB.out)⟩⟩
  ·replace c7 := Bool.eq_false_iff.mpr c7
   subst c7
   have H1 : (solsticeref09_Abbr.j0 k a0 a1 a2 a3 true) = some (r1, r2) := by rw [if_neg (show ¬ (false = true) by decide)] at H; exact H
   clear H
   have H := H1
   clear H1
   have H' := Aside0.mk H
   clear H
   go_wp2_with (first | ((with_reducible refine gate_callee (f := 21) rfl ?_); refine goesL_ (some 13) rfl rfl Tryd.func21 (by kernel_rfl) rfl #[.string a0] rfl (by (try simp only [List.map_toArray, List.map_cons, List.map_nil]); first | done | rfl | (simp only [List.length_drop, List.length_take]; rfl)) ?_; (with_reducible refine (solsticeref09_Format.calls k a0 false _ A6.out).mono ?_); rintro e w' ⟨rfl, ⟨nd, rfl⟩⟩; refine ⟨_, rfl, ?_⟩))
   go_meet
   case rel => exact ⟨_, (true), (by first | rfl | (simp; done) | (simp [*]; done)), H', ⟨by first | omega | exact Nat.le_refl _⟩, ⟨by repeat (first | (with_reducible first | exact HB.out | apply below_alloc | apply pw_below_drewN | apply below_drew1) | exact HB.out)⟩⟩
 case rest =>
  as_aux_lemma =>
   clear HC5
   try clear c2
   try clear p2
   try clear c7
   try clear c9
   obtain ⟨kq, x24_4, rfl, HA, HJ4, HB⟩ := hcut
   cases kq with
   | zero => exact absurd HA.out (by simp [solsticeref09_Abbr.j0])
   | succ kj4 =>
    have H := HA.out
    clear HA
    simp only [solsticeref09_Abbr.j0] at H
    by_cases c11 : x24_4 = true
    ·subst c11
     have H1 : (some ((⟨#[]⟩ : ByteArray), false)) = some (r1, r2) := by rw [if_pos rfl] at H; exact H
     clear H
     have H := H1
     clear H1
     simp only [Option.some.injEq, Prod.mk.injEq] at H
     obtain ⟨rfl, rfl⟩ := H
     go_wp2
     go_ret2
     exact ⟨by first | rfl | (simp [errW_none, errW_some] <;> rfl) | (simp [*, errW_none, errW_some] <;> rfl), by repeat (first | (with_reducible first | exact HB.out | apply below_alloc | apply pw_below_drewN | apply below_drew1) | exact HB.out)⟩
    ·replace c11 := Bool.eq_false_iff.mpr c11
     subst c11
     have H1 : (solsticeref09_Abbr.l0 kj4 a0 a1 a2 a3 a0 0) = some (r1, r2) := by rw [if_neg (show ¬ (false = true) by decide)] at H; exact H
     clear H
     have H := H1
     clear H1
     have H' := Aside0.mk H
     clear H
     go_wp2
     go_loopg [10, 11] kj4 (fun kq v10 v11 w' => ∃ (x10_2 : ByteArray) (x11_2 : Int), v10 = .string x10_2 ∧ v11 = .int .i64 x11_2 ∧ Aside0 (solsticeref09_Abbr.l0 kq a0 a1 a2 a3 x10_2 x11_2 = some (r1, r2)) ∧ Aside0 (kq ≤ kj4) ∧ Aside0 (Below w.heap.size w w'))
     case atStart => exact ⟨(a0), (0), (by first | rfl | (simp; done) | (simp [*]; done)), (by first | rfl | (simp; done) | (simp [*]; done)), H', ⟨Nat.le_refl _⟩, ⟨by repeat (first | (with_reducible first | exact HB.out | apply below_alloc | apply pw_below_drewN | apply below_drew1) | exact HB.out)⟩⟩
     case round =>
      as_aux_lemma =>
       clear H'
       try clear c1
       try clear c2
       try clear p2
       try clear c7
       try clear c9
       try clear c11
       try clear p2
       obtain ⟨x10_2, x11_2, rfl, rfl, HA, HK2, HB⟩ := hrel
       cases gk with
       | zero => exact absurd HA.out (by simp [solsticeref09_Abbr.l0])
       | succ k2 =>
        have H := HA.out
        clear HA
        simp only [solsticeref09_Abbr.l0] at H
        by_cases c12 : x11_2 < (a0.size : Int)
        ·rw [if_pos c12] at H
         have c12b0 : decide (x11_2 < (a0.size : Int)) = true := decide_eq_true c12
         clear c12
         have HC13 := Aside0.mk H
         clear H
         go_upto_region 7 with (fail)
         go_cut [32] (fun v32 wc => ∃ (kq : Nat) (x32_12 : Bool), v32 = .bool x32_12 ∧ Aside0 (solsticeref09_Abbr.j2 kq a0 a1 a2 a3 x10_2 x11_2 x32_12 = some (r1, r2)) ∧ Aside0 (kq ≤ k2) ∧ Aside0 (Below w.heap.size w wc))
         case first =>
          have H := HC13.out
          clear HC13
          by_cases c14 : 0 ≤ x11_2
          ·rw [if_pos c14] at H
           have c14b0 : decide (0 ≤ x11_2) = true := decide_eq_true c14
           clear c14
           (first | rw [c14b0] | (simp only [i64_w, i32_w]; rw [c14b0]) | skip)
           by_cases c16 : (bt a0 x11_2) = 47
           ·rw [if_pos c16] at H
            have c16b0 : ((bt a0 x11_2) == 47) = true := beq_iff_eq.mpr c16
            have c16b1 : ((bt a0 x11_2) != 47) = false := bne_eq_false_iff_eq.mpr c16
            clear c16
            have H' := Aside0.mk H
            clear H
            have p15 : 0 ≤ (x11_2 : Int) := of_decide_eq_true (by first | (with_reducible assumption) | assumption)
            have q15 : x11_2 < (a0.size : Int) := of_decide_eq_true (by first | (with_reducible assumption) | assumption)
            have hx15 := bt_at a0 x11_2
            replace p15 := eq_true p15
            replace q15 := eq_true q15
            go_wp2
            go_meet
            case rel => exact ⟨_, ((a3 == 0)), (by first | rfl | (simp; done) | (simp [*]; done)), H', ⟨by have := HJ4.out; have := HK2.out; first | omega | exact Nat.le_refl _⟩, ⟨by repeat (first | (with_reducible first | exact HB.out | apply below_alloc | apply pw_below_drewN | apply below_drew1) | exact HB.out)⟩⟩
           ·rw [if_neg c16] at H
            have c16b0 : ((bt a0 x11_2) == 47) = false := beq_eq_false_iff_ne.mpr c16
            have c16b1 : ((bt a0 x11_2) != 47) = true := bne_iff_ne.mpr c16
            have H' := Aside0.mk H
            clear H
            have p15 : 0 ≤ (x11_2 : Int) := of_decide_eq_true (by first | (with_reducible assumption) | assumption)
            have q15 : x11_2 < (a0.size : Int) := of_decide_eq_true (by first | (with_reducible assumption) | assumption)
            have hx15 := bt_at a0 x11_2
            replace p15 := eq_true p15
            replace q15 := eq_true q15
            go_wp2
            go_meet
            case rel => exact ⟨_, (false), (by first | rfl | (simp; done) | (simp [*]; done)), H', ⟨by have := HJ4.out; have := HK2.out; first | omega | exact Nat.le_refl _⟩, ⟨by repeat (first | (with_reducible first | exact HB.out | apply below_alloc | apply pw_below_drewN | apply below_drew1) | exact HB.out)⟩⟩
          ·rw [if_neg c14] at H
           exact absurd H (by simp)
         case rest =>
          as_aux_lemma =>
           clear HC13
           try clear c1
           try clear p1
           try clear q1
           try clear hx1
           try clear c2
           try clear p2
           try clear c7
           try clear c9
           try clear c11
           try clear c12
           try clear c12b0
           try clear c14
           try clear c14b0
           try clear p15
           try clear q15
           try clear hx15
           try clear c16
           try clear c16b0
           try clear c16b1
           try clear p15
           try clear p2
           try clear q15
           obtain ⟨kq, x32_12, rfl, HA, HJ12, HB⟩ := hcut
           cases kq with
           | zero => exact absurd HA.out (by simp [solsticeref09_Abbr.j2])
           | succ kj12 =>
            have H := HA.out
            clear HA
            simp only [solsticeref09_Abbr.j2] at H
            by_cases c17 : x32_12 = true
            ·subst c17
             have H1 : (if 0 ≤ x11_2 then (if x11_2 ≤ (a0.size : Int) then (solsticeref09_Abbr.l0 kj12 a0 a1 a2 a3 (a0.extract 0 (x11_2 : Int).toNat) (wrap64 (x11_2 + 1))) else (none)) else (none)) = some (r1, r2) := by rw [if_pos rfl] at H; exact H
             clear H
             have H := H1
             clear H1
             by_cases c18 : 0 ≤ x11_2
             ·rw [if_pos c18] at H
              have c18b0 := eq_true c18
              have c18b1 : decide (0 ≤ x11_2) = true := decide_eq_true c18
              clear c18
              by_cases c19 : x11_2 ≤ (a0.size : Int)
              ·rw [if_pos c19] at H
               have c19b0 := eq_true c19
               have c19b1 : decide (x11_2 ≤ (a0.size : Int)) = true := decide_eq_true c19
               clear c19
               have H' := Aside0.mk H
               clear H
               go_wp2
               go_roundg kj12
               case measure => have := HJ4.out; have := HK2.out; have := HJ12.out; omega
               case rel => exact ⟨(a0.extract 0 (x11_2 : Int).toNat), (wrap64 (x11_2 + 1)), (by first | rfl | (simp; done) | (simp [*]; done)), (by first | rfl | (simp; done) | (simp [*]; done)), H', ⟨by have := HJ4.out; have := HK2.out; have := HJ12.out; omega⟩, ⟨by repeat (first | (with_reducible first | exact HB.out | apply below_alloc | apply pw_below_drewN | apply below_drew1) | exact HB.out)⟩⟩
              ·rw [if_neg c19] at H
               exact absurd H (by simp)
             ·rw [if_neg c18] at H
              exact absurd H (by simp)
            ·replace c17 := Bool.eq_false_iff.mpr c17
             subst c17
             have H1 : (if 0 ≤ x11_2 then (if x11_2 < (a0.size : Int) then (if (bt a0 x11_2) = 47 then (if 0 ≤ (wrap64 (x11_2 + 1)) then (if (wrap64 (x11_2 + 1)) ≤ (a0.size : Int) then (solsticeref09_Abbr.l0 kj12 a0 a1 a2 a3 (a0.extract ((wrap64 (x11_2 + 1)) : Int).toNat a0.size) (wrap64 (x11_2 + 1))) else (none)) else (none)) else (if (bt a0 x11_2) = 37 then (if 0 ≤ (wrap64 (x11_2 + 1)) then (if (wrap64 (x11_2 + 1)) < (a0.size : Int) then (solsticeref09_Abbr.j3 kj12 a0 a1 a2 a3 x10_2 x11_2 ((bt a0 (wrap64 (x11_2 + 1))) == 115)) else (none)) else (none)) else (solsticeref09_Abbr.j3 kj12 a0 a1 a2 a3 x10_2 x11_2 false))) else (none)) else (none)) = some (r1, r2) := by rw [if_neg (show ¬ (false = true) by decide)] at H; exact H
             clear H
             have H := H1
             clear H1
             by_cases c20 : 0 ≤ x11_2
             ·rw [if_pos c20] at H
              have c20b0 : decide (0 ≤ x11_2) = true := decide_eq_true c20
              clear c20
              by_cases c21 : x11_2 < (a0.size : Int)
              ·rw [if_pos c21] at H
               have c21b0 : decide (x11_2 < (a0.size : Int)) = true := decide_eq_true c21
               clear c21
               by_cases c23 : (bt a0 x11_2) = 47
               ·rw [if_pos c23] at H
                have c23b0 : ((bt a0 x11_2) == 47) = true := beq_iff_eq.mpr c23
                have c23b1 : ((bt a0 x11_2) != 47) = false := bne_eq_false_iff_eq.mpr c23
                clear c23
                obtain ⟨ji24, hji24⟩ : ∃ j_ : Int, (wrap64 (x11_2 + 1)) = j_ := ⟨_, rfl⟩
                replace H : (if 0 ≤ (ji24) then (if (ji24) ≤ (a0.size : Int) then (solsticeref09_Abbr.l0 kj12 a0 a1 a2 a3 (a0.extract ((ji24) : Int).toNat a0.size) ji24) else (none)) else (none)) = some (r1, r2) := by first | (rw [hji24] at H; exact H) | (simp only [hji24] at H ⊢; exact H)
                have hji24w : (IntKind.i64.wrap (x11_2 + 1)) = ji24 := (i64_w _).trans hji24
                by_cases c25 : 0 ≤ (ji24)
                ·rw [if_pos c25] at H
                 have c25b0 := eq_true c25
                 have c25b1 : decide (0 ≤ (ji24)) = true := decide_eq_true c25
                 clear c25
                 by_cases c26 : (ji24) ≤ (a0.size : Int)
                 ·rw [if_pos c26] at H
                  have c26b0 := eq_true c26
                  have c26b1 : decide ((ji24) ≤ (a0.size : Int)) = true := decide_eq_true c26
                  clear c26
                  have H' := Aside0.mk H
                  clear H
                  have p22 : 0 ≤ (x11_2 : Int) := of_decide_eq_true (by first | (with_reducible assumption) | assumption)
                  have q22 : x11_2 < (a0.size : Int) := of_decide_eq_true (by first | (with_reducible assumption) | assumption)
                  have hx22 := bt_at a0 x11_2
                  replace p22 := eq_true p22
                  replace q22 := eq_true q22
                  go_wp2
                  go_roundg kj12
                  case measure => have := HJ4.out; have := HK2.out; have := HJ12.out; omega
                  case rel => exact ⟨(a0.extract ((ji24) : Int).toNat a0.size), (ji24), (by first | rfl | (simp; done) | (simp only [← hji24] <;> (first | rfl | (simp; done))) | (simp [*]; done)), (by first | rfl | (simp; done) | (simp only [← hji24] <;> (first | rfl | (simp; done))) | (simp [*]; done)), H', ⟨by have := HJ4.out; have := HK2.out; have := HJ12.out; omega⟩, ⟨by repeat (first | (with_reducible first | exact HB.out | apply below_alloc | apply pw_below_drewN | apply below_drew1) | exact HB.out)⟩⟩
                 ·rw [if_neg c26] at H
                  exact absurd H (by simp)
                ·rw [if_neg c25] at H
                 exact absurd H (by simp)
               ·rw [if_neg c23] at H
                have c23b0 : ((bt a0 x11_2) == 47) = false := beq_eq_false_iff_ne.mpr c23
                have c23b1 : ((bt a0 x11_2) != 47) = true := bne_iff_ne.mpr c23
                have HC27 := Aside0.mk H
                clear H
                have p22 : 0 ≤ (x11_2 : Int) := of_decide_eq_true (by first | (with_reducible assumption) | assumption)
                have q22 : x11_2 < (a0.size : Int) := of_decide_eq_true (by first | (with_reducible assumption) | assumption)
                have hx22 := bt_at a0 x11_2
                replace p22 := eq_true p22
                replace q22 := eq_true q22
                go_upto_region 11 with (fail)
                go_cut [53] (fun v53 wc => ∃ (kq : Nat) (x53_26 : Bool), v53 = .bool x53_26 ∧ Aside0 (solsticeref09_Abbr.j3 kq a0 a1 a2 a3 x10_2 x11_2 x53_26 = some (r1, r2)) ∧ Aside0 (kq ≤ kj12) ∧ Aside0 (Below w.heap.size w wc))
                case first =>
                 have H := HC27.out
                 clear HC27
                 by_cases c29 : (bt a0 x11_2) = 37
                 ·rw [if_pos c29] at H
                  have c29b0 : ((bt a0 x11_2) == 37) = true := beq_iff_eq.mpr c29
                  have c29b1 : ((bt a0 x11_2) != 37) = false := bne_eq_false_iff_eq.mpr c29
                  clear c29
                  (first | rw [c29b0] | (simp only [i64_w, i32_w]; rw [c29b0]) | skip)
                  obtain ⟨ji30, hji30⟩ : ∃ j_ : Int, (wrap64 (x11_2 + 1)) = j_ := ⟨_, rfl⟩
                  replace H : (if 0 ≤ (ji30) then (if (ji30) < (a0.size : Int) then (solsticeref09_Abbr.j3 kj12 a0 a1 a2 a3 x10_2 x11_2 ((bt a0 (ji30)) == 115)) else (none)) else (none)) = some (r1, r2) := by first | (rw [hji30] at H; exact H) | (simp only [hji30] at H ⊢; exact H)
                  have hji30w : (IntKind.i64.wrap (x11_2 + 1)) = ji30 := (i64_w _).trans hji30
                  by_cases c31 : 0 ≤ (ji30)
                  ·rw [if_pos c31] at H
                   have c31b0 : decide (0 ≤ (ji30)) = true := decide_eq_true c31
                   clear c31
                   by_cases c32 : (ji30) < (a0.size : Int)
                   ·rw [if_pos c32] at H
                    have c32b0 : decide ((ji30) < (a0.size : Int)) = true := decide_eq_true c32
                    clear c32
                    have H' := Aside0.mk H
                    clear H
                    have p28 : 0 ≤ (x11_2 : Int) := of_decide_eq_true (by first | (with_reducible assumption) | assumption)
                    have q28 : x11_2 < (a0.size : Int) := of_decide_eq_true (by first | (with_reducible assumption) | assumption)
                    have hx28 := bt_at a0 x11_2
                    replace p28 := eq_true p28
                    replace q28 := eq_true q28
                    have p33 : 0 ≤ ((ji30) : Int) := of_decide_eq_true (by first | (with_reducible assumption) | assumption)
                    have q33 : (ji30) < (a0.size : Int) := of_decide_eq_true (by first | (with_reducible assumption) | assumption)
                    have hx33 := bt_at a0 (ji30)
                    replace p33 := eq_true p33
                    replace q33 := eq_true q33
                    go_wp2
                    go_meet
                    case rel => exact ⟨_, (((bt a0 (ji30)) == 115)), (by first | rfl | (simp; done) | (simp only [← hji30] <;> (first | rfl | (simp; done))) | (simp [*]; done)), H', ⟨by have := HJ4.out; have := HK2.out; have := HJ12.out; first | omega | exact Nat.le_refl _⟩, ⟨by repeat (first | (with_reducible first | exact HB.out | apply below_alloc | apply pw_below_drewN | apply below_drew1) | exact HB.out)⟩⟩
                   ·rw [if_neg c32] at H
                    exact absurd H (by simp)
                  ·rw [if_neg c31] at H
                   exact absurd H (by simp)
                 ·rw [if_neg c29] at H
                  have c29b0 : ((bt a0 x11_2) == 37) = false := beq_eq_false_iff_ne.mpr c29
                  have c29b1 : ((bt a0 x11_2) != 37) = true := bne_iff_ne.mpr c29
                  (first | rw [c29b0] | (simp only [i64_w, i32_w]; rw [c29b0]) | skip)
                  have H' := Aside0.mk H
                  clear H
                  have p28 : 0 ≤ (x11_2 : Int) := of_decide_eq_true (by first | (with_reducible assumption) | assumption)
                  have q28 : x11_2 < (a0.size : Int) := of_decide_eq_true (by first | (with_reducible assumption) | assumption)
                  have hx28 := bt_at a0 x11_2
                  replace p28 := eq_true p28
                  replace q28 := eq_true q28
                  go_wp2
                  go_meet
                  case rel => exact ⟨_, (false), (by first | rfl | (simp; done) | (simp [*]; done)), H', ⟨by have := HJ4.out; have := HK2.out; have := HJ12.out; first | omega | exact Nat.le_refl _⟩, ⟨by repeat (first | (with_reducible first | exact HB.out | apply below_alloc | apply pw_below_drewN | apply below_drew1) | exact HB.out)⟩⟩
                case rest =>
                 as_aux_lemma =>
                  clear HC27
                  try clear c1
                  try clear p1
                  try clear q1
                  try clear hx1
                  try clear c2
                  try clear p2
                  try clear q2
                  try clear hx2
                  try clear c3
                  try clear p3
                  try clear q3
                  try clear hx3
                  try clear p6
                  try clear c7
                  try clear c9
                  try clear c11
                  try clear c12
                  try clear c12b0
                  try clear c14
                  try clear c14b0
                  try clear p15
                  try clear q15
                  try clear hx15
                  try clear c16
                  try clear c16b0
                  try clear c16b1
                  try clear c17
                  try clear c18
                  try clear c18b0
                  try clear c18b1
                  try clear c19
                  try clear c19b0
                  try clear c19b1
                  try clear c20
                  try clear c20b0
                  try clear c21
                  try clear c21b0
                  try clear p22
                  try clear q22
                  try clear hx22
                  try clear c23
                  try clear c23b0
                  try clear c23b1
                  try clear c25
                  try clear c25b0
                  try clear c25b1
                  try clear c26
                  try clear c26b0
                  try clear c26b1
                  try clear p28
                  try clear q28
                  try clear hx28
                  try clear c29
                  try clear c29b0
                  try clear c29b1
                  try clear c31
                  try clear c31b0
                  try clear c32
                  try clear c32b0
                  try clear p33
                  try clear q33
                  try clear hx33
                  try clear p1
                  try clear p15
                  try clear p2
                  try clear p22
                  try clear p28
                  try clear p33
                  try clear q1
                  try clear q15
                  try clear q22
                  try clear q28
                  try clear q33
                  obtain ⟨kq, x53_26, rfl, HA, HJ26, HB⟩ := hcut
                  cases kq with
                  | zero => exact absurd HA.out (by simp [solsticeref09_Abbr.j3])
                  | succ kj26 =>
                   have H := HA.out
                   clear HA
                   simp only [solsticeref09_Abbr.j3] at H
                   by_cases c34 : x53_26 = true
                   ·subst c34
                    have H1 : (if 0 ≤ x11_2 then (if x11_2 ≤ (a0.size : Int) then (if (a0.extract 0 (x11_2 : Int).toNat).size + a1.size ≤ 9223372036854775807 then (if 0 ≤ (wrap64 (x11_2 + 2)) then (if (wrap64 (x11_2 + 2)) ≤ (a0.size : Int) then (if ((a0.extract 0 (x11_2 : Int).toNat) ++ a1).size + (a0.extract ((wrap64 (x11_2 + 2)) : Int).toNat a0.size).size ≤ 9223372036854775807 then (solsticeref09_Abbr.l0 kj26 a0 a1 a2 a3 (((a0.extract 0 (x11_2 : Int).toNat) ++ a1) ++ (a0.extract ((wrap64 (x11_2 + 2)) : Int).toNat a0.size)) (wrap64 (x11_2 + 1))) else (none)) else (none)) else (none)) else (none)) else (none)) else (none)) = some (r1, r2) := by rw [if_pos rfl] at H; exact H
                    clear H
                    have H := H1
                    clear H1
                    by_cases c35 : 0 ≤ x11_2
                    ·rw [if_pos c35] at H
                     have c35b0 := eq_true c35
                     have c35b1 : decide (0 ≤ x11_2) = true := decide_eq_true c35
                     clear c35
                     by_cases c36 : x11_2 ≤ (a0.size : Int)
                     ·rw [if_pos c36] at H
                      have c36b0 := eq_true c36
                      have c36b1 : decide (x11_2 ≤ (a0.size : Int)) = true := decide_eq_true c36
                      clear c36
                      by_cases c37 : (a0.extract 0 (x11_2 : Int).toNat).size + a1.size ≤ 9223372036854775807
                      ·rw [if_pos c37] at H
                       have c37b0 := eq_true c37
                       have c37b1 : decide ((a0.extract 0 (x11_2 : Int).toNat).size + a1.size ≤ 9223372036854775807) = true := decide_eq_true c37
                       try have c37b3 : (9223372036854775807 < (a0.extract 0 (x11_2 : Int).toNat).size + a1.size) = False := eq_false (Nat.not_lt.2 (by have h_ := c37; simp only [ByteArray.size_append] at h_; omega))
                       try have c37b5 : (9223372036854775807 < x11_2.toNat + a1.size) = False := eq_false (Nat.not_lt.2 (by have h_ := c37; simp only [ByteArray.size_append, ByteArray.size_extract] at h_; simp only [eq_iff_iff, iff_true] at *; omega))
                       try have c37b2 : (9223372036854775807 < (a0.extract 0 (x11_2 : Int).toNat).size + a1.size) = False := eq_false (Nat.not_lt.2 c37)
                       obtain ⟨ji38, hji38⟩ : ∃ j_ : Int, (wrap64 (x11_2 + 2)) = j_ := ⟨_, rfl⟩
                       replace H : (if 0 ≤ (ji38) then (if (ji38) ≤ (a0.size : Int) then (if ((a0.extract 0 (x11_2 : Int).toNat) ++ a1).size + (a0.extract ((ji38) : Int).toNat a0.size).size ≤ 9223372036854775807 then (solsticeref09_Abbr.l0 kj26 a0 a1 a2 a3 (((a0.extract 0 (x11_2 : Int).toNat) ++ a1) ++ (a0.extract ((ji38) : Int).toNat a0.size)) (wrap64 (x11_2 + 1))) else (none)) else (none)) else (none)) = some (r1, r2) := by first | (rw [hji38] at H; exact H) | (simp only [hji38] at H ⊢; exact H)
                       have hji38w : (IntKind.i64.wrap (x11_2 + 2)) = ji38 := (i64_w _).trans hji38
                       by_cases c39 : 0 ≤ (ji38)
                       ·rw [if_pos c39] at H
                        have c39b0 := eq_true c39
                        have c39b1 : decide (0 ≤ (ji38)) = true := decide_eq_true c39
                        clear c39
                        by_cases c40 : (ji38) ≤ (a0.size : Int)
                        ·rw [if_pos c40] at H
                         have c40b0 := eq_true c40
                         have c40b1 : decide ((ji38) ≤ (a0.size : Int)) = true := decide_eq_true c40
                         clear c40
                         by_cases c41 : ((a0.extract 0 (x11_2 : Int).toNat) ++ a1).size + (a0.extract ((ji38) : Int).toNat a0.size).size ≤ 9223372036854775807
                         ·rw [if_pos c41] at H
                          have c41b0 := eq_true c41
                          have c41b1 : decide (((a0.extract 0 (x11_2 : Int).toNat) ++ a1).size + (a0.extract ((ji38) : Int).toNat a0.size).size ≤ 9223372036854775807) = true := decide_eq_true c41
                          try have c41b3 : (9223372036854775807 < ((a0.extract 0 (x11_2 : Int).toNat).size + a1.size) + (a0.extract ((ji38) : Int).toNat a0.size).size) = False := eq_false (Nat.not_lt.2 (by have h_ := c41; simp only [ByteArray.size_append] at h_; omega))
                          try have c41b5 : (9223372036854775807 < (x11_2.toNat + a1.size) + (a0.size - ji38.toNat)) = False := eq_false (Nat.not_lt.2 (by have h_ := c41; simp only [ByteArray.size_append, ByteArray.size_extract] at h_; simp only [eq_iff_iff, iff_true] at *; omega))
                          try have c41b2 : (9223372036854775807 < ((a0.extract 0 (x11_2 : Int).toNat) ++ a1).size + (a0.extract ((ji38) : Int).toNat a0.size).size) = False := eq_false (Nat.not_lt.2 c41)
                          have H' := Aside0.mk H
                          clear H
                          try go_wp2
                          have n0_ := Aside0.mk (below_drew1 HB.out)
                          clear HB
                          have HB := n0_
                          clear n0_
                          refine start_ (n := 11) (S := fun w' => True) (ds := []) #[false, false, false, false, false, false, false, false, false, false, false] (by kernel_rfl) rfl rfl trivial (fun hHeld => ?_); refine with_tabW solsticeref09_Abbr.tab12 solsticeref09_Abbr.bits12 (fun HT_ HW_ => ?_)
                          generalize wc.drew = w42 at HB hHeld ⊢
                          refine pure_ (i := 0) (N := some 65) (v := ?_) (a' := ?_) #[true, false, false, false, false, false, false, false, false, false, false] rfl rfl (any_of HT_.out (by kernel_rfl)) (fun _ _ _ h => h) (Or.inl ⟨by rfl, ?_⟩) ?_ ?_
                          rotate_left
                          ·intro w'
                           go_simp
                           with_reducible rfl
                          rotate_left
                          ·simp only [Act.put, List.setIfInBounds_toArray, List.set_cons_zero, List.set_cons_succ, i64_w, i32_w]
                           rfl
                          refine pure_ (i := 1) (N := some 66) (v := ?_) (a' := ?_) #[true, true, false, false, false, false, false, false, false, false, false] rfl rfl (any_of HT_.out (by kernel_rfl)) (fun _ _ _ h => h) (Or.inl ⟨by rfl, ?_⟩) ?_ ?_
                          rotate_left
                          ·intro w'
                           go_simp
                           with_reducible rfl
                          rotate_left
                          ·simp only [Act.put, List.setIfInBounds_toArray, List.set_cons_zero, List.set_cons_succ, i64_w, i32_w]
                           rfl
                          refine pure_ (i := 2) (N := some 67) (v := ?_) (a' := ?_) #[true, true, true, false, false, false, false, false, false, false, false] rfl rfl (any_of HT_.out (by kernel_rfl)) (fun _ _ _ h => h) (Or.inl ⟨by rfl, ?_⟩) ?_ ?_
                          rotate_left
                          ·intro w'
                           go_simp
                           with_reducible rfl
                          rotate_left
                          ·simp only [Act.put, List.setIfInBounds_toArray, List.set_cons_zero, List.set_cons_succ, i64_w, i32_w]
                           rfl
                          refine pure_ (i := 3) (N := some 68) (v := ?_) (a' := ?_) #[true, true, true, true, false, false, false, false, false, false, false] rfl rfl (any_of HT_.out (by kernel_rfl)) (fun _ _ _ h => h) (Or.inl ⟨by rfl, ?_⟩) ?_ ?_
                          rotate_left
                          ·intro w'
                           go_simp
                           with_reducible rfl
                          rotate_left
                          ·simp only [Act.put, List.setIfInBounds_toArray, List.set_cons_zero, List.set_cons_succ, i64_w, i32_w]
                           rfl
                          refine pure_ (i := 4) (N := some 69) (v := ?_) (a' := ?_) #[true, true, true, true, true, false, false, false, false, false, false] rfl rfl (any_of HT_.out (by kernel_rfl)) (fun _ _ _ h => h) (Or.inl ⟨by rfl, ?_⟩) ?_ ?_
                          rotate_left
                          ·intro w'
                           go_simp
                           with_reducible rfl
                          rotate_left
                          ·simp only [Act.put, List.setIfInBounds_toArray, List.set_cons_zero, List.set_cons_succ, i64_w, i32_w]
                           rfl
                          refine pure_ (i := 5) (N := some 70) (v := ?_) (a' := ?_) #[true, true, true, true, true, true, false, false, false, false, false] rfl rfl (any_of HT_.out (by kernel_rfl)) (fun _ _ _ h => h) (Or.inl ⟨by rfl, ?_⟩) ?_ ?_
                          rotate_left
                          ·intro w'
                           go_simp
                           with_reducible rfl
                          rotate_left
                          ·simp only [Act.put, List.setIfInBounds_toArray, List.set_cons_zero, List.set_cons_succ, i64_w, i32_w]
                           rfl
                          refine pure_ (i := 6) (N := some 71) (v := ?_) (a' := ?_) #[true, true, true, true, true, true, true, false, false, false, false] rfl rfl (any_of HT_.out (by kernel_rfl)) (fun _ _ _ h => h) (Or.inl ⟨by rfl, ?_⟩) ?_ ?_
                          rotate_left
                          ·intro w'
                           go_simp
                           with_reducible rfl
                          rotate_left
                          ·simp only [Act.put, List.setIfInBounds_toArray, List.set_cons_zero, List.set_cons_succ, i64_w, i32_w]
                           rfl
                          refine pure_ (i := 7) (N := some 72) (v := ?_) (a' := ?_) #[true, true, true, true, true, true, true, true, false, false, false] rfl rfl (any_of HT_.out (by kernel_rfl)) (fun _ _ _ h => h) (Or.inl ⟨by rfl, ?_⟩) ?_ ?_
                          rotate_left
                          ·intro w'
                           go_simp
                           with_reducible rfl
                          rotate_left
                          ·simp only [Act.put, List.setIfInBounds_toArray, List.set_cons_zero, List.set_cons_succ, i64_w, i32_w]
                           rfl
                          refine pure_ (i := 8) (N := some 73) (v := ?_) (a' := ?_) #[true, true, true, true, true, true, true, true, true, false, false] rfl rfl (any_of HT_.out (by kernel_rfl)) (fun _ _ _ h => h) (Or.inl ⟨by rfl, ?_⟩) ?_ ?_
                          rotate_left
                          ·intro w'
                           go_simp
                           with_reducible rfl
                          rotate_left
                          ·simp only [Act.put, List.setIfInBounds_toArray, List.set_cons_zero, List.set_cons_succ, i64_w, i32_w]
                           rfl
                          refine pure_ (i := 9) (N := some 74) (v := ?_) (a' := ?_) #[true, true, true, true, true, true, true, true, true, true, false] rfl rfl (any_of HT_.out (by kernel_rfl)) (fun _ _ _ h => h) (Or.inl ⟨by rfl, ?_⟩) ?_ ?_
                          rotate_left
                          ·intro w'
                           go_simp
                           with_reducible rfl
                          rotate_left
                          ·simp only [Act.put, List.setIfInBounds_toArray, List.set_cons_zero, List.set_cons_succ, i64_w, i32_w]
                           rfl
                          refine pure_ (i := 10) (N := some 10) (v := ?_) (a' := ?_) #[true, true, true, true, true, true, true, true, true, true, true] rfl rfl (any_of HT_.out (by kernel_rfl)) (fun _ _ _ h => h) (Or.inl ⟨by rfl, ?_⟩) ?_ ?_
                          rotate_left
                          ·intro w'
                           go_simp
                           with_reducible rfl
                          rotate_left
                          ·simp only [Act.put, List.setIfInBounds_toArray, List.set_cons_zero, List.set_cons_succ, i64_w, i32_w]
                           rfl
                          refine done_ (done_of HT_.out (by kernel_rfl)) ?_
                          try go_wp2
                          go_roundg kj26
                          case measure => have := HJ4.out; have := HK2.out; have := HJ12.out; have := HJ26.out; omega
                          case rel => exact ⟨(((a0.extract 0 (x11_2 : Int).toNat) ++ a1) ++ (a0.extract ((ji38) : Int).toNat a0.size)), (wrap64 (x11_2 + 1)), (by first | rfl | (simp; done) | (simp only [← hji38] <;> (first | rfl | (simp; done))) | (simp [*]; done)), (by first | rfl | (simp; done) | (simp [*]; done)), H', ⟨by have := HJ4.out; have := HK2.out; have := HJ12.out; have := HJ26.out; omega⟩, ⟨by repeat (first | (with_reducible first | exact HB.out | apply below_alloc | apply pw_below_drewN | apply below_drew1) | exact HB.out)⟩⟩
                         ·rw [if_neg c41] at H
                          exact absurd H (by simp)
                        ·rw [if_neg c40] at H
                         exact absurd H (by simp)
                       ·rw [if_neg c39] at H
                        exact absurd H (by simp)
                      ·rw [if_neg c37] at H
                       exact absurd H (by simp)
                     ·rw [if_neg c36] at H
                      exact absurd H (by simp)
                    ·rw [if_neg c35] at H
                     exact absurd H (by simp)
                   ·replace c34 := Bool.eq_false_iff.mpr c34
                    subst c34
                    have H1 : (if 0 ≤ x11_2 then (if x11_2 < (a0.size : Int) then (if (bt a0 x11_2) = 37 then (if x11_2 ≤ (a0.size : Int) then ((solsticeref09_Short.f kj26 a2).bind fun t164 => (if (a0.extract 0 (x11_2 : Int).toNat).size + t164.size ≤ 9223372036854775807 then (if 0 ≤ (wrap64 (x11_2 + 2)) then (if (wrap64 (x11_2 + 2)) ≤ (a0.size : Int) then (if ((a0.extract 0 (x11_2 : Int).toNat) ++ t164).size + (a0.extract ((wrap64 (x11_2 + 2)) : Int).toNat a0.size).size ≤ 9223372036854775807 then (solsticeref09_Abbr.l0 kj26 a0 a1 a2 a3 (((a0.extract 0 (x11_2 : Int).toNat) ++ t164) ++ (a0.extract ((wrap64 (x11_2 + 2)) : Int).toNat a0.size)) (wrap64 (x11_2 + 1))) else (none)) else (none)) else (none)) else (none))) else (none)) else (solsticeref09_Abbr.l0 kj26 a0 a1 a2 a3 x10_2 (wrap64 (x11_2 + 1)))) else (none)) else (none)) = some (r1, r2) := by rw [if_neg (show ¬ (false = true) by decide)] at H; exact H
                    clear H
                    have H := H1
                    clear H1
                    by_cases c43 : 0 ≤ x11_2
                    ·rw [if_pos c43] at H
                     have c43b0 : decide (0 ≤ x11_2) = true := decide_eq_true c43
                     clear c43
                     by_cases c44 : x11_2 < (a0.size : Int)
                     ·rw [if_pos c44] at H
                      have c44b0 : decide (x11_2 < (a0.size : Int)) = true := decide_eq_true c44
                      clear c44
                      by_cases c46 : (bt a0 x11_2) = 37
                      ·rw [if_pos c46] at H
                       have c46b0 : ((bt a0 x11_2) == 37) = true := beq_iff_eq.mpr c46
                       have c46b1 : ((bt a0 x11_2) != 37) = false := bne_eq_false_iff_eq.mpr c46
                       clear c46
                       have c47b0 := eq_true (of_decide_eq_true (by first | (with_reducible assumption) | assumption) : 0 ≤ x11_2)
                       by_cases c48 : x11_2 ≤ (a0.size : Int)
                       ·rw [if_pos c48] at H
                        have c48b0 := eq_true c48
                        have c48b1 : decide (x11_2 ≤ (a0.size : Int)) = true := decide_eq_true c48
                        clear c48
                        replace H := Option.bind_eq_some_iff.mp H
                        obtain ⟨t164, A490, H⟩ := H
                        replace H : (if (a0.extract 0 (x11_2 : Int).toNat).size + t164.size ≤ 9223372036854775807 then (if 0 ≤ (wrap64 (x11_2 + 2)) then (if (wrap64 (x11_2 + 2)) ≤ (a0.size : Int) then (if ((a0.extract 0 (x11_2 : Int).toNat) ++ t164).size + (a0.extract ((wrap64 (x11_2 + 2)) : Int).toNat a0.size).size ≤ 9223372036854775807 then (solsticeref09_Abbr.l0 kj26 a0 a1 a2 a3 (((a0.extract 0 (x11_2 : Int).toNat) ++ t164) ++ (a0.extract ((wrap64 (x11_2 + 2)) : Int).toNat a0.size)) (wrap64 (x11_2 + 1))) else (none)) else (none)) else (none)) else (none)) = some (r1, r2) := H
                        have A49 := Aside0.mk A490
                        clear A490
                        by_cases c50 : (a0.extract 0 (x11_2 : Int).toNat).size + t164.size ≤ 9223372036854775807
                        ·rw [if_pos c50] at H
                         have c50b0 := eq_true c50
                         have c50b1 : decide ((a0.extract 0 (x11_2 : Int).toNat).size + t164.size ≤ 9223372036854775807) = true := decide_eq_true c50
                         try have c50b3 : (9223372036854775807 < (a0.extract 0 (x11_2 : Int).toNat).size + t164.size) = False := eq_false (Nat.not_lt.2 (by have h_ := c50; simp only [ByteArray.size_append] at h_; omega))
                         try have c50b5 : (9223372036854775807 < x11_2.toNat + t164.size) = False := eq_false (Nat.not_lt.2 (by have h_ := c50; simp only [ByteArray.size_append, ByteArray.size_extract] at h_; simp only [eq_iff_iff, iff_true] at *; omega))
                         try have c50b2 : (9223372036854775807 < (a0.extract 0 (x11_2 : Int).toNat).size + t164.size) = False := eq_false (Nat.not_lt.2 c50)
                         obtain ⟨ji51, hji51⟩ : ∃ j_ : Int, (wrap64 (x11_2 + 2)) = j_ := ⟨_, rfl⟩
                         replace H : (if 0 ≤ (ji51) then (if (ji51) ≤ (a0.size : Int) then (if ((a0.extract 0 (x11_2 : Int).toNat) ++ t164).size + (a0.extract ((ji51) : Int).toNat a0.size).size ≤ 9223372036854775807 then (solsticeref09_Abbr.l0 kj26 a0 a1 a2 a3 (((a0.extract 0 (x11_2 : Int).toNat) ++ t164) ++ (a0.extract ((ji51) : Int).toNat a0.size)) (wrap64 (x11_2 + 1))) else (none)) else (none)) else (none)) = some (r1, r2) := by first | (rw [hji51] at H; exact H) | (simp only [hji51] at H ⊢; exact H)
                         (try rw [hji51] at A49)
                         have hji51w : (IntKind.i64.wrap (x11_2 + 2)) = ji51 := (i64_w _).trans hji51
                         by_cases c52 : 0 ≤ (ji51)
                         ·rw [if_pos c52] at H
                          have c52b0 := eq_true c52
                          have c52b1 : decide (0 ≤ (ji51)) = true := decide_eq_true c52
                          clear c52
                          by_cases c53 : (ji51) ≤ (a0.size : Int)
                          ·rw [if_pos c53] at H
                           have c53b0 := eq_true c53
                           have c53b1 : decide ((ji51) ≤ (a0.size : Int)) = true := decide_eq_true c53
                           clear c53
                           by_cases c54 : ((a0.extract 0 (x11_2 : Int).toNat) ++ t164).size + (a0.extract ((ji51) : Int).toNat a0.size).size ≤ 9223372036854775807
                           ·rw [if_pos c54] at H
                            have c54b0 := eq_true c54
                            have c54b1 : decide (((a0.extract 0 (x11_2 : Int).toNat) ++ t164).size + (a0.extract ((ji51) : Int).toNat a0.size).size ≤ 9223372036854775807) = true := decide_eq_true c54
                            try have c54b3 : (9223372036854775807 < ((a0.extract 0 (x11_2 : Int).toNat).size + t164.size) + (a0.extract ((ji51) : Int).toNat a0.size).size) = False := eq_false (Nat.not_lt.2 (by have h_ := c54; simp only [ByteArray.size_append] at h_; omega))
                            try have c54b5 : (9223372036854775807 < (x11_2.toNat + t164.size) + (a0.size - ji51.toNat)) = False := eq_false (Nat.not_lt.2 (by have h_ := c54; simp only [ByteArray.size_append, ByteArray.size_extract] at h_; simp only [eq_iff_iff, iff_true] at *; omega))
                            try have c54b2 : (9223372036854775807 < ((a0.extract 0 (x11_2 : Int).toNat) ++ t164).size + (a0.extract ((ji51) : Int).toNat a0.size).size) = False := eq_false (Nat.not_lt.2 c54)
                            have H' := Aside0.mk H
                            clear H
                            have p45 : 0 ≤ (x11_2 : Int) := of_decide_eq_true (by first | (with_reducible assumption) | assumption)
                            have q45 : x11_2 < (a0.size : Int) := of_decide_eq_true (by first | (with_reducible assumption) | assumption)
                            have hx45 := bt_at a0 x11_2
                            replace p45 := eq_true p45
                            replace q45 := eq_true q45
                            try go_wp2
                            have n0_ := Aside0.mk (below_drew1 HB.out)
                            clear HB
                            have HB := n0_
                            clear n0_
                            refine start_ (n := 12) (S := fun w' => True) (ds := []) #[false, false, false, false, false, false, false, false, false, false, false, false] (by kernel_rfl) rfl rfl trivial (fun hHeld => ?_); refine with_tabW solsticeref09_Abbr.tab14 solsticeref09_Abbr.bits14 (fun HT_ HW_ => ?_)
                            generalize wc.drew = w55 at HB hHeld ⊢
                            refine pure_ (i := 0) (N := some 80) (v := ?_) (a' := ?_) #[true, false, false, false, false, false, false, false, false, false, false, false] rfl rfl (any_of HT_.out (by kernel_rfl)) (fun _ _ _ h => h) (Or.inl ⟨by rfl, ?_⟩) ?_ ?_
                            rotate_left
                            ·intro w'
                             go_simp
                             with_reducible rfl
                            rotate_left
                            ·simp only [Act.put, List.setIfInBounds_toArray, List.set_cons_zero, List.set_cons_succ, i64_w, i32_w]
                             rfl
                            refine pure_ (i := 1) (N := some 81) (v := ?_) (a' := ?_) #[true, true, false, false, false, false, false, false, false, false, false, false] rfl rfl (any_of HT_.out (by kernel_rfl)) (fun _ _ _ h => h) (Or.inl ⟨by rfl, ?_⟩) ?_ ?_
                            rotate_left
                            ·intro w'
                             go_simp
                             with_reducible rfl
                            rotate_left
                            ·simp only [Act.put, List.setIfInBounds_toArray, List.set_cons_zero, List.set_cons_succ, i64_w, i32_w]
                             rfl
                            refine pure_ (i := 2) (N := some 82) (v := ?_) (a' := ?_) #[true, true, true, false, false, false, false, false, false, false, false, false] rfl rfl (any_of HT_.out (by kernel_rfl)) (fun _ _ _ h => h) (Or.inl ⟨by rfl, ?_⟩) ?_ ?_
                            rotate_left
                            ·intro w'
                             go_simp
                             with_reducible rfl
                            rotate_left
                            ·simp only [Act.put, List.setIfInBounds_toArray, List.set_cons_zero, List.set_cons_succ, i64_w, i32_w]
                             rfl
                            refine pure_ (i := 3) (N := some 83) (v := ?_) (a' := ?_) #[true, true, true, true, false, false, false, false, false, false, false, false] rfl rfl (any_of HT_.out (by kernel_rfl)) (fun _ _ _ h => h) (Or.inl ⟨by rfl, ?_⟩) ?_ ?_
                            rotate_left
                            ·intro w'
                             go_simp
                             with_reducible rfl
                            rotate_left
                            ·simp only [Act.put, List.setIfInBounds_toArray, List.set_cons_zero, List.set_cons_succ, i64_w, i32_w]
                             rfl
                            refine pure_ (i := 6) (N := some 86) (v := ?_) (a' := ?_) #[true, true, true, true, false, false, true, false, false, false, false, false] rfl rfl (any_of HT_.out (by kernel_rfl)) (fun _ _ _ h => h) (Or.inl ⟨by rfl, ?_⟩) ?_ ?_
                            rotate_left
                            ·intro w'
                             go_simp
                             with_reducible rfl
                            rotate_left
                            ·simp only [Act.put, List.setIfInBounds_toArray, List.set_cons_zero, List.set_cons_succ, i64_w, i32_w]
                             rfl
                            refine pure_ (i := 7) (N := some 87) (v := ?_) (a' := ?_) #[true, true, true, true, false, false, true, true, false, false, false, false] rfl rfl (any_of HT_.out (by kernel_rfl)) (fun _ _ _ h => h) (Or.inl ⟨by rfl, ?_⟩) ?_ ?_
                            rotate_left
                            ·intro w'
                             go_simp
                             with_reducible rfl
                            rotate_left
                            ·simp only [Act.put, List.setIfInBounds_toArray, List.set_cons_zero, List.set_cons_succ, i64_w, i32_w]
                             rfl
                            refine pure_ (i := 8) (N := some 88) (v := ?_) (a' := ?_) #[true, true, true, true, false, false, true, true, true, false, false, false] rfl rfl (any_of HT_.out (by kernel_rfl)) (fun _ _ _ h => h) (Or.inl ⟨by rfl, ?_⟩) ?_ ?_
                            rotate_left
                            ·intro w'
                             go_simp
                             with_reducible rfl
                            rotate_left
                            ·simp only [Act.put, List.setIfInBounds_toArray, List.set_cons_zero, List.set_cons_succ, i64_w, i32_w]
                             rfl
                            refine pure_ (i := 9) (N := some 89) (v := ?_) (a' := ?_) #[true, true, true, true, false, false, true, true, true, true, false, false] rfl rfl (any_of HT_.out (by kernel_rfl)) (fun _ _ _ h => h) (Or.inl ⟨by rfl, ?_⟩) ?_ ?_
                            rotate_left
                            ·intro w'
                             go_simp
                             with_reducible rfl
                            rotate_left
                            ·simp only [Act.put, List.setIfInBounds_toArray, List.set_cons_zero, List.set_cons_succ, i64_w, i32_w]
                             rfl
                            refine one_ (i := 4) (N := some 84) #[true, true, true, true, true, false, true, true, true, true, false, false] rfl rfl (one_of HT_.out (by kernel_rfl)) (by decide) (fun K hK => ?_)
                            refine goes_ Tryd.func13 (by kernel_rfl) rfl #[.int .i64 a2] (by rfl) rfl rfl (by (try simp only [List.map_toArray, List.map_cons, List.map_nil]); first | done | rfl | (simp only [List.length_drop, List.length_take]; rfl)) ?_
                            with_reducible refine (solsticeref09_Short.calls kj26 a2 t164 _ A49.out).mono ?_
                            rintro e w56 ⟨rfl, hb⟩
                            refine ⟨_, rfl, ?_⟩
                            have n0_ := Aside0.mk (below_step (by repeat (first | (with_reducible first | exact HB.out | apply below_alloc | apply pw_below_drewN | apply below_drew1) | exact HB.out)) hb)
                            clear HB
                            have HB := n0_
                            clear n0_
                            (try clear hb)
                            (try clear hb2)
                            (try clear hk)
                            (try clear hi)
                            refine hK.out _ _ trivial (fun hHeld => ?_)
                            clear hK K
                            refine norm_ (a' := ?_) ?_ ?_
                            rotate_left
                            ·show Act.put _ (some 84) _ = _
                             simp only [Act.put, List.setIfInBounds_toArray, List.set_cons_zero, List.set_cons_succ, i64_w, i32_w]
                             rfl
                            refine pure_ (i := 5) (N := some 85) (v := ?_) (a' := ?_) #[true, true, true, true, true, true, true, true, true, true, false, false] rfl rfl (any_of HT_.out (by kernel_rfl)) (fun _ _ _ h => h) (Or.inl ⟨by rfl, ?_⟩) ?_ ?_
                            rotate_left
                            ·intro w'
                             go_simp
                             with_reducible rfl
                            rotate_left
                            ·simp only [Act.put, List.setIfInBounds_toArray, List.set_cons_zero, List.set_cons_succ, i64_w, i32_w]
                             rfl
                            refine pure_ (i := 10) (N := some 90) (v := ?_) (a' := ?_) #[true, true, true, true, true, true, true, true, true, true, true, false] rfl rfl (any_of HT_.out (by kernel_rfl)) (fun _ _ _ h => h) (Or.inl ⟨by rfl, ?_⟩) ?_ ?_
                            rotate_left
                            ·intro w'
                             go_simp
                             with_reducible rfl
                            rotate_left
                            ·simp only [Act.put, List.setIfInBounds_toArray, List.set_cons_zero, List.set_cons_succ, i64_w, i32_w]
                             rfl
                            refine pure_ (i := 11) (N := some 10) (v := ?_) (a' := ?_) #[true, true, true, true, true, true, true, true, true, true, true, true] rfl rfl (any_of HT_.out (by kernel_rfl)) (fun _ _ _ h => h) (Or.inl ⟨by rfl, ?_⟩) ?_ ?_
                            rotate_left
                            ·intro w'
                             go_simp
                             with_reducible rfl
                            rotate_left
                            ·simp only [Act.put, List.setIfInBounds_toArray, List.set_cons_zero, List.set_cons_succ, i64_w, i32_w]
                             rfl
                            refine done_ (done_of HT_.out (by kernel_rfl)) ?_
                            try go_wp2
                            go_roundg kj26
                            case measure => have := HJ4.out; have := HK2.out; have := HJ12.out; have := HJ26.out; omega
                            case rel => exact ⟨(((a0.extract 0 (x11_2 : Int).toNat) ++ t164) ++ (a0.extract ((ji51) : Int).toNat a0.size)), (wrap64 (x11_2 + 1)), (by first | rfl | (simp; done) | (simp only [← hji51] <;> (first | rfl | (simp; done))) | (simp [*]; done)), (by first | rfl | (simp; done) | (simp [*]; done)), H', ⟨by have := HJ4.out; have := HK2.out; have := HJ12.out; have := HJ26.out; omega⟩, ⟨by repeat (first | (with_reducible first | exact HB.out | apply below_alloc | apply pw_below_drewN | apply below_drew1) | exact HB.out)⟩⟩
                           ·rw [if_neg c54] at H
                            exact absurd H (by simp)
                          ·rw [if_neg c53] at H
                           exact absurd H (by simp)
                         ·rw [if_neg c52] at H
                          exact absurd H (by simp)
                        ·rw [if_neg c50] at H
                         exact absurd H (by simp)
                       ·rw [if_neg c48] at H
                        exact absurd H (by simp)
                      ·rw [if_neg c46] at H
                       have c46b0 : ((bt a0 x11_2) == 37) = false := beq_eq_false_iff_ne.mpr c46
                       have c46b1 : ((bt a0 x11_2) != 37) = true := bne_iff_ne.mpr c46
                       have H' := Aside0.mk H
                       clear H
                       have p45 : 0 ≤ (x11_2 : Int) := of_decide_eq_true (by first | (with_reducible assumption) | assumption)
                       have q45 : x11_2 < (a0.size : Int) := of_decide_eq_true (by first | (with_reducible assumption) | assumption)
                       have hx45 := bt_at a0 x11_2
                       replace p45 := eq_true p45
                       replace q45 := eq_true q45
                       go_wp2
                       go_roundg kj26
                       case measure => have := HJ4.out; have := HK2.out; have := HJ12.out; have := HJ26.out; omega
                       case rel => exact ⟨(x10_2), (wrap64 (x11_2 + 1)), (by first | rfl | (simp; done) | (simp [*]; done)), (by first | rfl | (simp; done) | (simp [*]; done)), H', ⟨by have := HJ4.out; have := HK2.out; have := HJ12.out; have := HJ26.out; omega⟩, ⟨by repeat (first | (with_reducible first | exact HB.out | apply below_alloc | apply pw_below_drewN | apply below_drew1) | exact HB.out)⟩⟩
                     ·rw [if_neg c44] at H
                      exact absurd H (by simp)
                    ·rw [if_neg c43] at H
                     exact absurd H (by simp)
              ·rw [if_neg c21] at H
               exact absurd H (by simp)
             ·rw [if_neg c20] at H
              exact absurd H (by simp)
        ·rw [if_neg c12] at H
         have c12b0 : decide (x11_2 < (a0.size : Int)) = false := decide_eq_false c12
         clear c12
         replace H := Option.bind_eq_some_iff.mp H
         obtain ⟨t163, A570, H⟩ := H
         replace H : (if t163 = true then (some (x10_2, true)) else (some ((⟨#[]⟩ : ByteArray), false))) = some (r1, r2) := H
         have A57 := Aside0.mk A570
         clear A570
         by_cases c58 : t163 = true
         ·subst c58
          have H1 : (some (x10_2, true)) = some (r1, r2) := by rw [if_pos rfl] at H; exact H
          clear H
          have H := H1
          clear H1
          simp only [Option.some.injEq, Prod.mk.injEq] at H
          obtain ⟨rfl, rfl⟩ := H
          go_wp2_with (first | ((with_reducible refine gate_callee (f := 11) rfl ?_); refine goesL_ (some 92) rfl rfl Tryd.func11 (by kernel_rfl) rfl #[.string x10_2, .int .i64 40] rfl (by (try simp only [List.map_toArray, List.map_cons, List.map_nil]); first | done | rfl | (simp only [List.length_drop, List.length_take]; rfl)) ?_; (with_reducible refine (solsticeref09_Plain.calls k2 x10_2 40 true _ A57.out).mono ?_); rintro e w' ⟨rfl, ⟨nd, rfl⟩⟩; refine ⟨_, rfl, ?_⟩))
          go_ret2
          exact ⟨by first | rfl | (simp [errW_none, errW_some] <;> rfl) | (simp [*, errW_none, errW_some] <;> rfl), by repeat (first | (with_reducible first | exact HB.out | apply below_alloc | apply pw_below_drewN | apply below_drew1) | exact HB.out)⟩
         ·replace c58 := Bool.eq_false_iff.mpr c58
          subst c58
          have H1 : (some ((⟨#[]⟩ : ByteArray), false)) = some (r1, r2) := by rw [if_neg (show ¬ (false = true) by decide)] at H; exact H
          clear H
          have H := H1
          clear H1
          simp only [Option.some.injEq, Prod.mk.injEq] at H
          obtain ⟨rfl, rfl⟩ := H
          go_wp2_with (first | ((with_reducible refine gate_callee (f := 11) rfl ?_); refine goesL_ (some 92) rfl rfl Tryd.func11 (by kernel_rfl) rfl #[.string x10_2, .int .i64 40] rfl (by (try simp only [List.map_toArray, List.map_cons, List.map_nil]); first | done | rfl | (simp only [List.length_drop, List.length_take]; rfl)) ?_; (with_reducible refine (solsticeref09_Plain.calls k2 x10_2 40 false _ A57.out).mono ?_); rintro e w' ⟨rfl, ⟨nd, rfl⟩⟩; refine ⟨_, rfl, ?_⟩))
          go_ret2
          exact ⟨by first | rfl | (simp [errW_none, errW_some] <;> rfl) | (simp [*, errW_none, errW_some] <;> rfl), by repeat (first | (with_reducible first | exact HB.out | apply below_alloc | apply pw_below_drewN | apply below_drew1) | exact HB.out)⟩
end Go.Proofs.YtookjnpmbenheaaDoor.PFmt