-- Printed by a program of this session's over the kit's printer; library functions by contracts off the shelf.
import Derived.Test.YtlfohcjajmebjaaDoorGP
import Derived.Test.YtlfohcjajmebjaaDoorPClkx0
import Derived.Test.YtlfohcjajmebjaaDoorPClkx2
import Derived.Test.YtlfohcjajmebjaaDoorPClkx3
import Derived.Test.YtlfohcjajmebjaaDoorPClkx5
namespace Go.Proofs.YtlfohcjajmebjaaDoor.PClk
open Go.RowKit Go.Proofs.YtlfohcjajmebjaaDoorW.PrintWords Go.Proofs.YtlfohcjajmebjaaDoorW.PrintLast Go.Proofs.YtlfohcjajmebjaaDoorW.PrintMore Go.Proofs.YtlfohcjajmebjaaDoor.Base
attribute [local go_sem] max2_int min2_int max_two min_two max_three min_three max_four min_four   -- for this text's walks alone
set_option linter.unusedVariables false
set_option linter.unusedSimpArgs false
def solsticeref01_In.f (a0 : Int) (a1 : Int) (a2 : Int) : Option (Bool) := if a0 ≥ a1 then (some (decide (a0 ≤ a2))) else (some false)
set_option maxHeartbeats 8000000 in
set_option maxRecDepth 100000 in
theorem solsticeref01_In.calls (a0 : Int) (a1 : Int) (a2 : Int) (r : Bool) (w : World) (h : solsticeref01_In.f a0 a1 a2 = some r) :
  Calls Tryd.prog 45 #[.int .i64 a0, .int .i64 a1, .int .i64 a2] w fun e w' => e = .returned (.bool r) ∧ Drawn0 w w' := by
 have H : (if a0 ≥ a1 then (some (decide (a0 ≤ a2))) else (some false)) = some r := h
 clear h
 by_cases c4 : a0 ≥ a1
 ·rw [if_pos c4] at H
  have c4b0 : decide (a1 ≤ a0) = true := decide_eq_true c4
  clear c4
  obtain rfl := Option.some.inj H
  go_enter Tryd.func45, Tryd.ntmps45
  go_wp2
  go_ret
  exact ⟨by first | rfl | (simp; done) | (simp [*]; done), by repeat (first | exact Drawn0.refl _ | apply Drawn0.step)⟩
 ·rw [if_neg c4] at H
  have c4b0 : decide (a1 ≤ a0) = false := decide_eq_false c4
  clear c4
  obtain rfl := Option.some.inj H
  go_enter Tryd.func45, Tryd.ntmps45
  go_wp2
  go_ret
  exact ⟨by first | rfl | (simp; done) | (simp [*]; done), by repeat (first | exact Drawn0.refl _ | apply Drawn0.step)⟩
def solsticeref01_Bound.f (a0 : Int) : Option (Bool) := (solsticeref01_In.f a0 (-4611686018427387904) 4611686018427387904).bind fun t186 => (some t186)
set_option maxHeartbeats 8000000 in
set_option maxRecDepth 100000 in
theorem solsticeref01_Bound.calls (a0 : Int) (r : Bool) (w : World) (h : solsticeref01_Bound.f a0 = some r) :
  Calls Tryd.prog 29 #[.int .i64 a0] w fun e w' => e = .returned (.bool r) ∧ Drawn0 w w' := by
 have H : ((solsticeref01_In.f a0 (-4611686018427387904) 4611686018427387904).bind fun t186 => (some t186)) = some r := h
 clear h
 replace H := Option.bind_eq_some_iff.mp H
 obtain ⟨t186, A20, H⟩ := H
 replace H : (some t186) = some r := H
 have A2 := Aside0.mk A20
 clear A20
 obtain rfl := Option.some.inj H
 go_enter Tryd.func29, Tryd.ntmps29
 go_wp2_with (first | ((with_reducible refine gate_callee (f := 45) rfl ?_); refine goesL_ (some 4) rfl rfl Tryd.func45 (by kernel_rfl) rfl #[.int .i64 a0, .int .i64 (-4611686018427387904), .int .i64 4611686018427387904] rfl (by (try simp only [List.map_toArray, List.map_cons, List.map_nil]); first | done | rfl | (simp only [List.length_drop, List.length_take]; rfl)) ?_; (with_reducible refine (solsticeref01_In.calls a0 (-4611686018427387904) 4611686018427387904 t186 _ A2.out).mono ?_); rintro e w' ⟨rfl, ⟨nd, rfl⟩⟩; refine ⟨_, rfl, ?_⟩))
 go_ret
 exact ⟨by first | rfl | (simp; done) | (simp [*]; done), by repeat (first | exact Drawn0.refl _ | apply Drawn0.step)⟩
def solsticeref01_JoinDay.f (a0 : Int) (a1 : Int) : Option (Int × Bool) := (solsticeref01_In.f a0 (-1125899906842624) 1125899906842624).bind fun t187 => (if t187 = true then ((solsticeref01_Div.f a1 86400).bind fun bt188 => ((solsticeref01_In.f (wrap64 (a0 + bt188.1)) (-53375995583651) 53375995583650).bind fun t190 => (if t190 = true then ((solsticeref01_Bound.f (wrap64 ((wrap64 ((wrap64 (a0 + bt188.1)) * 86400)) + bt188.2))).bind fun t191 => (if t191 = true then (some (wrap64 ((wrap64 ((wrap64 (a0 + bt188.1)) * 86400)) + bt188.2), true)) else (some (0, false)))) else (some (0, false))))) else (some (0, false)))
set_option maxHeartbeats 8000000 in
set_option maxRecDepth 100000 in
theorem solsticeref01_JoinDay.calls (a0 : Int) (a1 : Int) (r1 : Int) (r2 : Bool) (w : World) (h : solsticeref01_JoinDay.f a0 a1 = some (r1, r2)) :
  Calls Tryd.prog 38 #[.int .i64 a0, .int .i64 a1] w fun e w' => e = .returned (.tuple #[.int .i64 r1, .bool r2]) ∧ Drawn0 w w' := by
 have H : ((solsticeref01_In.f a0 (-1125899906842624) 1125899906842624).bind fun t187 => (if t187 = true then ((solsticeref01_Div.f a1 86400).bind fun bt188 => ((solsticeref01_In.f (wrap64 (a0 + bt188.1)) (-53375995583651) 53375995583650).bind fun t190 => (if t190 = true then ((solsticeref01_Bound.f (wrap64 ((wrap64 ((wrap64 (a0 + bt188.1)) * 86400)) + bt188.2))).bind fun t191 => (if t191 = true then (some (wrap64 ((wrap64 ((wrap64 (a0 + bt188.1)) * 86400)) + bt188.2), true)) else (some (0, false)))) else (some (0, false))))) else (some (0, false)))) = some (r1, r2) := h
 clear h
 replace H := Option.bind_eq_some_iff.mp H
 obtain ⟨t187, A30, H⟩ := H
 replace H : (if t187 = true then ((solsticeref01_Div.f a1 86400).bind fun bt188 => ((solsticeref01_In.f (wrap64 (a0 + bt188.1)) (-53375995583651) 53375995583650).bind fun t190 => (if t190 = true then ((solsticeref01_Bound.f (wrap64 ((wrap64 ((wrap64 (a0 + bt188.1)) * 86400)) + bt188.2))).bind fun t191 => (if t191 = true then (some (wrap64 ((wrap64 ((wrap64 (a0 + bt188.1)) * 86400)) + bt188.2), true)) else (some (0, false)))) else (some (0, false))))) else (some (0, false))) = some (r1, r2) := H
 have A3 := Aside0.mk A30
 clear A30
 by_cases c4 : t187 = true
 ·subst c4
  have H1 : ((solsticeref01_Div.f a1 86400).bind fun bt188 => ((solsticeref01_In.f (wrap64 (a0 + bt188.1)) (-53375995583651) 53375995583650).bind fun t190 => (if t190 = true then ((solsticeref01_Bound.f (wrap64 ((wrap64 ((wrap64 (a0 + bt188.1)) * 86400)) + bt188.2))).bind fun t191 => (if t191 = true then (some (wrap64 ((wrap64 ((wrap64 (a0 + bt188.1)) * 86400)) + bt188.2), true)) else (some (0, false)))) else (some (0, false))))) = some (r1, r2) := by rw [if_pos rfl] at H; exact H
  clear H
  have H := H1
  clear H1
  replace H := Option.bind_eq_some_iff.mp H
  obtain ⟨⟨t188, t189⟩, A50, H⟩ := H
  replace H : ((solsticeref01_In.f (wrap64 (a0 + t188)) (-53375995583651) 53375995583650).bind fun t190 => (if t190 = true then ((solsticeref01_Bound.f (wrap64 ((wrap64 ((wrap64 (a0 + t188)) * 86400)) + t189))).bind fun t191 => (if t191 = true then (some (wrap64 ((wrap64 ((wrap64 (a0 + t188)) * 86400)) + t189), true)) else (some (0, false)))) else (some (0, false)))) = some (r1, r2) := H
  have A5 := Aside0.mk A50
  clear A50
  replace H := Option.bind_eq_some_iff.mp H
  obtain ⟨t190, A60, H⟩ := H
  replace H : (if t190 = true then ((solsticeref01_Bound.f (wrap64 ((wrap64 ((wrap64 (a0 + t188)) * 86400)) + t189))).bind fun t191 => (if t191 = true then (some (wrap64 ((wrap64 ((wrap64 (a0 + t188)) * 86400)) + t189), true)) else (some (0, false)))) else (some (0, false))) = some (r1, r2) := H
  have A6 := Aside0.mk A60
  clear A60
  by_cases c7 : t190 = true
  ·subst c7
   have H1 : ((solsticeref01_Bound.f (wrap64 ((wrap64 ((wrap64 (a0 + t188)) * 86400)) + t189))).bind fun t191 => (if t191 = true then (some (wrap64 ((wrap64 ((wrap64 (a0 + t188)) * 86400)) + t189), true)) else (some (0, false)))) = some (r1, r2) := by rw [if_pos rfl] at H; exact H
   clear H
   have H := H1
   clear H1
   replace H := Option.bind_eq_some_iff.mp H
   obtain ⟨t191, A80, H⟩ := H
   replace H : (if t191 = true then (some (wrap64 ((wrap64 ((wrap64 (a0 + t188)) * 86400)) + t189), true)) else (some (0, false))) = some (r1, r2) := H
   have A8 := Aside0.mk A80
   clear A80
   by_cases c9 : t191 = true
   ·subst c9
    have H1 : (some (wrap64 ((wrap64 ((wrap64 (a0 + t188)) * 86400)) + t189), true)) = some (r1, r2) := by rw [if_pos rfl] at H; exact H
    clear H
    have H := H1
    clear H1
    simp only [Option.some.injEq, Prod.mk.injEq] at H
    obtain ⟨rfl, rfl⟩ := H
    go_enter Tryd.func38, Tryd.ntmps38
    go_wp2_with (first | ((with_reducible refine gate_callee (f := 45) rfl ?_); refine goesL_ (some 10) rfl rfl Tryd.func45 (by kernel_rfl) rfl #[.int .i64 a0, .int .i64 (-1125899906842624), .int .i64 1125899906842624] rfl (by (try simp only [List.map_toArray, List.map_cons, List.map_nil]); first | done | rfl | (simp only [List.length_drop, List.length_take]; rfl)) ?_; (with_reducible refine (solsticeref01_In.calls a0 (-1125899906842624) 1125899906842624 true _ A3.out).mono ?_); rintro e w' ⟨rfl, ⟨nd, rfl⟩⟩; refine ⟨_, rfl, ?_⟩) | ((with_reducible refine gate_callee (f := 30) rfl ?_); refine goesL_ (some 14) rfl rfl Tryd.func30 (by kernel_rfl) rfl #[.int .i64 a1, .int .i64 86400] rfl (by (try simp only [List.map_toArray, List.map_cons, List.map_nil]); first | done | rfl | (simp only [List.length_drop, List.length_take]; rfl)) ?_; (with_reducible refine (solsticeref01_Div.calls a1 86400 t188 t189 _ A5.out).mono ?_); rintro e w' ⟨rfl, ⟨nd, rfl⟩⟩; refine ⟨_, rfl, ?_⟩) | ((with_reducible refine gate_callee (f := 45) rfl ?_); refine goesL_ (some 21) rfl rfl Tryd.func45 (by kernel_rfl) rfl #[.int .i64 (wrap64 (a0 + t188)), .int .i64 (-53375995583651), .int .i64 53375995583650] rfl (by (try simp only [List.map_toArray, List.map_cons, List.map_nil]); first | done | rfl | (simp only [List.length_drop, List.length_take]; rfl)) ?_; (with_reducible refine (solsticeref01_In.calls (wrap64 (a0 + t188)) (-53375995583651) 53375995583650 true _ A6.out).mono ?_); rintro e w' ⟨rfl, ⟨nd, rfl⟩⟩; refine ⟨_, rfl, ?_⟩) | (go_at_call 29; (with_reducible refine (solsticeref01_Bound.calls (wrap64 ((wrap64 ((wrap64 (a0 + t188)) * 86400)) + t189)) true _ A8.out).mono ?_); rintro e w' ⟨rfl, ⟨nd, rfl⟩⟩))
    go_ret2
    exact ⟨by first | rfl | (simp; done) | (simp [*]; done), by repeat (first | exact Drawn0.refl _ | apply Drawn0.step)⟩
   ·replace c9 := Bool.eq_false_iff.mpr c9
    subst c9
    have H1 : (some (0, false)) = some (r1, r2) := by rw [if_neg (show ¬ (false = true) by decide)] at H; exact H
    clear H
    have H := H1
    clear H1
    simp only [Option.some.injEq, Prod.mk.injEq] at H
    obtain ⟨rfl, rfl⟩ := H
    go_enter Tryd.func38, Tryd.ntmps38
    go_wp2_with (first | ((with_reducible refine gate_callee (f := 45) rfl ?_); refine goesL_ (some 10) rfl rfl Tryd.func45 (by kernel_rfl) rfl #[.int .i64 a0, .int .i64 (-1125899906842624), .int .i64 1125899906842624] rfl (by (try simp only [List.map_toArray, List.map_cons, List.map_nil]); first | done | rfl | (simp only [List.length_drop, List.length_take]; rfl)) ?_; (with_reducible refine (solsticeref01_In.calls a0 (-1125899906842624) 1125899906842624 true _ A3.out).mono ?_); rintro e w' ⟨rfl, ⟨nd, rfl⟩⟩; refine ⟨_, rfl, ?_⟩) | ((with_reducible refine gate_callee (f := 30) rfl ?_); refine goesL_ (some 14) rfl rfl Tryd.func30 (by kernel_rfl) rfl #[.int .i64 a1, .int .i64 86400] rfl (by (try simp only [List.map_toArray, List.map_cons, List.map_nil]); first | done | rfl | (simp only [List.length_drop, List.length_take]; rfl)) ?_; (with_reducible refine (solsticeref01_Div.calls a1 86400 t188 t189 _ A5.out).mono ?_); rintro e w' ⟨rfl, ⟨nd, rfl⟩⟩; refine ⟨_, rfl, ?_⟩) | ((with_reducible refine gate_callee (f := 45) rfl ?_); refine goesL_ (some 21) rfl rfl Tryd.func45 (by kernel_rfl) rfl #[.int .i64 (wrap64 (a0 + t188)), .int .i64 (-53375995583651), .int .i64 53375995583650] rfl (by (try simp only [List.map_toArray, List.map_cons, List.map_nil]); first | done | rfl | (simp only [List.length_drop, List.length_take]; rfl)) ?_; (with_reducible refine (solsticeref01_In.calls (wrap64 (a0 + t188)) (-53375995583651) 53375995583650 true _ A6.out).mono ?_); rintro e w' ⟨rfl, ⟨nd, rfl⟩⟩; refine ⟨_, rfl, ?_⟩) | (go_at_call 29; (with_reducible refine (solsticeref01_Bound.calls (wrap64 ((wrap64 ((wrap64 (a0 + t188)) * 86400)) + t189)) false _ A8.out).mono ?_); rintro e w' ⟨rfl, ⟨nd, rfl⟩⟩))
    go_ret2
    exact ⟨by first | rfl | (simp; done) | (simp [*]; done), by repeat (first | exact Drawn0.refl _ | apply Drawn0.step)⟩
  ·replace c7 := Bool.eq_false_iff.mpr c7
   subst c7
   have H1 : (some (0, false)) = some (r1, r2) := by rw [if_neg (show ¬ (false = true) by decide)] at H; exact H
   clear H
   have H := H1
   clear H1
   simp only [Option.some.injEq, Prod.mk.injEq] at H
   obtain ⟨rfl, rfl⟩ := H
   go_enter Tryd.func38, Tryd.ntmps38
   go_wp2_with (first | ((with_reducible refine gate_callee (f := 45) rfl ?_); refine goesL_ (some 10) rfl rfl Tryd.func45 (by kernel_rfl) rfl #[.int .i64 a0, .int .i64 (-1125899906842624), .int .i64 1125899906842624] rfl (by (try simp only [List.map_toArray, List.map_cons, List.map_nil]); first | done | rfl | (simp only [List.length_drop, List.length_take]; rfl)) ?_; (with_reducible refine (solsticeref01_In.calls a0 (-1125899906842624) 1125899906842624 true _ A3.out).mono ?_); rintro e w' ⟨rfl, ⟨nd, rfl⟩⟩; refine ⟨_, rfl, ?_⟩) | ((with_reducible refine gate_callee (f := 30) rfl ?_); refine goesL_ (some 14) rfl rfl Tryd.func30 (by kernel_rfl) rfl #[.int .i64 a1, .int .i64 86400] rfl (by (try simp only [List.map_toArray, List.map_cons, List.map_nil]); first | done | rfl | (simp only [List.length_drop, List.length_take]; rfl)) ?_; (with_reducible refine (solsticeref01_Div.calls a1 86400 t188 t189 _ A5.out).mono ?_); rintro e w' ⟨rfl, ⟨nd, rfl⟩⟩; refine ⟨_, rfl, ?_⟩) | ((with_reducible refine gate_callee (f := 45) rfl ?_); refine goesL_ (some 21) rfl rfl Tryd.func45 (by kernel_rfl) rfl #[.int .i64 (wrap64 (a0 + t188)), .int .i64 (-53375995583651), .int .i64 53375995583650] rfl (by (try simp only [List.map_toArray, List.map_cons, List.map_nil]); first | done | rfl | (simp only [List.length_drop, List.length_take]; rfl)) ?_; (with_reducible refine (solsticeref01_In.calls (wrap64 (a0 + t188)) (-53375995583651) 53375995583650 false _ A6.out).mono ?_); rintro e w' ⟨rfl, ⟨nd, rfl⟩⟩; refine ⟨_, rfl, ?_⟩))
   go_ret2
   exact ⟨by first | rfl | (simp; done) | (simp [*]; done), by repeat (first | exact Drawn0.refl _ | apply Drawn0.step)⟩
 ·replace c4 := Bool.eq_false_iff.mpr c4
  subst c4
  have H1 : (some (0, false)) = some (r1, r2) := by rw [if_neg (show ¬ (false = true) by decide)] at H; exact H
  clear H
  have H := H1
  clear H1
  simp only [Option.some.injEq, Prod.mk.injEq] at H
  obtain ⟨rfl, rfl⟩ := H
  go_enter Tryd.func38, Tryd.ntmps38
  go_wp2_with (first | ((with_reducible refine gate_callee (f := 45) rfl ?_); refine goesL_ (some 10) rfl rfl Tryd.func45 (by kernel_rfl) rfl #[.int .i64 a0, .int .i64 (-1125899906842624), .int .i64 1125899906842624] rfl (by (try simp only [List.map_toArray, List.map_cons, List.map_nil]); first | done | rfl | (simp only [List.length_drop, List.length_take]; rfl)) ?_; (with_reducible refine (solsticeref01_In.calls a0 (-1125899906842624) 1125899906842624 false _ A3.out).mono ?_); rintro e w' ⟨rfl, ⟨nd, rfl⟩⟩; refine ⟨_, rfl, ?_⟩))
  go_ret2
  exact ⟨by first | rfl | (simp; done) | (simp [*]; done), by repeat (first | exact Drawn0.refl _ | apply Drawn0.step)⟩
def solsticelaw04_wakes.f (k : Nat)  : Option (Bool) := (clock_Parse.f k (⟨#[45, 49, 58, 51, 48]⟩ : ByteArray)).bind fun bt192 => ((clock_Text.f k 3661).bind fun bt194 => ((clock_Split.f (-1)).bind fun bt196 => ((clock_Join.f k 1 (-1)).bind fun bt198 => (if bt192.2 = 0 then (if bt192.1 = (-5400) then (if bt194.2 = 0 then (if bt194.1.toList = ([49, 58, 48, 49, 58, 48, 49] : List UInt8) then (if bt196.1 = (-1) then (if bt196.2 = 86399 then (if bt198.2 = true then (some (bt198.1 == 86399)) else (some false)) else (some false)) else (some false)) else (some false)) else (some false)) else (some false)) else (some false)))))
theorem solsticelaw04_wakes.mono : ∀ k, LeO (solsticelaw04_wakes.f k ) (solsticelaw04_wakes.f (k + 1) ) := by
 intro  k
 unfold solsticelaw04_wakes.f
 repeat' first
   | (with_reducible exact clock_Join.mono _ _ _)
   | (with_reducible exact clock_Parse.mono _ _)
   | (with_reducible exact clock_Text.mono _ _)
   | (with_reducible exact LeO.refl _)
   | (with_reducible exact LeO.none _)
   | (with_reducible refine LeO.ite ?_ ?_)
   | (with_reducible refine LeO.bind ?_ (fun _ => ?_))
   | exact clock_Join.mono _ _ _
   | exact clock_Parse.mono _ _
   | exact clock_Text.mono _ _
   | exact LeO.none _
   | refine LeO.ite ?_ ?_
   | refine LeO.bind ?_ (fun _ => ?_)
set_option maxHeartbeats 8000000 in
set_option maxRecDepth 100000 in
theorem solsticelaw04_wakes.calls (k : Nat)  (r : Bool) (htrue : r = true) (w : World) (hG : GP w) (h : solsticelaw04_wakes.f k  = some r) :
  Calls Tryd.prog 39 #[] w fun e w' => e = .returned (.bool r) ∧ Below w.heap.size w w' := by
 have HG := Aside0.mk hG
 clear hG
 have HB := Aside0.mk (Below.refl w.heap.size w)
 have H : ((clock_Parse.f k (⟨#[45, 49, 58, 51, 48]⟩ : ByteArray)).bind fun bt192 => ((clock_Text.f k 3661).bind fun bt194 => ((clock_Split.f (-1)).bind fun bt196 => ((clock_Join.f k 1 (-1)).bind fun bt198 => (if bt192.2 = 0 then (if bt192.1 = (-5400) then (if bt194.2 = 0 then (if bt194.1.toList = ([49, 58, 48, 49, 58, 48, 49] : List UInt8) then (if bt196.1 = (-1) then (if bt196.2 = 86399 then (if bt198.2 = true then (some (bt198.1 == 86399)) else (some false)) else (some false)) else (some false)) else (some false)) else (some false)) else (some false)) else (some false)))))) = some r := h
 clear h
 replace H := Option.bind_eq_some_iff.mp H
 obtain ⟨⟨t192, t193⟩, A10, H⟩ := H
 replace H : ((clock_Text.f k 3661).bind fun bt194 => ((clock_Split.f (-1)).bind fun bt196 => ((clock_Join.f k 1 (-1)).bind fun bt198 => (if t193 = 0 then (if t192 = (-5400) then (if bt194.2 = 0 then (if bt194.1.toList = ([49, 58, 48, 49, 58, 48, 49] : List UInt8) then (if bt196.1 = (-1) then (if bt196.2 = 86399 then (if bt198.2 = true then (some (bt198.1 == 86399)) else (some false)) else (some false)) else (some false)) else (some false)) else (some false)) else (some false)) else (some false))))) = some r := H
 have A1 := Aside0.mk A10
 clear A10
 replace H := Option.bind_eq_some_iff.mp H
 obtain ⟨⟨t194, t195⟩, A20, H⟩ := H
 replace H : ((clock_Split.f (-1)).bind fun bt196 => ((clock_Join.f k 1 (-1)).bind fun bt198 => (if t193 = 0 then (if t192 = (-5400) then (if t195 = 0 then (if t194.toList = ([49, 58, 48, 49, 58, 48, 49] : List UInt8) then (if bt196.1 = (-1) then (if bt196.2 = 86399 then (if bt198.2 = true then (some (bt198.1 == 86399)) else (some false)) else (some false)) else (some false)) else (some false)) else (some false)) else (some false)) else (some false)))) = some r := H
 have A2 := Aside0.mk A20
 clear A20
 replace H := Option.bind_eq_some_iff.mp H
 obtain ⟨⟨t196, t197⟩, A30, H⟩ := H
 replace H : ((clock_Join.f k 1 (-1)).bind fun bt198 => (if t193 = 0 then (if t192 = (-5400) then (if t195 = 0 then (if t194.toList = ([49, 58, 48, 49, 58, 48, 49] : List UInt8) then (if t196 = (-1) then (if t197 = 86399 then (if bt198.2 = true then (some (bt198.1 == 86399)) else (some false)) else (some false)) else (some false)) else (some false)) else (some false)) else (some false)) else (some false))) = some r := H
 have A3 := Aside0.mk A30
 clear A30
 replace H := Option.bind_eq_some_iff.mp H
 obtain ⟨⟨t198, t199⟩, A40, H⟩ := H
 replace H : (if t193 = 0 then (if t192 = (-5400) then (if t195 = 0 then (if t194.toList = ([49, 58, 48, 49, 58, 48, 49] : List UInt8) then (if t196 = (-1) then (if t197 = 86399 then (if t199 = true then (some (t198 == 86399)) else (some false)) else (some false)) else (some false)) else (some false)) else (some false)) else (some false)) else (some false)) = some r := H
 have A4 := Aside0.mk A40
 clear A40
 by_cases c5 : t193 = 0
 ·rw [if_pos c5] at H
  have c5b0 : (t193 == 0) = true := beq_iff_eq.mpr c5
  have c5b1 : (t193 != 0) = false := bne_eq_false_iff_eq.mpr c5
  clear c5
  by_cases c6 : t192 = (-5400)
  ·rw [if_pos c6] at H
   have c6b0 : (t192 == (-5400)) = true := beq_iff_eq.mpr c6
   have c6b1 : (t192 != (-5400)) = false := bne_eq_false_iff_eq.mpr c6
   clear c6
   by_cases c7 : t195 = 0
   ·rw [if_pos c7] at H
    have c7b0 : (t195 == 0) = true := beq_iff_eq.mpr c7
    have c7b1 : (t195 != 0) = false := bne_eq_false_iff_eq.mpr c7
    clear c7
    by_cases c8 : t194.toList = ([49, 58, 48, 49, 58, 48, 49] : List UInt8)
    ·rw [if_pos c8] at H
     have c8b0 : (t194.toList == ([49, 58, 48, 49, 58, 48, 49] : List UInt8)) = true := beq_iff_eq.mpr c8
     have c8b1 : (t194.toList != ([49, 58, 48, 49, 58, 48, 49] : List UInt8)) = false := bne_eq_false_iff_eq.mpr c8
     clear c8
     by_cases c9 : t196 = (-1)
     ·rw [if_pos c9] at H
      have c9b0 : (t196 == (-1)) = true := beq_iff_eq.mpr c9
      have c9b1 : (t196 != (-1)) = false := bne_eq_false_iff_eq.mpr c9
      clear c9
      by_cases c10 : t197 = 86399
      ·rw [if_pos c10] at H
       have c10b0 : (t197 == 86399) = true := beq_iff_eq.mpr c10
       have c10b1 : (t197 != 86399) = false := bne_eq_false_iff_eq.mpr c10
       clear c10
       by_cases c11 : t199 = true
       ·subst c11
        have H1 : (some (t198 == 86399)) = some r := by rw [if_pos rfl] at H; exact H
        clear H
        have H := H1
        clear H1
        obtain rfl := Option.some.inj H
        go_enter Tryd.func39, Tryd.ntmps39
        go_wp2_with (first | ((with_reducible refine gate_callee (f := 33) rfl ?_); refine goesL_ (some 10) rfl rfl Tryd.func33 (by kernel_rfl) rfl #[.string (⟨#[45, 49, 58, 51, 48]⟩ : ByteArray)] rfl (by (try simp only [List.map_toArray, List.map_cons, List.map_nil]); first | done | rfl | (simp only [List.length_drop, List.length_take]; rfl)) ?_; (with_reducible refine (clock_Parse.calls k (⟨#[45, 49, 58, 51, 48]⟩ : ByteArray) t192 t193 _ ?sideG A1.out).mono ?_); (case sideG => first | exact GP_below HG.out (by repeat (first | (with_reducible first | exact HB.out | apply below_alloc | apply pw_below_drewN | apply below_drew1) | exact HB.out)) | repeat (first | exact HG.out | refine GP_alloc ?_ _ | refine GP_drewN ?_ _ | refine GP_drew ?_)); rintro e w12 ⟨rfl, hb⟩; refine ⟨_, rfl, ?_⟩; have n0_ := Aside0.mk (below_step (by repeat (first | (with_reducible first | exact HB.out | apply below_alloc | apply pw_below_drewN | apply below_drew1) | exact HB.out)) hb); clear HB; have HB := n0_; clear n0_; (try clear hb); (try clear hb2); (try clear hk); (try clear hi)) | ((with_reducible refine gate_callee (f := 34) rfl ?_); refine goesL_ (some 14) rfl rfl Tryd.func34 (by kernel_rfl) rfl #[.int .i64 3661] rfl (by (try simp only [List.map_toArray, List.map_cons, List.map_nil]); first | done | rfl | (simp only [List.length_drop, List.length_take]; rfl)) ?_; (with_reducible refine (clock_Text.calls k 3661 t194 t195 _ ?sideG A2.out).mono ?_); (case sideG => first | exact GP_below HG.out (by repeat (first | (with_reducible first | exact HB.out | apply below_alloc | apply pw_below_drewN | apply below_drew1) | exact HB.out)) | repeat (first | exact HG.out | refine GP_alloc ?_ _ | refine GP_drewN ?_ _ | refine GP_drew ?_)); rintro e w13 ⟨rfl, hb⟩; refine ⟨_, rfl, ?_⟩; have n0_ := Aside0.mk (below_step (by repeat (first | (with_reducible first | exact HB.out | apply below_alloc | apply pw_below_drewN | apply below_drew1) | exact HB.out)) hb); clear HB; have HB := n0_; clear n0_; (try clear hb); (try clear hb2); (try clear hk); (try clear hi)) | ((with_reducible refine gate_callee (f := 35) rfl ?_); refine goesL_ (some 18) rfl rfl Tryd.func35 (by kernel_rfl) rfl #[.int .i64 (-1)] rfl (by (try simp only [List.map_toArray, List.map_cons, List.map_nil]); first | done | rfl | (simp only [List.length_drop, List.length_take]; rfl)) ?_; (with_reducible refine (clock_Split.calls (-1) t196 t197 _ A3.out).mono ?_); rintro e w' ⟨rfl, ⟨nd, rfl⟩⟩; refine ⟨_, rfl, ?_⟩) | ((with_reducible refine gate_callee (f := 36) rfl ?_); refine goesL_ (some 22) rfl rfl Tryd.func36 (by kernel_rfl) rfl #[.int .i64 1, .int .i64 (-1)] rfl (by (try simp only [List.map_toArray, List.map_cons, List.map_nil]); first | done | rfl | (simp only [List.length_drop, List.length_take]; rfl)) ?_; (with_reducible refine (clock_Join.calls k 1 (-1) t198 true _ A4.out).mono ?_); rintro e w' ⟨rfl, ⟨nd, rfl⟩⟩; refine ⟨_, rfl, ?_⟩))
        go_ret
        exact ⟨by first | rfl | (simp [errW_none, errW_some] <;> rfl) | (simp [*, errW_none, errW_some] <;> rfl), by repeat (first | (with_reducible first | exact HB.out | apply below_alloc | apply pw_below_drewN | apply below_drew1) | exact HB.out)⟩
       ·replace c11 := Bool.eq_false_iff.mpr c11
        subst c11
        have H1 : (some false) = some r := by rw [if_neg (show ¬ (false = true) by decide)] at H; exact H
        clear H
        have H := H1
        clear H1
        obtain rfl := Option.some.inj H
        cases htrue
      ·rw [if_neg c10] at H
       have c10b0 : (t197 == 86399) = false := beq_eq_false_iff_ne.mpr c10
       have c10b1 : (t197 != 86399) = true := bne_iff_ne.mpr c10
       obtain rfl := Option.some.inj H
       cases htrue
     ·rw [if_neg c9] at H
      have c9b0 : (t196 == (-1)) = false := beq_eq_false_iff_ne.mpr c9
      have c9b1 : (t196 != (-1)) = true := bne_iff_ne.mpr c9
      obtain rfl := Option.some.inj H
      cases htrue
    ·rw [if_neg c8] at H
     have c8b0 : (t194.toList == ([49, 58, 48, 49, 58, 48, 49] : List UInt8)) = false := beq_eq_false_iff_ne.mpr c8
     have c8b1 : (t194.toList != ([49, 58, 48, 49, 58, 48, 49] : List UInt8)) = true := bne_iff_ne.mpr c8
     obtain rfl := Option.some.inj H
     cases htrue
   ·rw [if_neg c7] at H
    have c7b0 : (t195 == 0) = false := beq_eq_false_iff_ne.mpr c7
    have c7b1 : (t195 != 0) = true := bne_iff_ne.mpr c7
    obtain rfl := Option.some.inj H
    cases htrue
  ·rw [if_neg c6] at H
   have c6b0 : (t192 == (-5400)) = false := beq_eq_false_iff_ne.mpr c6
   have c6b1 : (t192 != (-5400)) = true := bne_iff_ne.mpr c6
   obtain rfl := Option.some.inj H
   cases htrue
 ·rw [if_neg c5] at H
  have c5b0 : (t193 == 0) = false := beq_eq_false_iff_ne.mpr c5
  have c5b1 : (t193 != 0) = true := bne_iff_ne.mpr c5
  obtain rfl := Option.some.inj H
  cases htrue
mutual
def solsticeref01_Text.j0 : Nat → Int → Int → Bool → Option (ByteArray)
 | 0, _, _, _ => none
 | k + 1, x0, x1, x13 => if x13 = true then (solsticeref01_Text.j1 k x0 0) else (solsticeref01_Text.j1 k x0 x1)
def solsticeref01_Text.j1 : Nat → Int → Int → Option (ByteArray)
 | 0, _, _ => none
 | k + 1, x0, x1 => solsticeref01_Text.l0 k x0 x1 (⟨#[]⟩ : ByteArray)
def solsticeref01_Text.l0 : Nat → Int → Int → ByteArray → Option (ByteArray)
 | 0, _, _, _ => none
 | k + 1, x0, x1, x5 => if x0 > 0 then ((some (([(wrap64 (48 + (Int.tmod x0 10))) % 256] : List Int) : List Int)).bind fun y200 => (if (strOfNums y200).size + x5.size ≤ 9223372036854775807 then (solsticeref01_Text.l0 k (wrap64 (Int.tdiv x0 10)) x1 ((strOfNums y200) ++ x5)) else (none))) else (if (x5.size : Int) = 0 then ((some (([(wrap64 (48 + (Int.tmod x0 10))) % 256] : List Int) : List Int)).bind fun y203 => (if (strOfNums y203).size + x5.size ≤ 9223372036854775807 then (solsticeref01_Text.l0 k (wrap64 (Int.tdiv x0 10)) x1 ((strOfNums y203) ++ x5)) else (none))) else (solsticeref01_Text.l1 k x1 x5))
def solsticeref01_Text.l1 : Nat → Int → ByteArray → Option (ByteArray)
 | 0, _, _ => none
 | k + 1, x1, x5 => if (x5.size : Int) < x1 then (if 1 + x5.size ≤ 9223372036854775807 then (solsticeref01_Text.l1 k x1 ((⟨#[48]⟩ : ByteArray) ++ x5)) else (none)) else (some x5)
end
def solsticeref01_Text.f (k : Nat) (a0 : Int) (a1 : Int) : Option (ByteArray) := if a0 < 0 then (some (⟨#[]⟩ : ByteArray)) else (if a1 < 0 then (solsticeref01_Text.j0 k a0 a1 true) else (solsticeref01_Text.j0 k a0 a1 (decide (a1 > 20))))
theorem solsticeref01_Text.mono_l : ∀ k, (∀ y0 y1 y2, LeO (solsticeref01_Text.j0 k y0 y1 y2) (solsticeref01_Text.j0 (k + 1) y0 y1 y2)) ∧ (∀ y0 y1, LeO (solsticeref01_Text.j1 k y0 y1) (solsticeref01_Text.j1 (k + 1) y0 y1)) ∧ (∀ y0 y1 y2, LeO (solsticeref01_Text.l0 k y0 y1 y2) (solsticeref01_Text.l0 (k + 1) y0 y1 y2)) ∧ (∀ y0 y1, LeO (solsticeref01_Text.l1 k y0 y1) (solsticeref01_Text.l1 (k + 1) y0 y1))
 | 0 => ⟨fun _ _ _ r h => by simp [solsticeref01_Text.j0] at h, fun _ _ r h => by simp [solsticeref01_Text.j1] at h, fun _ _ _ r h => by simp [solsticeref01_Text.l0] at h, fun _ _ r h => by simp [solsticeref01_Text.l1] at h⟩
 | k + 1 => by
  obtain ⟨ih0, ih1, ih2, ih3⟩ := solsticeref01_Text.mono_l k
  refine ⟨?_, ?_, ?_, ?_⟩
  ·intro y0 y1 y2
   unfold solsticeref01_Text.j0
   repeat' first
   | (with_reducible exact ih0 _ _ _)
   | (with_reducible exact ih1 _ _)
   | (with_reducible exact ih2 _ _ _)
   | (with_reducible exact ih3 _ _)
   | (with_reducible exact LeO.refl _)
   | (with_reducible exact LeO.none _)
   | (with_reducible refine LeO.ite ?_ ?_)
   | (with_reducible refine LeO.bind ?_ (fun _ => ?_))
   | exact ih0 _ _ _
   | exact ih1 _ _
   | exact ih2 _ _ _
   | exact ih3 _ _
   | exact LeO.none _
   | refine LeO.ite ?_ ?_
   | refine LeO.bind ?_ (fun _ => ?_)
  ·intro y0 y1
   unfold solsticeref01_Text.j1
   repeat' first
   | (with_reducible exact ih0 _ _ _)
   | (with_reducible exact ih1 _ _)
   | (with_reducible exact ih2 _ _ _)
   | (with_reducible exact ih3 _ _)
   | (with_reducible exact LeO.refl _)
   | (with_reducible exact LeO.none _)
   | (with_reducible refine LeO.ite ?_ ?_)
   | (with_reducible refine LeO.bind ?_ (fun _ => ?_))
   | exact ih0 _ _ _
   | exact ih1 _ _
   | exact ih2 _ _ _
   | exact ih3 _ _
   | exact LeO.none _
   | refine LeO.ite ?_ ?_
   | refine LeO.bind ?_ (fun _ => ?_)
  ·intro y0 y1 y2
   unfold solsticeref01_Text.l0
   repeat' first
   | (with_reducible exact ih0 _ _ _)
   | (with_reducible exact ih1 _ _)
   | (with_reducible exact ih2 _ _ _)
   | (with_reducible exact ih3 _ _)
   | (with_reducible exact LeO.refl _)
   | (with_reducible exact LeO.none _)
   | (with_reducible refine LeO.ite ?_ ?_)
   | (with_reducible refine LeO.bind ?_ (fun _ => ?_))
   | exact ih0 _ _ _
   | exact ih1 _ _
   | exact ih2 _ _ _
   | exact ih3 _ _
   | exact LeO.none _
   | refine LeO.ite ?_ ?_
   | refine LeO.bind ?_ (fun _ => ?_)
  ·intro y0 y1
   unfold solsticeref01_Text.l1
   repeat' first
   | (with_reducible exact ih0 _ _ _)
   | (with_reducible exact ih1 _ _)
   | (with_reducible exact ih2 _ _ _)
   | (with_reducible exact ih3 _ _)
   | (with_reducible exact LeO.refl _)
   | (with_reducible exact LeO.none _)
   | (with_reducible refine LeO.ite ?_ ?_)
   | (with_reducible refine LeO.bind ?_ (fun _ => ?_))
   | exact ih0 _ _ _
   | exact ih1 _ _
   | exact ih2 _ _ _
   | exact ih3 _ _
   | exact LeO.none _
   | refine LeO.ite ?_ ?_
   | refine LeO.bind ?_ (fun _ => ?_)
theorem solsticeref01_Text.mono : ∀ a0 a1 k, LeO (solsticeref01_Text.f k a0 a1) (solsticeref01_Text.f (k + 1) a0 a1) := by
 intro a0 a1 k
 obtain ⟨ih0, ih1, ih2, ih3⟩ := solsticeref01_Text.mono_l k
 unfold solsticeref01_Text.f
 repeat' first
   | (with_reducible exact ih0 _ _ _)
   | (with_reducible exact ih1 _ _)
   | (with_reducible exact ih2 _ _ _)
   | (with_reducible exact ih3 _ _)
   | (with_reducible exact LeO.refl _)
   | (with_reducible exact LeO.none _)
   | (with_reducible refine LeO.ite ?_ ?_)
   | (with_reducible refine LeO.bind ?_ (fun _ => ?_))
   | exact ih0 _ _ _
   | exact ih1 _ _
   | exact ih2 _ _ _
   | exact ih3 _ _
   | exact LeO.none _
   | refine LeO.ite ?_ ?_
   | refine LeO.bind ?_ (fun _ => ?_)
set_option maxHeartbeats 8000000 in
set_option maxRecDepth 100000 in
theorem solsticeref01_Text.calls (k : Nat) (a0 : Int) (a1 : Int) (r : ByteArray) (w : World) (h : solsticeref01_Text.f k a0 a1 = some r) :
  Calls Tryd.prog 28 #[.int .i64 a0, .int .i64 a1] w fun e w' => e = .returned (.string r) ∧ Below w.heap.size w w' := by
 have HB := Aside0.mk (Below.refl w.heap.size w)
 have H : (if a0 < 0 then (some (⟨#[]⟩ : ByteArray)) else (if a1 < 0 then (solsticeref01_Text.j0 k a0 a1 true) else (solsticeref01_Text.j0 k a0 a1 (decide (a1 > 20))))) = some r := h
 clear h
 by_cases c3 : a0 < 0
 ·rw [if_pos c3] at H
  have c3b0 : decide (a0 < 0) = true := decide_eq_true c3
  clear c3
  obtain rfl := Option.some.inj H
  go_enter Tryd.func28, Tryd.ntmps28
  go_wp2
  go_ret
  exact ⟨by first | rfl | (simp [errW_none, errW_some] <;> rfl) | (simp [*, errW_none, errW_some] <;> rfl), by repeat (first | (with_reducible first | exact HB.out | apply below_alloc | apply pw_below_drewN | apply below_drew1) | exact HB.out)⟩
 ·rw [if_neg c3] at H
  have c3b0 : decide (a0 < 0) = false := decide_eq_false c3
  clear c3
  have HC4 := Aside0.mk H
  clear H
  go_enter Tryd.func28, Tryd.ntmps28
  go_upto_region 3 with (fail)
  go_cut [13] (fun v13 wc => ∃ (kq : Nat) (x13_3 : Bool), v13 = .bool x13_3 ∧ Aside0 (solsticeref01_Text.j0 kq a0 a1 x13_3 = some r) ∧ Aside0 (kq ≤ k) ∧ Aside0 (Below w.heap.size w wc))
  case first =>
   have H := HC4.out
   clear HC4
   by_cases c5 : a1 < 0
   ·rw [if_pos c5] at H
    have c5b0 : decide (a1 < 0) = true := decide_eq_true c5
    clear c5
    (first | rw [c5b0] | (simp only [i64_w, i32_w]; rw [c5b0]) | skip)
    have H' := Aside0.mk H
    clear H
    go_wp2
    go_meet
    case rel => exact ⟨_, (true), (by first | rfl | (simp; done) | (simp [*]; done)), H', ⟨by first | omega | exact Nat.le_refl _⟩, ⟨by repeat (first | (with_reducible first | exact HB.out | apply below_alloc | apply pw_below_drewN | apply below_drew1) | exact HB.out)⟩⟩
   ·rw [if_neg c5] at H
    have c5b0 : decide (a1 < 0) = false := decide_eq_false c5
    clear c5
    (first | rw [c5b0] | (simp only [i64_w, i32_w]; rw [c5b0]) | skip)
    have H' := Aside0.mk H
    clear H
    go_wp2
    go_meet
    case rel => exact ⟨_, (decide (a1 > 20)), (by first | rfl | (simp; done) | (simp [*]; done)), H', ⟨by first | omega | exact Nat.le_refl _⟩, ⟨by repeat (first | (with_reducible first | exact HB.out | apply below_alloc | apply pw_below_drewN | apply below_drew1) | exact HB.out)⟩⟩
  case rest =>
   as_aux_lemma =>
    clear HC4
    try clear c2
    try clear p2
    try clear c3
    try clear c3b0
    try clear c5
    try clear c5b0
    obtain ⟨kq, x13_3, rfl, HA, HJ3, HB⟩ := hcut
    cases kq with
    | zero => exact absurd HA.out (by simp [solsticeref01_Text.j0])
    | succ kj3 =>
     have H := HA.out
     clear HA
     simp only [solsticeref01_Text.j0] at H
     have HC6 := Aside0.mk H
     clear H
     go_upto_if 13 with (fail)
     go_cut [1] (fun v1 wc => ∃ (kq : Nat) (x1_5 : Int), v1 = .int .i64 x1_5 ∧ Aside0 (solsticeref01_Text.j1 kq a0 x1_5 = some r) ∧ Aside0 (kq ≤ kj3) ∧ Aside0 (Below w.heap.size w wc))
     case first =>
      have H := HC6.out
      clear HC6
      by_cases c7 : x13_3 = true
      ·subst c7
       have H1 : (solsticeref01_Text.j1 kj3 a0 0) = some r := by rw [if_pos rfl] at H; exact H
       clear H
       have H := H1
       clear H1
       have H' := Aside0.mk H
       clear H
       go_wp2
       go_meet
       case rel => exact ⟨_, (0), (by first | rfl | (simp; done) | (simp [*]; done)), H', ⟨by have := HJ3.out; first | omega | exact Nat.le_refl _⟩, ⟨by repeat (first | (with_reducible first | exact HB.out | apply below_alloc | apply pw_below_drewN | apply below_drew1) | exact HB.out)⟩⟩
      ·replace c7 := Bool.eq_false_iff.mpr c7
       subst c7
       have H1 : (solsticeref01_Text.j1 kj3 a0 a1) = some r := by rw [if_neg (show ¬ (false = true) by decide)] at H; exact H
       clear H
       have H := H1
       clear H1
       have H' := Aside0.mk H
       clear H
       go_wp2
       go_meet
       case rel => exact ⟨_, (a1), (by first | rfl | (simp; done) | (simp [*]; done)), H', ⟨by have := HJ3.out; first | omega | exact Nat.le_refl _⟩, ⟨by repeat (first | (with_reducible first | exact HB.out | apply below_alloc | apply pw_below_drewN | apply below_drew1) | exact HB.out)⟩⟩
     case rest =>
      as_aux_lemma =>
       clear HC6
       try clear c2
       try clear p2
       try clear c3
       try clear c3b0
       try clear c5
       try clear c5b0
       try clear c7
       try clear p2
       obtain ⟨kq, x1_5, rfl, HA, HJ5, HB⟩ := hcut
       cases kq with
       | zero => exact absurd HA.out (by simp [solsticeref01_Text.j1])
       | succ kj5 =>
        have H := HA.out
        clear HA
        simp only [solsticeref01_Text.j1] at H
        have H' := Aside0.mk H
        clear H
        go_wp2
        go_loopg [0, 5] kj5 (fun kq v0 v5 w' => ∃ (x0_3 : Int) (x5_3 : ByteArray), v0 = .int .i64 x0_3 ∧ v5 = .string x5_3 ∧ Aside0 (solsticeref01_Text.l0 kq x0_3 x1_5 x5_3 = some r) ∧ Aside0 (kq ≤ kj5) ∧ Aside0 (Below w.heap.size w w'))
        case atStart => exact ⟨(a0), ((⟨#[]⟩ : ByteArray)), (by first | rfl | (simp; done) | (simp [*]; done)), (by first | rfl | (simp; done) | (simp [*]; done)), H', ⟨Nat.le_refl _⟩, ⟨by repeat (first | (with_reducible first | exact HB.out | apply below_alloc | apply pw_below_drewN | apply below_drew1) | exact HB.out)⟩⟩
        case round =>
         as_aux_lemma =>
          clear H'
          try clear c2
          try clear p2
          try clear c3
          try clear c3b0
          try clear c5
          try clear c5b0
          try clear c7
          try clear p2
          obtain ⟨x0_3, x5_3, rfl, rfl, HA, HK3, HB⟩ := hrel
          cases gk with
          | zero => exact absurd HA.out (by simp [solsticeref01_Text.l0])
          | succ k3 =>
           have H := HA.out
           clear HA
           simp only [solsticeref01_Text.l0] at H
           by_cases c8 : x0_3 > 0
           ·rw [if_pos c8] at H
            have c8b0 : decide (0 < x0_3) = true := decide_eq_true c8
            clear c8
            obtain ⟨y200, hy200⟩ : ∃ y_ : List Int, y_ = (([(wrap64 (48 + (Int.tmod x0_3 10))) % 256] : List Int)) := ⟨_, rfl⟩
            replace H : (if (strOfNums y200).size + x5_3.size ≤ 9223372036854775807 then (solsticeref01_Text.l0 k3 (wrap64 (Int.tdiv x0_3 10)) x1_5 ((strOfNums y200) ++ x5_3)) else (none)) = some r := by first | (rw [hy200]; with_reducible exact H) | (have H2_ := (Option.bind_some _ _).symm.trans H; rw [hy200]; with_reducible exact H2_) | (have H2_ := (Option.bind_some _ _).symm.trans H; with_reducible exact H2_) | with_reducible exact H | (rw [hy200]; exact H) | exact H
            have Ny200 := Aside0.mk hy200
            clear hy200
            by_cases c9 : (strOfNums y200).size + x5_3.size ≤ 9223372036854775807
            ·rw [if_pos c9] at H
             have c9b0 := eq_true c9
             have c9b1 : decide ((strOfNums y200).size + x5_3.size ≤ 9223372036854775807) = true := decide_eq_true c9
             try have c9b2 : (9223372036854775807 < (strOfNums y200).size + x5_3.size) = False := eq_false (Nat.not_lt.2 c9)
             have H' := Aside0.mk H
             clear H
             go_wp2_with (first | ((with_reducible refine gate_dst (N := 25) rfl ?_); (try (refine gate_guard (by rfl) ?_; dsimp only)); refine Kd.R_lit (Kd.int .u8) _ 5 ?hg (N := 25) ?hd (xs := ([(wrap64 (48 + (Int.tmod x0_3 10))) % 256] : List Int)) (inner := [.int .u8 ((wrap64 (48 + (Int.tmod x0_3 10))) % 256)]) (ok := fun _ => True) (okp := fun _ => True) ?hr ?hp (fun _ hk => hk) trivial (Below.refl _ _) (Nat.le_refl _) (by simp) ?_; (case hd => rfl); (case hg => rfl); (case hr => first | (go_simp; done) | (go_simp; rfl)); (case hp => exact (Reps.one (show Kd.M (Kd.int .u8) _ _ _ ((wrap64 (48 + (Int.tmod x0_3 10))) % 256) [.int .u8 ((wrap64 (48 + (Int.tmod x0_3 10))) % 256)] from rfl) (Reps.none _ _))); intro v201 w10 ho11 hb hg_ hnew_; clear hg_ hnew_; (first | rw [← Ny200.out] at ho11 | (simp only [Int.reduceToNat] at ho11; rw [← Ny200.out] at ho11)); have n0_ := Aside0.mk (Kd.R_lower ho11 (below_size (by repeat (first | (with_reducible first | exact HB.out | apply below_alloc | apply pw_below_drewN | apply below_drew1) | exact HB.out)))); have n1_ := Aside0.mk (below_step (by repeat (first | (with_reducible first | exact HB.out | apply below_alloc | apply pw_below_drewN | apply below_drew1) | exact HB.out)) hb); clear HB; have HO202 := n0_; have HB := n1_; clear n0_ n1_; clear hb ho11; have hcv12 := own_string (P := Tryd.prog) Tryd.underlying26 Tryd.underlying5 Tryd.underlying9 (Kd.own_of_R HO202.out)))
             go_roundg k3
             case measure => have := HJ3.out; have := HJ5.out; have := HK3.out; omega
             case rel => exact ⟨(wrap64 (Int.tdiv x0_3 10)), ((strOfNums y200) ++ x5_3), (by first | rfl | (simp; done) | (simp [*]; done)), (by first | rfl | (simp; done) | (simp [*]; done)), H', ⟨by have := HJ3.out; have := HJ5.out; have := HK3.out; omega⟩, ⟨by repeat (first | (with_reducible first | exact HB.out | apply below_alloc | apply pw_below_drewN | apply below_drew1) | exact HB.out)⟩⟩
            ·rw [if_neg c9] at H
             exact absurd H (by simp)
           ·rw [if_neg c8] at H
            have c8b0 : decide (0 < x0_3) = false := decide_eq_false c8
            clear c8
            by_cases c13 : (x5_3.size : Int) = 0
            ·rw [if_pos c13] at H
             have c13b0 : ((x5_3.size : Int) == 0) = true := beq_iff_eq.mpr c13
             have c13b1 : ((x5_3.size : Int) != 0) = false := bne_eq_false_iff_eq.mpr c13
             clear c13
             obtain ⟨y203, hy203⟩ : ∃ y_ : List Int, y_ = (([(wrap64 (48 + (Int.tmod x0_3 10))) % 256] : List Int)) := ⟨_, rfl⟩
             replace H : (if (strOfNums y203).size + x5_3.size ≤ 9223372036854775807 then (solsticeref01_Text.l0 k3 (wrap64 (Int.tdiv x0_3 10)) x1_5 ((strOfNums y203) ++ x5_3)) else (none)) = some r := by first | (rw [hy203]; with_reducible exact H) | (have H2_ := (Option.bind_some _ _).symm.trans H; rw [hy203]; with_reducible exact H2_) | (have H2_ := (Option.bind_some _ _).symm.trans H; with_reducible exact H2_) | with_reducible exact H | (rw [hy203]; exact H) | exact H
             have Ny203 := Aside0.mk hy203
             clear hy203
             by_cases c14 : (strOfNums y203).size + x5_3.size ≤ 9223372036854775807
             ·rw [if_pos c14] at H
              have c14b0 := eq_true c14
              have c14b1 : decide ((strOfNums y203).size + x5_3.size ≤ 9223372036854775807) = true := decide_eq_true c14
              try have c14b2 : (9223372036854775807 < (strOfNums y203).size + x5_3.size) = False := eq_false (Nat.not_lt.2 c14)
              have H' := Aside0.mk H
              clear H
              go_wp2_with (first | ((with_reducible refine gate_dst (N := 25) rfl ?_); (try (refine gate_guard (by rfl) ?_; dsimp only)); refine Kd.R_lit (Kd.int .u8) _ 5 ?hg (N := 25) ?hd (xs := ([(wrap64 (48 + (Int.tmod x0_3 10))) % 256] : List Int)) (inner := [.int .u8 ((wrap64 (48 + (Int.tmod x0_3 10))) % 256)]) (ok := fun _ => True) (okp := fun _ => True) ?hr ?hp (fun _ hk => hk) trivial (Below.refl _ _) (Nat.le_refl _) (by simp) ?_; (case hd => rfl); (case hg => rfl); (case hr => first | (go_simp; done) | (go_simp; rfl)); (case hp => exact (Reps.one (show Kd.M (Kd.int .u8) _ _ _ ((wrap64 (48 + (Int.tmod x0_3 10))) % 256) [.int .u8 ((wrap64 (48 + (Int.tmod x0_3 10))) % 256)] from rfl) (Reps.none _ _))); intro v204 w15 ho16 hb hg_ hnew_; clear hg_ hnew_; (first | rw [← Ny203.out] at ho16 | (simp only [Int.reduceToNat] at ho16; rw [← Ny203.out] at ho16)); have n0_ := Aside0.mk (Kd.R_lower ho16 (below_size (by repeat (first | (with_reducible first | exact HB.out | apply below_alloc | apply pw_below_drewN | apply below_drew1) | exact HB.out)))); have n1_ := Aside0.mk (below_step (by repeat (first | (with_reducible first | exact HB.out | apply below_alloc | apply pw_below_drewN | apply below_drew1) | exact HB.out)) hb); clear HB; have HO205 := n0_; have HB := n1_; clear n0_ n1_; clear hb ho16; have hcv17 := own_string (P := Tryd.prog) Tryd.underlying26 Tryd.underlying5 Tryd.underlying9 (Kd.own_of_R HO205.out)))
              go_roundg k3
              case measure => have := HJ3.out; have := HJ5.out; have := HK3.out; omega
              case rel => exact ⟨(wrap64 (Int.tdiv x0_3 10)), ((strOfNums y203) ++ x5_3), (by first | rfl | (simp; done) | (simp [*]; done)), (by first | rfl | (simp; done) | (simp [*]; done)), H', ⟨by have := HJ3.out; have := HJ5.out; have := HK3.out; omega⟩, ⟨by repeat (first | (with_reducible first | exact HB.out | apply below_alloc | apply pw_below_drewN | apply below_drew1) | exact HB.out)⟩⟩
             ·rw [if_neg c14] at H
              exact absurd H (by simp)
            ·rw [if_neg c13] at H
             have c13b0 : ((x5_3.size : Int) == 0) = false := beq_eq_false_iff_ne.mpr c13
             have c13b1 : ((x5_3.size : Int) != 0) = true := bne_iff_ne.mpr c13
             have H' := Aside0.mk H
             clear H
             go_wp2
             go_loopg [5] k3 (fun kq v5 w' => ∃ (x5_4 : ByteArray), v5 = .string x5_4 ∧ Aside0 (solsticeref01_Text.l1 kq x1_5 x5_4 = some r) ∧ Aside0 (kq ≤ k3) ∧ Aside0 (Below w.heap.size w w'))
             case atStart => exact ⟨(x5_3), (by first | rfl | (simp; done) | (simp [*]; done)), H', ⟨Nat.le_refl _⟩, ⟨by repeat (first | (with_reducible first | exact HB.out | apply below_alloc | apply pw_below_drewN | apply below_drew1) | exact HB.out)⟩⟩
             case round =>
              clear H'
              try clear c1
              try clear hcv1
              try clear c2
              try clear p2
              try clear c3
              try clear c3b0
              try clear c5
              try clear c5b0
              try clear p6
              try clear c7
              try clear c8
              try clear c8b0
              try clear c9
              try clear c9b0
              try clear c9b1
              try clear c9b2
              try clear hcv12
              try clear c13
              try clear c13b0
              try clear c13b1
              try clear c14
              try clear c14b0
              try clear c14b1
              try clear c14b2
              try clear hcv17
              try clear p2
              obtain ⟨x5_4, rfl, HA, HK4, HB⟩ := hrel
              cases gk with
              | zero => exact absurd HA.out (by simp [solsticeref01_Text.l1])
              | succ k4 =>
               have H := HA.out
               clear HA
               simp only [solsticeref01_Text.l1] at H
               by_cases c18 : (x5_4.size : Int) < x1_5
               ·rw [if_pos c18] at H
                have c18b0 : decide ((x5_4.size : Int) < x1_5) = true := decide_eq_true c18
                clear c18
                by_cases c19 : 1 + x5_4.size ≤ 9223372036854775807
                ·rw [if_pos c19] at H
                 have c19b0 := eq_true c19
                 have c19b1 : decide (1 + x5_4.size ≤ 9223372036854775807) = true := decide_eq_true c19
                 try have c19b2 : (9223372036854775807 < 1 + x5_4.size) = False := eq_false (Nat.not_lt.2 c19)
                 have H' := Aside0.mk H
                 clear H
                 go_wp2
                 go_roundg k4
                 case measure => have := HJ3.out; have := HJ5.out; have := HK3.out; have := HK4.out; omega
                 case rel => exact ⟨((⟨#[48]⟩ : ByteArray) ++ x5_4), (by first | rfl | (simp; done) | (simp [*]; done)), H', ⟨by have := HJ3.out; have := HJ5.out; have := HK3.out; have := HK4.out; omega⟩, ⟨by repeat (first | (with_reducible first | exact HB.out | apply below_alloc | apply pw_below_drewN | apply below_drew1) | exact HB.out)⟩⟩
                ·rw [if_neg c19] at H
                 exact absurd H (by simp)
               ·rw [if_neg c18] at H
                have c18b0 : decide ((x5_4.size : Int) < x1_5) = false := decide_eq_false c18
                clear c18
                obtain rfl := Option.some.inj H
                go_wp2
                go_ret
                exact ⟨by first | rfl | (simp [errW_none, errW_some] <;> rfl) | (simp [*, errW_none, errW_some] <;> rfl), by repeat (first | (with_reducible first | exact HB.out | apply below_alloc | apply pw_below_drewN | apply below_drew1) | exact HB.out)⟩
def solsticeref01_ClockText.j0 : Nat → Int → ByteArray → Option (ByteArray)
 | 0, _, _ => none
 | k + 1, x0, x3 => (solsticeref01_Text.f k (wrap64 (Int.tdiv x0 3600)) 0).bind fun t206 => (if x3.size + t206.size ≤ 9223372036854775807 then (if (Int.tmod x0 3600) = 0 then (if (Int.tmod x0 60) = 0 then (some (x3 ++ t206)) else (if (x3 ++ t206).size + 1 ≤ 9223372036854775807 then ((solsticeref01_Text.f k (Int.tmod x0 60) 2).bind fun t207 => (if ((x3 ++ t206) ++ (⟨#[58]⟩ : ByteArray)).size + t207.size ≤ 9223372036854775807 then (some (((x3 ++ t206) ++ (⟨#[58]⟩ : ByteArray)) ++ t207)) else (none))) else (none))) else (if (x3 ++ t206).size + 1 ≤ 9223372036854775807 then ((solsticeref01_Text.f k (Int.tmod (wrap64 (Int.tdiv x0 60)) 60) 2).bind fun t208 => (if ((x3 ++ t206) ++ (⟨#[58]⟩ : ByteArray)).size + t208.size ≤ 9223372036854775807 then (if (Int.tmod x0 60) = 0 then (some (((x3 ++ t206) ++ (⟨#[58]⟩ : ByteArray)) ++ t208)) else (if (((x3 ++ t206) ++ (⟨#[58]⟩ : ByteArray)) ++ t208).size + 1 ≤ 9223372036854775807 then ((solsticeref01_Text.f k (Int.tmod x0 60) 2).bind fun t209 => (if ((((x3 ++ t206) ++ (⟨#[58]⟩ : ByteArray)) ++ t208) ++ (⟨#[58]⟩ : ByteArray)).size + t209.size ≤ 9223372036854775807 then (some (((((x3 ++ t206) ++ (⟨#[58]⟩ : ByteArray)) ++ t208) ++ (⟨#[58]⟩ : ByteArray)) ++ t209)) else (none))) else (none))) else (none))) else (none))) else (none))
def solsticeref01_ClockText.f (k : Nat) (a0 : Int) : Option (ByteArray) := if a0 < 0 then (solsticeref01_ClockText.j0 k (wrap64 (-a0)) (⟨#[45]⟩ : ByteArray)) else (solsticeref01_ClockText.j0 k a0 (⟨#[]⟩ : ByteArray))
theorem solsticeref01_ClockText.mono_l : ∀ k, (∀ y0 y1, LeO (solsticeref01_ClockText.j0 k y0 y1) (solsticeref01_ClockText.j0 (k + 1) y0 y1))
 | 0 => fun _ _ r h => by simp [solsticeref01_ClockText.j0] at h
 | k + 1 => by
  have ih0 := solsticeref01_ClockText.mono_l k
  ·intro y0 y1
   unfold solsticeref01_ClockText.j0
   repeat' first
   | (with_reducible exact ih0 _ _)
   | (with_reducible exact solsticeref01_Text.mono _ _ _)
   | (with_reducible exact LeO.refl _)
   | (with_reducible exact LeO.none _)
   | (with_reducible refine LeO.ite ?_ ?_)
   | (with_reducible refine LeO.bind ?_ (fun _ => ?_))
   | exact ih0 _ _
   | exact solsticeref01_Text.mono _ _ _
   | exact LeO.none _
   | refine LeO.ite ?_ ?_
   | refine LeO.bind ?_ (fun _ => ?_)
theorem solsticeref01_ClockText.mono : ∀ a0 k, LeO (solsticeref01_ClockText.f k a0) (solsticeref01_ClockText.f (k + 1) a0) := by
 intro a0 k
 have ih0 := solsticeref01_ClockText.mono_l k
 unfold solsticeref01_ClockText.f
 repeat' first
   | (with_reducible exact ih0 _ _)
   | (with_reducible exact solsticeref01_Text.mono _ _ _)
   | (with_reducible exact LeO.refl _)
   | (with_reducible exact LeO.none _)
   | (with_reducible refine LeO.ite ?_ ?_)
   | (with_reducible refine LeO.bind ?_ (fun _ => ?_))
   | exact ih0 _ _
   | exact solsticeref01_Text.mono _ _ _
   | exact LeO.none _
   | refine LeO.ite ?_ ?_
   | refine LeO.bind ?_ (fun _ => ?_)
set_option maxHeartbeats 8000000 in
set_option maxRecDepth 100000 in
theorem solsticeref01_ClockText.calls (k : Nat) (a0 : Int) (r : ByteArray) (w : World) (h : solsticeref01_ClockText.f k a0 = some r) :
  Calls Tryd.prog 40 #[.int .i64 a0] w fun e w' => e = .returned (.string r) ∧ Below w.heap.size w w' := by
 have HB := Aside0.mk (Below.refl w.heap.size w)
 have H : (if a0 < 0 then (solsticeref01_ClockText.j0 k (wrap64 (-a0)) (⟨#[45]⟩ : ByteArray)) else (solsticeref01_ClockText.j0 k a0 (⟨#[]⟩ : ByteArray))) = some r := h
 clear h
 have HC2 := Aside0.mk H
 clear H
 go_enter Tryd.func40, Tryd.ntmps40
 go_upto_if 5 with (fail)
 go_cut [0, 3] (fun v0 v3 wc => ∃ (kq : Nat) (x0_1 : Int) (x3_1 : ByteArray), v0 = .int .i64 x0_1 ∧ v3 = .string x3_1 ∧ Aside0 (solsticeref01_ClockText.j0 kq x0_1 x3_1 = some r) ∧ Aside0 (kq ≤ k) ∧ Aside0 (Below w.heap.size w wc))
 case first =>
  have H := HC2.out
  clear HC2
  by_cases c3 : a0 < 0
  ·rw [if_pos c3] at H
   have c3b0 : decide (a0 < 0) = true := decide_eq_true c3
   clear c3
   (first | rw [c3b0] | (simp only [i64_w, i32_w]; rw [c3b0]) | skip)
   have H' := Aside0.mk H
   clear H
   go_wp2
   go_meet
   case rel => exact ⟨_, (wrap64 (-a0)), ((⟨#[45]⟩ : ByteArray)), (by first | rfl | (simp; done) | (simp [*]; done)), (by first | rfl | (simp; done) | (simp [*]; done)), H', ⟨by first | omega | exact Nat.le_refl _⟩, ⟨by repeat (first | (with_reducible first | exact HB.out | apply below_alloc | apply pw_below_drewN | apply below_drew1) | exact HB.out)⟩⟩
  ·rw [if_neg c3] at H
   have c3b0 : decide (a0 < 0) = false := decide_eq_false c3
   clear c3
   (first | rw [c3b0] | (simp only [i64_w, i32_w]; rw [c3b0]) | skip)
   have H' := Aside0.mk H
   clear H
   go_wp2
   go_meet
   case rel => exact ⟨_, (a0), ((⟨#[]⟩ : ByteArray)), (by first | rfl | (simp; done) | (simp [*]; done)), (by first | rfl | (simp; done) | (simp [*]; done)), H', ⟨by first | omega | exact Nat.le_refl _⟩, ⟨by repeat (first | (with_reducible first | exact HB.out | apply below_alloc | apply pw_below_drewN | apply below_drew1) | exact HB.out)⟩⟩
 case rest =>
  as_aux_lemma =>
   clear HC2
   try clear p2
   try clear c3
   try clear c3b0
   obtain ⟨kq, x0_1, x3_1, rfl, rfl, HA, HJ1, HB⟩ := hcut
   cases kq with
   | zero => exact absurd HA.out (by simp [solsticeref01_ClockText.j0])
   | succ kj1 =>
    have H := HA.out
    clear HA
    simp only [solsticeref01_ClockText.j0] at H
    replace H := Option.bind_eq_some_iff.mp H
    obtain ⟨t206, A40, H⟩ := H
    replace H : (if x3_1.size + t206.size ≤ 9223372036854775807 then (if (Int.tmod x0_1 3600) = 0 then (if (Int.tmod x0_1 60) = 0 then (some (x3_1 ++ t206)) else (if (x3_1 ++ t206).size + 1 ≤ 9223372036854775807 then ((solsticeref01_Text.f kj1 (Int.tmod x0_1 60) 2).bind fun t207 => (if ((x3_1 ++ t206) ++ (⟨#[58]⟩ : ByteArray)).size + t207.size ≤ 9223372036854775807 then (some (((x3_1 ++ t206) ++ (⟨#[58]⟩ : ByteArray)) ++ t207)) else (none))) else (none))) else (if (x3_1 ++ t206).size + 1 ≤ 9223372036854775807 then ((solsticeref01_Text.f kj1 (Int.tmod (wrap64 (Int.tdiv x0_1 60)) 60) 2).bind fun t208 => (if ((x3_1 ++ t206) ++ (⟨#[58]⟩ : ByteArray)).size + t208.size ≤ 9223372036854775807 then (if (Int.tmod x0_1 60) = 0 then (some (((x3_1 ++ t206) ++ (⟨#[58]⟩ : ByteArray)) ++ t208)) else (if (((x3_1 ++ t206) ++ (⟨#[58]⟩ : ByteArray)) ++ t208).size + 1 ≤ 9223372036854775807 then ((solsticeref01_Text.f kj1 (Int.tmod x0_1 60) 2).bind fun t209 => (if ((((x3_1 ++ t206) ++ (⟨#[58]⟩ : ByteArray)) ++ t208) ++ (⟨#[58]⟩ : ByteArray)).size + t209.size ≤ 9223372036854775807 then (some (((((x3_1 ++ t206) ++ (⟨#[58]⟩ : ByteArray)) ++ t208) ++ (⟨#[58]⟩ : ByteArray)) ++ t209)) else (none))) else (none))) else (none))) else (none))) else (none)) = some r := H
    have A4 := Aside0.mk A40
    clear A40
    by_cases c5 : x3_1.size + t206.size ≤ 9223372036854775807
    ·rw [if_pos c5] at H
     have c5b0 := eq_true c5
     have c5b1 : decide (x3_1.size + t206.size ≤ 9223372036854775807) = true := decide_eq_true c5
     try have c5b2 : (9223372036854775807 < x3_1.size + t206.size) = False := eq_false (Nat.not_lt.2 c5)
     by_cases c6 : (Int.tmod x0_1 3600) = 0
     ·rw [if_pos c6] at H
      have c6b0 : ((Int.tmod x0_1 3600) == 0) = true := beq_iff_eq.mpr c6
      have c6b1 : ((Int.tmod x0_1 3600) != 0) = false := bne_eq_false_iff_eq.mpr c6
      clear c6
      by_cases c7 : (Int.tmod x0_1 60) = 0
      ·rw [if_pos c7] at H
       have c7b0 : ((Int.tmod x0_1 60) == 0) = true := beq_iff_eq.mpr c7
       have c7b1 : ((Int.tmod x0_1 60) != 0) = false := bne_eq_false_iff_eq.mpr c7
       clear c7
       obtain rfl := Option.some.inj H
       go_wp2_with (first | ((with_reducible refine gate_callee (f := 28) rfl ?_); refine goesL_ (some 11) rfl rfl Tryd.func28 (by kernel_rfl) rfl #[.int .i64 (wrap64 (Int.tdiv x0_1 3600)), .int .i64 0] rfl (by (try simp only [List.map_toArray, List.map_cons, List.map_nil]); first | done | rfl | (simp only [List.length_drop, List.length_take]; rfl)) ?_; (with_reducible refine (solsticeref01_Text.calls kj1 (wrap64 (Int.tdiv x0_1 3600)) 0 t206 _ A4.out).mono ?_); rintro e w8 ⟨rfl, hb⟩; refine ⟨_, rfl, ?_⟩; have n0_ := Aside0.mk (below_step (by repeat (first | (with_reducible first | exact HB.out | apply below_alloc | apply pw_below_drewN | apply below_drew1) | exact HB.out)) hb); clear HB; have HB := n0_; clear n0_; (try clear hb); (try clear hb2); (try clear hk); (try clear hi)))
       go_ret
       exact ⟨by first | rfl | (simp [errW_none, errW_some] <;> rfl) | (simp [*, errW_none, errW_some] <;> rfl), by repeat (first | (with_reducible first | exact HB.out | apply below_alloc | apply pw_below_drewN | apply below_drew1) | exact HB.out)⟩
      ·rw [if_neg c7] at H
       have c7b0 : ((Int.tmod x0_1 60) == 0) = false := beq_eq_false_iff_ne.mpr c7
       have c7b1 : ((Int.tmod x0_1 60) != 0) = true := bne_iff_ne.mpr c7
       by_cases c9 : (x3_1 ++ t206).size + 1 ≤ 9223372036854775807
       ·rw [if_pos c9] at H
        have c9b0 := eq_true c9
        have c9b1 : decide ((x3_1 ++ t206).size + 1 ≤ 9223372036854775807) = true := decide_eq_true c9
        try have c9b3 : (9223372036854775807 < (x3_1.size + t206.size) + 1) = False := eq_false (Nat.not_lt.2 (by have h_ := c9; simp only [ByteArray.size_append] at h_; omega))
        try have c9b2 : (9223372036854775807 < (x3_1 ++ t206).size + 1) = False := eq_false (Nat.not_lt.2 c9)
        replace H := Option.bind_eq_some_iff.mp H
        obtain ⟨t207, A100, H⟩ := H
        replace H : (if ((x3_1 ++ t206) ++ (⟨#[58]⟩ : ByteArray)).size + t207.size ≤ 9223372036854775807 then (some (((x3_1 ++ t206) ++ (⟨#[58]⟩ : ByteArray)) ++ t207)) else (none)) = some r := H
        have A10 := Aside0.mk A100
        clear A100
        by_cases c11 : ((x3_1 ++ t206) ++ (⟨#[58]⟩ : ByteArray)).size + t207.size ≤ 9223372036854775807
        ·rw [if_pos c11] at H
         have c11b0 := eq_true c11
         have c11b1 : decide (((x3_1 ++ t206) ++ (⟨#[58]⟩ : ByteArray)).size + t207.size ≤ 9223372036854775807) = true := decide_eq_true c11
         try have c11b3 : (9223372036854775807 < ((x3_1.size + t206.size) + 1) + t207.size) = False := eq_false (Nat.not_lt.2 (by have h_ := c11; simp only [ByteArray.size_append, show (⟨#[58]⟩ : ByteArray).size = 1 from rfl] at h_; omega))
         try have c11b2 : (9223372036854775807 < ((x3_1 ++ t206) ++ (⟨#[58]⟩ : ByteArray)).size + t207.size) = False := eq_false (Nat.not_lt.2 c11)
         obtain rfl := Option.some.inj H
         go_wp2_with (first | ((with_reducible refine gate_callee (f := 28) rfl ?_); refine goesL_ (some 11) rfl rfl Tryd.func28 (by kernel_rfl) rfl #[.int .i64 (wrap64 (Int.tdiv x0_1 3600)), .int .i64 0] rfl (by (try simp only [List.map_toArray, List.map_cons, List.map_nil]); first | done | rfl | (simp only [List.length_drop, List.length_take]; rfl)) ?_; (with_reducible refine (solsticeref01_Text.calls kj1 (wrap64 (Int.tdiv x0_1 3600)) 0 t206 _ A4.out).mono ?_); rintro e w12 ⟨rfl, hb⟩; refine ⟨_, rfl, ?_⟩; have n0_ := Aside0.mk (below_step (by repeat (first | (with_reducible first | exact HB.out | apply below_alloc | apply pw_below_drewN | apply below_drew1) | exact HB.out)) hb); clear HB; have HB := n0_; clear n0_; (try clear hb); (try clear hb2); (try clear hk); (try clear hi)) | ((with_reducible refine gate_callee (f := 28) rfl ?_); refine goesL_ (some 30) rfl rfl Tryd.func28 (by kernel_rfl) rfl #[.int .i64 (Int.tmod x0_1 60), .int .i64 2] rfl (by (try simp only [List.map_toArray, List.map_cons, List.map_nil]); first | done | rfl | (simp only [List.length_drop, List.length_take]; rfl)) ?_; (with_reducible refine (solsticeref01_Text.calls kj1 (Int.tmod x0_1 60) 2 t207 _ A10.out).mono ?_); rintro e w13 ⟨rfl, hb⟩; refine ⟨_, rfl, ?_⟩; have n0_ := Aside0.mk (below_step (by repeat (first | (with_reducible first | exact HB.out | apply below_alloc | apply pw_below_drewN | apply below_drew1) | exact HB.out)) hb); clear HB; have HB := n0_; clear n0_; (try clear hb); (try clear hb2); (try clear hk); (try clear hi)))
         go_ret
         exact ⟨by first | rfl | (simp [errW_none, errW_some] <;> rfl) | (simp [*, errW_none, errW_some] <;> rfl), by repeat (first | (with_reducible first | exact HB.out | apply below_alloc | apply pw_below_drewN | apply below_drew1) | exact HB.out)⟩
        ·rw [if_neg c11] at H
         exact absurd H (by simp)
       ·rw [if_neg c9] at H
        exact absurd H (by simp)
     ·rw [if_neg c6] at H
      have c6b0 : ((Int.tmod x0_1 3600) == 0) = false := beq_eq_false_iff_ne.mpr c6
      have c6b1 : ((Int.tmod x0_1 3600) != 0) = true := bne_iff_ne.mpr c6
      by_cases c14 : (x3_1 ++ t206).size + 1 ≤ 9223372036854775807
      ·rw [if_pos c14] at H
       have c14b0 := eq_true c14
       have c14b1 : decide ((x3_1 ++ t206).size + 1 ≤ 9223372036854775807) = true := decide_eq_true c14
       try have c14b3 : (9223372036854775807 < (x3_1.size + t206.size) + 1) = False := eq_false (Nat.not_lt.2 (by have h_ := c14; simp only [ByteArray.size_append] at h_; omega))
       try have c14b2 : (9223372036854775807 < (x3_1 ++ t206).size + 1) = False := eq_false (Nat.not_lt.2 c14)
       replace H := Option.bind_eq_some_iff.mp H
       obtain ⟨t208, A150, H⟩ := H
       replace H : (if ((x3_1 ++ t206) ++ (⟨#[58]⟩ : ByteArray)).size + t208.size ≤ 9223372036854775807 then (if (Int.tmod x0_1 60) = 0 then (some (((x3_1 ++ t206) ++ (⟨#[58]⟩ : ByteArray)) ++ t208)) else (if (((x3_1 ++ t206) ++ (⟨#[58]⟩ : ByteArray)) ++ t208).size + 1 ≤ 9223372036854775807 then ((solsticeref01_Text.f kj1 (Int.tmod x0_1 60) 2).bind fun t209 => (if ((((x3_1 ++ t206) ++ (⟨#[58]⟩ : ByteArray)) ++ t208) ++ (⟨#[58]⟩ : ByteArray)).size + t209.size ≤ 9223372036854775807 then (some (((((x3_1 ++ t206) ++ (⟨#[58]⟩ : ByteArray)) ++ t208) ++ (⟨#[58]⟩ : ByteArray)) ++ t209)) else (none))) else (none))) else (none)) = some r := H
       have A15 := Aside0.mk A150
       clear A150
       by_cases c16 : ((x3_1 ++ t206) ++ (⟨#[58]⟩ : ByteArray)).size + t208.size ≤ 9223372036854775807
       ·rw [if_pos c16] at H
        have c16b0 := eq_true c16
        have c16b1 : decide (((x3_1 ++ t206) ++ (⟨#[58]⟩ : ByteArray)).size + t208.size ≤ 9223372036854775807) = true := decide_eq_true c16
        try have c16b3 : (9223372036854775807 < ((x3_1.size + t206.size) + 1) + t208.size) = False := eq_false (Nat.not_lt.2 (by have h_ := c16; simp only [ByteArray.size_append, show (⟨#[58]⟩ : ByteArray).size = 1 from rfl] at h_; omega))
        try have c16b2 : (9223372036854775807 < ((x3_1 ++ t206) ++ (⟨#[58]⟩ : ByteArray)).size + t208.size) = False := eq_false (Nat.not_lt.2 c16)
        by_cases c17 : (Int.tmod x0_1 60) = 0
        ·rw [if_pos c17] at H
         have c17b0 : ((Int.tmod x0_1 60) == 0) = true := beq_iff_eq.mpr c17
         have c17b1 : ((Int.tmod x0_1 60) != 0) = false := bne_eq_false_iff_eq.mpr c17
         clear c17
         obtain rfl := Option.some.inj H
         go_wp2_with (first | ((with_reducible refine gate_callee (f := 28) rfl ?_); refine goesL_ (some 11) rfl rfl Tryd.func28 (by kernel_rfl) rfl #[.int .i64 (wrap64 (Int.tdiv x0_1 3600)), .int .i64 0] rfl (by (try simp only [List.map_toArray, List.map_cons, List.map_nil]); first | done | rfl | (simp only [List.length_drop, List.length_take]; rfl)) ?_; (with_reducible refine (solsticeref01_Text.calls kj1 (wrap64 (Int.tdiv x0_1 3600)) 0 t206 _ A4.out).mono ?_); rintro e w18 ⟨rfl, hb⟩; refine ⟨_, rfl, ?_⟩; have n0_ := Aside0.mk (below_step (by repeat (first | (with_reducible first | exact HB.out | apply below_alloc | apply pw_below_drewN | apply below_drew1) | exact HB.out)) hb); clear HB; have HB := n0_; clear n0_; (try clear hb); (try clear hb2); (try clear hk); (try clear hi)) | ((with_reducible refine gate_callee (f := 28) rfl ?_); refine goesL_ (some 21) rfl rfl Tryd.func28 (by kernel_rfl) rfl #[.int .i64 (Int.tmod (wrap64 (Int.tdiv x0_1 60)) 60), .int .i64 2] rfl (by (try simp only [List.map_toArray, List.map_cons, List.map_nil]); first | done | rfl | (simp only [List.length_drop, List.length_take]; rfl)) ?_; (with_reducible refine (solsticeref01_Text.calls kj1 (Int.tmod (wrap64 (Int.tdiv x0_1 60)) 60) 2 t208 _ A15.out).mono ?_); rintro e w19 ⟨rfl, hb⟩; refine ⟨_, rfl, ?_⟩; have n0_ := Aside0.mk (below_step (by repeat (first | (with_reducible first | exact HB.out | apply below_alloc | apply pw_below_drewN | apply below_drew1) | exact HB.out)) hb); clear HB; have HB := n0_; clear n0_; (try clear hb); (try clear hb2); (try clear hk); (try clear hi)))
         go_ret
         exact ⟨by first | rfl | (simp [errW_none, errW_some] <;> rfl) | (simp [*, errW_none, errW_some] <;> rfl), by repeat (first | (with_reducible first | exact HB.out | apply below_alloc | apply pw_below_drewN | apply below_drew1) | exact HB.out)⟩
        ·rw [if_neg c17] at H
         have c17b0 : ((Int.tmod x0_1 60) == 0) = false := beq_eq_false_iff_ne.mpr c17
         have c17b1 : ((Int.tmod x0_1 60) != 0) = true := bne_iff_ne.mpr c17
         by_cases c20 : (((x3_1 ++ t206) ++ (⟨#[58]⟩ : ByteArray)) ++ t208).size + 1 ≤ 9223372036854775807
         ·rw [if_pos c20] at H
          have c20b0 := eq_true c20
          have c20b1 : decide ((((x3_1 ++ t206) ++ (⟨#[58]⟩ : ByteArray)) ++ t208).size + 1 ≤ 9223372036854775807) = true := decide_eq_true c20
          try have c20b3 : (9223372036854775807 < (((x3_1.size + t206.size) + 1) + t208.size) + 1) = False := eq_false (Nat.not_lt.2 (by have h_ := c20; simp only [ByteArray.size_append, show (⟨#[58]⟩ : ByteArray).size = 1 from rfl] at h_; omega))
          try have c20b2 : (9223372036854775807 < (((x3_1 ++ t206) ++ (⟨#[58]⟩ : ByteArray)) ++ t208).size + 1) = False := eq_false (Nat.not_lt.2 c20)
          replace H := Option.bind_eq_some_iff.mp H
          obtain ⟨t209, A210, H⟩ := H
          replace H : (if ((((x3_1 ++ t206) ++ (⟨#[58]⟩ : ByteArray)) ++ t208) ++ (⟨#[58]⟩ : ByteArray)).size + t209.size ≤ 9223372036854775807 then (some (((((x3_1 ++ t206) ++ (⟨#[58]⟩ : ByteArray)) ++ t208) ++ (⟨#[58]⟩ : ByteArray)) ++ t209)) else (none)) = some r := H
          have A21 := Aside0.mk A210
          clear A210
          by_cases c22 : ((((x3_1 ++ t206) ++ (⟨#[58]⟩ : ByteArray)) ++ t208) ++ (⟨#[58]⟩ : ByteArray)).size + t209.size ≤ 9223372036854775807
          ·rw [if_pos c22] at H
           have c22b0 := eq_true c22
           have c22b1 : decide (((((x3_1 ++ t206) ++ (⟨#[58]⟩ : ByteArray)) ++ t208) ++ (⟨#[58]⟩ : ByteArray)).size + t209.size ≤ 9223372036854775807) = true := decide_eq_true c22
           try have c22b3 : (9223372036854775807 < ((((x3_1.size + t206.size) + 1) + t208.size) + 1) + t209.size) = False := eq_false (Nat.not_lt.2 (by have h_ := c22; simp only [ByteArray.size_append, show (⟨#[58]⟩ : ByteArray).size = 1 from rfl] at h_; omega))
           try have c22b2 : (9223372036854775807 < ((((x3_1 ++ t206) ++ (⟨#[58]⟩ : ByteArray)) ++ t208) ++ (⟨#[58]⟩ : ByteArray)).size + t209.size) = False := eq_false (Nat.not_lt.2 c22)
           obtain rfl := Option.some.inj H
           go_wp2_with (first | ((with_reducible refine gate_callee (f := 28) rfl ?_); refine goesL_ (some 11) rfl rfl Tryd.func28 (by kernel_rfl) rfl #[.int .i64 (wrap64 (Int.tdiv x0_1 3600)), .int .i64 0] rfl (by (try simp only [List.map_toArray, List.map_cons, List.map_nil]); first | done | rfl | (simp only [List.length_drop, List.length_take]; rfl)) ?_; (with_reducible refine (solsticeref01_Text.calls kj1 (wrap64 (Int.tdiv x0_1 3600)) 0 t206 _ A4.out).mono ?_); rintro e w23 ⟨rfl, hb⟩; refine ⟨_, rfl, ?_⟩; have n0_ := Aside0.mk (below_step (by repeat (first | (with_reducible first | exact HB.out | apply below_alloc | apply pw_below_drewN | apply below_drew1) | exact HB.out)) hb); clear HB; have HB := n0_; clear n0_; (try clear hb); (try clear hb2); (try clear hk); (try clear hi)) | ((with_reducible refine gate_callee (f := 28) rfl ?_); refine goesL_ (some 21) rfl rfl Tryd.func28 (by kernel_rfl) rfl #[.int .i64 (Int.tmod (wrap64 (Int.tdiv x0_1 60)) 60), .int .i64 2] rfl (by (try simp only [List.map_toArray, List.map_cons, List.map_nil]); first | done | rfl | (simp only [List.length_drop, List.length_take]; rfl)) ?_; (with_reducible refine (solsticeref01_Text.calls kj1 (Int.tmod (wrap64 (Int.tdiv x0_1 60)) 60) 2 t208 _ A15.out).mono ?_); rintro e w24 ⟨rfl, hb⟩; refine ⟨_, rfl, ?_⟩; have n0_ := Aside0.mk (below_step (by repeat (first | (with_reducible first | exact HB.out | apply below_alloc | apply pw_below_drewN | apply below_drew1) | exact HB.out)) hb); clear HB; have HB := n0_; clear n0_; (try clear hb); (try clear hb2); (try clear hk); (try clear hi)) | ((with_reducible refine gate_callee (f := 28) rfl ?_); refine goesL_ (some 30) rfl rfl Tryd.func28 (by kernel_rfl) rfl #[.int .i64 (Int.tmod x0_1 60), .int .i64 2] rfl (by (try simp only [List.map_toArray, List.map_cons, List.map_nil]); first | done | rfl | (simp only [List.length_drop, List.length_take]; rfl)) ?_; (with_reducible refine (solsticeref01_Text.calls kj1 (Int.tmod x0_1 60) 2 t209 _ A21.out).mono ?_); rintro e w25 ⟨rfl, hb⟩; refine ⟨_, rfl, ?_⟩; have n0_ := Aside0.mk (below_step (by repeat (first | (with_reducible first | exact HB.out | apply below_alloc | apply pw_below_drewN | apply below_drew1) | exact HB.out)) hb); clear HB; have HB := n0_; clear n0_; (try clear hb); (try clear hb2); (try clear hk); (try clear hi)))
           go_ret
           exact ⟨by first | rfl | (simp [errW_none, errW_some] <;> rfl) | (simp [*, errW_none, errW_some] <;> rfl), by repeat (first | (with_reducible first | exact HB.out | apply below_alloc | apply pw_below_drewN | apply below_drew1) | exact HB.out)⟩
          ·rw [if_neg c22] at H
           exact absurd H (by simp)
         ·rw [if_neg c20] at H
          exact absurd H (by simp)
       ·rw [if_neg c16] at H
        exact absurd H (by simp)
      ·rw [if_neg c14] at H
       exact absurd H (by simp)
    ·rw [if_neg c5] at H
     exact absurd H (by simp)
end Go.Proofs.YtlfohcjajmebjaaDoor.PClk