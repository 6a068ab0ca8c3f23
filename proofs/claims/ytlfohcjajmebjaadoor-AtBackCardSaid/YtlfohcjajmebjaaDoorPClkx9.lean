-- Printed by a program of this session's over the kit's printer; library functions by contracts off the shelf.
import Derived.Test.YtlfohcjajmebjaaDoorGP
import Derived.Test.YtlfohcjajmebjaaDoorPClkx0
import Derived.Test.YtlfohcjajmebjaaDoorPClkx2
import Derived.Test.YtlfohcjajmebjaaDoorPClkx3
import Derived.Test.YtlfohcjajmebjaaDoorPClkx5
import Derived.Test.YtlfohcjajmebjaaDoorPClkx7
import Derived.Test.YtlfohcjajmebjaaDoorPClkx8
namespace Go.Proofs.YtlfohcjajmebjaaDoor.PClk
open Go.RowKit Go.Proofs.YtlfohcjajmebjaaDoorW.PrintWords Go.Proofs.YtlfohcjajmebjaaDoorW.PrintLast Go.Proofs.YtlfohcjajmebjaaDoorW.PrintMore Go.Proofs.YtlfohcjajmebjaaDoor.Base
attribute [local go_sem] max2_int min2_int max_two min_two max_three min_three max_four min_four   -- for this text's walks alone
set_option linter.unusedVariables false
set_option linter.unusedSimpArgs false
mutual
def solsticelaw04_ClockExact.j0 : Nat → Int → Int → Int → ByteArray → Int → Int → Int → Int → Bool → Bool → Option (Bool)
 | 0, _, _, _, _, _, _, _, _, _, _ => none
 | k + 1, x1, x2, x3, x11, x12, x13, x14, x15, x16, x73 => if x73 = true then (some false) else ((solsticeref01_Div.f x1 86400).bind fun bt220 => (if bt220.1 = x13 then (solsticelaw04_ClockExact.j1 k x1 x2 x3 x11 x12 x15 x16 (bt220.2 != x14)) else (solsticelaw04_ClockExact.j1 k x1 x2 x3 x11 x12 x15 x16 true)))
def solsticelaw04_ClockExact.j1 : Nat → Int → Int → Int → ByteArray → Int → Int → Bool → Bool → Option (Bool)
 | 0, _, _, _, _, _, _, _, _ => none
 | k + 1, x1, x2, x3, x11, x12, x15, x16, x86 => if x86 = true then (some false) else ((solsticeref01_JoinDay.f x2 x3).bind fun bt222 => (if x15 = bt222.1 then (solsticelaw04_ClockExact.j2 k x1 x11 x12 (x16 != bt222.2)) else (solsticelaw04_ClockExact.j2 k x1 x11 x12 true)))
def solsticelaw04_ClockExact.j2 : Nat → Int → ByteArray → Int → Bool → Option (Bool)
 | 0, _, _, _, _ => none
 | k + 1, x1, x11, x12, x100 => if x100 = true then (some false) else (if x1 < (-345600) then (solsticelaw04_ClockExact.j3 k x1 x11 x12 true) else (solsticelaw04_ClockExact.j3 k x1 x11 x12 (decide (x1 > 345600))))
def solsticelaw04_ClockExact.j3 : Nat → Int → ByteArray → Int → Bool → Option (Bool)
 | 0, _, _, _, _ => none
 | k + 1, x1, x11, x12, x106 => if x106 = true then (if x12 = 5 then (if x11.toList = ([] : List UInt8) then ((solsticelaw04_wakes.f k).bind fun t224 => (some t224)) else (some false)) else (some false)) else (if x12 = 0 then ((solsticeref01_ClockText.f k x1).bind fun t225 => (if x11.toList = t225.toList then ((solsticelaw04_wakes.f k).bind fun t226 => (some t226)) else (some false))) else (some false))
end
def solsticelaw04_ClockExact.f (k : Nat) (a0 : ByteArray) (a1 : Int) (a2 : Int) (a3 : Int) : Option (Bool) := if (a0.size : Int) > 100 then (some true) else ((clock_Parse.f k a0).bind fun bt210 => ((clock_Text.f k a1).bind fun bt212 => ((clock_Split.f a1).bind fun bt214 => ((clock_Join.f k a2 a3).bind fun bt216 => ((solsticeref01_Clock.f k a0).bind fun bt218 => (if bt218.2 = true then (if bt210.2 = 0 then (solsticelaw04_ClockExact.j0 k a1 a2 a3 bt212.1 bt212.2 bt214.1 bt214.2 bt216.1 bt216.2 (bt210.1 != bt218.1)) else (solsticelaw04_ClockExact.j0 k a1 a2 a3 bt212.1 bt212.2 bt214.1 bt214.2 bt216.1 bt216.2 true)) else (if bt210.2 = 5 then (if bt210.1 = 0 then (solsticelaw04_ClockExact.j0 k a1 a2 a3 bt212.1 bt212.2 bt214.1 bt214.2 bt216.1 bt216.2 false) else (solsticelaw04_ClockExact.j0 k a1 a2 a3 bt212.1 bt212.2 bt214.1 bt214.2 bt216.1 bt216.2 true)) else (solsticelaw04_ClockExact.j0 k a1 a2 a3 bt212.1 bt212.2 bt214.1 bt214.2 bt216.1 bt216.2 true))))))))
theorem solsticelaw04_ClockExact.mono_l : ∀ k, (∀ y0 y1 y2 y3 y4 y5 y6 y7 y8 y9, LeO (solsticelaw04_ClockExact.j0 k y0 y1 y2 y3 y4 y5 y6 y7 y8 y9) (solsticelaw04_ClockExact.j0 (k + 1) y0 y1 y2 y3 y4 y5 y6 y7 y8 y9)) ∧ (∀ y0 y1 y2 y3 y4 y5 y6 y7, LeO (solsticelaw04_ClockExact.j1 k y0 y1 y2 y3 y4 y5 y6 y7) (solsticelaw04_ClockExact.j1 (k + 1) y0 y1 y2 y3 y4 y5 y6 y7)) ∧ (∀ y0 y1 y2 y3, LeO (solsticelaw04_ClockExact.j2 k y0 y1 y2 y3) (solsticelaw04_ClockExact.j2 (k + 1) y0 y1 y2 y3)) ∧ (∀ y0 y1 y2 y3, LeO (solsticelaw04_ClockExact.j3 k y0 y1 y2 y3) (solsticelaw04_ClockExact.j3 (k + 1) y0 y1 y2 y3))
 | 0 => ⟨fun _ _ _ _ _ _ _ _ _ _ r h => by simp [solsticelaw04_ClockExact.j0] at h, fun _ _ _ _ _ _ _ _ r h => by simp [solsticelaw04_ClockExact.j1] at h, fun _ _ _ _ r h => by simp [solsticelaw04_ClockExact.j2] at h, fun _ _ _ _ r h => by simp [solsticelaw04_ClockExact.j3] at h⟩
 | k + 1 => by
  obtain ⟨ih0, ih1, ih2, ih3⟩ := solsticelaw04_ClockExact.mono_l k
  refine ⟨?_, ?_, ?_, ?_⟩
  ·intro y0 y1 y2 y3 y4 y5 y6 y7 y8 y9
   unfold solsticelaw04_ClockExact.j0
   repeat' first
   | (with_reducible exact ih0 _ _ _ _ _ _ _ _ _ _)
   | (with_reducible exact ih1 _ _ _ _ _ _ _ _)
   | (with_reducible exact ih2 _ _ _ _)
   | (with_reducible exact ih3 _ _ _ _)
   | (with_reducible exact clock_Join.mono _ _ _)
   | (with_reducible exact clock_Parse.mono _ _)
   | (with_reducible exact clock_Text.mono _ _)
   | (with_reducible exact solsticelaw04_wakes.mono _)
   | (with_reducible exact solsticeref01_Clock.mono _ _)
   | (with_reducible exact solsticeref01_ClockText.mono _ _)
   | (with_reducible exact LeO.refl _)
   | (with_reducible exact LeO.none _)
   | (with_reducible refine LeO.ite ?_ ?_)
   | (with_reducible refine LeO.bind ?_ (fun _ => ?_))
   | exact ih0 _ _ _ _ _ _ _ _ _ _
   | exact ih1 _ _ _ _ _ _ _ _
   | exact ih2 _ _ _ _
   | exact ih3 _ _ _ _
   | exact clock_Join.mono _ _ _
   | exact clock_Parse.mono _ _
   | exact clock_Text.mono _ _
   | exact solsticelaw04_wakes.mono _
   | exact solsticeref01_Clock.mono _ _
   | exact solsticeref01_ClockText.mono _ _
   | exact LeO.none _
   | refine LeO.ite ?_ ?_
   | refine LeO.bind ?_ (fun _ => ?_)
  ·intro y0 y1 y2 y3 y4 y5 y6 y7
   unfold solsticelaw04_ClockExact.j1
   repeat' first
   | (with_reducible exact ih0 _ _ _ _ _ _ _ _ _ _)
   | (with_reducible exact ih1 _ _ _ _ _ _ _ _)
   | (with_reducible exact ih2 _ _ _ _)
   | (with_reducible exact ih3 _ _ _ _)
   | (with_reducible exact clock_Join.mono _ _ _)
   | (with_reducible exact clock_Parse.mono _ _)
   | (with_reducible exact clock_Text.mono _ _)
   | (with_reducible exact solsticelaw04_wakes.mono _)
   | (with_reducible exact solsticeref01_Clock.mono _ _)
   | (with_reducible exact solsticeref01_ClockText.mono _ _)
   | (with_reducible exact LeO.refl _)
   | (with_reducible exact LeO.none _)
   | (with_reducible refine LeO.ite ?_ ?_)
   | (with_reducible refine LeO.bind ?_ (fun _ => ?_))
   | exact ih0 _ _ _ _ _ _ _ _ _ _
   | exact ih1 _ _ _ _ _ _ _ _
   | exact ih2 _ _ _ _
   | exact ih3 _ _ _ _
   | exact clock_Join.mono _ _ _
   | exact clock_Parse.mono _ _
   | exact clock_Text.mono _ _
   | exact solsticelaw04_wakes.mono _
   | exact solsticeref01_Clock.mono _ _
   | exact solsticeref01_ClockText.mono _ _
   | exact LeO.none _
   | refine LeO.ite ?_ ?_
   | refine LeO.bind ?_ (fun _ => ?_)
  ·intro y0 y1 y2 y3
   unfold solsticelaw04_ClockExact.j2
   repeat' first
   | (with_reducible exact ih0 _ _ _ _ _ _ _ _ _ _)
   | (with_reducible exact ih1 _ _ _ _ _ _ _ _)
   | (with_reducible exact ih2 _ _ _ _)
   | (with_reducible exact ih3 _ _ _ _)
   | (with_reducible exact clock_Join.mono _ _ _)
   | (with_reducible exact clock_Parse.mono _ _)
   | (with_reducible exact clock_Text.mono _ _)
   | (with_reducible exact solsticelaw04_wakes.mono _)
   | (with_reducible exact solsticeref01_Clock.mono _ _)
   | (with_reducible exact solsticeref01_ClockText.mono _ _)
   | (with_reducible exact LeO.refl _)
   | (with_reducible exact LeO.none _)
   | (with_reducible refine LeO.ite ?_ ?_)
   | (with_reducible refine LeO.bind ?_ (fun _ => ?_))
   | exact ih0 _ _ _ _ _ _ _ _ _ _
   | exact ih1 _ _ _ _ _ _ _ _
   | exact ih2 _ _ _ _
   | exact ih3 _ _ _ _
   | exact clock_Join.mono _ _ _
   | exact clock_Parse.mono _ _
   | exact clock_Text.mono _ _
   | exact solsticelaw04_wakes.mono _
   | exact solsticeref01_Clock.mono _ _
   | exact solsticeref01_ClockText.mono _ _
   | exact LeO.none _
   | refine LeO.ite ?_ ?_
   | refine LeO.bind ?_ (fun _ => ?_)
  ·intro y0 y1 y2 y3
   unfold solsticelaw04_ClockExact.j3
   repeat' first
   | (with_reducible exact ih0 _ _ _ _ _ _ _ _ _ _)
   | (with_reducible exact ih1 _ _ _ _ _ _ _ _)
   | (with_reducible exact ih2 _ _ _ _)
   | (with_reducible exact ih3 _ _ _ _)
   | (with_reducible exact clock_Join.mono _ _ _)
   | (with_reducible exact clock_Parse.mono _ _)
   | (with_reducible exact clock_Text.mono _ _)
   | (with_reducible exact solsticelaw04_wakes.mono _)
   | (with_reducible exact solsticeref01_Clock.mono _ _)
   | (with_reducible exact solsticeref01_ClockText.mono _ _)
   | (with_reducible exact LeO.refl _)
   | (with_reducible exact LeO.none _)
   | (with_reducible refine LeO.ite ?_ ?_)
   | (with_reducible refine LeO.bind ?_ (fun _ => ?_))
   | exact ih0 _ _ _ _ _ _ _ _ _ _
   | exact ih1 _ _ _ _ _ _ _ _
   | exact ih2 _ _ _ _
   | exact ih3 _ _ _ _
   | exact clock_Join.mono _ _ _
   | exact clock_Parse.mono _ _
   | exact clock_Text.mono _ _
   | exact solsticelaw04_wakes.mono _
   | exact solsticeref01_Clock.mono _ _
   | exact solsticeref01_ClockText.mono _ _
   | exact LeO.none _
   | refine LeO.ite ?_ ?_
   | refine LeO.bind ?_ (fun _ => ?_)
theorem solsticelaw04_ClockExact.mono : ∀ a0 a1 a2 a3 k, LeO (solsticelaw04_ClockExact.f k a0 a1 a2 a3) (solsticelaw04_ClockExact.f (k + 1) a0 a1 a2 a3) := by
 intro a0 a1 a2 a3 k
 obtain ⟨ih0, ih1, ih2, ih3⟩ := solsticelaw04_ClockExact.mono_l k
 unfold solsticelaw04_ClockExact.f
 repeat' first
   | (with_reducible exact ih0 _ _ _ _ _ _ _ _ _ _)
   | (with_reducible exact ih1 _ _ _ _ _ _ _ _)
   | (with_reducible exact ih2 _ _ _ _)
   | (with_reducible exact ih3 _ _ _ _)
   | (with_reducible exact clock_Join.mono _ _ _)
   | (with_reducible exact clock_Parse.mono _ _)
   | (with_reducible exact clock_Text.mono _ _)
   | (with_reducible exact solsticelaw04_wakes.mono _)
   | (with_reducible exact solsticeref01_Clock.mono _ _)
   | (with_reducible exact solsticeref01_ClockText.mono _ _)
   | (with_reducible exact LeO.refl _)
   | (with_reducible exact LeO.none _)
   | (with_reducible refine LeO.ite ?_ ?_)
   | (with_reducible refine LeO.bind ?_ (fun _ => ?_))
   | exact ih0 _ _ _ _ _ _ _ _ _ _
   | exact ih1 _ _ _ _ _ _ _ _
   | exact ih2 _ _ _ _
   | exact ih3 _ _ _ _
   | exact clock_Join.mono _ _ _
   | exact clock_Parse.mono _ _
   | exact clock_Text.mono _ _
   | exact solsticelaw04_wakes.mono _
   | exact solsticeref01_Clock.mono _ _
   | exact solsticeref01_ClockText.mono _ _
   | exact LeO.none _
   | refine LeO.ite ?_ ?_
   | refine LeO.bind ?_ (fun _ => ?_)
set_option maxHeartbeats 8000000 in
set_option maxRecDepth 100000 in
theorem solsticelaw04_ClockExact.calls (k : Nat) (a0 : ByteArray) (a1 : Int) (a2 : Int) (a3 : Int) (r : Bool) (htrue : r = true) (w : World) (hG : GP w) (h : solsticelaw04_ClockExact.f k a0 a1 a2 a3 = some r) :
  Calls Tryd.prog 9 #[.string a0, .int .i64 a1, .int .i64 a2, .int .i64 a3] w fun e w' => e = .returned (.bool r) ∧ Below w.heap.size w w' := by
 have HG := Aside0.mk hG
 clear hG
 have HB := Aside0.mk (Below.refl w.heap.size w)
 have H : (if (a0.size : Int) > 100 then (some true) else ((clock_Parse.f k a0).bind fun bt210 => ((clock_Text.f k a1).bind fun bt212 => ((clock_Split.f a1).bind fun bt214 => ((clock_Join.f k a2 a3).bind fun bt216 => ((solsticeref01_Clock.f k a0).bind fun bt218 => (if bt218.2 = true then (if bt210.2 = 0 then (solsticelaw04_ClockExact.j0 k a1 a2 a3 bt212.1 bt212.2 bt214.1 bt214.2 bt216.1 bt216.2 (bt210.1 != bt218.1)) else (solsticelaw04_ClockExact.j0 k a1 a2 a3 bt212.1 bt212.2 bt214.1 bt214.2 bt216.1 bt216.2 true)) else (if bt210.2 = 5 then (if bt210.1 = 0 then (solsticelaw04_ClockExact.j0 k a1 a2 a3 bt212.1 bt212.2 bt214.1 bt214.2 bt216.1 bt216.2 false) else (solsticelaw04_ClockExact.j0 k a1 a2 a3 bt212.1 bt212.2 bt214.1 bt214.2 bt216.1 bt216.2 true)) else (solsticelaw04_ClockExact.j0 k a1 a2 a3 bt212.1 bt212.2 bt214.1 bt214.2 bt216.1 bt216.2 true))))))))) = some r := h
 clear h
 by_cases c5 : (a0.size : Int) > 100
 ·rw [if_pos c5] at H
  have c5b0 : decide (100 < (a0.size : Int)) = true := decide_eq_true c5
  have c5b1 : decide (100 < a0.size) = true := decide_eq_true (by omega)
  clear c5
  obtain rfl := Option.some.inj H
  go_enter Tryd.func9, Tryd.ntmps9
  go_wp2
  go_ret
  exact ⟨by first | rfl | (simp [errW_none, errW_some] <;> rfl) | (simp [*, errW_none, errW_some] <;> rfl), by repeat (first | (with_reducible first | exact HB.out | apply below_alloc | apply pw_below_drewN | apply below_drew1) | exact HB.out)⟩
 ·rw [if_neg c5] at H
  have c5b0 : decide (100 < (a0.size : Int)) = false := decide_eq_false c5
  have c5b1 : decide (100 < a0.size) = false := decide_eq_false (by omega)
  clear c5
  replace H := Option.bind_eq_some_iff.mp H
  obtain ⟨⟨t210, t211⟩, A60, H⟩ := H
  replace H : ((clock_Text.f k a1).bind fun bt212 => ((clock_Split.f a1).bind fun bt214 => ((clock_Join.f k a2 a3).bind fun bt216 => ((solsticeref01_Clock.f k a0).bind fun bt218 => (if bt218.2 = true then (if t211 = 0 then (solsticelaw04_ClockExact.j0 k a1 a2 a3 bt212.1 bt212.2 bt214.1 bt214.2 bt216.1 bt216.2 (t210 != bt218.1)) else (solsticelaw04_ClockExact.j0 k a1 a2 a3 bt212.1 bt212.2 bt214.1 bt214.2 bt216.1 bt216.2 true)) else (if t211 = 5 then (if t210 = 0 then (solsticelaw04_ClockExact.j0 k a1 a2 a3 bt212.1 bt212.2 bt214.1 bt214.2 bt216.1 bt216.2 false) else (solsticelaw04_ClockExact.j0 k a1 a2 a3 bt212.1 bt212.2 bt214.1 bt214.2 bt216.1 bt216.2 true)) else (solsticelaw04_ClockExact.j0 k a1 a2 a3 bt212.1 bt212.2 bt214.1 bt214.2 bt216.1 bt216.2 true))))))) = some r := H
  have A6 := Aside0.mk A60
  clear A60
  replace H := Option.bind_eq_some_iff.mp H
  obtain ⟨⟨t212, t213⟩, A70, H⟩ := H
  replace H : ((clock_Split.f a1).bind fun bt214 => ((clock_Join.f k a2 a3).bind fun bt216 => ((solsticeref01_Clock.f k a0).bind fun bt218 => (if bt218.2 = true then (if t211 = 0 then (solsticelaw04_ClockExact.j0 k a1 a2 a3 t212 t213 bt214.1 bt214.2 bt216.1 bt216.2 (t210 != bt218.1)) else (solsticelaw04_ClockExact.j0 k a1 a2 a3 t212 t213 bt214.1 bt214.2 bt216.1 bt216.2 true)) else (if t211 = 5 then (if t210 = 0 then (solsticelaw04_ClockExact.j0 k a1 a2 a3 t212 t213 bt214.1 bt214.2 bt216.1 bt216.2 false) else (solsticelaw04_ClockExact.j0 k a1 a2 a3 t212 t213 bt214.1 bt214.2 bt216.1 bt216.2 true)) else (solsticelaw04_ClockExact.j0 k a1 a2 a3 t212 t213 bt214.1 bt214.2 bt216.1 bt216.2 true)))))) = some r := H
  have A7 := Aside0.mk A70
  clear A70
  replace H := Option.bind_eq_some_iff.mp H
  obtain ⟨⟨t214, t215⟩, A80, H⟩ := H
  replace H : ((clock_Join.f k a2 a3).bind fun bt216 => ((solsticeref01_Clock.f k a0).bind fun bt218 => (if bt218.2 = true then (if t211 = 0 then (solsticelaw04_ClockExact.j0 k a1 a2 a3 t212 t213 t214 t215 bt216.1 bt216.2 (t210 != bt218.1)) else (solsticelaw04_ClockExact.j0 k a1 a2 a3 t212 t213 t214 t215 bt216.1 bt216.2 true)) else (if t211 = 5 then (if t210 = 0 then (solsticelaw04_ClockExact.j0 k a1 a2 a3 t212 t213 t214 t215 bt216.1 bt216.2 false) else (solsticelaw04_ClockExact.j0 k a1 a2 a3 t212 t213 t214 t215 bt216.1 bt216.2 true)) else (solsticelaw04_ClockExact.j0 k a1 a2 a3 t212 t213 t214 t215 bt216.1 bt216.2 true))))) = some r := H
  have A8 := Aside0.mk A80
  clear A80
  replace H := Option.bind_eq_some_iff.mp H
  obtain ⟨⟨t216, t217⟩, A90, H⟩ := H
  replace H : ((solsticeref01_Clock.f k a0).bind fun bt218 => (if bt218.2 = true then (if t211 = 0 then (solsticelaw04_ClockExact.j0 k a1 a2 a3 t212 t213 t214 t215 t216 t217 (t210 != bt218.1)) else (solsticelaw04_ClockExact.j0 k a1 a2 a3 t212 t213 t214 t215 t216 t217 true)) else (if t211 = 5 then (if t210 = 0 then (solsticelaw04_ClockExact.j0 k a1 a2 a3 t212 t213 t214 t215 t216 t217 false) else (solsticelaw04_ClockExact.j0 k a1 a2 a3 t212 t213 t214 t215 t216 t217 true)) else (solsticelaw04_ClockExact.j0 k a1 a2 a3 t212 t213 t214 t215 t216 t217 true)))) = some r := H
  have A9 := Aside0.mk A90
  clear A90
  replace H := Option.bind_eq_some_iff.mp H
  obtain ⟨⟨t218, t219⟩, A100, H⟩ := H
  replace H : (if t219 = true then (if t211 = 0 then (solsticelaw04_ClockExact.j0 k a1 a2 a3 t212 t213 t214 t215 t216 t217 (t210 != t218)) else (solsticelaw04_ClockExact.j0 k a1 a2 a3 t212 t213 t214 t215 t216 t217 true)) else (if t211 = 5 then (if t210 = 0 then (solsticelaw04_ClockExact.j0 k a1 a2 a3 t212 t213 t214 t215 t216 t217 false) else (solsticelaw04_ClockExact.j0 k a1 a2 a3 t212 t213 t214 t215 t216 t217 true)) else (solsticelaw04_ClockExact.j0 k a1 a2 a3 t212 t213 t214 t215 t216 t217 true))) = some r := H
  have A10 := Aside0.mk A100
  clear A100
  have HC11 := Aside0.mk H
  clear H
  go_enter Tryd.func9, Tryd.ntmps9
  go_upto_region 8 with (first | ((with_reducible refine gate_callee (f := 33) rfl ?_); refine goesL_ (some 28) rfl rfl Tryd.func33 (by kernel_rfl) rfl #[.string a0] rfl (by (try simp only [List.map_toArray, List.map_cons, List.map_nil]); first | done | rfl | (simp only [List.length_drop, List.length_take]; rfl)) ?_; (with_reducible refine (clock_Parse.calls k a0 t210 t211 _ ?sideG A6.out).mono ?_); (case sideG => first | exact GP_below HG.out (by repeat (first | (with_reducible first | exact HB.out | apply below_alloc | apply pw_below_drewN | apply below_drew1) | exact HB.out)) | repeat (first | exact HG.out | refine GP_alloc ?_ _ | refine GP_drewN ?_ _ | refine GP_drew ?_)); rintro e w12 ⟨rfl, hb⟩; refine ⟨_, rfl, ?_⟩; have n0_ := Aside0.mk (below_step (by repeat (first | (with_reducible first | exact HB.out | apply below_alloc | apply pw_below_drewN | apply below_drew1) | exact HB.out)) hb); clear HB; have HB := n0_; clear n0_; (try clear hb); (try clear hb2); (try clear hk); (try clear hi)) | ((with_reducible refine gate_callee (f := 34) rfl ?_); refine goesL_ (some 33) rfl rfl Tryd.func34 (by kernel_rfl) rfl #[.int .i64 a1] rfl (by (try simp only [List.map_toArray, List.map_cons, List.map_nil]); first | done | rfl | (simp only [List.length_drop, List.length_take]; rfl)) ?_; (with_reducible refine (clock_Text.calls k a1 t212 t213 _ ?sideG A7.out).mono ?_); (case sideG => first | exact GP_below HG.out (by repeat (first | (with_reducible first | exact HB.out | apply below_alloc | apply pw_below_drewN | apply below_drew1) | exact HB.out)) | repeat (first | exact HG.out | refine GP_alloc ?_ _ | refine GP_drewN ?_ _ | refine GP_drew ?_)); rintro e w13 ⟨rfl, hb⟩; refine ⟨_, rfl, ?_⟩; have n0_ := Aside0.mk (below_step (by repeat (first | (with_reducible first | exact HB.out | apply below_alloc | apply pw_below_drewN | apply below_drew1) | exact HB.out)) hb); clear HB; have HB := n0_; clear n0_; (try clear hb); (try clear hb2); (try clear hk); (try clear hi)) | ((with_reducible refine gate_callee (f := 35) rfl ?_); refine goesL_ (some 38) rfl rfl Tryd.func35 (by kernel_rfl) rfl #[.int .i64 a1] rfl (by (try simp only [List.map_toArray, List.map_cons, List.map_nil]); first | done | rfl | (simp only [List.length_drop, List.length_take]; rfl)) ?_; (with_reducible refine (clock_Split.calls a1 t214 t215 _ A8.out).mono ?_); rintro e w' ⟨rfl, ⟨nd, rfl⟩⟩; refine ⟨_, rfl, ?_⟩) | ((with_reducible refine gate_callee (f := 36) rfl ?_); refine goesL_ (some 44) rfl rfl Tryd.func36 (by kernel_rfl) rfl #[.int .i64 a2, .int .i64 a3] rfl (by (try simp only [List.map_toArray, List.map_cons, List.map_nil]); first | done | rfl | (simp only [List.length_drop, List.length_take]; rfl)) ?_; (with_reducible refine (clock_Join.calls k a2 a3 t216 t217 _ A9.out).mono ?_); rintro e w' ⟨rfl, ⟨nd, rfl⟩⟩; refine ⟨_, rfl, ?_⟩) | ((with_reducible refine gate_callee (f := 37) rfl ?_); refine goesL_ (some 49) rfl rfl Tryd.func37 (by kernel_rfl) rfl #[.string a0] rfl (by (try simp only [List.map_toArray, List.map_cons, List.map_nil]); first | done | rfl | (simp only [List.length_drop, List.length_take]; rfl)) ?_; (with_reducible refine (solsticeref01_Clock.calls k a0 t218 t219 _ A10.out).mono ?_); rintro e w14 ⟨rfl, hb⟩; refine ⟨_, rfl, ?_⟩; have n0_ := Aside0.mk (below_step (by repeat (first | (with_reducible first | exact HB.out | apply below_alloc | apply pw_below_drewN | apply below_drew1) | exact HB.out)) hb); clear HB; have HB := n0_; clear n0_; (try clear hb); (try clear hb2); (try clear hk); (try clear hi)))
  (try simp only [Act.put, List.setIfInBounds_toArray, List.set_cons_zero, List.set_cons_succ])
  go_cut [73] (fun v73 wc => ∃ (kq : Nat) (x73_10 : Bool), v73 = .bool x73_10 ∧ Aside0 (solsticelaw04_ClockExact.j0 kq a1 a2 a3 t212 t213 t214 t215 t216 t217 x73_10 = some r) ∧ Aside0 (kq ≤ k) ∧ Aside0 (Below w.heap.size w wc))
  case first =>
   have H := HC11.out
   clear HC11
   by_cases c15 : t219 = true
   ·subst c15
    have H1 : (if t211 = 0 then (solsticelaw04_ClockExact.j0 k a1 a2 a3 t212 t213 t214 t215 t216 t217 (t210 != t218)) else (solsticelaw04_ClockExact.j0 k a1 a2 a3 t212 t213 t214 t215 t216 t217 true)) = some r := by rw [if_pos rfl] at H; exact H
    clear H
    have H := H1
    clear H1
    by_cases c16 : t211 = 0
    ·rw [if_pos c16] at H
     have c16b0 : (t211 == 0) = true := beq_iff_eq.mpr c16
     have c16b1 : (t211 != 0) = false := bne_eq_false_iff_eq.mpr c16
     clear c16
     (first | rw [c16b0] | (simp only [i64_w, i32_w]; rw [c16b0]) | skip)
     have H' := Aside0.mk H
     clear H
     go_wp2
     go_meet
     case rel => exact ⟨_, ((t210 != t218)), (by first | rfl | (simp; done) | (simp [*]; done)), H', ⟨by first | omega | exact Nat.le_refl _⟩, ⟨by repeat (first | (with_reducible first | exact HB.out | apply below_alloc | apply pw_below_drewN | apply below_drew1) | exact HB.out)⟩⟩
    ·rw [if_neg c16] at H
     have c16b0 : (t211 == 0) = false := beq_eq_false_iff_ne.mpr c16
     have c16b1 : (t211 != 0) = true := bne_iff_ne.mpr c16
     (first | rw [c16b0] | (simp only [i64_w, i32_w]; rw [c16b0]) | skip)
     have H' := Aside0.mk H
     clear H
     go_wp2
     go_meet
     case rel => exact ⟨_, (true), (by first | rfl | (simp; done) | (simp [*]; done)), H', ⟨by first | omega | exact Nat.le_refl _⟩, ⟨by repeat (first | (with_reducible first | exact HB.out | apply below_alloc | apply pw_below_drewN | apply below_drew1) | exact HB.out)⟩⟩
   ·replace c15 := Bool.eq_false_iff.mpr c15
    subst c15
    have H1 : (if t211 = 5 then (if t210 = 0 then (solsticelaw04_ClockExact.j0 k a1 a2 a3 t212 t213 t214 t215 t216 t217 false) else (solsticelaw04_ClockExact.j0 k a1 a2 a3 t212 t213 t214 t215 t216 t217 true)) else (solsticelaw04_ClockExact.j0 k a1 a2 a3 t212 t213 t214 t215 t216 t217 true)) = some r := by rw [if_neg (show ¬ (false = true) by decide)] at H; exact H
    clear H
    have H := H1
    clear H1
    by_cases c17 : t211 = 5
    ·rw [if_pos c17] at H
     have c17b0 : (t211 == 5) = true := beq_iff_eq.mpr c17
     have c17b1 : (t211 != 5) = false := bne_eq_false_iff_eq.mpr c17
     clear c17
     by_cases c18 : t210 = 0
     ·rw [if_pos c18] at H
      have c18b0 : (t210 == 0) = true := beq_iff_eq.mpr c18
      have c18b1 : (t210 != 0) = false := bne_eq_false_iff_eq.mpr c18
      clear c18
      have H' := Aside0.mk H
      clear H
      go_wp2
      go_meet
      case rel => exact ⟨_, (false), (by first | rfl | (simp; done) | (simp [*]; done)), H', ⟨by first | omega | exact Nat.le_refl _⟩, ⟨by repeat (first | (with_reducible first | exact HB.out | apply below_alloc | apply pw_below_drewN | apply below_drew1) | exact HB.out)⟩⟩
     ·rw [if_neg c18] at H
      have c18b0 : (t210 == 0) = false := beq_eq_false_iff_ne.mpr c18
      have c18b1 : (t210 != 0) = true := bne_iff_ne.mpr c18
      have H' := Aside0.mk H
      clear H
      go_wp2
      go_meet
      case rel => exact ⟨_, (true), (by first | rfl | (simp; done) | (simp [*]; done)), H', ⟨by first | omega | exact Nat.le_refl _⟩, ⟨by repeat (first | (with_reducible first | exact HB.out | apply below_alloc | apply pw_below_drewN | apply below_drew1) | exact HB.out)⟩⟩
    ·rw [if_neg c17] at H
     have c17b0 : (t211 == 5) = false := beq_eq_false_iff_ne.mpr c17
     have c17b1 : (t211 != 5) = true := bne_iff_ne.mpr c17
     have H' := Aside0.mk H
     clear H
     go_wp2
     go_meet
     case rel => exact ⟨_, (true), (by first | rfl | (simp; done) | (simp [*]; done)), H', ⟨by first | omega | exact Nat.le_refl _⟩, ⟨by repeat (first | (with_reducible first | exact HB.out | apply below_alloc | apply pw_below_drewN | apply below_drew1) | exact HB.out)⟩⟩
  case rest =>
   as_aux_lemma =>
    clear HC11
    try clear c1
    try clear p2
    try clear c3
    try clear c5
    try clear c5b0
    try clear c5b1
    try clear c9
    try clear c15
    try clear c16
    try clear c16b0
    try clear c16b1
    try clear c17
    try clear c17b0
    try clear c17b1
    try clear c18
    try clear c18b0
    try clear c18b1
    obtain ⟨kq, x73_10, rfl, HA, HJ10, HB⟩ := hcut
    cases kq with
    | zero => exact absurd HA.out (by simp [solsticelaw04_ClockExact.j0])
    | succ kj10 =>
     have H := HA.out
     clear HA
     simp only [solsticelaw04_ClockExact.j0] at H
     by_cases c19 : x73_10 = true
     ·subst c19
      have H1 : (some false) = some r := by rw [if_pos rfl] at H; exact H
      clear H
      have H := H1
      clear H1
      obtain rfl := Option.some.inj H
      cases htrue
     ·replace c19 := Bool.eq_false_iff.mpr c19
      subst c19
      have H1 : ((solsticeref01_Div.f a1 86400).bind fun bt220 => (if bt220.1 = t214 then (solsticelaw04_ClockExact.j1 kj10 a1 a2 a3 t212 t213 t216 t217 (bt220.2 != t215)) else (solsticelaw04_ClockExact.j1 kj10 a1 a2 a3 t212 t213 t216 t217 true))) = some r := by rw [if_neg (show ¬ (false = true) by decide)] at H; exact H
      clear H
      have H := H1
      clear H1
      replace H := Option.bind_eq_some_iff.mp H
      obtain ⟨⟨t220, t221⟩, A200, H⟩ := H
      replace H : (if t220 = t214 then (solsticelaw04_ClockExact.j1 kj10 a1 a2 a3 t212 t213 t216 t217 (t221 != t215)) else (solsticelaw04_ClockExact.j1 kj10 a1 a2 a3 t212 t213 t216 t217 true)) = some r := H
      have A20 := Aside0.mk A200
      clear A200
      have HC21 := Aside0.mk H
      clear H
      go_upto_region 11 with (first | ((with_reducible refine gate_callee (f := 30) rfl ?_); refine goesL_ (some 76) rfl rfl Tryd.func30 (by kernel_rfl) rfl #[.int .i64 a1, .int .i64 86400] rfl (by (try simp only [List.map_toArray, List.map_cons, List.map_nil]); first | done | rfl | (simp only [List.length_drop, List.length_take]; rfl)) ?_; (with_reducible refine (solsticeref01_Div.calls a1 86400 t220 t221 _ A20.out).mono ?_); rintro e w' ⟨rfl, ⟨nd, rfl⟩⟩; refine ⟨_, rfl, ?_⟩))
      (try simp only [Act.put, List.setIfInBounds_toArray, List.set_cons_zero, List.set_cons_succ])
      go_cut [86] (fun v86 wc => ∃ (kq : Nat) (x86_20 : Bool), v86 = .bool x86_20 ∧ Aside0 (solsticelaw04_ClockExact.j1 kq a1 a2 a3 t212 t213 t216 t217 x86_20 = some r) ∧ Aside0 (kq ≤ kj10) ∧ Aside0 (Below w.heap.size w wc))
      case first =>
       have H := HC21.out
       clear HC21
       by_cases c22 : t220 = t214
       ·rw [if_pos c22] at H
        have c22b0 : (t220 == t214) = true := beq_iff_eq.mpr c22
        have c22b1 : (t220 != t214) = false := bne_eq_false_iff_eq.mpr c22
        clear c22
        (first | rw [c22b0] | (simp only [i64_w, i32_w]; rw [c22b0]) | skip)
        have H' := Aside0.mk H
        clear H
        go_wp2
        go_meet
        case rel => exact ⟨_, ((t221 != t215)), (by first | rfl | (simp; done) | (simp [*]; done)), H', ⟨by have := HJ10.out; first | omega | exact Nat.le_refl _⟩, ⟨by repeat (first | (with_reducible first | exact HB.out | apply below_alloc | apply pw_below_drewN | apply below_drew1) | exact HB.out)⟩⟩
       ·rw [if_neg c22] at H
        have c22b0 : (t220 == t214) = false := beq_eq_false_iff_ne.mpr c22
        have c22b1 : (t220 != t214) = true := bne_iff_ne.mpr c22
        (first | rw [c22b0] | (simp only [i64_w, i32_w]; rw [c22b0]) | skip)
        have H' := Aside0.mk H
        clear H
        go_wp2
        go_meet
        case rel => exact ⟨_, (true), (by first | rfl | (simp; done) | (simp [*]; done)), H', ⟨by have := HJ10.out; first | omega | exact Nat.le_refl _⟩, ⟨by repeat (first | (with_reducible first | exact HB.out | apply below_alloc | apply pw_below_drewN | apply below_drew1) | exact HB.out)⟩⟩
      case rest =>
       as_aux_lemma =>
        clear HC21
        try clear c1
        try clear c2
        try clear p2
        try clear c3
        try clear c5
        try clear c5b0
        try clear c5b1
        try clear c9
        try clear c15
        try clear c16
        try clear c16b0
        try clear c16b1
        try clear c17
        try clear c17b0
        try clear c17b1
        try clear c18
        try clear c18b0
        try clear c18b1
        try clear c19
        try clear c22
        try clear c22b0
        try clear c22b1
        try clear p2
        obtain ⟨kq, x86_20, rfl, HA, HJ20, HB⟩ := hcut
        cases kq with
        | zero => exact absurd HA.out (by simp [solsticelaw04_ClockExact.j1])
        | succ kj20 =>
         have H := HA.out
         clear HA
         simp only [solsticelaw04_ClockExact.j1] at H
         by_cases c23 : x86_20 = true
         ·subst c23
          have H1 : (some false) = some r := by rw [if_pos rfl] at H; exact H
          clear H
          have H := H1
          clear H1
          obtain rfl := Option.some.inj H
          cases htrue
         ·replace c23 := Bool.eq_false_iff.mpr c23
          subst c23
          have H1 : ((solsticeref01_JoinDay.f a2 a3).bind fun bt222 => (if t216 = bt222.1 then (solsticelaw04_ClockExact.j2 kj20 a1 t212 t213 (t217 != bt222.2)) else (solsticelaw04_ClockExact.j2 kj20 a1 t212 t213 true))) = some r := by rw [if_neg (show ¬ (false = true) by decide)] at H; exact H
          clear H
          have H := H1
          clear H1
          replace H := Option.bind_eq_some_iff.mp H
          obtain ⟨⟨t222, t223⟩, A240, H⟩ := H
          replace H : (if t216 = t222 then (solsticelaw04_ClockExact.j2 kj20 a1 t212 t213 (t217 != t223)) else (solsticelaw04_ClockExact.j2 kj20 a1 t212 t213 true)) = some r := H
          have A24 := Aside0.mk A240
          clear A240
          have HC25 := Aside0.mk H
          clear H
          go_upto_region 14 with (first | ((with_reducible refine gate_callee (f := 38) rfl ?_); refine goesL_ (some 90) rfl rfl Tryd.func38 (by kernel_rfl) rfl #[.int .i64 a2, .int .i64 a3] rfl (by (try simp only [List.map_toArray, List.map_cons, List.map_nil]); first | done | rfl | (simp only [List.length_drop, List.length_take]; rfl)) ?_; (with_reducible refine (solsticeref01_JoinDay.calls a2 a3 t222 t223 _ A24.out).mono ?_); rintro e w' ⟨rfl, ⟨nd, rfl⟩⟩; refine ⟨_, rfl, ?_⟩))
          (try simp only [Act.put, List.setIfInBounds_toArray, List.set_cons_zero, List.set_cons_succ])
          go_cut [100] (fun v100 wc => ∃ (kq : Nat) (x100_24 : Bool), v100 = .bool x100_24 ∧ Aside0 (solsticelaw04_ClockExact.j2 kq a1 t212 t213 x100_24 = some r) ∧ Aside0 (kq ≤ kj20) ∧ Aside0 (Below w.heap.size w wc))
          case first =>
           have H := HC25.out
           clear HC25
           by_cases c26 : t216 = t222
           ·rw [if_pos c26] at H
            have c26b0 : (t216 == t222) = true := beq_iff_eq.mpr c26
            have c26b1 : (t216 != t222) = false := bne_eq_false_iff_eq.mpr c26
            clear c26
            (first | rw [c26b0] | (simp only [i64_w, i32_w]; rw [c26b0]) | skip)
            have H' := Aside0.mk H
            clear H
            go_wp2
            go_meet
            case rel => exact ⟨_, ((t217 != t223)), (by first | rfl | (simp; done) | (simp [*]; done)), H', ⟨by have := HJ10.out; have := HJ20.out; first | omega | exact Nat.le_refl _⟩, ⟨by repeat (first | (with_reducible first | exact HB.out | apply below_alloc | apply pw_below_drewN | apply below_drew1) | exact HB.out)⟩⟩
           ·rw [if_neg c26] at H
            have c26b0 : (t216 == t222) = false := beq_eq_false_iff_ne.mpr c26
            have c26b1 : (t216 != t222) = true := bne_iff_ne.mpr c26
            (first | rw [c26b0] | (simp only [i64_w, i32_w]; rw [c26b0]) | skip)
            have H' := Aside0.mk H
            clear H
            go_wp2
            go_meet
            case rel => exact ⟨_, (true), (by first | rfl | (simp; done) | (simp [*]; done)), H', ⟨by have := HJ10.out; have := HJ20.out; first | omega | exact Nat.le_refl _⟩, ⟨by repeat (first | (with_reducible first | exact HB.out | apply below_alloc | apply pw_below_drewN | apply below_drew1) | exact HB.out)⟩⟩
          case rest =>
           as_aux_lemma =>
            clear HC25
            try clear c1
            try clear c2
            try clear p2
            try clear c3
            try clear c5
            try clear c5b0
            try clear c5b1
            try clear c9
            try clear c15
            try clear c16
            try clear c16b0
            try clear c16b1
            try clear c17
            try clear c17b0
            try clear c17b1
            try clear c18
            try clear c18b0
            try clear c18b1
            try clear c19
            try clear c22
            try clear c22b0
            try clear c22b1
            try clear c23
            try clear c26
            try clear c26b0
            try clear c26b1
            try clear p2
            obtain ⟨kq, x100_24, rfl, HA, HJ24, HB⟩ := hcut
            cases kq with
            | zero => exact absurd HA.out (by simp [solsticelaw04_ClockExact.j2])
            | succ kj24 =>
             have H := HA.out
             clear HA
             simp only [solsticelaw04_ClockExact.j2] at H
             by_cases c27 : x100_24 = true
             ·subst c27
              have H1 : (some false) = some r := by rw [if_pos rfl] at H; exact H
              clear H
              have H := H1
              clear H1
              obtain rfl := Option.some.inj H
              cases htrue
             ·replace c27 := Bool.eq_false_iff.mpr c27
              subst c27
              have H1 : (if a1 < (-345600) then (solsticelaw04_ClockExact.j3 kj24 a1 t212 t213 true) else (solsticelaw04_ClockExact.j3 kj24 a1 t212 t213 (decide (a1 > 345600)))) = some r := by rw [if_neg (show ¬ (false = true) by decide)] at H; exact H
              clear H
              have H := H1
              clear H1
              have HC28 := Aside0.mk H
              clear H
              go_upto_region 16 with (fail)
              go_cut [106] (fun v106 wc => ∃ (kq : Nat) (x106_27 : Bool), v106 = .bool x106_27 ∧ Aside0 (solsticelaw04_ClockExact.j3 kq a1 t212 t213 x106_27 = some r) ∧ Aside0 (kq ≤ kj24) ∧ Aside0 (Below w.heap.size w wc))
              case first =>
               have H := HC28.out
               clear HC28
               by_cases c29 : a1 < (-345600)
               ·rw [if_pos c29] at H
                have c29b0 : decide (a1 < (-345600)) = true := decide_eq_true c29
                clear c29
                (first | rw [c29b0] | (simp only [i64_w, i32_w]; rw [c29b0]) | skip)
                have H' := Aside0.mk H
                clear H
                go_wp2
                go_meet
                case rel => exact ⟨_, (true), (by first | rfl | (simp; done) | (simp [*]; done)), H', ⟨by have := HJ10.out; have := HJ20.out; have := HJ24.out; first | omega | exact Nat.le_refl _⟩, ⟨by repeat (first | (with_reducible first | exact HB.out | apply below_alloc | apply pw_below_drewN | apply below_drew1) | exact HB.out)⟩⟩
               ·rw [if_neg c29] at H
                have c29b0 : decide (a1 < (-345600)) = false := decide_eq_false c29
                clear c29
                (first | rw [c29b0] | (simp only [i64_w, i32_w]; rw [c29b0]) | skip)
                have H' := Aside0.mk H
                clear H
                go_wp2
                go_meet
                case rel => exact ⟨_, (decide (a1 > 345600)), (by first | rfl | (simp; done) | (simp [*]; done)), H', ⟨by have := HJ10.out; have := HJ20.out; have := HJ24.out; first | omega | exact Nat.le_refl _⟩, ⟨by repeat (first | (with_reducible first | exact HB.out | apply below_alloc | apply pw_below_drewN | apply below_drew1) | exact HB.out)⟩⟩
              case rest =>
               as_aux_lemma =>
                clear HC28
                try clear c1
                try clear c2
                try clear p2
                try clear c3
                try clear c5
                try clear c5b0
                try clear c5b1
                try clear c9
                try clear c15
                try clear c16
                try clear c16b0
                try clear c16b1
                try clear c17
                try clear c17b0
                try clear c17b1
                try clear c18
                try clear c18b0
                try clear c18b1
                try clear c19
                try clear c22
                try clear c22b0
                try clear c22b1
                try clear c23
                try clear c26
                try clear c26b0
                try clear c26b1
                try clear c27
                try clear c29
                try clear c29b0
                try clear p2
                obtain ⟨kq, x106_27, rfl, HA, HJ27, HB⟩ := hcut
                cases kq with
                | zero => exact absurd HA.out (by simp [solsticelaw04_ClockExact.j3])
                | succ kj27 =>
                 have H := HA.out
                 clear HA
                 simp only [solsticelaw04_ClockExact.j3] at H
                 by_cases c30 : x106_27 = true
                 ·subst c30
                  have H1 : (if t213 = 5 then (if t212.toList = ([] : List UInt8) then ((solsticelaw04_wakes.f kj27).bind fun t224 => (some t224)) else (some false)) else (some false)) = some r := by rw [if_pos rfl] at H; exact H
                  clear H
                  have H := H1
                  clear H1
                  by_cases c31 : t213 = 5
                  ·rw [if_pos c31] at H
                   have c31b0 : (t213 == 5) = true := beq_iff_eq.mpr c31
                   have c31b1 : (t213 != 5) = false := bne_eq_false_iff_eq.mpr c31
                   clear c31
                   by_cases c32 : t212.toList = ([] : List UInt8)
                   ·rw [if_pos c32] at H
                    have c32b0 : (t212.toList == ([] : List UInt8)) = true := beq_iff_eq.mpr c32
                    have c32b1 : (t212.toList != ([] : List UInt8)) = false := bne_eq_false_iff_eq.mpr c32
                    clear c32
                    replace H := Option.bind_eq_some_iff.mp H
                    obtain ⟨t224, A330, H⟩ := H
                    replace H : (some t224) = some r := H
                    have A33 := Aside0.mk A330
                    clear A330
                    obtain rfl := Option.some.inj H
                    go_wp2_with (first | (go_at_call 39; (with_reducible refine (solsticelaw04_wakes.calls kj27  t224 htrue _ ?sideG A33.out).mono ?_); (case sideG => first | exact GP_below HG.out (by repeat (first | (with_reducible first | exact HB.out | apply below_alloc | apply pw_below_drewN | apply below_drew1) | exact HB.out)) | repeat (first | exact HG.out | refine GP_alloc ?_ _ | refine GP_drewN ?_ _ | refine GP_drew ?_)); rintro e w34 ⟨rfl, hb⟩; have n0_ := Aside0.mk (below_step (by repeat (first | (with_reducible first | exact HB.out | apply below_alloc | apply pw_below_drewN | apply below_drew1) | exact HB.out)) hb); clear HB; have HB := n0_; clear n0_; (try clear hb); (try clear hb2); (try clear hk); (try clear hi)))
                    go_ret
                    exact ⟨by first | rfl | (simp [errW_none, errW_some] <;> rfl) | (simp [*, errW_none, errW_some] <;> rfl), by repeat (first | (with_reducible first | exact HB.out | apply below_alloc | apply pw_below_drewN | apply below_drew1) | exact HB.out)⟩
                   ·rw [if_neg c32] at H
                    have c32b0 : (t212.toList == ([] : List UInt8)) = false := beq_eq_false_iff_ne.mpr c32
                    have c32b1 : (t212.toList != ([] : List UInt8)) = true := bne_iff_ne.mpr c32
                    obtain rfl := Option.some.inj H
                    cases htrue
                  ·rw [if_neg c31] at H
                   have c31b0 : (t213 == 5) = false := beq_eq_false_iff_ne.mpr c31
                   have c31b1 : (t213 != 5) = true := bne_iff_ne.mpr c31
                   obtain rfl := Option.some.inj H
                   cases htrue
                 ·replace c30 := Bool.eq_false_iff.mpr c30
                  subst c30
                  have H1 : (if t213 = 0 then ((solsticeref01_ClockText.f kj27 a1).bind fun t225 => (if t212.toList = t225.toList then ((solsticelaw04_wakes.f kj27).bind fun t226 => (some t226)) else (some false))) else (some false)) = some r := by rw [if_neg (show ¬ (false = true) by decide)] at H; exact H
                  clear H
                  have H := H1
                  clear H1
                  by_cases c35 : t213 = 0
                  ·rw [if_pos c35] at H
                   have c35b0 : (t213 == 0) = true := beq_iff_eq.mpr c35
                   have c35b1 : (t213 != 0) = false := bne_eq_false_iff_eq.mpr c35
                   clear c35
                   replace H := Option.bind_eq_some_iff.mp H
                   obtain ⟨t225, A360, H⟩ := H
                   replace H : (if t212.toList = t225.toList then ((solsticelaw04_wakes.f kj27).bind fun t226 => (some t226)) else (some false)) = some r := H
                   have A36 := Aside0.mk A360
                   clear A360
                   by_cases c37 : t212.toList = t225.toList
                   ·rw [if_pos c37] at H
                    have c37b0 : (t212.toList == t225.toList) = true := beq_iff_eq.mpr c37
                    have c37b1 : (t212.toList != t225.toList) = false := bne_eq_false_iff_eq.mpr c37
                    clear c37
                    replace H := Option.bind_eq_some_iff.mp H
                    obtain ⟨t226, A380, H⟩ := H
                    replace H : (some t226) = some r := H
                    have A38 := Aside0.mk A380
                    clear A380
                    obtain rfl := Option.some.inj H
                    go_wp2_with (first | (go_at_call 40; (with_reducible refine (solsticeref01_ClockText.calls kj27 a1 t225 _ A36.out).mono ?_); rintro e w39 ⟨rfl, hb⟩; have n0_ := Aside0.mk (below_step (by repeat (first | (with_reducible first | exact HB.out | apply below_alloc | apply pw_below_drewN | apply below_drew1) | exact HB.out)) hb); clear HB; have HB := n0_; clear n0_; (try clear hb); (try clear hb2); (try clear hk); (try clear hi)) | (go_at_call 39; (with_reducible refine (solsticelaw04_wakes.calls kj27  t226 htrue _ ?sideG A38.out).mono ?_); (case sideG => first | exact GP_below HG.out (by repeat (first | (with_reducible first | exact HB.out | apply below_alloc | apply pw_below_drewN | apply below_drew1) | exact HB.out)) | repeat (first | exact HG.out | refine GP_alloc ?_ _ | refine GP_drewN ?_ _ | refine GP_drew ?_)); rintro e w40 ⟨rfl, hb⟩; have n0_ := Aside0.mk (below_step (by repeat (first | (with_reducible first | exact HB.out | apply below_alloc | apply pw_below_drewN | apply below_drew1) | exact HB.out)) hb); clear HB; have HB := n0_; clear n0_; (try clear hb); (try clear hb2); (try clear hk); (try clear hi)))
                    go_ret
                    exact ⟨by first | rfl | (simp [errW_none, errW_some] <;> rfl) | (simp [*, errW_none, errW_some] <;> rfl), by repeat (first | (with_reducible first | exact HB.out | apply below_alloc | apply pw_below_drewN | apply below_drew1) | exact HB.out)⟩
                   ·rw [if_neg c37] at H
                    have c37b0 : (t212.toList == t225.toList) = false := beq_eq_false_iff_ne.mpr c37
                    have c37b1 : (t212.toList != t225.toList) = true := bne_iff_ne.mpr c37
                    obtain rfl := Option.some.inj H
                    cases htrue
                  ·rw [if_neg c35] at H
                   have c35b0 : (t213 == 0) = false := beq_eq_false_iff_ne.mpr c35
                   have c35b1 : (t213 != 0) = true := bne_iff_ne.mpr c35
                   obtain rfl := Option.some.inj H
                   cases htrue
def solsticelaw04_ClockExact.Pure : Prop := ∀ (a0 : ByteArray) (a1 : Int) (a2 : Int) (a3 : Int), a0.size ≤ 140737488351232 → (Lit.int .i64 a1).wf = true → (Lit.int .i64 a2).wf = true → (Lit.int .i64 a3).wf = true → ∃ k, solsticelaw04_ClockExact.f k a0 a1 a2 a3 = some true
def solsticeref01_small.f (a0 : Int) : Option (Int) := if a0 ≥ 65 then (if a0 ≤ 90 then (some ((a0 + 32) % 256)) else (some a0)) else (some a0)
set_option maxHeartbeats 8000000 in
set_option maxRecDepth 100000 in
theorem solsticeref01_small.calls (a0 : Int) (r : Int) (w : World) (h : solsticeref01_small.f a0 = some r) :
  Calls Tryd.prog 70 #[.int .u8 a0] w fun e w' => e = .returned (.int .u8 r) ∧ Drawn0 w w' := by
 have H : (if a0 ≥ 65 then (if a0 ≤ 90 then (some ((a0 + 32) % 256)) else (some a0)) else (some a0)) = some r := h
 clear h
 by_cases c2 : a0 ≥ 65
 ·rw [if_pos c2] at H
  have c2b0 : decide (65 ≤ a0) = true := decide_eq_true c2
  clear c2
  by_cases c3 : a0 ≤ 90
  ·rw [if_pos c3] at H
   have c3b0 : decide (a0 ≤ 90) = true := decide_eq_true c3
   clear c3
   obtain rfl := Option.some.inj H
   go_enter Tryd.func70, Tryd.ntmps70
   go_wp2
   go_ret
   exact ⟨by first | rfl | (simp; done) | (simp [*]; done), by repeat (first | exact Drawn0.refl _ | apply Drawn0.step)⟩
  ·rw [if_neg c3] at H
   have c3b0 : decide (a0 ≤ 90) = false := decide_eq_false c3
   clear c3
   obtain rfl := Option.some.inj H
   go_enter Tryd.func70, Tryd.ntmps70
   go_wp2
   go_ret
   exact ⟨by first | rfl | (simp; done) | (simp [*]; done), by repeat (first | exact Drawn0.refl _ | apply Drawn0.step)⟩
 ·rw [if_neg c2] at H
  have c2b0 : decide (65 ≤ a0) = false := decide_eq_false c2
  clear c2
  obtain rfl := Option.some.inj H
  go_enter Tryd.func70, Tryd.ntmps70
  go_wp2
  go_ret
  exact ⟨by first | rfl | (simp; done) | (simp [*]; done), by repeat (first | exact Drawn0.refl _ | apply Drawn0.step)⟩
end Go.Proofs.YtlfohcjajmebjaaDoor.PClk