-- Printed by a program of this session's over the kit's printer; library functions by contracts off the shelf.
import Derived.Test.YtlfohcjajmebjaaDoorGP
import Derived.Test.YtlfohcjajmebjaaDoorPNumx0
import Derived.Test.YtlfohcjajmebjaaDoorPNumx1
import Derived.Test.YtlfohcjajmebjaaDoorPNumx3
namespace Go.Proofs.YtlfohcjajmebjaaDoor.PNum
open Go.RowKit Go.Proofs.YtlfohcjajmebjaaDoorW.PrintWords Go.Proofs.YtlfohcjajmebjaaDoorW.PrintLast Go.Proofs.YtlfohcjajmebjaaDoorW.PrintMore Go.Proofs.YtlfohcjajmebjaaDoor.Base
attribute [local go_sem] max2_int min2_int max_two min_two max_three min_three max_four min_four   -- for this text's walks alone
set_option linter.unusedVariables false
set_option linter.unusedSimpArgs false

/-! ### solsticelaw01_NumBack: function 7 -/
mutual
def solsticelaw01_NumBack.j0 : Nat → Int → Int → Option (Bool)
  | 0, _, _ => none
  | k + 1, x0, x1 => (num_Add.f x0 x1).bind fun bt181 => (if bt181.2 = true then ((num_Add.f bt181.1 (wrap64 (-x0))).bind fun bt183 => (if bt183.2 = true then (if bt183.1 = x1 then (solsticelaw01_NumBack.j1 k x0 x1) else (some false)) else (some false))) else (solsticelaw01_NumBack.j1 k x0 x1))
def solsticelaw01_NumBack.j1 : Nat → Int → Int → Option (Bool)
  | 0, _, _ => none
  | k + 1, x0, x1 => (num_Mul.f k x0 x1).bind fun bt185 => (if bt185.2 = true then (solsticelaw01_NumBack.j2 k x0 x1 bt185.1 (decide (x1 > 0))) else (solsticelaw01_NumBack.j2 k x0 x1 bt185.1 false))
def solsticelaw01_NumBack.j2 : Nat → Int → Int → Int → Bool → Option (Bool)
  | 0, _, _, _, _ => none
  | k + 1, x0, x1, x16, x91 => if x91 = true then ((num_Div.f k x16 x1).bind fun bt187 => (if bt187.2.2 = true then (if bt187.1 = x0 then (if bt187.2.1 = 0 then ((solsticelaw01_wakes.f k).bind fun t190 => (some t190)) else (some false)) else (some false)) else (some false))) else ((solsticelaw01_wakes.f k).bind fun t191 => (some t191))
end
def solsticelaw01_NumBack.f (k : Nat) (a0 : Int) (a1 : Int) : Option (Bool) := (num_Div.f k a0 a1).bind fun bt174 => (if bt174.2.2 = true then ((num_Mul.f k bt174.1 a1).bind fun bt177 => ((num_Add.f bt177.1 bt174.2.1).bind fun bt179 => (if bt177.2 = true then (if bt179.2 = true then (if bt179.1 = a0 then (if bt174.2.1 < 0 then (some false) else (if bt174.2.1 ≥ a1 then (some false) else (solsticelaw01_NumBack.j0 k a0 a1))) else (some false)) else (some false)) else (if bt174.2.1 < 0 then (some false) else (if bt174.2.1 ≥ a1 then (some false) else (solsticelaw01_NumBack.j0 k a0 a1)))))) else (solsticelaw01_NumBack.j0 k a0 a1))
theorem solsticelaw01_NumBack.mono_l : ∀ k, (∀ y0 y1, LeO (solsticelaw01_NumBack.j0 k y0 y1) (solsticelaw01_NumBack.j0 (k + 1) y0 y1)) ∧ (∀ y0 y1, LeO (solsticelaw01_NumBack.j1 k y0 y1) (solsticelaw01_NumBack.j1 (k + 1) y0 y1)) ∧ (∀ y0 y1 y2 y3, LeO (solsticelaw01_NumBack.j2 k y0 y1 y2 y3) (solsticelaw01_NumBack.j2 (k + 1) y0 y1 y2 y3))
  | 0 => ⟨fun _ _ r h => by simp [solsticelaw01_NumBack.j0] at h, fun _ _ r h => by simp [solsticelaw01_NumBack.j1] at h, fun _ _ _ _ r h => by simp [solsticelaw01_NumBack.j2] at h⟩
  | k + 1 => by
    obtain ⟨ih0, ih1, ih2⟩ := solsticelaw01_NumBack.mono_l k
    refine ⟨?_, ?_, ?_⟩
    · intro y0 y1
      unfold solsticelaw01_NumBack.j0
      repeat' first
      | (with_reducible exact ih0 _ _)
      | (with_reducible exact ih1 _ _)
      | (with_reducible exact ih2 _ _ _ _)
      | (with_reducible exact num_Div.mono _ _ _)
      | (with_reducible exact num_Mul.mono _ _ _)
      | (with_reducible exact solsticelaw01_wakes.mono _)
      | (with_reducible exact LeO.refl _)
      | (with_reducible exact LeO.none _)
      | (with_reducible refine LeO.ite ?_ ?_)
      | (with_reducible refine LeO.bind ?_ (fun _ => ?_))
      | exact ih0 _ _
      | exact ih1 _ _
      | exact ih2 _ _ _ _
      | exact num_Div.mono _ _ _
      | exact num_Mul.mono _ _ _
      | exact solsticelaw01_wakes.mono _
      | exact LeO.none _
      | refine LeO.ite ?_ ?_
      | refine LeO.bind ?_ (fun _ => ?_)
    · intro y0 y1
      unfold solsticelaw01_NumBack.j1
      repeat' first
      | (with_reducible exact ih0 _ _)
      | (with_reducible exact ih1 _ _)
      | (with_reducible exact ih2 _ _ _ _)
      | (with_reducible exact num_Div.mono _ _ _)
      | (with_reducible exact num_Mul.mono _ _ _)
      | (with_reducible exact solsticelaw01_wakes.mono _)
      | (with_reducible exact LeO.refl _)
      | (with_reducible exact LeO.none _)
      | (with_reducible refine LeO.ite ?_ ?_)
      | (with_reducible refine LeO.bind ?_ (fun _ => ?_))
      | exact ih0 _ _
      | exact ih1 _ _
      | exact ih2 _ _ _ _
      | exact num_Div.mono _ _ _
      | exact num_Mul.mono _ _ _
      | exact solsticelaw01_wakes.mono _
      | exact LeO.none _
      | refine LeO.ite ?_ ?_
      | refine LeO.bind ?_ (fun _ => ?_)
    · intro y0 y1 y2 y3
      unfold solsticelaw01_NumBack.j2
      repeat' first
      | (with_reducible exact ih0 _ _)
      | (with_reducible exact ih1 _ _)
      | (with_reducible exact ih2 _ _ _ _)
      | (with_reducible exact num_Div.mono _ _ _)
      | (with_reducible exact num_Mul.mono _ _ _)
      | (with_reducible exact solsticelaw01_wakes.mono _)
      | (with_reducible exact LeO.refl _)
      | (with_reducible exact LeO.none _)
      | (with_reducible refine LeO.ite ?_ ?_)
      | (with_reducible refine LeO.bind ?_ (fun _ => ?_))
      | exact ih0 _ _
      | exact ih1 _ _
      | exact ih2 _ _ _ _
      | exact num_Div.mono _ _ _
      | exact num_Mul.mono _ _ _
      | exact solsticelaw01_wakes.mono _
      | exact LeO.none _
      | refine LeO.ite ?_ ?_
      | refine LeO.bind ?_ (fun _ => ?_)
theorem solsticelaw01_NumBack.mono : ∀ a0 a1 k, LeO (solsticelaw01_NumBack.f k a0 a1) (solsticelaw01_NumBack.f (k + 1) a0 a1) := by
  intro a0 a1 k
  obtain ⟨ih0, ih1, ih2⟩ := solsticelaw01_NumBack.mono_l k
  unfold solsticelaw01_NumBack.f
  repeat' first
      | (with_reducible exact ih0 _ _)
      | (with_reducible exact ih1 _ _)
      | (with_reducible exact ih2 _ _ _ _)
      | (with_reducible exact num_Div.mono _ _ _)
      | (with_reducible exact num_Mul.mono _ _ _)
      | (with_reducible exact solsticelaw01_wakes.mono _)
      | (with_reducible exact LeO.refl _)
      | (with_reducible exact LeO.none _)
      | (with_reducible refine LeO.ite ?_ ?_)
      | (with_reducible refine LeO.bind ?_ (fun _ => ?_))
      | exact ih0 _ _
      | exact ih1 _ _
      | exact ih2 _ _ _ _
      | exact num_Div.mono _ _ _
      | exact num_Mul.mono _ _ _
      | exact solsticelaw01_wakes.mono _
      | exact LeO.none _
      | refine LeO.ite ?_ ?_
      | refine LeO.bind ?_ (fun _ => ?_)
set_option maxHeartbeats 8000000 in
set_option maxRecDepth 100000 in
theorem solsticelaw01_NumBack.calls (k : Nat) (a0 : Int) (a1 : Int) (r : Bool) (w : World) (hG : GP w) (h : solsticelaw01_NumBack.f k a0 a1 = some r) :
    Calls Tryd.prog 7 #[.int .i64 a0, .int .i64 a1] w fun e w' => e = .returned (.bool r) ∧ Below w.heap.size w w' := by
  have HG := Aside0.mk hG
  clear hG
  have HB := Aside0.mk (Below.refl w.heap.size w)
  have H : ((num_Div.f k a0 a1).bind fun bt174 => (if bt174.2.2 = true then ((num_Mul.f k bt174.1 a1).bind fun bt177 => ((num_Add.f bt177.1 bt174.2.1).bind fun bt179 => (if bt177.2 = true then (if bt179.2 = true then (if bt179.1 = a0 then (if bt174.2.1 < 0 then (some false) else (if bt174.2.1 ≥ a1 then (some false) else (solsticelaw01_NumBack.j0 k a0 a1))) else (some false)) else (some false)) else (if bt174.2.1 < 0 then (some false) else (if bt174.2.1 ≥ a1 then (some false) else (solsticelaw01_NumBack.j0 k a0 a1)))))) else (solsticelaw01_NumBack.j0 k a0 a1))) = some r := h
  clear h
  replace H := Option.bind_eq_some_iff.mp H
  obtain ⟨⟨t174, t175, t176⟩, A30, H⟩ := H
  replace H : (if t176 = true then ((num_Mul.f k t174 a1).bind fun bt177 => ((num_Add.f bt177.1 t175).bind fun bt179 => (if bt177.2 = true then (if bt179.2 = true then (if bt179.1 = a0 then (if t175 < 0 then (some false) else (if t175 ≥ a1 then (some false) else (solsticelaw01_NumBack.j0 k a0 a1))) else (some false)) else (some false)) else (if t175 < 0 then (some false) else (if t175 ≥ a1 then (some false) else (solsticelaw01_NumBack.j0 k a0 a1)))))) else (solsticelaw01_NumBack.j0 k a0 a1)) = some r := H
  have A3 := Aside0.mk A30
  clear A30
  have HC4 := Aside0.mk H
  clear H
  go_enter Tryd.func7, Tryd.ntmps7
  go_upto_if 28 with (first | ((with_reducible refine gate_callee (f := 25) rfl ?_); refine goesL_ (some 24) rfl rfl Tryd.func25 (by kernel_rfl) rfl #[.int .i64 a0, .int .i64 a1] rfl (by (try simp only [List.map_toArray, List.map_cons, List.map_nil]); first | done | rfl | (simp only [List.length_drop, List.length_take]; rfl)) ?_; (with_reducible refine (num_Div.calls k a0 a1 t174 t175 t176 _ A3.out).mono ?_); rintro e w' ⟨rfl, ⟨nd, rfl⟩⟩; refine ⟨_, rfl, ?_⟩))
  (try simp only [Act.put, List.setIfInBounds_toArray, List.set_cons_zero, List.set_cons_succ])
  go_cut [] (fun wc => ∃ (kq : Nat), Aside0 (solsticelaw01_NumBack.j0 kq a0 a1 = some r) ∧ Aside0 (kq ≤ k) ∧ Aside0 (Below w.heap.size w wc))
  case first =>
    as_aux_lemma =>
      have H := HC4.out
      clear HC4
      by_cases c5 : t176 = true
      · subst c5
        have H1 : ((num_Mul.f k t174 a1).bind fun bt177 => ((num_Add.f bt177.1 t175).bind fun bt179 => (if bt177.2 = true then (if bt179.2 = true then (if bt179.1 = a0 then (if t175 < 0 then (some false) else (if t175 ≥ a1 then (some false) else (solsticelaw01_NumBack.j0 k a0 a1))) else (some false)) else (some false)) else (if t175 < 0 then (some false) else (if t175 ≥ a1 then (some false) else (solsticelaw01_NumBack.j0 k a0 a1)))))) = some r := by rw [if_pos rfl] at H; exact H
        clear H
        have H := H1
        clear H1
        replace H := Option.bind_eq_some_iff.mp H
        obtain ⟨⟨t177, t178⟩, A60, H⟩ := H
        replace H : ((num_Add.f t177 t175).bind fun bt179 => (if t178 = true then (if bt179.2 = true then (if bt179.1 = a0 then (if t175 < 0 then (some false) else (if t175 ≥ a1 then (some false) else (solsticelaw01_NumBack.j0 k a0 a1))) else (some false)) else (some false)) else (if t175 < 0 then (some false) else (if t175 ≥ a1 then (some false) else (solsticelaw01_NumBack.j0 k a0 a1))))) = some r := H
        have A6 := Aside0.mk A60
        clear A60
        replace H := Option.bind_eq_some_iff.mp H
        obtain ⟨⟨t179, t180⟩, A70, H⟩ := H
        replace H : (if t178 = true then (if t180 = true then (if t179 = a0 then (if t175 < 0 then (some false) else (if t175 ≥ a1 then (some false) else (solsticelaw01_NumBack.j0 k a0 a1))) else (some false)) else (some false)) else (if t175 < 0 then (some false) else (if t175 ≥ a1 then (some false) else (solsticelaw01_NumBack.j0 k a0 a1)))) = some r := H
        have A7 := Aside0.mk A70
        clear A70
        by_cases c8 : t178 = true
        · subst c8
          have H1 : (if t180 = true then (if t179 = a0 then (if t175 < 0 then (some false) else (if t175 ≥ a1 then (some false) else (solsticelaw01_NumBack.j0 k a0 a1))) else (some false)) else (some false)) = some r := by rw [if_pos rfl] at H; exact H
          clear H
          have H := H1
          clear H1
          by_cases c9 : t180 = true
          · subst c9
            have H1 : (if t179 = a0 then (if t175 < 0 then (some false) else (if t175 ≥ a1 then (some false) else (solsticelaw01_NumBack.j0 k a0 a1))) else (some false)) = some r := by rw [if_pos rfl] at H; exact H
            clear H
            have H := H1
            clear H1
            by_cases c10 : t179 = a0
            · rw [if_pos c10] at H
              have c10b0 : (t179 == a0) = true := beq_iff_eq.mpr c10
              have c10b1 : (t179 != a0) = false := bne_eq_false_iff_eq.mpr c10
              clear c10
              (first | rw [c10b0] | (simp only [i64_w, i32_w]; rw [c10b0]) | skip)
              by_cases c11 : t175 < 0
              · rw [if_pos c11] at H
                have c11b0 : decide (t175 < 0) = true := decide_eq_true c11
                clear c11
                obtain rfl := Option.some.inj H
                go_wp2_with (first | ((with_reducible refine gate_callee (f := 24) rfl ?_); refine goesL_ (some 32) rfl rfl Tryd.func24 (by kernel_rfl) rfl #[.int .i64 t174, .int .i64 a1] rfl (by (try simp only [List.map_toArray, List.map_cons, List.map_nil]); first | done | rfl | (simp only [List.length_drop, List.length_take]; rfl)) ?_; (with_reducible refine (num_Mul.calls k t174 a1 t177 true _ A6.out).mono ?_); rintro e w' ⟨rfl, ⟨nd, rfl⟩⟩; refine ⟨_, rfl, ?_⟩) | ((with_reducible refine gate_callee (f := 23) rfl ?_); refine goesL_ (some 38) rfl rfl Tryd.func23 (by kernel_rfl) rfl #[.int .i64 t177, .int .i64 t175] rfl (by (try simp only [List.map_toArray, List.map_cons, List.map_nil]); first | done | rfl | (simp only [List.length_drop, List.length_take]; rfl)) ?_; (with_reducible refine (num_Add.calls t177 t175 t179 true _ A7.out).mono ?_); rintro e w' ⟨rfl, ⟨nd, rfl⟩⟩; refine ⟨_, rfl, ?_⟩))
                go_ret
                exact ⟨by first | rfl | (simp [errW_none, errW_some] <;> rfl) | (simp [*, errW_none, errW_some] <;> rfl), by repeat (first | (with_reducible first | exact HB.out | apply below_alloc | apply pw_below_drewN | apply below_drew1) | exact HB.out)⟩
              · rw [if_neg c11] at H
                have c11b0 : decide (t175 < 0) = false := decide_eq_false c11
                clear c11
                by_cases c12 : t175 ≥ a1
                · rw [if_pos c12] at H
                  have c12b0 : decide (a1 ≤ t175) = true := decide_eq_true c12
                  clear c12
                  obtain rfl := Option.some.inj H
                  go_wp2_with (first | ((with_reducible refine gate_callee (f := 24) rfl ?_); refine goesL_ (some 32) rfl rfl Tryd.func24 (by kernel_rfl) rfl #[.int .i64 t174, .int .i64 a1] rfl (by (try simp only [List.map_toArray, List.map_cons, List.map_nil]); first | done | rfl | (simp only [List.length_drop, List.length_take]; rfl)) ?_; (with_reducible refine (num_Mul.calls k t174 a1 t177 true _ A6.out).mono ?_); rintro e w' ⟨rfl, ⟨nd, rfl⟩⟩; refine ⟨_, rfl, ?_⟩) | ((with_reducible refine gate_callee (f := 23) rfl ?_); refine goesL_ (some 38) rfl rfl Tryd.func23 (by kernel_rfl) rfl #[.int .i64 t177, .int .i64 t175] rfl (by (try simp only [List.map_toArray, List.map_cons, List.map_nil]); first | done | rfl | (simp only [List.length_drop, List.length_take]; rfl)) ?_; (with_reducible refine (num_Add.calls t177 t175 t179 true _ A7.out).mono ?_); rintro e w' ⟨rfl, ⟨nd, rfl⟩⟩; refine ⟨_, rfl, ?_⟩))
                  go_ret
                  exact ⟨by first | rfl | (simp [errW_none, errW_some] <;> rfl) | (simp [*, errW_none, errW_some] <;> rfl), by repeat (first | (with_reducible first | exact HB.out | apply below_alloc | apply pw_below_drewN | apply below_drew1) | exact HB.out)⟩
                · rw [if_neg c12] at H
                  have c12b0 : decide (a1 ≤ t175) = false := decide_eq_false c12
                  clear c12
                  have H' := Aside0.mk H
                  clear H
                  go_wp2_with (first | ((with_reducible refine gate_callee (f := 24) rfl ?_); refine goesL_ (some 32) rfl rfl Tryd.func24 (by kernel_rfl) rfl #[.int .i64 t174, .int .i64 a1] rfl (by (try simp only [List.map_toArray, List.map_cons, List.map_nil]); first | done | rfl | (simp only [List.length_drop, List.length_take]; rfl)) ?_; (with_reducible refine (num_Mul.calls k t174 a1 t177 true _ A6.out).mono ?_); rintro e w' ⟨rfl, ⟨nd, rfl⟩⟩; refine ⟨_, rfl, ?_⟩) | ((with_reducible refine gate_callee (f := 23) rfl ?_); refine goesL_ (some 38) rfl rfl Tryd.func23 (by kernel_rfl) rfl #[.int .i64 t177, .int .i64 t175] rfl (by (try simp only [List.map_toArray, List.map_cons, List.map_nil]); first | done | rfl | (simp only [List.length_drop, List.length_take]; rfl)) ?_; (with_reducible refine (num_Add.calls t177 t175 t179 true _ A7.out).mono ?_); rintro e w' ⟨rfl, ⟨nd, rfl⟩⟩; refine ⟨_, rfl, ?_⟩))
                  go_meet
                  case rel => exact ⟨_, H', ⟨by first | omega | exact Nat.le_refl _⟩, ⟨by repeat (first | (with_reducible first | exact HB.out | apply below_alloc | apply pw_below_drewN | apply below_drew1) | exact HB.out)⟩⟩
            · rw [if_neg c10] at H
              have c10b0 : (t179 == a0) = false := beq_eq_false_iff_ne.mpr c10
              have c10b1 : (t179 != a0) = true := bne_iff_ne.mpr c10
              (first | rw [c10b0] | (simp only [i64_w, i32_w]; rw [c10b0]) | skip)
              obtain rfl := Option.some.inj H
              go_wp2_with (first | ((with_reducible refine gate_callee (f := 24) rfl ?_); refine goesL_ (some 32) rfl rfl Tryd.func24 (by kernel_rfl) rfl #[.int .i64 t174, .int .i64 a1] rfl (by (try simp only [List.map_toArray, List.map_cons, List.map_nil]); first | done | rfl | (simp only [List.length_drop, List.length_take]; rfl)) ?_; (with_reducible refine (num_Mul.calls k t174 a1 t177 true _ A6.out).mono ?_); rintro e w' ⟨rfl, ⟨nd, rfl⟩⟩; refine ⟨_, rfl, ?_⟩) | ((with_reducible refine gate_callee (f := 23) rfl ?_); refine goesL_ (some 38) rfl rfl Tryd.func23 (by kernel_rfl) rfl #[.int .i64 t177, .int .i64 t175] rfl (by (try simp only [List.map_toArray, List.map_cons, List.map_nil]); first | done | rfl | (simp only [List.length_drop, List.length_take]; rfl)) ?_; (with_reducible refine (num_Add.calls t177 t175 t179 true _ A7.out).mono ?_); rintro e w' ⟨rfl, ⟨nd, rfl⟩⟩; refine ⟨_, rfl, ?_⟩))
              go_ret
              exact ⟨by first | rfl | (simp [errW_none, errW_some] <;> rfl) | (simp [*, errW_none, errW_some] <;> rfl), by repeat (first | (with_reducible first | exact HB.out | apply below_alloc | apply pw_below_drewN | apply below_drew1) | exact HB.out)⟩
          · replace c9 := Bool.eq_false_iff.mpr c9
            subst c9
            have H1 : (some false) = some r := by rw [if_neg (show ¬ (false = true) by decide)] at H; exact H
            clear H
            have H := H1
            clear H1
            obtain rfl := Option.some.inj H
            go_wp2_with (first | ((with_reducible refine gate_callee (f := 24) rfl ?_); refine goesL_ (some 32) rfl rfl Tryd.func24 (by kernel_rfl) rfl #[.int .i64 t174, .int .i64 a1] rfl (by (try simp only [List.map_toArray, List.map_cons, List.map_nil]); first | done | rfl | (simp only [List.length_drop, List.length_take]; rfl)) ?_; (with_reducible refine (num_Mul.calls k t174 a1 t177 true _ A6.out).mono ?_); rintro e w' ⟨rfl, ⟨nd, rfl⟩⟩; refine ⟨_, rfl, ?_⟩) | ((with_reducible refine gate_callee (f := 23) rfl ?_); refine goesL_ (some 38) rfl rfl Tryd.func23 (by kernel_rfl) rfl #[.int .i64 t177, .int .i64 t175] rfl (by (try simp only [List.map_toArray, List.map_cons, List.map_nil]); first | done | rfl | (simp only [List.length_drop, List.length_take]; rfl)) ?_; (with_reducible refine (num_Add.calls t177 t175 t179 false _ A7.out).mono ?_); rintro e w' ⟨rfl, ⟨nd, rfl⟩⟩; refine ⟨_, rfl, ?_⟩))
            go_ret
            exact ⟨by first | rfl | (simp [errW_none, errW_some] <;> rfl) | (simp [*, errW_none, errW_some] <;> rfl), by repeat (first | (with_reducible first | exact HB.out | apply below_alloc | apply pw_below_drewN | apply below_drew1) | exact HB.out)⟩
        · replace c8 := Bool.eq_false_iff.mpr c8
          subst c8
          have H1 : (if t175 < 0 then (some false) else (if t175 ≥ a1 then (some false) else (solsticelaw01_NumBack.j0 k a0 a1))) = some r := by rw [if_neg (show ¬ (false = true) by decide)] at H; exact H
          clear H
          have H := H1
          clear H1
          by_cases c13 : t175 < 0
          · rw [if_pos c13] at H
            have c13b0 : decide (t175 < 0) = true := decide_eq_true c13
            clear c13
            obtain rfl := Option.some.inj H
            go_wp2_with (first | ((with_reducible refine gate_callee (f := 24) rfl ?_); refine goesL_ (some 32) rfl rfl Tryd.func24 (by kernel_rfl) rfl #[.int .i64 t174, .int .i64 a1] rfl (by (try simp only [List.map_toArray, List.map_cons, List.map_nil]); first | done | rfl | (simp only [List.length_drop, List.length_take]; rfl)) ?_; (with_reducible refine (num_Mul.calls k t174 a1 t177 false _ A6.out).mono ?_); rintro e w' ⟨rfl, ⟨nd, rfl⟩⟩; refine ⟨_, rfl, ?_⟩) | ((with_reducible refine gate_callee (f := 23) rfl ?_); refine goesL_ (some 38) rfl rfl Tryd.func23 (by kernel_rfl) rfl #[.int .i64 t177, .int .i64 t175] rfl (by (try simp only [List.map_toArray, List.map_cons, List.map_nil]); first | done | rfl | (simp only [List.length_drop, List.length_take]; rfl)) ?_; (with_reducible refine (num_Add.calls t177 t175 t179 t180 _ A7.out).mono ?_); rintro e w' ⟨rfl, ⟨nd, rfl⟩⟩; refine ⟨_, rfl, ?_⟩))
            go_ret
            exact ⟨by first | rfl | (simp [errW_none, errW_some] <;> rfl) | (simp [*, errW_none, errW_some] <;> rfl), by repeat (first | (with_reducible first | exact HB.out | apply below_alloc | apply pw_below_drewN | apply below_drew1) | exact HB.out)⟩
          · rw [if_neg c13] at H
            have c13b0 : decide (t175 < 0) = false := decide_eq_false c13
            clear c13
            by_cases c14 : t175 ≥ a1
            · rw [if_pos c14] at H
              have c14b0 : decide (a1 ≤ t175) = true := decide_eq_true c14
              clear c14
              obtain rfl := Option.some.inj H
              go_wp2_with (first | ((with_reducible refine gate_callee (f := 24) rfl ?_); refine goesL_ (some 32) rfl rfl Tryd.func24 (by kernel_rfl) rfl #[.int .i64 t174, .int .i64 a1] rfl (by (try simp only [List.map_toArray, List.map_cons, List.map_nil]); first | done | rfl | (simp only [List.length_drop, List.length_take]; rfl)) ?_; (with_reducible refine (num_Mul.calls k t174 a1 t177 false _ A6.out).mono ?_); rintro e w' ⟨rfl, ⟨nd, rfl⟩⟩; refine ⟨_, rfl, ?_⟩) | ((with_reducible refine gate_callee (f := 23) rfl ?_); refine goesL_ (some 38) rfl rfl Tryd.func23 (by kernel_rfl) rfl #[.int .i64 t177, .int .i64 t175] rfl (by (try simp only [List.map_toArray, List.map_cons, List.map_nil]); first | done | rfl | (simp only [List.length_drop, List.length_take]; rfl)) ?_; (with_reducible refine (num_Add.calls t177 t175 t179 t180 _ A7.out).mono ?_); rintro e w' ⟨rfl, ⟨nd, rfl⟩⟩; refine ⟨_, rfl, ?_⟩))
              go_ret
              exact ⟨by first | rfl | (simp [errW_none, errW_some] <;> rfl) | (simp [*, errW_none, errW_some] <;> rfl), by repeat (first | (with_reducible first | exact HB.out | apply below_alloc | apply pw_below_drewN | apply below_drew1) | exact HB.out)⟩
            · rw [if_neg c14] at H
              have c14b0 : decide (a1 ≤ t175) = false := decide_eq_false c14
              clear c14
              have H' := Aside0.mk H
              clear H
              go_wp2_with (first | ((with_reducible refine gate_callee (f := 24) rfl ?_); refine goesL_ (some 32) rfl rfl Tryd.func24 (by kernel_rfl) rfl #[.int .i64 t174, .int .i64 a1] rfl (by (try simp only [List.map_toArray, List.map_cons, List.map_nil]); first | done | rfl | (simp only [List.length_drop, List.length_take]; rfl)) ?_; (with_reducible refine (num_Mul.calls k t174 a1 t177 false _ A6.out).mono ?_); rintro e w' ⟨rfl, ⟨nd, rfl⟩⟩; refine ⟨_, rfl, ?_⟩) | ((with_reducible refine gate_callee (f := 23) rfl ?_); refine goesL_ (some 38) rfl rfl Tryd.func23 (by kernel_rfl) rfl #[.int .i64 t177, .int .i64 t175] rfl (by (try simp only [List.map_toArray, List.map_cons, List.map_nil]); first | done | rfl | (simp only [List.length_drop, List.length_take]; rfl)) ?_; (with_reducible refine (num_Add.calls t177 t175 t179 t180 _ A7.out).mono ?_); rintro e w' ⟨rfl, ⟨nd, rfl⟩⟩; refine ⟨_, rfl, ?_⟩))
              go_meet
              case rel => exact ⟨_, H', ⟨by first | omega | exact Nat.le_refl _⟩, ⟨by repeat (first | (with_reducible first | exact HB.out | apply below_alloc | apply pw_below_drewN | apply below_drew1) | exact HB.out)⟩⟩
      · replace c5 := Bool.eq_false_iff.mpr c5
        subst c5
        have H1 : (solsticelaw01_NumBack.j0 k a0 a1) = some r := by rw [if_neg (show ¬ (false = true) by decide)] at H; exact H
        clear H
        have H := H1
        clear H1
        have H' := Aside0.mk H
        clear H
        go_wp2
        go_meet
        case rel => exact ⟨_, H', ⟨by first | omega | exact Nat.le_refl _⟩, ⟨by repeat (first | (with_reducible first | exact HB.out | apply below_alloc | apply pw_below_drewN | apply below_drew1) | exact HB.out)⟩⟩
  case rest =>
    as_aux_lemma =>
      clear HC4
      try clear c1
      try clear c2
      try clear p2
      try clear c5
      try clear c7
      try clear c8
      try clear c9
      try clear c10
      try clear c10b0
      try clear c10b1
      try clear c11
      try clear c11b0
      try clear c12
      try clear c12b0
      try clear c13
      try clear c13b0
      try clear c14
      try clear c14b0
      obtain ⟨kq, HA, HJ3, HB⟩ := hcut
      cases kq with
      | zero => exact absurd HA.out (by simp [solsticelaw01_NumBack.j0])
      | succ kj3 =>
        have H := HA.out
        clear HA
        simp only [solsticelaw01_NumBack.j0] at H
        replace H := Option.bind_eq_some_iff.mp H
        obtain ⟨⟨t181, t182⟩, A150, H⟩ := H
        replace H : (if t182 = true then ((num_Add.f t181 (wrap64 (-a0))).bind fun bt183 => (if bt183.2 = true then (if bt183.1 = a1 then (solsticelaw01_NumBack.j1 kj3 a0 a1) else (some false)) else (some false))) else (solsticelaw01_NumBack.j1 kj3 a0 a1)) = some r := H
        have A15 := Aside0.mk A150
        clear A150
        have HC16 := Aside0.mk H
        clear H
        go_upto_if 66 with (first | ((with_reducible refine gate_callee (f := 23) rfl ?_); refine goesL_ (some 63) rfl rfl Tryd.func23 (by kernel_rfl) rfl #[.int .i64 a0, .int .i64 a1] rfl (by (try simp only [List.map_toArray, List.map_cons, List.map_nil]); first | done | rfl | (simp only [List.length_drop, List.length_take]; rfl)) ?_; (with_reducible refine (num_Add.calls a0 a1 t181 t182 _ A15.out).mono ?_); rintro e w' ⟨rfl, ⟨nd, rfl⟩⟩; refine ⟨_, rfl, ?_⟩))
        (try simp only [Act.put, List.setIfInBounds_toArray, List.set_cons_zero, List.set_cons_succ])
        go_cut [] (fun wc => ∃ (kq : Nat), Aside0 (solsticelaw01_NumBack.j1 kq a0 a1 = some r) ∧ Aside0 (kq ≤ kj3) ∧ Aside0 (Below w.heap.size w wc))
        case first =>
          have H := HC16.out
          clear HC16
          by_cases c17 : t182 = true
          · subst c17
            have H1 : ((num_Add.f t181 (wrap64 (-a0))).bind fun bt183 => (if bt183.2 = true then (if bt183.1 = a1 then (solsticelaw01_NumBack.j1 kj3 a0 a1) else (some false)) else (some false))) = some r := by rw [if_pos rfl] at H; exact H
            clear H
            have H := H1
            clear H1
            replace H := Option.bind_eq_some_iff.mp H
            obtain ⟨⟨t183, t184⟩, A180, H⟩ := H
            replace H : (if t184 = true then (if t183 = a1 then (solsticelaw01_NumBack.j1 kj3 a0 a1) else (some false)) else (some false)) = some r := H
            have A18 := Aside0.mk A180
            clear A180
            by_cases c19 : t184 = true
            · subst c19
              have H1 : (if t183 = a1 then (solsticelaw01_NumBack.j1 kj3 a0 a1) else (some false)) = some r := by rw [if_pos rfl] at H; exact H
              clear H
              have H := H1
              clear H1
              by_cases c20 : t183 = a1
              · rw [if_pos c20] at H
                have c20b0 : (t183 == a1) = true := beq_iff_eq.mpr c20
                have c20b1 : (t183 != a1) = false := bne_eq_false_iff_eq.mpr c20
                clear c20
                (first | rw [c20b0] | (simp only [i64_w, i32_w]; rw [c20b0]) | skip)
                have H' := Aside0.mk H
                clear H
                go_wp2_with (first | ((with_reducible refine gate_callee (f := 23) rfl ?_); refine goesL_ (some 71) rfl rfl Tryd.func23 (by kernel_rfl) rfl #[.int .i64 t181, .int .i64 (wrap64 (-a0))] rfl (by (try simp only [List.map_toArray, List.map_cons, List.map_nil]); first | done | rfl | (simp only [List.length_drop, List.length_take]; rfl)) ?_; (with_reducible refine (num_Add.calls t181 (wrap64 (-a0)) t183 true _ A18.out).mono ?_); rintro e w' ⟨rfl, ⟨nd, rfl⟩⟩; refine ⟨_, rfl, ?_⟩))
                go_meet
                case rel => exact ⟨_, H', ⟨by have := HJ3.out; first | omega | exact Nat.le_refl _⟩, ⟨by repeat (first | (with_reducible first | exact HB.out | apply below_alloc | apply pw_below_drewN | apply below_drew1) | exact HB.out)⟩⟩
              · rw [if_neg c20] at H
                have c20b0 : (t183 == a1) = false := beq_eq_false_iff_ne.mpr c20
                have c20b1 : (t183 != a1) = true := bne_iff_ne.mpr c20
                (first | rw [c20b0] | (simp only [i64_w, i32_w]; rw [c20b0]) | skip)
                obtain rfl := Option.some.inj H
                go_wp2_with (first | ((with_reducible refine gate_callee (f := 23) rfl ?_); refine goesL_ (some 71) rfl rfl Tryd.func23 (by kernel_rfl) rfl #[.int .i64 t181, .int .i64 (wrap64 (-a0))] rfl (by (try simp only [List.map_toArray, List.map_cons, List.map_nil]); first | done | rfl | (simp only [List.length_drop, List.length_take]; rfl)) ?_; (with_reducible refine (num_Add.calls t181 (wrap64 (-a0)) t183 true _ A18.out).mono ?_); rintro e w' ⟨rfl, ⟨nd, rfl⟩⟩; refine ⟨_, rfl, ?_⟩))
                go_ret
                exact ⟨by first | rfl | (simp [errW_none, errW_some] <;> rfl) | (simp [*, errW_none, errW_some] <;> rfl), by repeat (first | (with_reducible first | exact HB.out | apply below_alloc | apply pw_below_drewN | apply below_drew1) | exact HB.out)⟩
            · replace c19 := Bool.eq_false_iff.mpr c19
              subst c19
              have H1 : (some false) = some r := by rw [if_neg (show ¬ (false = true) by decide)] at H; exact H
              clear H
              have H := H1
              clear H1
              obtain rfl := Option.some.inj H
              go_wp2_with (first | ((with_reducible refine gate_callee (f := 23) rfl ?_); refine goesL_ (some 71) rfl rfl Tryd.func23 (by kernel_rfl) rfl #[.int .i64 t181, .int .i64 (wrap64 (-a0))] rfl (by (try simp only [List.map_toArray, List.map_cons, List.map_nil]); first | done | rfl | (simp only [List.length_drop, List.length_take]; rfl)) ?_; (with_reducible refine (num_Add.calls t181 (wrap64 (-a0)) t183 false _ A18.out).mono ?_); rintro e w' ⟨rfl, ⟨nd, rfl⟩⟩; refine ⟨_, rfl, ?_⟩))
              go_ret
              exact ⟨by first | rfl | (simp [errW_none, errW_some] <;> rfl) | (simp [*, errW_none, errW_some] <;> rfl), by repeat (first | (with_reducible first | exact HB.out | apply below_alloc | apply pw_below_drewN | apply below_drew1) | exact HB.out)⟩
          · replace c17 := Bool.eq_false_iff.mpr c17
            subst c17
            have H1 : (solsticelaw01_NumBack.j1 kj3 a0 a1) = some r := by rw [if_neg (show ¬ (false = true) by decide)] at H; exact H
            clear H
            have H := H1
            clear H1
            have H' := Aside0.mk H
            clear H
            go_wp2
            go_meet
            case rel => exact ⟨_, H', ⟨by have := HJ3.out; first | omega | exact Nat.le_refl _⟩, ⟨by repeat (first | (with_reducible first | exact HB.out | apply below_alloc | apply pw_below_drewN | apply below_drew1) | exact HB.out)⟩⟩
        case rest =>
          as_aux_lemma =>
            clear HC16
            try clear c1
            try clear c2
            try clear p2
            try clear c5
            try clear p6
            try clear c7
            try clear c8
            try clear c9
            try clear c10
            try clear c10b0
            try clear c10b1
            try clear c11
            try clear c11b0
            try clear c12
            try clear c12b0
            try clear c13
            try clear c13b0
            try clear c14
            try clear c14b0
            try clear c17
            try clear c19
            try clear c20
            try clear c20b0
            try clear c20b1
            try clear p2
            obtain ⟨kq, HA, HJ15, HB⟩ := hcut
            cases kq with
            | zero => exact absurd HA.out (by simp [solsticelaw01_NumBack.j1])
            | succ kj15 =>
              have H := HA.out
              clear HA
              simp only [solsticelaw01_NumBack.j1] at H
              replace H := Option.bind_eq_some_iff.mp H
              obtain ⟨⟨t185, t186⟩, A210, H⟩ := H
              replace H : (if t186 = true then (solsticelaw01_NumBack.j2 kj15 a0 a1 t185 (decide (a1 > 0))) else (solsticelaw01_NumBack.j2 kj15 a0 a1 t185 false)) = some r := H
              have A21 := Aside0.mk A210
              clear A210
              have HC22 := Aside0.mk H
              clear H
              go_upto_region 13 with (first | ((with_reducible refine gate_callee (f := 24) rfl ?_); refine goesL_ (some 84) rfl rfl Tryd.func24 (by kernel_rfl) rfl #[.int .i64 a0, .int .i64 a1] rfl (by (try simp only [List.map_toArray, List.map_cons, List.map_nil]); first | done | rfl | (simp only [List.length_drop, List.length_take]; rfl)) ?_; (with_reducible refine (num_Mul.calls kj15 a0 a1 t185 t186 _ A21.out).mono ?_); rintro e w' ⟨rfl, ⟨nd, rfl⟩⟩; refine ⟨_, rfl, ?_⟩))
              (try simp only [Act.put, List.setIfInBounds_toArray, List.set_cons_zero, List.set_cons_succ])
              go_cut [91] (fun v91 wc => ∃ (kq : Nat) (x91_21 : Bool), v91 = .bool x91_21 ∧ Aside0 (solsticelaw01_NumBack.j2 kq a0 a1 t185 x91_21 = some r) ∧ Aside0 (kq ≤ kj15) ∧ Aside0 (Below w.heap.size w wc))
              case first =>
                have H := HC22.out
                clear HC22
                by_cases c23 : t186 = true
                · subst c23
                  have H1 : (solsticelaw01_NumBack.j2 kj15 a0 a1 t185 (decide (a1 > 0))) = some r := by rw [if_pos rfl] at H; exact H
                  clear H
                  have H := H1
                  clear H1
                  have H' := Aside0.mk H
                  clear H
                  go_wp2
                  go_meet
                  case rel => exact ⟨_, (decide (a1 > 0)), (by first | rfl | (simp; done) | (simp [*]; done)), H', ⟨by have := HJ3.out; have := HJ15.out; first | omega | exact Nat.le_refl _⟩, ⟨by repeat (first | (with_reducible first | exact HB.out | apply below_alloc | apply pw_below_drewN | apply below_drew1) | exact HB.out)⟩⟩
                · replace c23 := Bool.eq_false_iff.mpr c23
                  subst c23
                  have H1 : (solsticelaw01_NumBack.j2 kj15 a0 a1 t185 false) = some r := by rw [if_neg (show ¬ (false = true) by decide)] at H; exact H
                  clear H
                  have H := H1
                  clear H1
                  have H' := Aside0.mk H
                  clear H
                  go_wp2
                  go_meet
                  case rel => exact ⟨_, (false), (by first | rfl | (simp; done) | (simp [*]; done)), H', ⟨by have := HJ3.out; have := HJ15.out; first | omega | exact Nat.le_refl _⟩, ⟨by repeat (first | (with_reducible first | exact HB.out | apply below_alloc | apply pw_below_drewN | apply below_drew1) | exact HB.out)⟩⟩
              case rest =>
                as_aux_lemma =>
                  clear HC22
                  try clear c1
                  try clear c2
                  try clear p2
                  try clear c5
                  try clear p6
                  try clear c7
                  try clear c8
                  try clear c9
                  try clear c10
                  try clear c10b0
                  try clear c10b1
                  try clear c11
                  try clear c11b0
                  try clear c12
                  try clear c12b0
                  try clear c13
                  try clear c13b0
                  try clear c14
                  try clear c14b0
                  try clear c17
                  try clear c19
                  try clear c20
                  try clear c20b0
                  try clear c20b1
                  try clear c23
                  try clear p2
                  try clear p6
                  obtain ⟨kq, x91_21, rfl, HA, HJ21, HB⟩ := hcut
                  cases kq with
                  | zero => exact absurd HA.out (by simp [solsticelaw01_NumBack.j2])
                  | succ kj21 =>
                    have H := HA.out
                    clear HA
                    simp only [solsticelaw01_NumBack.j2] at H
                    by_cases c24 : x91_21 = true
                    · subst c24
                      have H1 : ((num_Div.f kj21 t185 a1).bind fun bt187 => (if bt187.2.2 = true then (if bt187.1 = a0 then (if bt187.2.1 = 0 then ((solsticelaw01_wakes.f kj21).bind fun t190 => (some t190)) else (some false)) else (some false)) else (some false))) = some r := by rw [if_pos rfl] at H; exact H
                      clear H
                      have H := H1
                      clear H1
                      replace H := Option.bind_eq_some_iff.mp H
                      obtain ⟨⟨t187, t188, t189⟩, A250, H⟩ := H
                      replace H : (if t189 = true then (if t187 = a0 then (if t188 = 0 then ((solsticelaw01_wakes.f kj21).bind fun t190 => (some t190)) else (some false)) else (some false)) else (some false)) = some r := H
                      have A25 := Aside0.mk A250
                      clear A250
                      by_cases c26 : t189 = true
                      · subst c26
                        have H1 : (if t187 = a0 then (if t188 = 0 then ((solsticelaw01_wakes.f kj21).bind fun t190 => (some t190)) else (some false)) else (some false)) = some r := by rw [if_pos rfl] at H; exact H
                        clear H
                        have H := H1
                        clear H1
                        by_cases c27 : t187 = a0
                        · rw [if_pos c27] at H
                          have c27b0 : (t187 == a0) = true := beq_iff_eq.mpr c27
                          have c27b1 : (t187 != a0) = false := bne_eq_false_iff_eq.mpr c27
                          clear c27
                          by_cases c28 : t188 = 0
                          · rw [if_pos c28] at H
                            have c28b0 : (t188 == 0) = true := beq_iff_eq.mpr c28
                            have c28b1 : (t188 != 0) = false := bne_eq_false_iff_eq.mpr c28
                            clear c28
                            replace H := Option.bind_eq_some_iff.mp H
                            obtain ⟨t190, A290, H⟩ := H
                            replace H : (some t190) = some r := H
                            have A29 := Aside0.mk A290
                            clear A290
                            obtain rfl := Option.some.inj H
                            go_wp2_with (first | ((with_reducible refine gate_callee (f := 25) rfl ?_); refine goesL_ (some 95) rfl rfl Tryd.func25 (by kernel_rfl) rfl #[.int .i64 t185, .int .i64 a1] rfl (by (try simp only [List.map_toArray, List.map_cons, List.map_nil]); first | done | rfl | (simp only [List.length_drop, List.length_take]; rfl)) ?_; (with_reducible refine (num_Div.calls kj21 t185 a1 t187 t188 true _ A25.out).mono ?_); rintro e w' ⟨rfl, ⟨nd, rfl⟩⟩; refine ⟨_, rfl, ?_⟩) | ((with_reducible refine gate_callee (f := 17) rfl ?_); refine goesL_ (some 110) rfl rfl Tryd.func17 (by kernel_rfl) rfl #[] rfl (by (try simp only [List.map_toArray, List.map_cons, List.map_nil]); first | done | rfl | (simp only [List.length_drop, List.length_take]; rfl)) ?_; (with_reducible refine (solsticelaw01_wakes.calls kj21  t190 _ ?sideG A29.out).mono ?_); (case sideG => first | exact GP_below HG.out (by repeat (first | (with_reducible first | exact HB.out | apply below_alloc | apply pw_below_drewN | apply below_drew1) | exact HB.out)) | repeat (first | exact HG.out | refine GP_alloc ?_ _ | refine GP_drewN ?_ _ | refine GP_drew ?_)); rintro e w30 ⟨rfl, hb⟩; refine ⟨_, rfl, ?_⟩; have n0_ := Aside0.mk (below_step (by repeat (first | (with_reducible first | exact HB.out | apply below_alloc | apply pw_below_drewN | apply below_drew1) | exact HB.out)) hb); clear HB; have HB := n0_; clear n0_; (try clear hb); (try clear hb2); (try clear hk); (try clear hi)))
                            go_ret
                            exact ⟨by first | rfl | (simp [errW_none, errW_some] <;> rfl) | (simp [*, errW_none, errW_some] <;> rfl), by repeat (first | (with_reducible first | exact HB.out | apply below_alloc | apply pw_below_drewN | apply below_drew1) | exact HB.out)⟩
                          · rw [if_neg c28] at H
                            have c28b0 : (t188 == 0) = false := beq_eq_false_iff_ne.mpr c28
                            have c28b1 : (t188 != 0) = true := bne_iff_ne.mpr c28
                            obtain rfl := Option.some.inj H
                            go_wp2_with (first | ((with_reducible refine gate_callee (f := 25) rfl ?_); refine goesL_ (some 95) rfl rfl Tryd.func25 (by kernel_rfl) rfl #[.int .i64 t185, .int .i64 a1] rfl (by (try simp only [List.map_toArray, List.map_cons, List.map_nil]); first | done | rfl | (simp only [List.length_drop, List.length_take]; rfl)) ?_; (with_reducible refine (num_Div.calls kj21 t185 a1 t187 t188 true _ A25.out).mono ?_); rintro e w' ⟨rfl, ⟨nd, rfl⟩⟩; refine ⟨_, rfl, ?_⟩))
                            go_ret
                            exact ⟨by first | rfl | (simp [errW_none, errW_some] <;> rfl) | (simp [*, errW_none, errW_some] <;> rfl), by repeat (first | (with_reducible first | exact HB.out | apply below_alloc | apply pw_below_drewN | apply below_drew1) | exact HB.out)⟩
                        · rw [if_neg c27] at H
                          have c27b0 : (t187 == a0) = false := beq_eq_false_iff_ne.mpr c27
                          have c27b1 : (t187 != a0) = true := bne_iff_ne.mpr c27
                          obtain rfl := Option.some.inj H
                          go_wp2_with (first | ((with_reducible refine gate_callee (f := 25) rfl ?_); refine goesL_ (some 95) rfl rfl Tryd.func25 (by kernel_rfl) rfl #[.int .i64 t185, .int .i64 a1] rfl (by (try simp only [List.map_toArray, List.map_cons, List.map_nil]); first | done | rfl | (simp only [List.length_drop, List.length_take]; rfl)) ?_; (with_reducible refine (num_Div.calls kj21 t185 a1 t187 t188 true _ A25.out).mono ?_); rintro e w' ⟨rfl, ⟨nd, rfl⟩⟩; refine ⟨_, rfl, ?_⟩))
                          go_ret
                          exact ⟨by first | rfl | (simp [errW_none, errW_some] <;> rfl) | (simp [*, errW_none, errW_some] <;> rfl), by repeat (first | (with_reducible first | exact HB.out | apply below_alloc | apply pw_below_drewN | apply below_drew1) | exact HB.out)⟩
                      · replace c26 := Bool.eq_false_iff.mpr c26
                        subst c26
                        have H1 : (some false) = some r := by rw [if_neg (show ¬ (false = true) by decide)] at H; exact H
                        clear H
                        have H := H1
                        clear H1
                        obtain rfl := Option.some.inj H
                        go_wp2_with (first | ((with_reducible refine gate_callee (f := 25) rfl ?_); refine goesL_ (some 95) rfl rfl Tryd.func25 (by kernel_rfl) rfl #[.int .i64 t185, .int .i64 a1] rfl (by (try simp only [List.map_toArray, List.map_cons, List.map_nil]); first | done | rfl | (simp only [List.length_drop, List.length_take]; rfl)) ?_; (with_reducible refine (num_Div.calls kj21 t185 a1 t187 t188 false _ A25.out).mono ?_); rintro e w' ⟨rfl, ⟨nd, rfl⟩⟩; refine ⟨_, rfl, ?_⟩))
                        go_ret
                        exact ⟨by first | rfl | (simp [errW_none, errW_some] <;> rfl) | (simp [*, errW_none, errW_some] <;> rfl), by repeat (first | (with_reducible first | exact HB.out | apply below_alloc | apply pw_below_drewN | apply below_drew1) | exact HB.out)⟩
                    · replace c24 := Bool.eq_false_iff.mpr c24
                      subst c24
                      have H1 : ((solsticelaw01_wakes.f kj21).bind fun t191 => (some t191)) = some r := by rw [if_neg (show ¬ (false = true) by decide)] at H; exact H
                      clear H
                      have H := H1
                      clear H1
                      replace H := Option.bind_eq_some_iff.mp H
                      obtain ⟨t191, A310, H⟩ := H
                      replace H : (some t191) = some r := H
                      have A31 := Aside0.mk A310
                      clear A310
                      obtain rfl := Option.some.inj H
                      go_wp2_with (first | ((with_reducible refine gate_callee (f := 17) rfl ?_); refine goesL_ (some 110) rfl rfl Tryd.func17 (by kernel_rfl) rfl #[] rfl (by (try simp only [List.map_toArray, List.map_cons, List.map_nil]); first | done | rfl | (simp only [List.length_drop, List.length_take]; rfl)) ?_; (with_reducible refine (solsticelaw01_wakes.calls kj21  t191 _ ?sideG A31.out).mono ?_); (case sideG => first | exact GP_below HG.out (by repeat (first | (with_reducible first | exact HB.out | apply below_alloc | apply pw_below_drewN | apply below_drew1) | exact HB.out)) | repeat (first | exact HG.out | refine GP_alloc ?_ _ | refine GP_drewN ?_ _ | refine GP_drew ?_)); rintro e w32 ⟨rfl, hb⟩; refine ⟨_, rfl, ?_⟩; have n0_ := Aside0.mk (below_step (by repeat (first | (with_reducible first | exact HB.out | apply below_alloc | apply pw_below_drewN | apply below_drew1) | exact HB.out)) hb); clear HB; have HB := n0_; clear n0_; (try clear hb); (try clear hb2); (try clear hk); (try clear hi)))
                      go_ret
                      exact ⟨by first | rfl | (simp [errW_none, errW_some] <;> rfl) | (simp [*, errW_none, errW_some] <;> rfl), by repeat (first | (with_reducible first | exact HB.out | apply below_alloc | apply pw_below_drewN | apply below_drew1) | exact HB.out)⟩

/-- THE ONE PURE STATEMENT of solsticelaw01_NumBack: yours. -/
def solsticelaw01_NumBack.Pure : Prop := ∀ (a0 : Int) (a1 : Int), (Lit.int .i64 a0).wf = true → (Lit.int .i64 a1).wf = true → ∃ k, solsticelaw01_NumBack.f k a0 a1 = some true
/-! ### solsticelaw01_NumEdges: function 8 -/
def solsticelaw01_NumEdges.f (k : Nat) (a0 : Int) : Option (Bool) := (num_Add.f (wrap64 (4611686018427387904 - (wrap64 (1 + (wrap64 (Int.tmod (IntKind.u64.wrap (a0)) 1000000)))))) (wrap64 (1 + (wrap64 (Int.tmod (IntKind.u64.wrap (a0)) 1000000))))).bind fun bt192 => ((num_Add.f (wrap64 (4611686018427387904 - (wrap64 (1 + (wrap64 (Int.tmod (IntKind.u64.wrap (a0)) 1000000)))))) (wrap64 ((wrap64 (1 + (wrap64 (Int.tmod (IntKind.u64.wrap (a0)) 1000000)))) + 1))).bind fun bt194 => ((num_Add.f (wrap64 ((wrap64 (1 + (wrap64 (Int.tmod (IntKind.u64.wrap (a0)) 1000000)))) - 4611686018427387904)) (wrap64 (-(wrap64 (1 + (wrap64 (Int.tmod (IntKind.u64.wrap (a0)) 1000000))))))).bind fun bt196 => ((num_Add.f (wrap64 ((wrap64 (1 + (wrap64 (Int.tmod (IntKind.u64.wrap (a0)) 1000000)))) - 4611686018427387904)) (wrap64 ((wrap64 (-(wrap64 (1 + (wrap64 (Int.tmod (IntKind.u64.wrap (a0)) 1000000)))))) - 1))).bind fun bt198 => (if (wrap64 (1 + (wrap64 (Int.tmod (IntKind.u64.wrap (a0)) 1000000)))) = 0 then (none) else ((num_Mul.f k (wrap64 ((wrap64 (Int.tdiv (4611686018427387904 : Int) (wrap64 (1 + (wrap64 (Int.tmod (IntKind.u64.wrap (a0)) 1000000)))))) + 1)) (wrap64 (1 + (wrap64 (Int.tmod (IntKind.u64.wrap (a0)) 1000000))))).bind fun bt200 => ((num_Mul.f k (wrap64 (Int.tdiv (4611686018427387904 : Int) (wrap64 (1 + (wrap64 (Int.tmod (IntKind.u64.wrap (a0)) 1000000)))))) (wrap64 (1 + (wrap64 (Int.tmod (IntKind.u64.wrap (a0)) 1000000))))).bind fun bt202 => (if bt192.2 = true then (if bt192.1 = 4611686018427387904 then (if bt194.2 = true then (some false) else (if bt196.2 = true then (if bt196.1 = (-4611686018427387904) then (if bt198.2 = true then (some false) else (if bt200.2 = true then (some false) else (if bt202.2 = true then (if bt202.1 ≤ 4611686018427387904 then ((solsticelaw01_wakes.f k).bind fun t204 => (some t204)) else (some false)) else (some false)))) else (some false)) else (some false))) else (some false)) else (some false))))))))
theorem solsticelaw01_NumEdges.mono : ∀ a0 k, LeO (solsticelaw01_NumEdges.f k a0) (solsticelaw01_NumEdges.f (k + 1) a0) := by
  intro a0 k
  unfold solsticelaw01_NumEdges.f
  repeat' first
      | (with_reducible exact num_Mul.mono _ _ _)
      | (with_reducible exact solsticelaw01_wakes.mono _)
      | (with_reducible exact LeO.refl _)
      | (with_reducible exact LeO.none _)
      | (with_reducible refine LeO.ite ?_ ?_)
      | (with_reducible refine LeO.bind ?_ (fun _ => ?_))
      | exact num_Mul.mono _ _ _
      | exact solsticelaw01_wakes.mono _
      | exact LeO.none _
      | refine LeO.ite ?_ ?_
      | refine LeO.bind ?_ (fun _ => ?_)
set_option maxHeartbeats 8000000 in
set_option maxRecDepth 100000 in
theorem solsticelaw01_NumEdges.calls (k : Nat) (a0 : Int) (r : Bool) (w : World) (hG : GP w) (h : solsticelaw01_NumEdges.f k a0 = some r) :
    Calls Tryd.prog 8 #[.int .i64 a0] w fun e w' => e = .returned (.bool r) ∧ Below w.heap.size w w' := by
  have HG := Aside0.mk hG
  clear hG
  have HB := Aside0.mk (Below.refl w.heap.size w)
  have H : ((num_Add.f (wrap64 (4611686018427387904 - (wrap64 (1 + (wrap64 (Int.tmod (IntKind.u64.wrap (a0)) 1000000)))))) (wrap64 (1 + (wrap64 (Int.tmod (IntKind.u64.wrap (a0)) 1000000))))).bind fun bt192 => ((num_Add.f (wrap64 (4611686018427387904 - (wrap64 (1 + (wrap64 (Int.tmod (IntKind.u64.wrap (a0)) 1000000)))))) (wrap64 ((wrap64 (1 + (wrap64 (Int.tmod (IntKind.u64.wrap (a0)) 1000000)))) + 1))).bind fun bt194 => ((num_Add.f (wrap64 ((wrap64 (1 + (wrap64 (Int.tmod (IntKind.u64.wrap (a0)) 1000000)))) - 4611686018427387904)) (wrap64 (-(wrap64 (1 + (wrap64 (Int.tmod (IntKind.u64.wrap (a0)) 1000000))))))).bind fun bt196 => ((num_Add.f (wrap64 ((wrap64 (1 + (wrap64 (Int.tmod (IntKind.u64.wrap (a0)) 1000000)))) - 4611686018427387904)) (wrap64 ((wrap64 (-(wrap64 (1 + (wrap64 (Int.tmod (IntKind.u64.wrap (a0)) 1000000)))))) - 1))).bind fun bt198 => (if (wrap64 (1 + (wrap64 (Int.tmod (IntKind.u64.wrap (a0)) 1000000)))) = 0 then (none) else ((num_Mul.f k (wrap64 ((wrap64 (Int.tdiv (4611686018427387904 : Int) (wrap64 (1 + (wrap64 (Int.tmod (IntKind.u64.wrap (a0)) 1000000)))))) + 1)) (wrap64 (1 + (wrap64 (Int.tmod (IntKind.u64.wrap (a0)) 1000000))))).bind fun bt200 => ((num_Mul.f k (wrap64 (Int.tdiv (4611686018427387904 : Int) (wrap64 (1 + (wrap64 (Int.tmod (IntKind.u64.wrap (a0)) 1000000)))))) (wrap64 (1 + (wrap64 (Int.tmod (IntKind.u64.wrap (a0)) 1000000))))).bind fun bt202 => (if bt192.2 = true then (if bt192.1 = 4611686018427387904 then (if bt194.2 = true then (some false) else (if bt196.2 = true then (if bt196.1 = (-4611686018427387904) then (if bt198.2 = true then (some false) else (if bt200.2 = true then (some false) else (if bt202.2 = true then (if bt202.1 ≤ 4611686018427387904 then ((solsticelaw01_wakes.f k).bind fun t204 => (some t204)) else (some false)) else (some false)))) else (some false)) else (some false))) else (some false)) else (some false))))))))) = some r := h
  clear h
  replace H := Option.bind_eq_some_iff.mp H
  obtain ⟨⟨t192, t193⟩, A20, H⟩ := H
  replace H : ((num_Add.f (wrap64 (4611686018427387904 - (wrap64 (1 + (wrap64 (Int.tmod (IntKind.u64.wrap (a0)) 1000000)))))) (wrap64 ((wrap64 (1 + (wrap64 (Int.tmod (IntKind.u64.wrap (a0)) 1000000)))) + 1))).bind fun bt194 => ((num_Add.f (wrap64 ((wrap64 (1 + (wrap64 (Int.tmod (IntKind.u64.wrap (a0)) 1000000)))) - 4611686018427387904)) (wrap64 (-(wrap64 (1 + (wrap64 (Int.tmod (IntKind.u64.wrap (a0)) 1000000))))))).bind fun bt196 => ((num_Add.f (wrap64 ((wrap64 (1 + (wrap64 (Int.tmod (IntKind.u64.wrap (a0)) 1000000)))) - 4611686018427387904)) (wrap64 ((wrap64 (-(wrap64 (1 + (wrap64 (Int.tmod (IntKind.u64.wrap (a0)) 1000000)))))) - 1))).bind fun bt198 => (if (wrap64 (1 + (wrap64 (Int.tmod (IntKind.u64.wrap (a0)) 1000000)))) = 0 then (none) else ((num_Mul.f k (wrap64 ((wrap64 (Int.tdiv (4611686018427387904 : Int) (wrap64 (1 + (wrap64 (Int.tmod (IntKind.u64.wrap (a0)) 1000000)))))) + 1)) (wrap64 (1 + (wrap64 (Int.tmod (IntKind.u64.wrap (a0)) 1000000))))).bind fun bt200 => ((num_Mul.f k (wrap64 (Int.tdiv (4611686018427387904 : Int) (wrap64 (1 + (wrap64 (Int.tmod (IntKind.u64.wrap (a0)) 1000000)))))) (wrap64 (1 + (wrap64 (Int.tmod (IntKind.u64.wrap (a0)) 1000000))))).bind fun bt202 => (if t193 = true then (if t192 = 4611686018427387904 then (if bt194.2 = true then (some false) else (if bt196.2 = true then (if bt196.1 = (-4611686018427387904) then (if bt198.2 = true then (some false) else (if bt200.2 = true then (some false) else (if bt202.2 = true then (if bt202.1 ≤ 4611686018427387904 then ((solsticelaw01_wakes.f k).bind fun t204 => (some t204)) else (some false)) else (some false)))) else (some false)) else (some false))) else (some false)) else (some false)))))))) = some r := H
  have A2 := Aside0.mk A20
  clear A20
  replace H := Option.bind_eq_some_iff.mp H
  obtain ⟨⟨t194, t195⟩, A30, H⟩ := H
  replace H : ((num_Add.f (wrap64 ((wrap64 (1 + (wrap64 (Int.tmod (IntKind.u64.wrap (a0)) 1000000)))) - 4611686018427387904)) (wrap64 (-(wrap64 (1 + (wrap64 (Int.tmod (IntKind.u64.wrap (a0)) 1000000))))))).bind fun bt196 => ((num_Add.f (wrap64 ((wrap64 (1 + (wrap64 (Int.tmod (IntKind.u64.wrap (a0)) 1000000)))) - 4611686018427387904)) (wrap64 ((wrap64 (-(wrap64 (1 + (wrap64 (Int.tmod (IntKind.u64.wrap (a0)) 1000000)))))) - 1))).bind fun bt198 => (if (wrap64 (1 + (wrap64 (Int.tmod (IntKind.u64.wrap (a0)) 1000000)))) = 0 then (none) else ((num_Mul.f k (wrap64 ((wrap64 (Int.tdiv (4611686018427387904 : Int) (wrap64 (1 + (wrap64 (Int.tmod (IntKind.u64.wrap (a0)) 1000000)))))) + 1)) (wrap64 (1 + (wrap64 (Int.tmod (IntKind.u64.wrap (a0)) 1000000))))).bind fun bt200 => ((num_Mul.f k (wrap64 (Int.tdiv (4611686018427387904 : Int) (wrap64 (1 + (wrap64 (Int.tmod (IntKind.u64.wrap (a0)) 1000000)))))) (wrap64 (1 + (wrap64 (Int.tmod (IntKind.u64.wrap (a0)) 1000000))))).bind fun bt202 => (if t193 = true then (if t192 = 4611686018427387904 then (if t195 = true then (some false) else (if bt196.2 = true then (if bt196.1 = (-4611686018427387904) then (if bt198.2 = true then (some false) else (if bt200.2 = true then (some false) else (if bt202.2 = true then (if bt202.1 ≤ 4611686018427387904 then ((solsticelaw01_wakes.f k).bind fun t204 => (some t204)) else (some false)) else (some false)))) else (some false)) else (some false))) else (some false)) else (some false))))))) = some r := H
  have A3 := Aside0.mk A30
  clear A30
  replace H := Option.bind_eq_some_iff.mp H
  obtain ⟨⟨t196, t197⟩, A40, H⟩ := H
  replace H : ((num_Add.f (wrap64 ((wrap64 (1 + (wrap64 (Int.tmod (IntKind.u64.wrap (a0)) 1000000)))) - 4611686018427387904)) (wrap64 ((wrap64 (-(wrap64 (1 + (wrap64 (Int.tmod (IntKind.u64.wrap (a0)) 1000000)))))) - 1))).bind fun bt198 => (if (wrap64 (1 + (wrap64 (Int.tmod (IntKind.u64.wrap (a0)) 1000000)))) = 0 then (none) else ((num_Mul.f k (wrap64 ((wrap64 (Int.tdiv (4611686018427387904 : Int) (wrap64 (1 + (wrap64 (Int.tmod (IntKind.u64.wrap (a0)) 1000000)))))) + 1)) (wrap64 (1 + (wrap64 (Int.tmod (IntKind.u64.wrap (a0)) 1000000))))).bind fun bt200 => ((num_Mul.f k (wrap64 (Int.tdiv (4611686018427387904 : Int) (wrap64 (1 + (wrap64 (Int.tmod (IntKind.u64.wrap (a0)) 1000000)))))) (wrap64 (1 + (wrap64 (Int.tmod (IntKind.u64.wrap (a0)) 1000000))))).bind fun bt202 => (if t193 = true then (if t192 = 4611686018427387904 then (if t195 = true then (some false) else (if t197 = true then (if t196 = (-4611686018427387904) then (if bt198.2 = true then (some false) else (if bt200.2 = true then (some false) else (if bt202.2 = true then (if bt202.1 ≤ 4611686018427387904 then ((solsticelaw01_wakes.f k).bind fun t204 => (some t204)) else (some false)) else (some false)))) else (some false)) else (some false))) else (some false)) else (some false)))))) = some r := H
  have A4 := Aside0.mk A40
  clear A40
  replace H := Option.bind_eq_some_iff.mp H
  obtain ⟨⟨t198, t199⟩, A50, H⟩ := H
  replace H : (if (wrap64 (1 + (wrap64 (Int.tmod (IntKind.u64.wrap (a0)) 1000000)))) = 0 then (none) else ((num_Mul.f k (wrap64 ((wrap64 (Int.tdiv (4611686018427387904 : Int) (wrap64 (1 + (wrap64 (Int.tmod (IntKind.u64.wrap (a0)) 1000000)))))) + 1)) (wrap64 (1 + (wrap64 (Int.tmod (IntKind.u64.wrap (a0)) 1000000))))).bind fun bt200 => ((num_Mul.f k (wrap64 (Int.tdiv (4611686018427387904 : Int) (wrap64 (1 + (wrap64 (Int.tmod (IntKind.u64.wrap (a0)) 1000000)))))) (wrap64 (1 + (wrap64 (Int.tmod (IntKind.u64.wrap (a0)) 1000000))))).bind fun bt202 => (if t193 = true then (if t192 = 4611686018427387904 then (if t195 = true then (some false) else (if t197 = true then (if t196 = (-4611686018427387904) then (if t199 = true then (some false) else (if bt200.2 = true then (some false) else (if bt202.2 = true then (if bt202.1 ≤ 4611686018427387904 then ((solsticelaw01_wakes.f k).bind fun t204 => (some t204)) else (some false)) else (some false)))) else (some false)) else (some false))) else (some false)) else (some false))))) = some r := H
  have A5 := Aside0.mk A50
  clear A50
  by_cases c6 : (wrap64 (1 + (wrap64 (Int.tmod (IntKind.u64.wrap (a0)) 1000000)))) = 0
  · rw [if_pos c6] at H
    exact absurd H (by simp)
  · rw [if_neg c6] at H
    have c6b0 : ((wrap64 (1 + (wrap64 (Int.tmod (IntKind.u64.wrap (a0)) 1000000)))) == 0) = false := beq_eq_false_iff_ne.mpr c6
    have c6b1 : ((wrap64 (1 + (wrap64 (Int.tmod (IntKind.u64.wrap (a0)) 1000000)))) != 0) = true := bne_iff_ne.mpr c6
    replace H := Option.bind_eq_some_iff.mp H
    obtain ⟨⟨t200, t201⟩, A70, H⟩ := H
    replace H : ((num_Mul.f k (wrap64 (Int.tdiv (4611686018427387904 : Int) (wrap64 (1 + (wrap64 (Int.tmod (IntKind.u64.wrap (a0)) 1000000)))))) (wrap64 (1 + (wrap64 (Int.tmod (IntKind.u64.wrap (a0)) 1000000))))).bind fun bt202 => (if t193 = true then (if t192 = 4611686018427387904 then (if t195 = true then (some false) else (if t197 = true then (if t196 = (-4611686018427387904) then (if t199 = true then (some false) else (if t201 = true then (some false) else (if bt202.2 = true then (if bt202.1 ≤ 4611686018427387904 then ((solsticelaw01_wakes.f k).bind fun t204 => (some t204)) else (some false)) else (some false)))) else (some false)) else (some false))) else (some false)) else (some false))) = some r := H
    have A7 := Aside0.mk A70
    clear A70
    replace H := Option.bind_eq_some_iff.mp H
    obtain ⟨⟨t202, t203⟩, A80, H⟩ := H
    replace H : (if t193 = true then (if t192 = 4611686018427387904 then (if t195 = true then (some false) else (if t197 = true then (if t196 = (-4611686018427387904) then (if t199 = true then (some false) else (if t201 = true then (some false) else (if t203 = true then (if t202 ≤ 4611686018427387904 then ((solsticelaw01_wakes.f k).bind fun t204 => (some t204)) else (some false)) else (some false)))) else (some false)) else (some false))) else (some false)) else (some false)) = some r := H
    have A8 := Aside0.mk A80
    clear A80
    by_cases c9 : t193 = true
    · subst c9
      have H1 : (if t192 = 4611686018427387904 then (if t195 = true then (some false) else (if t197 = true then (if t196 = (-4611686018427387904) then (if t199 = true then (some false) else (if t201 = true then (some false) else (if t203 = true then (if t202 ≤ 4611686018427387904 then ((solsticelaw01_wakes.f k).bind fun t204 => (some t204)) else (some false)) else (some false)))) else (some false)) else (some false))) else (some false)) = some r := by rw [if_pos rfl] at H; exact H
      clear H
      have H := H1
      clear H1
      by_cases c10 : t192 = 4611686018427387904
      · rw [if_pos c10] at H
        have c10b0 : (t192 == 4611686018427387904) = true := beq_iff_eq.mpr c10
        have c10b1 : (t192 != 4611686018427387904) = false := bne_eq_false_iff_eq.mpr c10
        clear c10
        by_cases c11 : t195 = true
        · subst c11
          have H1 : (some false) = some r := by rw [if_pos rfl] at H; exact H
          clear H
          have H := H1
          clear H1
          obtain rfl := Option.some.inj H
          go_enter Tryd.func8, Tryd.ntmps8
          go_wp2_with (first | ((with_reducible refine gate_callee (f := 23) rfl ?_); refine goesL_ (some 24) rfl rfl Tryd.func23 (by kernel_rfl) rfl #[.int .i64 (wrap64 (4611686018427387904 - (wrap64 (1 + (wrap64 (Int.tmod (IntKind.u64.wrap (a0)) 1000000)))))), .int .i64 (wrap64 (1 + (wrap64 (Int.tmod (IntKind.u64.wrap (a0)) 1000000))))] rfl (by (try simp only [List.map_toArray, List.map_cons, List.map_nil]); first | done | rfl | (simp only [List.length_drop, List.length_take]; rfl)) ?_; (with_reducible refine (num_Add.calls (wrap64 (4611686018427387904 - (wrap64 (1 + (wrap64 (Int.tmod (IntKind.u64.wrap (a0)) 1000000)))))) (wrap64 (1 + (wrap64 (Int.tmod (IntKind.u64.wrap (a0)) 1000000)))) t192 true _ A2.out).mono ?_); rintro e w' ⟨rfl, ⟨nd, rfl⟩⟩; refine ⟨_, rfl, ?_⟩) | ((with_reducible refine gate_callee (f := 23) rfl ?_); refine goesL_ (some 32) rfl rfl Tryd.func23 (by kernel_rfl) rfl #[.int .i64 (wrap64 (4611686018427387904 - (wrap64 (1 + (wrap64 (Int.tmod (IntKind.u64.wrap (a0)) 1000000)))))), .int .i64 (wrap64 ((wrap64 (1 + (wrap64 (Int.tmod (IntKind.u64.wrap (a0)) 1000000)))) + 1))] rfl (by (try simp only [List.map_toArray, List.map_cons, List.map_nil]); first | done | rfl | (simp only [List.length_drop, List.length_take]; rfl)) ?_; (with_reducible refine (num_Add.calls (wrap64 (4611686018427387904 - (wrap64 (1 + (wrap64 (Int.tmod (IntKind.u64.wrap (a0)) 1000000)))))) (wrap64 ((wrap64 (1 + (wrap64 (Int.tmod (IntKind.u64.wrap (a0)) 1000000)))) + 1)) t194 true _ A3.out).mono ?_); rintro e w' ⟨rfl, ⟨nd, rfl⟩⟩; refine ⟨_, rfl, ?_⟩) | ((with_reducible refine gate_callee (f := 23) rfl ?_); refine goesL_ (some 40) rfl rfl Tryd.func23 (by kernel_rfl) rfl #[.int .i64 (wrap64 ((wrap64 (1 + (wrap64 (Int.tmod (IntKind.u64.wrap (a0)) 1000000)))) - 4611686018427387904)), .int .i64 (wrap64 (-(wrap64 (1 + (wrap64 (Int.tmod (IntKind.u64.wrap (a0)) 1000000))))))] rfl (by (try simp only [List.map_toArray, List.map_cons, List.map_nil]); first | done | rfl | (simp only [List.length_drop, List.length_take]; rfl)) ?_; (with_reducible refine (num_Add.calls (wrap64 ((wrap64 (1 + (wrap64 (Int.tmod (IntKind.u64.wrap (a0)) 1000000)))) - 4611686018427387904)) (wrap64 (-(wrap64 (1 + (wrap64 (Int.tmod (IntKind.u64.wrap (a0)) 1000000)))))) t196 t197 _ A4.out).mono ?_); rintro e w' ⟨rfl, ⟨nd, rfl⟩⟩; refine ⟨_, rfl, ?_⟩) | ((with_reducible refine gate_callee (f := 23) rfl ?_); refine goesL_ (some 49) rfl rfl Tryd.func23 (by kernel_rfl) rfl #[.int .i64 (wrap64 ((wrap64 (1 + (wrap64 (Int.tmod (IntKind.u64.wrap (a0)) 1000000)))) - 4611686018427387904)), .int .i64 (wrap64 ((wrap64 (-(wrap64 (1 + (wrap64 (Int.tmod (IntKind.u64.wrap (a0)) 1000000)))))) - 1))] rfl (by (try simp only [List.map_toArray, List.map_cons, List.map_nil]); first | done | rfl | (simp only [List.length_drop, List.length_take]; rfl)) ?_; (with_reducible refine (num_Add.calls (wrap64 ((wrap64 (1 + (wrap64 (Int.tmod (IntKind.u64.wrap (a0)) 1000000)))) - 4611686018427387904)) (wrap64 ((wrap64 (-(wrap64 (1 + (wrap64 (Int.tmod (IntKind.u64.wrap (a0)) 1000000)))))) - 1)) t198 t199 _ A5.out).mono ?_); rintro e w' ⟨rfl, ⟨nd, rfl⟩⟩; refine ⟨_, rfl, ?_⟩) | ((with_reducible refine gate_callee (f := 24) rfl ?_); refine goesL_ (some 57) rfl rfl Tryd.func24 (by kernel_rfl) rfl #[.int .i64 (wrap64 ((wrap64 (Int.tdiv (4611686018427387904 : Int) (wrap64 (1 + (wrap64 (Int.tmod (IntKind.u64.wrap (a0)) 1000000)))))) + 1)), .int .i64 (wrap64 (1 + (wrap64 (Int.tmod (IntKind.u64.wrap (a0)) 1000000))))] rfl (by (try simp only [List.map_toArray, List.map_cons, List.map_nil]); first | done | rfl | (simp only [List.length_drop, List.length_take]; rfl)) ?_; (with_reducible refine (num_Mul.calls k (wrap64 ((wrap64 (Int.tdiv (4611686018427387904 : Int) (wrap64 (1 + (wrap64 (Int.tmod (IntKind.u64.wrap (a0)) 1000000)))))) + 1)) (wrap64 (1 + (wrap64 (Int.tmod (IntKind.u64.wrap (a0)) 1000000)))) t200 t201 _ A7.out).mono ?_); rintro e w' ⟨rfl, ⟨nd, rfl⟩⟩; refine ⟨_, rfl, ?_⟩) | ((with_reducible refine gate_callee (f := 24) rfl ?_); refine goesL_ (some 64) rfl rfl Tryd.func24 (by kernel_rfl) rfl #[.int .i64 (wrap64 (Int.tdiv (4611686018427387904 : Int) (wrap64 (1 + (wrap64 (Int.tmod (IntKind.u64.wrap (a0)) 1000000)))))), .int .i64 (wrap64 (1 + (wrap64 (Int.tmod (IntKind.u64.wrap (a0)) 1000000))))] rfl (by (try simp only [List.map_toArray, List.map_cons, List.map_nil]); first | done | rfl | (simp only [List.length_drop, List.length_take]; rfl)) ?_; (with_reducible refine (num_Mul.calls k (wrap64 (Int.tdiv (4611686018427387904 : Int) (wrap64 (1 + (wrap64 (Int.tmod (IntKind.u64.wrap (a0)) 1000000)))))) (wrap64 (1 + (wrap64 (Int.tmod (IntKind.u64.wrap (a0)) 1000000)))) t202 t203 _ A8.out).mono ?_); rintro e w' ⟨rfl, ⟨nd, rfl⟩⟩; refine ⟨_, rfl, ?_⟩))
          go_ret
          exact ⟨by first | rfl | (simp [errW_none, errW_some] <;> rfl) | (simp [*, errW_none, errW_some] <;> rfl), by repeat (first | (with_reducible first | exact HB.out | apply below_alloc | apply pw_below_drewN | apply below_drew1) | exact HB.out)⟩
        · replace c11 := Bool.eq_false_iff.mpr c11
          subst c11
          have H1 : (if t197 = true then (if t196 = (-4611686018427387904) then (if t199 = true then (some false) else (if t201 = true then (some false) else (if t203 = true then (if t202 ≤ 4611686018427387904 then ((solsticelaw01_wakes.f k).bind fun t204 => (some t204)) else (some false)) else (some false)))) else (some false)) else (some false)) = some r := by rw [if_neg (show ¬ (false = true) by decide)] at H; exact H
          clear H
          have H := H1
          clear H1
          by_cases c12 : t197 = true
          · subst c12
            have H1 : (if t196 = (-4611686018427387904) then (if t199 = true then (some false) else (if t201 = true then (some false) else (if t203 = true then (if t202 ≤ 4611686018427387904 then ((solsticelaw01_wakes.f k).bind fun t204 => (some t204)) else (some false)) else (some false)))) else (some false)) = some r := by rw [if_pos rfl] at H; exact H
            clear H
            have H := H1
            clear H1
            by_cases c13 : t196 = (-4611686018427387904)
            · rw [if_pos c13] at H
              have c13b0 : (t196 == (-4611686018427387904)) = true := beq_iff_eq.mpr c13
              have c13b1 : (t196 != (-4611686018427387904)) = false := bne_eq_false_iff_eq.mpr c13
              clear c13
              by_cases c14 : t199 = true
              · subst c14
                have H1 : (some false) = some r := by rw [if_pos rfl] at H; exact H
                clear H
                have H := H1
                clear H1
                obtain rfl := Option.some.inj H
                go_enter Tryd.func8, Tryd.ntmps8
                go_wp2_with (first | ((with_reducible refine gate_callee (f := 23) rfl ?_); refine goesL_ (some 24) rfl rfl Tryd.func23 (by kernel_rfl) rfl #[.int .i64 (wrap64 (4611686018427387904 - (wrap64 (1 + (wrap64 (Int.tmod (IntKind.u64.wrap (a0)) 1000000)))))), .int .i64 (wrap64 (1 + (wrap64 (Int.tmod (IntKind.u64.wrap (a0)) 1000000))))] rfl (by (try simp only [List.map_toArray, List.map_cons, List.map_nil]); first | done | rfl | (simp only [List.length_drop, List.length_take]; rfl)) ?_; (with_reducible refine (num_Add.calls (wrap64 (4611686018427387904 - (wrap64 (1 + (wrap64 (Int.tmod (IntKind.u64.wrap (a0)) 1000000)))))) (wrap64 (1 + (wrap64 (Int.tmod (IntKind.u64.wrap (a0)) 1000000)))) t192 true _ A2.out).mono ?_); rintro e w' ⟨rfl, ⟨nd, rfl⟩⟩; refine ⟨_, rfl, ?_⟩) | ((with_reducible refine gate_callee (f := 23) rfl ?_); refine goesL_ (some 32) rfl rfl Tryd.func23 (by kernel_rfl) rfl #[.int .i64 (wrap64 (4611686018427387904 - (wrap64 (1 + (wrap64 (Int.tmod (IntKind.u64.wrap (a0)) 1000000)))))), .int .i64 (wrap64 ((wrap64 (1 + (wrap64 (Int.tmod (IntKind.u64.wrap (a0)) 1000000)))) + 1))] rfl (by (try simp only [List.map_toArray, List.map_cons, List.map_nil]); first | done | rfl | (simp only [List.length_drop, List.length_take]; rfl)) ?_; (with_reducible refine (num_Add.calls (wrap64 (4611686018427387904 - (wrap64 (1 + (wrap64 (Int.tmod (IntKind.u64.wrap (a0)) 1000000)))))) (wrap64 ((wrap64 (1 + (wrap64 (Int.tmod (IntKind.u64.wrap (a0)) 1000000)))) + 1)) t194 false _ A3.out).mono ?_); rintro e w' ⟨rfl, ⟨nd, rfl⟩⟩; refine ⟨_, rfl, ?_⟩) | ((with_reducible refine gate_callee (f := 23) rfl ?_); refine goesL_ (some 40) rfl rfl Tryd.func23 (by kernel_rfl) rfl #[.int .i64 (wrap64 ((wrap64 (1 + (wrap64 (Int.tmod (IntKind.u64.wrap (a0)) 1000000)))) - 4611686018427387904)), .int .i64 (wrap64 (-(wrap64 (1 + (wrap64 (Int.tmod (IntKind.u64.wrap (a0)) 1000000))))))] rfl (by (try simp only [List.map_toArray, List.map_cons, List.map_nil]); first | done | rfl | (simp only [List.length_drop, List.length_take]; rfl)) ?_; (with_reducible refine (num_Add.calls (wrap64 ((wrap64 (1 + (wrap64 (Int.tmod (IntKind.u64.wrap (a0)) 1000000)))) - 4611686018427387904)) (wrap64 (-(wrap64 (1 + (wrap64 (Int.tmod (IntKind.u64.wrap (a0)) 1000000)))))) t196 true _ A4.out).mono ?_); rintro e w' ⟨rfl, ⟨nd, rfl⟩⟩; refine ⟨_, rfl, ?_⟩) | ((with_reducible refine gate_callee (f := 23) rfl ?_); refine goesL_ (some 49) rfl rfl Tryd.func23 (by kernel_rfl) rfl #[.int .i64 (wrap64 ((wrap64 (1 + (wrap64 (Int.tmod (IntKind.u64.wrap (a0)) 1000000)))) - 4611686018427387904)), .int .i64 (wrap64 ((wrap64 (-(wrap64 (1 + (wrap64 (Int.tmod (IntKind.u64.wrap (a0)) 1000000)))))) - 1))] rfl (by (try simp only [List.map_toArray, List.map_cons, List.map_nil]); first | done | rfl | (simp only [List.length_drop, List.length_take]; rfl)) ?_; (with_reducible refine (num_Add.calls (wrap64 ((wrap64 (1 + (wrap64 (Int.tmod (IntKind.u64.wrap (a0)) 1000000)))) - 4611686018427387904)) (wrap64 ((wrap64 (-(wrap64 (1 + (wrap64 (Int.tmod (IntKind.u64.wrap (a0)) 1000000)))))) - 1)) t198 true _ A5.out).mono ?_); rintro e w' ⟨rfl, ⟨nd, rfl⟩⟩; refine ⟨_, rfl, ?_⟩) | ((with_reducible refine gate_callee (f := 24) rfl ?_); refine goesL_ (some 57) rfl rfl Tryd.func24 (by kernel_rfl) rfl #[.int .i64 (wrap64 ((wrap64 (Int.tdiv (4611686018427387904 : Int) (wrap64 (1 + (wrap64 (Int.tmod (IntKind.u64.wrap (a0)) 1000000)))))) + 1)), .int .i64 (wrap64 (1 + (wrap64 (Int.tmod (IntKind.u64.wrap (a0)) 1000000))))] rfl (by (try simp only [List.map_toArray, List.map_cons, List.map_nil]); first | done | rfl | (simp only [List.length_drop, List.length_take]; rfl)) ?_; (with_reducible refine (num_Mul.calls k (wrap64 ((wrap64 (Int.tdiv (4611686018427387904 : Int) (wrap64 (1 + (wrap64 (Int.tmod (IntKind.u64.wrap (a0)) 1000000)))))) + 1)) (wrap64 (1 + (wrap64 (Int.tmod (IntKind.u64.wrap (a0)) 1000000)))) t200 t201 _ A7.out).mono ?_); rintro e w' ⟨rfl, ⟨nd, rfl⟩⟩; refine ⟨_, rfl, ?_⟩) | ((with_reducible refine gate_callee (f := 24) rfl ?_); refine goesL_ (some 64) rfl rfl Tryd.func24 (by kernel_rfl) rfl #[.int .i64 (wrap64 (Int.tdiv (4611686018427387904 : Int) (wrap64 (1 + (wrap64 (Int.tmod (IntKind.u64.wrap (a0)) 1000000)))))), .int .i64 (wrap64 (1 + (wrap64 (Int.tmod (IntKind.u64.wrap (a0)) 1000000))))] rfl (by (try simp only [List.map_toArray, List.map_cons, List.map_nil]); first | done | rfl | (simp only [List.length_drop, List.length_take]; rfl)) ?_; (with_reducible refine (num_Mul.calls k (wrap64 (Int.tdiv (4611686018427387904 : Int) (wrap64 (1 + (wrap64 (Int.tmod (IntKind.u64.wrap (a0)) 1000000)))))) (wrap64 (1 + (wrap64 (Int.tmod (IntKind.u64.wrap (a0)) 1000000)))) t202 t203 _ A8.out).mono ?_); rintro e w' ⟨rfl, ⟨nd, rfl⟩⟩; refine ⟨_, rfl, ?_⟩))
                go_ret
                exact ⟨by first | rfl | (simp [errW_none, errW_some] <;> rfl) | (simp [*, errW_none, errW_some] <;> rfl), by repeat (first | (with_reducible first | exact HB.out | apply below_alloc | apply pw_below_drewN | apply below_drew1) | exact HB.out)⟩
              · replace c14 := Bool.eq_false_iff.mpr c14
                subst c14
                have H1 : (if t201 = true then (some false) else (if t203 = true then (if t202 ≤ 4611686018427387904 then ((solsticelaw01_wakes.f k).bind fun t204 => (some t204)) else (some false)) else (some false))) = some r := by rw [if_neg (show ¬ (false = true) by decide)] at H; exact H
                clear H
                have H := H1
                clear H1
                by_cases c15 : t201 = true
                · subst c15
                  have H1 : (some false) = some r := by rw [if_pos rfl] at H; exact H
                  clear H
                  have H := H1
                  clear H1
                  obtain rfl := Option.some.inj H
                  go_enter Tryd.func8, Tryd.ntmps8
                  go_wp2_with (first | ((with_reducible refine gate_callee (f := 23) rfl ?_); refine goesL_ (some 24) rfl rfl Tryd.func23 (by kernel_rfl) rfl #[.int .i64 (wrap64 (4611686018427387904 - (wrap64 (1 + (wrap64 (Int.tmod (IntKind.u64.wrap (a0)) 1000000)))))), .int .i64 (wrap64 (1 + (wrap64 (Int.tmod (IntKind.u64.wrap (a0)) 1000000))))] rfl (by (try simp only [List.map_toArray, List.map_cons, List.map_nil]); first | done | rfl | (simp only [List.length_drop, List.length_take]; rfl)) ?_; (with_reducible refine (num_Add.calls (wrap64 (4611686018427387904 - (wrap64 (1 + (wrap64 (Int.tmod (IntKind.u64.wrap (a0)) 1000000)))))) (wrap64 (1 + (wrap64 (Int.tmod (IntKind.u64.wrap (a0)) 1000000)))) t192 true _ A2.out).mono ?_); rintro e w' ⟨rfl, ⟨nd, rfl⟩⟩; refine ⟨_, rfl, ?_⟩) | ((with_reducible refine gate_callee (f := 23) rfl ?_); refine goesL_ (some 32) rfl rfl Tryd.func23 (by kernel_rfl) rfl #[.int .i64 (wrap64 (4611686018427387904 - (wrap64 (1 + (wrap64 (Int.tmod (IntKind.u64.wrap (a0)) 1000000)))))), .int .i64 (wrap64 ((wrap64 (1 + (wrap64 (Int.tmod (IntKind.u64.wrap (a0)) 1000000)))) + 1))] rfl (by (try simp only [List.map_toArray, List.map_cons, List.map_nil]); first | done | rfl | (simp only [List.length_drop, List.length_take]; rfl)) ?_; (with_reducible refine (num_Add.calls (wrap64 (4611686018427387904 - (wrap64 (1 + (wrap64 (Int.tmod (IntKind.u64.wrap (a0)) 1000000)))))) (wrap64 ((wrap64 (1 + (wrap64 (Int.tmod (IntKind.u64.wrap (a0)) 1000000)))) + 1)) t194 false _ A3.out).mono ?_); rintro e w' ⟨rfl, ⟨nd, rfl⟩⟩; refine ⟨_, rfl, ?_⟩) | ((with_reducible refine gate_callee (f := 23) rfl ?_); refine goesL_ (some 40) rfl rfl Tryd.func23 (by kernel_rfl) rfl #[.int .i64 (wrap64 ((wrap64 (1 + (wrap64 (Int.tmod (IntKind.u64.wrap (a0)) 1000000)))) - 4611686018427387904)), .int .i64 (wrap64 (-(wrap64 (1 + (wrap64 (Int.tmod (IntKind.u64.wrap (a0)) 1000000))))))] rfl (by (try simp only [List.map_toArray, List.map_cons, List.map_nil]); first | done | rfl | (simp only [List.length_drop, List.length_take]; rfl)) ?_; (with_reducible refine (num_Add.calls (wrap64 ((wrap64 (1 + (wrap64 (Int.tmod (IntKind.u64.wrap (a0)) 1000000)))) - 4611686018427387904)) (wrap64 (-(wrap64 (1 + (wrap64 (Int.tmod (IntKind.u64.wrap (a0)) 1000000)))))) t196 true _ A4.out).mono ?_); rintro e w' ⟨rfl, ⟨nd, rfl⟩⟩; refine ⟨_, rfl, ?_⟩) | ((with_reducible refine gate_callee (f := 23) rfl ?_); refine goesL_ (some 49) rfl rfl Tryd.func23 (by kernel_rfl) rfl #[.int .i64 (wrap64 ((wrap64 (1 + (wrap64 (Int.tmod (IntKind.u64.wrap (a0)) 1000000)))) - 4611686018427387904)), .int .i64 (wrap64 ((wrap64 (-(wrap64 (1 + (wrap64 (Int.tmod (IntKind.u64.wrap (a0)) 1000000)))))) - 1))] rfl (by (try simp only [List.map_toArray, List.map_cons, List.map_nil]); first | done | rfl | (simp only [List.length_drop, List.length_take]; rfl)) ?_; (with_reducible refine (num_Add.calls (wrap64 ((wrap64 (1 + (wrap64 (Int.tmod (IntKind.u64.wrap (a0)) 1000000)))) - 4611686018427387904)) (wrap64 ((wrap64 (-(wrap64 (1 + (wrap64 (Int.tmod (IntKind.u64.wrap (a0)) 1000000)))))) - 1)) t198 false _ A5.out).mono ?_); rintro e w' ⟨rfl, ⟨nd, rfl⟩⟩; refine ⟨_, rfl, ?_⟩) | ((with_reducible refine gate_callee (f := 24) rfl ?_); refine goesL_ (some 57) rfl rfl Tryd.func24 (by kernel_rfl) rfl #[.int .i64 (wrap64 ((wrap64 (Int.tdiv (4611686018427387904 : Int) (wrap64 (1 + (wrap64 (Int.tmod (IntKind.u64.wrap (a0)) 1000000)))))) + 1)), .int .i64 (wrap64 (1 + (wrap64 (Int.tmod (IntKind.u64.wrap (a0)) 1000000))))] rfl (by (try simp only [List.map_toArray, List.map_cons, List.map_nil]); first | done | rfl | (simp only [List.length_drop, List.length_take]; rfl)) ?_; (with_reducible refine (num_Mul.calls k (wrap64 ((wrap64 (Int.tdiv (4611686018427387904 : Int) (wrap64 (1 + (wrap64 (Int.tmod (IntKind.u64.wrap (a0)) 1000000)))))) + 1)) (wrap64 (1 + (wrap64 (Int.tmod (IntKind.u64.wrap (a0)) 1000000)))) t200 true _ A7.out).mono ?_); rintro e w' ⟨rfl, ⟨nd, rfl⟩⟩; refine ⟨_, rfl, ?_⟩) | ((with_reducible refine gate_callee (f := 24) rfl ?_); refine goesL_ (some 64) rfl rfl Tryd.func24 (by kernel_rfl) rfl #[.int .i64 (wrap64 (Int.tdiv (4611686018427387904 : Int) (wrap64 (1 + (wrap64 (Int.tmod (IntKind.u64.wrap (a0)) 1000000)))))), .int .i64 (wrap64 (1 + (wrap64 (Int.tmod (IntKind.u64.wrap (a0)) 1000000))))] rfl (by (try simp only [List.map_toArray, List.map_cons, List.map_nil]); first | done | rfl | (simp only [List.length_drop, List.length_take]; rfl)) ?_; (with_reducible refine (num_Mul.calls k (wrap64 (Int.tdiv (4611686018427387904 : Int) (wrap64 (1 + (wrap64 (Int.tmod (IntKind.u64.wrap (a0)) 1000000)))))) (wrap64 (1 + (wrap64 (Int.tmod (IntKind.u64.wrap (a0)) 1000000)))) t202 t203 _ A8.out).mono ?_); rintro e w' ⟨rfl, ⟨nd, rfl⟩⟩; refine ⟨_, rfl, ?_⟩))
                  go_ret
                  exact ⟨by first | rfl | (simp [errW_none, errW_some] <;> rfl) | (simp [*, errW_none, errW_some] <;> rfl), by repeat (first | (with_reducible first | exact HB.out | apply below_alloc | apply pw_below_drewN | apply below_drew1) | exact HB.out)⟩
                · replace c15 := Bool.eq_false_iff.mpr c15
                  subst c15
                  have H1 : (if t203 = true then (if t202 ≤ 4611686018427387904 then ((solsticelaw01_wakes.f k).bind fun t204 => (some t204)) else (some false)) else (some false)) = some r := by rw [if_neg (show ¬ (false = true) by decide)] at H; exact H
                  clear H
                  have H := H1
                  clear H1
                  by_cases c16 : t203 = true
                  · subst c16
                    have H1 : (if t202 ≤ 4611686018427387904 then ((solsticelaw01_wakes.f k).bind fun t204 => (some t204)) else (some false)) = some r := by rw [if_pos rfl] at H; exact H
                    clear H
                    have H := H1
                    clear H1
                    by_cases c17 : t202 ≤ 4611686018427387904
                    · rw [if_pos c17] at H
                      have c17b0 : decide (t202 ≤ 4611686018427387904) = true := decide_eq_true c17
                      clear c17
                      replace H := Option.bind_eq_some_iff.mp H
                      obtain ⟨t204, A180, H⟩ := H
                      replace H : (some t204) = some r := H
                      have A18 := Aside0.mk A180
                      clear A180
                      obtain rfl := Option.some.inj H
                      go_enter Tryd.func8, Tryd.ntmps8
                      go_wp2_with (first | ((with_reducible refine gate_callee (f := 23) rfl ?_); refine goesL_ (some 24) rfl rfl Tryd.func23 (by kernel_rfl) rfl #[.int .i64 (wrap64 (4611686018427387904 - (wrap64 (1 + (wrap64 (Int.tmod (IntKind.u64.wrap (a0)) 1000000)))))), .int .i64 (wrap64 (1 + (wrap64 (Int.tmod (IntKind.u64.wrap (a0)) 1000000))))] rfl (by (try simp only [List.map_toArray, List.map_cons, List.map_nil]); first | done | rfl | (simp only [List.length_drop, List.length_take]; rfl)) ?_; (with_reducible refine (num_Add.calls (wrap64 (4611686018427387904 - (wrap64 (1 + (wrap64 (Int.tmod (IntKind.u64.wrap (a0)) 1000000)))))) (wrap64 (1 + (wrap64 (Int.tmod (IntKind.u64.wrap (a0)) 1000000)))) t192 true _ A2.out).mono ?_); rintro e w' ⟨rfl, ⟨nd, rfl⟩⟩; refine ⟨_, rfl, ?_⟩) | ((with_reducible refine gate_callee (f := 23) rfl ?_); refine goesL_ (some 32) rfl rfl Tryd.func23 (by kernel_rfl) rfl #[.int .i64 (wrap64 (4611686018427387904 - (wrap64 (1 + (wrap64 (Int.tmod (IntKind.u64.wrap (a0)) 1000000)))))), .int .i64 (wrap64 ((wrap64 (1 + (wrap64 (Int.tmod (IntKind.u64.wrap (a0)) 1000000)))) + 1))] rfl (by (try simp only [List.map_toArray, List.map_cons, List.map_nil]); first | done | rfl | (simp only [List.length_drop, List.length_take]; rfl)) ?_; (with_reducible refine (num_Add.calls (wrap64 (4611686018427387904 - (wrap64 (1 + (wrap64 (Int.tmod (IntKind.u64.wrap (a0)) 1000000)))))) (wrap64 ((wrap64 (1 + (wrap64 (Int.tmod (IntKind.u64.wrap (a0)) 1000000)))) + 1)) t194 false _ A3.out).mono ?_); rintro e w' ⟨rfl, ⟨nd, rfl⟩⟩; refine ⟨_, rfl, ?_⟩) | ((with_reducible refine gate_callee (f := 23) rfl ?_); refine goesL_ (some 40) rfl rfl Tryd.func23 (by kernel_rfl) rfl #[.int .i64 (wrap64 ((wrap64 (1 + (wrap64 (Int.tmod (IntKind.u64.wrap (a0)) 1000000)))) - 4611686018427387904)), .int .i64 (wrap64 (-(wrap64 (1 + (wrap64 (Int.tmod (IntKind.u64.wrap (a0)) 1000000))))))] rfl (by (try simp only [List.map_toArray, List.map_cons, List.map_nil]); first | done | rfl | (simp only [List.length_drop, List.length_take]; rfl)) ?_; (with_reducible refine (num_Add.calls (wrap64 ((wrap64 (1 + (wrap64 (Int.tmod (IntKind.u64.wrap (a0)) 1000000)))) - 4611686018427387904)) (wrap64 (-(wrap64 (1 + (wrap64 (Int.tmod (IntKind.u64.wrap (a0)) 1000000)))))) t196 true _ A4.out).mono ?_); rintro e w' ⟨rfl, ⟨nd, rfl⟩⟩; refine ⟨_, rfl, ?_⟩) | ((with_reducible refine gate_callee (f := 23) rfl ?_); refine goesL_ (some 49) rfl rfl Tryd.func23 (by kernel_rfl) rfl #[.int .i64 (wrap64 ((wrap64 (1 + (wrap64 (Int.tmod (IntKind.u64.wrap (a0)) 1000000)))) - 4611686018427387904)), .int .i64 (wrap64 ((wrap64 (-(wrap64 (1 + (wrap64 (Int.tmod (IntKind.u64.wrap (a0)) 1000000)))))) - 1))] rfl (by (try simp only [List.map_toArray, List.map_cons, List.map_nil]); first | done | rfl | (simp only [List.length_drop, List.length_take]; rfl)) ?_; (with_reducible refine (num_Add.calls (wrap64 ((wrap64 (1 + (wrap64 (Int.tmod (IntKind.u64.wrap (a0)) 1000000)))) - 4611686018427387904)) (wrap64 ((wrap64 (-(wrap64 (1 + (wrap64 (Int.tmod (IntKind.u64.wrap (a0)) 1000000)))))) - 1)) t198 false _ A5.out).mono ?_); rintro e w' ⟨rfl, ⟨nd, rfl⟩⟩; refine ⟨_, rfl, ?_⟩) | ((with_reducible refine gate_callee (f := 24) rfl ?_); refine goesL_ (some 57) rfl rfl Tryd.func24 (by kernel_rfl) rfl #[.int .i64 (wrap64 ((wrap64 (Int.tdiv (4611686018427387904 : Int) (wrap64 (1 + (wrap64 (Int.tmod (IntKind.u64.wrap (a0)) 1000000)))))) + 1)), .int .i64 (wrap64 (1 + (wrap64 (Int.tmod (IntKind.u64.wrap (a0)) 1000000))))] rfl (by (try simp only [List.map_toArray, List.map_cons, List.map_nil]); first | done | rfl | (simp only [List.length_drop, List.length_take]; rfl)) ?_; (with_reducible refine (num_Mul.calls k (wrap64 ((wrap64 (Int.tdiv (4611686018427387904 : Int) (wrap64 (1 + (wrap64 (Int.tmod (IntKind.u64.wrap (a0)) 1000000)))))) + 1)) (wrap64 (1 + (wrap64 (Int.tmod (IntKind.u64.wrap (a0)) 1000000)))) t200 false _ A7.out).mono ?_); rintro e w' ⟨rfl, ⟨nd, rfl⟩⟩; refine ⟨_, rfl, ?_⟩) | ((with_reducible refine gate_callee (f := 24) rfl ?_); refine goesL_ (some 64) rfl rfl Tryd.func24 (by kernel_rfl) rfl #[.int .i64 (wrap64 (Int.tdiv (4611686018427387904 : Int) (wrap64 (1 + (wrap64 (Int.tmod (IntKind.u64.wrap (a0)) 1000000)))))), .int .i64 (wrap64 (1 + (wrap64 (Int.tmod (IntKind.u64.wrap (a0)) 1000000))))] rfl (by (try simp only [List.map_toArray, List.map_cons, List.map_nil]); first | done | rfl | (simp only [List.length_drop, List.length_take]; rfl)) ?_; (with_reducible refine (num_Mul.calls k (wrap64 (Int.tdiv (4611686018427387904 : Int) (wrap64 (1 + (wrap64 (Int.tmod (IntKind.u64.wrap (a0)) 1000000)))))) (wrap64 (1 + (wrap64 (Int.tmod (IntKind.u64.wrap (a0)) 1000000)))) t202 true _ A8.out).mono ?_); rintro e w' ⟨rfl, ⟨nd, rfl⟩⟩; refine ⟨_, rfl, ?_⟩) | (go_at_call 17; (with_reducible refine (solsticelaw01_wakes.calls k  t204 _ ?sideG A18.out).mono ?_); (case sideG => first | exact GP_below HG.out (by repeat (first | (with_reducible first | exact HB.out | apply below_alloc | apply pw_below_drewN | apply below_drew1) | exact HB.out)) | repeat (first | exact HG.out | refine GP_alloc ?_ _ | refine GP_drewN ?_ _ | refine GP_drew ?_)); rintro e w19 ⟨rfl, hb⟩; have n0_ := Aside0.mk (below_step (by repeat (first | (with_reducible first | exact HB.out | apply below_alloc | apply pw_below_drewN | apply below_drew1) | exact HB.out)) hb); clear HB; have HB := n0_; clear n0_; (try clear hb); (try clear hb2); (try clear hk); (try clear hi)))
                      go_ret
                      exact ⟨by first | rfl | (simp [errW_none, errW_some] <;> rfl) | (simp [*, errW_none, errW_some] <;> rfl), by repeat (first | (with_reducible first | exact HB.out | apply below_alloc | apply pw_below_drewN | apply below_drew1) | exact HB.out)⟩
                    · rw [if_neg c17] at H
                      have c17b0 : decide (t202 ≤ 4611686018427387904) = false := decide_eq_false c17
                      clear c17
                      obtain rfl := Option.some.inj H
                      go_enter Tryd.func8, Tryd.ntmps8
                      go_wp2_with (first | ((with_reducible refine gate_callee (f := 23) rfl ?_); refine goesL_ (some 24) rfl rfl Tryd.func23 (by kernel_rfl) rfl #[.int .i64 (wrap64 (4611686018427387904 - (wrap64 (1 + (wrap64 (Int.tmod (IntKind.u64.wrap (a0)) 1000000)))))), .int .i64 (wrap64 (1 + (wrap64 (Int.tmod (IntKind.u64.wrap (a0)) 1000000))))] rfl (by (try simp only [List.map_toArray, List.map_cons, List.map_nil]); first | done | rfl | (simp only [List.length_drop, List.length_take]; rfl)) ?_; (with_reducible refine (num_Add.calls (wrap64 (4611686018427387904 - (wrap64 (1 + (wrap64 (Int.tmod (IntKind.u64.wrap (a0)) 1000000)))))) (wrap64 (1 + (wrap64 (Int.tmod (IntKind.u64.wrap (a0)) 1000000)))) t192 true _ A2.out).mono ?_); rintro e w' ⟨rfl, ⟨nd, rfl⟩⟩; refine ⟨_, rfl, ?_⟩) | ((with_reducible refine gate_callee (f := 23) rfl ?_); refine goesL_ (some 32) rfl rfl Tryd.func23 (by kernel_rfl) rfl #[.int .i64 (wrap64 (4611686018427387904 - (wrap64 (1 + (wrap64 (Int.tmod (IntKind.u64.wrap (a0)) 1000000)))))), .int .i64 (wrap64 ((wrap64 (1 + (wrap64 (Int.tmod (IntKind.u64.wrap (a0)) 1000000)))) + 1))] rfl (by (try simp only [List.map_toArray, List.map_cons, List.map_nil]); first | done | rfl | (simp only [List.length_drop, List.length_take]; rfl)) ?_; (with_reducible refine (num_Add.calls (wrap64 (4611686018427387904 - (wrap64 (1 + (wrap64 (Int.tmod (IntKind.u64.wrap (a0)) 1000000)))))) (wrap64 ((wrap64 (1 + (wrap64 (Int.tmod (IntKind.u64.wrap (a0)) 1000000)))) + 1)) t194 false _ A3.out).mono ?_); rintro e w' ⟨rfl, ⟨nd, rfl⟩⟩; refine ⟨_, rfl, ?_⟩) | ((with_reducible refine gate_callee (f := 23) rfl ?_); refine goesL_ (some 40) rfl rfl Tryd.func23 (by kernel_rfl) rfl #[.int .i64 (wrap64 ((wrap64 (1 + (wrap64 (Int.tmod (IntKind.u64.wrap (a0)) 1000000)))) - 4611686018427387904)), .int .i64 (wrap64 (-(wrap64 (1 + (wrap64 (Int.tmod (IntKind.u64.wrap (a0)) 1000000))))))] rfl (by (try simp only [List.map_toArray, List.map_cons, List.map_nil]); first | done | rfl | (simp only [List.length_drop, List.length_take]; rfl)) ?_; (with_reducible refine (num_Add.calls (wrap64 ((wrap64 (1 + (wrap64 (Int.tmod (IntKind.u64.wrap (a0)) 1000000)))) - 4611686018427387904)) (wrap64 (-(wrap64 (1 + (wrap64 (Int.tmod (IntKind.u64.wrap (a0)) 1000000)))))) t196 true _ A4.out).mono ?_); rintro e w' ⟨rfl, ⟨nd, rfl⟩⟩; refine ⟨_, rfl, ?_⟩) | ((with_reducible refine gate_callee (f := 23) rfl ?_); refine goesL_ (some 49) rfl rfl Tryd.func23 (by kernel_rfl) rfl #[.int .i64 (wrap64 ((wrap64 (1 + (wrap64 (Int.tmod (IntKind.u64.wrap (a0)) 1000000)))) - 4611686018427387904)), .int .i64 (wrap64 ((wrap64 (-(wrap64 (1 + (wrap64 (Int.tmod (IntKind.u64.wrap (a0)) 1000000)))))) - 1))] rfl (by (try simp only [List.map_toArray, List.map_cons, List.map_nil]); first | done | rfl | (simp only [List.length_drop, List.length_take]; rfl)) ?_; (with_reducible refine (num_Add.calls (wrap64 ((wrap64 (1 + (wrap64 (Int.tmod (IntKind.u64.wrap (a0)) 1000000)))) - 4611686018427387904)) (wrap64 ((wrap64 (-(wrap64 (1 + (wrap64 (Int.tmod (IntKind.u64.wrap (a0)) 1000000)))))) - 1)) t198 false _ A5.out).mono ?_); rintro e w' ⟨rfl, ⟨nd, rfl⟩⟩; refine ⟨_, rfl, ?_⟩) | ((with_reducible refine gate_callee (f := 24) rfl ?_); refine goesL_ (some 57) rfl rfl Tryd.func24 (by kernel_rfl) rfl #[.int .i64 (wrap64 ((wrap64 (Int.tdiv (4611686018427387904 : Int) (wrap64 (1 + (wrap64 (Int.tmod (IntKind.u64.wrap (a0)) 1000000)))))) + 1)), .int .i64 (wrap64 (1 + (wrap64 (Int.tmod (IntKind.u64.wrap (a0)) 1000000))))] rfl (by (try simp only [List.map_toArray, List.map_cons, List.map_nil]); first | done | rfl | (simp only [List.length_drop, List.length_take]; rfl)) ?_; (with_reducible refine (num_Mul.calls k (wrap64 ((wrap64 (Int.tdiv (4611686018427387904 : Int) (wrap64 (1 + (wrap64 (Int.tmod (IntKind.u64.wrap (a0)) 1000000)))))) + 1)) (wrap64 (1 + (wrap64 (Int.tmod (IntKind.u64.wrap (a0)) 1000000)))) t200 false _ A7.out).mono ?_); rintro e w' ⟨rfl, ⟨nd, rfl⟩⟩; refine ⟨_, rfl, ?_⟩) | ((with_reducible refine gate_callee (f := 24) rfl ?_); refine goesL_ (some 64) rfl rfl Tryd.func24 (by kernel_rfl) rfl #[.int .i64 (wrap64 (Int.tdiv (4611686018427387904 : Int) (wrap64 (1 + (wrap64 (Int.tmod (IntKind.u64.wrap (a0)) 1000000)))))), .int .i64 (wrap64 (1 + (wrap64 (Int.tmod (IntKind.u64.wrap (a0)) 1000000))))] rfl (by (try simp only [List.map_toArray, List.map_cons, List.map_nil]); first | done | rfl | (simp only [List.length_drop, List.length_take]; rfl)) ?_; (with_reducible refine (num_Mul.calls k (wrap64 (Int.tdiv (4611686018427387904 : Int) (wrap64 (1 + (wrap64 (Int.tmod (IntKind.u64.wrap (a0)) 1000000)))))) (wrap64 (1 + (wrap64 (Int.tmod (IntKind.u64.wrap (a0)) 1000000)))) t202 true _ A8.out).mono ?_); rintro e w' ⟨rfl, ⟨nd, rfl⟩⟩; refine ⟨_, rfl, ?_⟩))
                      go_ret
                      exact ⟨by first | rfl | (simp [errW_none, errW_some] <;> rfl) | (simp [*, errW_none, errW_some] <;> rfl), by repeat (first | (with_reducible first | exact HB.out | apply below_alloc | apply pw_below_drewN | apply below_drew1) | exact HB.out)⟩
                  · replace c16 := Bool.eq_false_iff.mpr c16
                    subst c16
                    have H1 : (some false) = some r := by rw [if_neg (show ¬ (false = true) by decide)] at H; exact H
                    clear H
                    have H := H1
                    clear H1
                    obtain rfl := Option.some.inj H
                    go_enter Tryd.func8, Tryd.ntmps8
                    go_wp2_with (first | ((with_reducible refine gate_callee (f := 23) rfl ?_); refine goesL_ (some 24) rfl rfl Tryd.func23 (by kernel_rfl) rfl #[.int .i64 (wrap64 (4611686018427387904 - (wrap64 (1 + (wrap64 (Int.tmod (IntKind.u64.wrap (a0)) 1000000)))))), .int .i64 (wrap64 (1 + (wrap64 (Int.tmod (IntKind.u64.wrap (a0)) 1000000))))] rfl (by (try simp only [List.map_toArray, List.map_cons, List.map_nil]); first | done | rfl | (simp only [List.length_drop, List.length_take]; rfl)) ?_; (with_reducible refine (num_Add.calls (wrap64 (4611686018427387904 - (wrap64 (1 + (wrap64 (Int.tmod (IntKind.u64.wrap (a0)) 1000000)))))) (wrap64 (1 + (wrap64 (Int.tmod (IntKind.u64.wrap (a0)) 1000000)))) t192 true _ A2.out).mono ?_); rintro e w' ⟨rfl, ⟨nd, rfl⟩⟩; refine ⟨_, rfl, ?_⟩) | ((with_reducible refine gate_callee (f := 23) rfl ?_); refine goesL_ (some 32) rfl rfl Tryd.func23 (by kernel_rfl) rfl #[.int .i64 (wrap64 (4611686018427387904 - (wrap64 (1 + (wrap64 (Int.tmod (IntKind.u64.wrap (a0)) 1000000)))))), .int .i64 (wrap64 ((wrap64 (1 + (wrap64 (Int.tmod (IntKind.u64.wrap (a0)) 1000000)))) + 1))] rfl (by (try simp only [List.map_toArray, List.map_cons, List.map_nil]); first | done | rfl | (simp only [List.length_drop, List.length_take]; rfl)) ?_; (with_reducible refine (num_Add.calls (wrap64 (4611686018427387904 - (wrap64 (1 + (wrap64 (Int.tmod (IntKind.u64.wrap (a0)) 1000000)))))) (wrap64 ((wrap64 (1 + (wrap64 (Int.tmod (IntKind.u64.wrap (a0)) 1000000)))) + 1)) t194 false _ A3.out).mono ?_); rintro e w' ⟨rfl, ⟨nd, rfl⟩⟩; refine ⟨_, rfl, ?_⟩) | ((with_reducible refine gate_callee (f := 23) rfl ?_); refine goesL_ (some 40) rfl rfl Tryd.func23 (by kernel_rfl) rfl #[.int .i64 (wrap64 ((wrap64 (1 + (wrap64 (Int.tmod (IntKind.u64.wrap (a0)) 1000000)))) - 4611686018427387904)), .int .i64 (wrap64 (-(wrap64 (1 + (wrap64 (Int.tmod (IntKind.u64.wrap (a0)) 1000000))))))] rfl (by (try simp only [List.map_toArray, List.map_cons, List.map_nil]); first | done | rfl | (simp only [List.length_drop, List.length_take]; rfl)) ?_; (with_reducible refine (num_Add.calls (wrap64 ((wrap64 (1 + (wrap64 (Int.tmod (IntKind.u64.wrap (a0)) 1000000)))) - 4611686018427387904)) (wrap64 (-(wrap64 (1 + (wrap64 (Int.tmod (IntKind.u64.wrap (a0)) 1000000)))))) t196 true _ A4.out).mono ?_); rintro e w' ⟨rfl, ⟨nd, rfl⟩⟩; refine ⟨_, rfl, ?_⟩) | ((with_reducible refine gate_callee (f := 23) rfl ?_); refine goesL_ (some 49) rfl rfl Tryd.func23 (by kernel_rfl) rfl #[.int .i64 (wrap64 ((wrap64 (1 + (wrap64 (Int.tmod (IntKind.u64.wrap (a0)) 1000000)))) - 4611686018427387904)), .int .i64 (wrap64 ((wrap64 (-(wrap64 (1 + (wrap64 (Int.tmod (IntKind.u64.wrap (a0)) 1000000)))))) - 1))] rfl (by (try simp only [List.map_toArray, List.map_cons, List.map_nil]); first | done | rfl | (simp only [List.length_drop, List.length_take]; rfl)) ?_; (with_reducible refine (num_Add.calls (wrap64 ((wrap64 (1 + (wrap64 (Int.tmod (IntKind.u64.wrap (a0)) 1000000)))) - 4611686018427387904)) (wrap64 ((wrap64 (-(wrap64 (1 + (wrap64 (Int.tmod (IntKind.u64.wrap (a0)) 1000000)))))) - 1)) t198 false _ A5.out).mono ?_); rintro e w' ⟨rfl, ⟨nd, rfl⟩⟩; refine ⟨_, rfl, ?_⟩) | ((with_reducible refine gate_callee (f := 24) rfl ?_); refine goesL_ (some 57) rfl rfl Tryd.func24 (by kernel_rfl) rfl #[.int .i64 (wrap64 ((wrap64 (Int.tdiv (4611686018427387904 : Int) (wrap64 (1 + (wrap64 (Int.tmod (IntKind.u64.wrap (a0)) 1000000)))))) + 1)), .int .i64 (wrap64 (1 + (wrap64 (Int.tmod (IntKind.u64.wrap (a0)) 1000000))))] rfl (by (try simp only [List.map_toArray, List.map_cons, List.map_nil]); first | done | rfl | (simp only [List.length_drop, List.length_take]; rfl)) ?_; (with_reducible refine (num_Mul.calls k (wrap64 ((wrap64 (Int.tdiv (4611686018427387904 : Int) (wrap64 (1 + (wrap64 (Int.tmod (IntKind.u64.wrap (a0)) 1000000)))))) + 1)) (wrap64 (1 + (wrap64 (Int.tmod (IntKind.u64.wrap (a0)) 1000000)))) t200 false _ A7.out).mono ?_); rintro e w' ⟨rfl, ⟨nd, rfl⟩⟩; refine ⟨_, rfl, ?_⟩) | ((with_reducible refine gate_callee (f := 24) rfl ?_); refine goesL_ (some 64) rfl rfl Tryd.func24 (by kernel_rfl) rfl #[.int .i64 (wrap64 (Int.tdiv (4611686018427387904 : Int) (wrap64 (1 + (wrap64 (Int.tmod (IntKind.u64.wrap (a0)) 1000000)))))), .int .i64 (wrap64 (1 + (wrap64 (Int.tmod (IntKind.u64.wrap (a0)) 1000000))))] rfl (by (try simp only [List.map_toArray, List.map_cons, List.map_nil]); first | done | rfl | (simp only [List.length_drop, List.length_take]; rfl)) ?_; (with_reducible refine (num_Mul.calls k (wrap64 (Int.tdiv (4611686018427387904 : Int) (wrap64 (1 + (wrap64 (Int.tmod (IntKind.u64.wrap (a0)) 1000000)))))) (wrap64 (1 + (wrap64 (Int.tmod (IntKind.u64.wrap (a0)) 1000000)))) t202 false _ A8.out).mono ?_); rintro e w' ⟨rfl, ⟨nd, rfl⟩⟩; refine ⟨_, rfl, ?_⟩))
                    go_ret
                    exact ⟨by first | rfl | (simp [errW_none, errW_some] <;> rfl) | (simp [*, errW_none, errW_some] <;> rfl), by repeat (first | (with_reducible first | exact HB.out | apply below_alloc | apply pw_below_drewN | apply below_drew1) | exact HB.out)⟩
            · rw [if_neg c13] at H
              have c13b0 : (t196 == (-4611686018427387904)) = false := beq_eq_false_iff_ne.mpr c13
              have c13b1 : (t196 != (-4611686018427387904)) = true := bne_iff_ne.mpr c13
              obtain rfl := Option.some.inj H
              go_enter Tryd.func8, Tryd.ntmps8
              go_wp2_with (first | ((with_reducible refine gate_callee (f := 23) rfl ?_); refine goesL_ (some 24) rfl rfl Tryd.func23 (by kernel_rfl) rfl #[.int .i64 (wrap64 (4611686018427387904 - (wrap64 (1 + (wrap64 (Int.tmod (IntKind.u64.wrap (a0)) 1000000)))))), .int .i64 (wrap64 (1 + (wrap64 (Int.tmod (IntKind.u64.wrap (a0)) 1000000))))] rfl (by (try simp only [List.map_toArray, List.map_cons, List.map_nil]); first | done | rfl | (simp only [List.length_drop, List.length_take]; rfl)) ?_; (with_reducible refine (num_Add.calls (wrap64 (4611686018427387904 - (wrap64 (1 + (wrap64 (Int.tmod (IntKind.u64.wrap (a0)) 1000000)))))) (wrap64 (1 + (wrap64 (Int.tmod (IntKind.u64.wrap (a0)) 1000000)))) t192 true _ A2.out).mono ?_); rintro e w' ⟨rfl, ⟨nd, rfl⟩⟩; refine ⟨_, rfl, ?_⟩) | ((with_reducible refine gate_callee (f := 23) rfl ?_); refine goesL_ (some 32) rfl rfl Tryd.func23 (by kernel_rfl) rfl #[.int .i64 (wrap64 (4611686018427387904 - (wrap64 (1 + (wrap64 (Int.tmod (IntKind.u64.wrap (a0)) 1000000)))))), .int .i64 (wrap64 ((wrap64 (1 + (wrap64 (Int.tmod (IntKind.u64.wrap (a0)) 1000000)))) + 1))] rfl (by (try simp only [List.map_toArray, List.map_cons, List.map_nil]); first | done | rfl | (simp only [List.length_drop, List.length_take]; rfl)) ?_; (with_reducible refine (num_Add.calls (wrap64 (4611686018427387904 - (wrap64 (1 + (wrap64 (Int.tmod (IntKind.u64.wrap (a0)) 1000000)))))) (wrap64 ((wrap64 (1 + (wrap64 (Int.tmod (IntKind.u64.wrap (a0)) 1000000)))) + 1)) t194 false _ A3.out).mono ?_); rintro e w' ⟨rfl, ⟨nd, rfl⟩⟩; refine ⟨_, rfl, ?_⟩) | ((with_reducible refine gate_callee (f := 23) rfl ?_); refine goesL_ (some 40) rfl rfl Tryd.func23 (by kernel_rfl) rfl #[.int .i64 (wrap64 ((wrap64 (1 + (wrap64 (Int.tmod (IntKind.u64.wrap (a0)) 1000000)))) - 4611686018427387904)), .int .i64 (wrap64 (-(wrap64 (1 + (wrap64 (Int.tmod (IntKind.u64.wrap (a0)) 1000000))))))] rfl (by (try simp only [List.map_toArray, List.map_cons, List.map_nil]); first | done | rfl | (simp only [List.length_drop, List.length_take]; rfl)) ?_; (with_reducible refine (num_Add.calls (wrap64 ((wrap64 (1 + (wrap64 (Int.tmod (IntKind.u64.wrap (a0)) 1000000)))) - 4611686018427387904)) (wrap64 (-(wrap64 (1 + (wrap64 (Int.tmod (IntKind.u64.wrap (a0)) 1000000)))))) t196 true _ A4.out).mono ?_); rintro e w' ⟨rfl, ⟨nd, rfl⟩⟩; refine ⟨_, rfl, ?_⟩) | ((with_reducible refine gate_callee (f := 23) rfl ?_); refine goesL_ (some 49) rfl rfl Tryd.func23 (by kernel_rfl) rfl #[.int .i64 (wrap64 ((wrap64 (1 + (wrap64 (Int.tmod (IntKind.u64.wrap (a0)) 1000000)))) - 4611686018427387904)), .int .i64 (wrap64 ((wrap64 (-(wrap64 (1 + (wrap64 (Int.tmod (IntKind.u64.wrap (a0)) 1000000)))))) - 1))] rfl (by (try simp only [List.map_toArray, List.map_cons, List.map_nil]); first | done | rfl | (simp only [List.length_drop, List.length_take]; rfl)) ?_; (with_reducible refine (num_Add.calls (wrap64 ((wrap64 (1 + (wrap64 (Int.tmod (IntKind.u64.wrap (a0)) 1000000)))) - 4611686018427387904)) (wrap64 ((wrap64 (-(wrap64 (1 + (wrap64 (Int.tmod (IntKind.u64.wrap (a0)) 1000000)))))) - 1)) t198 t199 _ A5.out).mono ?_); rintro e w' ⟨rfl, ⟨nd, rfl⟩⟩; refine ⟨_, rfl, ?_⟩) | ((with_reducible refine gate_callee (f := 24) rfl ?_); refine goesL_ (some 57) rfl rfl Tryd.func24 (by kernel_rfl) rfl #[.int .i64 (wrap64 ((wrap64 (Int.tdiv (4611686018427387904 : Int) (wrap64 (1 + (wrap64 (Int.tmod (IntKind.u64.wrap (a0)) 1000000)))))) + 1)), .int .i64 (wrap64 (1 + (wrap64 (Int.tmod (IntKind.u64.wrap (a0)) 1000000))))] rfl (by (try simp only [List.map_toArray, List.map_cons, List.map_nil]); first | done | rfl | (simp only [List.length_drop, List.length_take]; rfl)) ?_; (with_reducible refine (num_Mul.calls k (wrap64 ((wrap64 (Int.tdiv (4611686018427387904 : Int) (wrap64 (1 + (wrap64 (Int.tmod (IntKind.u64.wrap (a0)) 1000000)))))) + 1)) (wrap64 (1 + (wrap64 (Int.tmod (IntKind.u64.wrap (a0)) 1000000)))) t200 t201 _ A7.out).mono ?_); rintro e w' ⟨rfl, ⟨nd, rfl⟩⟩; refine ⟨_, rfl, ?_⟩) | ((with_reducible refine gate_callee (f := 24) rfl ?_); refine goesL_ (some 64) rfl rfl Tryd.func24 (by kernel_rfl) rfl #[.int .i64 (wrap64 (Int.tdiv (4611686018427387904 : Int) (wrap64 (1 + (wrap64 (Int.tmod (IntKind.u64.wrap (a0)) 1000000)))))), .int .i64 (wrap64 (1 + (wrap64 (Int.tmod (IntKind.u64.wrap (a0)) 1000000))))] rfl (by (try simp only [List.map_toArray, List.map_cons, List.map_nil]); first | done | rfl | (simp only [List.length_drop, List.length_take]; rfl)) ?_; (with_reducible refine (num_Mul.calls k (wrap64 (Int.tdiv (4611686018427387904 : Int) (wrap64 (1 + (wrap64 (Int.tmod (IntKind.u64.wrap (a0)) 1000000)))))) (wrap64 (1 + (wrap64 (Int.tmod (IntKind.u64.wrap (a0)) 1000000)))) t202 t203 _ A8.out).mono ?_); rintro e w' ⟨rfl, ⟨nd, rfl⟩⟩; refine ⟨_, rfl, ?_⟩))
              go_ret
              exact ⟨by first | rfl | (simp [errW_none, errW_some] <;> rfl) | (simp [*, errW_none, errW_some] <;> rfl), by repeat (first | (with_reducible first | exact HB.out | apply below_alloc | apply pw_below_drewN | apply below_drew1) | exact HB.out)⟩
          · replace c12 := Bool.eq_false_iff.mpr c12
            subst c12
            have H1 : (some false) = some r := by rw [if_neg (show ¬ (false = true) by decide)] at H; exact H
            clear H
            have H := H1
            clear H1
            obtain rfl := Option.some.inj H
            go_enter Tryd.func8, Tryd.ntmps8
            go_wp2_with (first | ((with_reducible refine gate_callee (f := 23) rfl ?_); refine goesL_ (some 24) rfl rfl Tryd.func23 (by kernel_rfl) rfl #[.int .i64 (wrap64 (4611686018427387904 - (wrap64 (1 + (wrap64 (Int.tmod (IntKind.u64.wrap (a0)) 1000000)))))), .int .i64 (wrap64 (1 + (wrap64 (Int.tmod (IntKind.u64.wrap (a0)) 1000000))))] rfl (by (try simp only [List.map_toArray, List.map_cons, List.map_nil]); first | done | rfl | (simp only [List.length_drop, List.length_take]; rfl)) ?_; (with_reducible refine (num_Add.calls (wrap64 (4611686018427387904 - (wrap64 (1 + (wrap64 (Int.tmod (IntKind.u64.wrap (a0)) 1000000)))))) (wrap64 (1 + (wrap64 (Int.tmod (IntKind.u64.wrap (a0)) 1000000)))) t192 true _ A2.out).mono ?_); rintro e w' ⟨rfl, ⟨nd, rfl⟩⟩; refine ⟨_, rfl, ?_⟩) | ((with_reducible refine gate_callee (f := 23) rfl ?_); refine goesL_ (some 32) rfl rfl Tryd.func23 (by kernel_rfl) rfl #[.int .i64 (wrap64 (4611686018427387904 - (wrap64 (1 + (wrap64 (Int.tmod (IntKind.u64.wrap (a0)) 1000000)))))), .int .i64 (wrap64 ((wrap64 (1 + (wrap64 (Int.tmod (IntKind.u64.wrap (a0)) 1000000)))) + 1))] rfl (by (try simp only [List.map_toArray, List.map_cons, List.map_nil]); first | done | rfl | (simp only [List.length_drop, List.length_take]; rfl)) ?_; (with_reducible refine (num_Add.calls (wrap64 (4611686018427387904 - (wrap64 (1 + (wrap64 (Int.tmod (IntKind.u64.wrap (a0)) 1000000)))))) (wrap64 ((wrap64 (1 + (wrap64 (Int.tmod (IntKind.u64.wrap (a0)) 1000000)))) + 1)) t194 false _ A3.out).mono ?_); rintro e w' ⟨rfl, ⟨nd, rfl⟩⟩; refine ⟨_, rfl, ?_⟩) | ((with_reducible refine gate_callee (f := 23) rfl ?_); refine goesL_ (some 40) rfl rfl Tryd.func23 (by kernel_rfl) rfl #[.int .i64 (wrap64 ((wrap64 (1 + (wrap64 (Int.tmod (IntKind.u64.wrap (a0)) 1000000)))) - 4611686018427387904)), .int .i64 (wrap64 (-(wrap64 (1 + (wrap64 (Int.tmod (IntKind.u64.wrap (a0)) 1000000))))))] rfl (by (try simp only [List.map_toArray, List.map_cons, List.map_nil]); first | done | rfl | (simp only [List.length_drop, List.length_take]; rfl)) ?_; (with_reducible refine (num_Add.calls (wrap64 ((wrap64 (1 + (wrap64 (Int.tmod (IntKind.u64.wrap (a0)) 1000000)))) - 4611686018427387904)) (wrap64 (-(wrap64 (1 + (wrap64 (Int.tmod (IntKind.u64.wrap (a0)) 1000000)))))) t196 false _ A4.out).mono ?_); rintro e w' ⟨rfl, ⟨nd, rfl⟩⟩; refine ⟨_, rfl, ?_⟩) | ((with_reducible refine gate_callee (f := 23) rfl ?_); refine goesL_ (some 49) rfl rfl Tryd.func23 (by kernel_rfl) rfl #[.int .i64 (wrap64 ((wrap64 (1 + (wrap64 (Int.tmod (IntKind.u64.wrap (a0)) 1000000)))) - 4611686018427387904)), .int .i64 (wrap64 ((wrap64 (-(wrap64 (1 + (wrap64 (Int.tmod (IntKind.u64.wrap (a0)) 1000000)))))) - 1))] rfl (by (try simp only [List.map_toArray, List.map_cons, List.map_nil]); first | done | rfl | (simp only [List.length_drop, List.length_take]; rfl)) ?_; (with_reducible refine (num_Add.calls (wrap64 ((wrap64 (1 + (wrap64 (Int.tmod (IntKind.u64.wrap (a0)) 1000000)))) - 4611686018427387904)) (wrap64 ((wrap64 (-(wrap64 (1 + (wrap64 (Int.tmod (IntKind.u64.wrap (a0)) 1000000)))))) - 1)) t198 t199 _ A5.out).mono ?_); rintro e w' ⟨rfl, ⟨nd, rfl⟩⟩; refine ⟨_, rfl, ?_⟩) | ((with_reducible refine gate_callee (f := 24) rfl ?_); refine goesL_ (some 57) rfl rfl Tryd.func24 (by kernel_rfl) rfl #[.int .i64 (wrap64 ((wrap64 (Int.tdiv (4611686018427387904 : Int) (wrap64 (1 + (wrap64 (Int.tmod (IntKind.u64.wrap (a0)) 1000000)))))) + 1)), .int .i64 (wrap64 (1 + (wrap64 (Int.tmod (IntKind.u64.wrap (a0)) 1000000))))] rfl (by (try simp only [List.map_toArray, List.map_cons, List.map_nil]); first | done | rfl | (simp only [List.length_drop, List.length_take]; rfl)) ?_; (with_reducible refine (num_Mul.calls k (wrap64 ((wrap64 (Int.tdiv (4611686018427387904 : Int) (wrap64 (1 + (wrap64 (Int.tmod (IntKind.u64.wrap (a0)) 1000000)))))) + 1)) (wrap64 (1 + (wrap64 (Int.tmod (IntKind.u64.wrap (a0)) 1000000)))) t200 t201 _ A7.out).mono ?_); rintro e w' ⟨rfl, ⟨nd, rfl⟩⟩; refine ⟨_, rfl, ?_⟩) | ((with_reducible refine gate_callee (f := 24) rfl ?_); refine goesL_ (some 64) rfl rfl Tryd.func24 (by kernel_rfl) rfl #[.int .i64 (wrap64 (Int.tdiv (4611686018427387904 : Int) (wrap64 (1 + (wrap64 (Int.tmod (IntKind.u64.wrap (a0)) 1000000)))))), .int .i64 (wrap64 (1 + (wrap64 (Int.tmod (IntKind.u64.wrap (a0)) 1000000))))] rfl (by (try simp only [List.map_toArray, List.map_cons, List.map_nil]); first | done | rfl | (simp only [List.length_drop, List.length_take]; rfl)) ?_; (with_reducible refine (num_Mul.calls k (wrap64 (Int.tdiv (4611686018427387904 : Int) (wrap64 (1 + (wrap64 (Int.tmod (IntKind.u64.wrap (a0)) 1000000)))))) (wrap64 (1 + (wrap64 (Int.tmod (IntKind.u64.wrap (a0)) 1000000)))) t202 t203 _ A8.out).mono ?_); rintro e w' ⟨rfl, ⟨nd, rfl⟩⟩; refine ⟨_, rfl, ?_⟩))
            go_ret
            exact ⟨by first | rfl | (simp [errW_none, errW_some] <;> rfl) | (simp [*, errW_none, errW_some] <;> rfl), by repeat (first | (with_reducible first | exact HB.out | apply below_alloc | apply pw_below_drewN | apply below_drew1) | exact HB.out)⟩
      · rw [if_neg c10] at H
        have c10b0 : (t192 == 4611686018427387904) = false := beq_eq_false_iff_ne.mpr c10
        have c10b1 : (t192 != 4611686018427387904) = true := bne_iff_ne.mpr c10
        obtain rfl := Option.some.inj H
        go_enter Tryd.func8, Tryd.ntmps8
        go_wp2_with (first | ((with_reducible refine gate_callee (f := 23) rfl ?_); refine goesL_ (some 24) rfl rfl Tryd.func23 (by kernel_rfl) rfl #[.int .i64 (wrap64 (4611686018427387904 - (wrap64 (1 + (wrap64 (Int.tmod (IntKind.u64.wrap (a0)) 1000000)))))), .int .i64 (wrap64 (1 + (wrap64 (Int.tmod (IntKind.u64.wrap (a0)) 1000000))))] rfl (by (try simp only [List.map_toArray, List.map_cons, List.map_nil]); first | done | rfl | (simp only [List.length_drop, List.length_take]; rfl)) ?_; (with_reducible refine (num_Add.calls (wrap64 (4611686018427387904 - (wrap64 (1 + (wrap64 (Int.tmod (IntKind.u64.wrap (a0)) 1000000)))))) (wrap64 (1 + (wrap64 (Int.tmod (IntKind.u64.wrap (a0)) 1000000)))) t192 true _ A2.out).mono ?_); rintro e w' ⟨rfl, ⟨nd, rfl⟩⟩; refine ⟨_, rfl, ?_⟩) | ((with_reducible refine gate_callee (f := 23) rfl ?_); refine goesL_ (some 32) rfl rfl Tryd.func23 (by kernel_rfl) rfl #[.int .i64 (wrap64 (4611686018427387904 - (wrap64 (1 + (wrap64 (Int.tmod (IntKind.u64.wrap (a0)) 1000000)))))), .int .i64 (wrap64 ((wrap64 (1 + (wrap64 (Int.tmod (IntKind.u64.wrap (a0)) 1000000)))) + 1))] rfl (by (try simp only [List.map_toArray, List.map_cons, List.map_nil]); first | done | rfl | (simp only [List.length_drop, List.length_take]; rfl)) ?_; (with_reducible refine (num_Add.calls (wrap64 (4611686018427387904 - (wrap64 (1 + (wrap64 (Int.tmod (IntKind.u64.wrap (a0)) 1000000)))))) (wrap64 ((wrap64 (1 + (wrap64 (Int.tmod (IntKind.u64.wrap (a0)) 1000000)))) + 1)) t194 t195 _ A3.out).mono ?_); rintro e w' ⟨rfl, ⟨nd, rfl⟩⟩; refine ⟨_, rfl, ?_⟩) | ((with_reducible refine gate_callee (f := 23) rfl ?_); refine goesL_ (some 40) rfl rfl Tryd.func23 (by kernel_rfl) rfl #[.int .i64 (wrap64 ((wrap64 (1 + (wrap64 (Int.tmod (IntKind.u64.wrap (a0)) 1000000)))) - 4611686018427387904)), .int .i64 (wrap64 (-(wrap64 (1 + (wrap64 (Int.tmod (IntKind.u64.wrap (a0)) 1000000))))))] rfl (by (try simp only [List.map_toArray, List.map_cons, List.map_nil]); first | done | rfl | (simp only [List.length_drop, List.length_take]; rfl)) ?_; (with_reducible refine (num_Add.calls (wrap64 ((wrap64 (1 + (wrap64 (Int.tmod (IntKind.u64.wrap (a0)) 1000000)))) - 4611686018427387904)) (wrap64 (-(wrap64 (1 + (wrap64 (Int.tmod (IntKind.u64.wrap (a0)) 1000000)))))) t196 t197 _ A4.out).mono ?_); rintro e w' ⟨rfl, ⟨nd, rfl⟩⟩; refine ⟨_, rfl, ?_⟩) | ((with_reducible refine gate_callee (f := 23) rfl ?_); refine goesL_ (some 49) rfl rfl Tryd.func23 (by kernel_rfl) rfl #[.int .i64 (wrap64 ((wrap64 (1 + (wrap64 (Int.tmod (IntKind.u64.wrap (a0)) 1000000)))) - 4611686018427387904)), .int .i64 (wrap64 ((wrap64 (-(wrap64 (1 + (wrap64 (Int.tmod (IntKind.u64.wrap (a0)) 1000000)))))) - 1))] rfl (by (try simp only [List.map_toArray, List.map_cons, List.map_nil]); first | done | rfl | (simp only [List.length_drop, List.length_take]; rfl)) ?_; (with_reducible refine (num_Add.calls (wrap64 ((wrap64 (1 + (wrap64 (Int.tmod (IntKind.u64.wrap (a0)) 1000000)))) - 4611686018427387904)) (wrap64 ((wrap64 (-(wrap64 (1 + (wrap64 (Int.tmod (IntKind.u64.wrap (a0)) 1000000)))))) - 1)) t198 t199 _ A5.out).mono ?_); rintro e w' ⟨rfl, ⟨nd, rfl⟩⟩; refine ⟨_, rfl, ?_⟩) | ((with_reducible refine gate_callee (f := 24) rfl ?_); refine goesL_ (some 57) rfl rfl Tryd.func24 (by kernel_rfl) rfl #[.int .i64 (wrap64 ((wrap64 (Int.tdiv (4611686018427387904 : Int) (wrap64 (1 + (wrap64 (Int.tmod (IntKind.u64.wrap (a0)) 1000000)))))) + 1)), .int .i64 (wrap64 (1 + (wrap64 (Int.tmod (IntKind.u64.wrap (a0)) 1000000))))] rfl (by (try simp only [List.map_toArray, List.map_cons, List.map_nil]); first | done | rfl | (simp only [List.length_drop, List.length_take]; rfl)) ?_; (with_reducible refine (num_Mul.calls k (wrap64 ((wrap64 (Int.tdiv (4611686018427387904 : Int) (wrap64 (1 + (wrap64 (Int.tmod (IntKind.u64.wrap (a0)) 1000000)))))) + 1)) (wrap64 (1 + (wrap64 (Int.tmod (IntKind.u64.wrap (a0)) 1000000)))) t200 t201 _ A7.out).mono ?_); rintro e w' ⟨rfl, ⟨nd, rfl⟩⟩; refine ⟨_, rfl, ?_⟩) | ((with_reducible refine gate_callee (f := 24) rfl ?_); refine goesL_ (some 64) rfl rfl Tryd.func24 (by kernel_rfl) rfl #[.int .i64 (wrap64 (Int.tdiv (4611686018427387904 : Int) (wrap64 (1 + (wrap64 (Int.tmod (IntKind.u64.wrap (a0)) 1000000)))))), .int .i64 (wrap64 (1 + (wrap64 (Int.tmod (IntKind.u64.wrap (a0)) 1000000))))] rfl (by (try simp only [List.map_toArray, List.map_cons, List.map_nil]); first | done | rfl | (simp only [List.length_drop, List.length_take]; rfl)) ?_; (with_reducible refine (num_Mul.calls k (wrap64 (Int.tdiv (4611686018427387904 : Int) (wrap64 (1 + (wrap64 (Int.tmod (IntKind.u64.wrap (a0)) 1000000)))))) (wrap64 (1 + (wrap64 (Int.tmod (IntKind.u64.wrap (a0)) 1000000)))) t202 t203 _ A8.out).mono ?_); rintro e w' ⟨rfl, ⟨nd, rfl⟩⟩; refine ⟨_, rfl, ?_⟩))
        go_ret
        exact ⟨by first | rfl | (simp [errW_none, errW_some] <;> rfl) | (simp [*, errW_none, errW_some] <;> rfl), by repeat (first | (with_reducible first | exact HB.out | apply below_alloc | apply pw_below_drewN | apply below_drew1) | exact HB.out)⟩
    · replace c9 := Bool.eq_false_iff.mpr c9
      subst c9
      have H1 : (some false) = some r := by rw [if_neg (show ¬ (false = true) by decide)] at H; exact H
      clear H
      have H := H1
      clear H1
      obtain rfl := Option.some.inj H
      go_enter Tryd.func8, Tryd.ntmps8
      go_wp2_with (first | ((with_reducible refine gate_callee (f := 23) rfl ?_); refine goesL_ (some 24) rfl rfl Tryd.func23 (by kernel_rfl) rfl #[.int .i64 (wrap64 (4611686018427387904 - (wrap64 (1 + (wrap64 (Int.tmod (IntKind.u64.wrap (a0)) 1000000)))))), .int .i64 (wrap64 (1 + (wrap64 (Int.tmod (IntKind.u64.wrap (a0)) 1000000))))] rfl (by (try simp only [List.map_toArray, List.map_cons, List.map_nil]); first | done | rfl | (simp only [List.length_drop, List.length_take]; rfl)) ?_; (with_reducible refine (num_Add.calls (wrap64 (4611686018427387904 - (wrap64 (1 + (wrap64 (Int.tmod (IntKind.u64.wrap (a0)) 1000000)))))) (wrap64 (1 + (wrap64 (Int.tmod (IntKind.u64.wrap (a0)) 1000000)))) t192 false _ A2.out).mono ?_); rintro e w' ⟨rfl, ⟨nd, rfl⟩⟩; refine ⟨_, rfl, ?_⟩) | ((with_reducible refine gate_callee (f := 23) rfl ?_); refine goesL_ (some 32) rfl rfl Tryd.func23 (by kernel_rfl) rfl #[.int .i64 (wrap64 (4611686018427387904 - (wrap64 (1 + (wrap64 (Int.tmod (IntKind.u64.wrap (a0)) 1000000)))))), .int .i64 (wrap64 ((wrap64 (1 + (wrap64 (Int.tmod (IntKind.u64.wrap (a0)) 1000000)))) + 1))] rfl (by (try simp only [List.map_toArray, List.map_cons, List.map_nil]); first | done | rfl | (simp only [List.length_drop, List.length_take]; rfl)) ?_; (with_reducible refine (num_Add.calls (wrap64 (4611686018427387904 - (wrap64 (1 + (wrap64 (Int.tmod (IntKind.u64.wrap (a0)) 1000000)))))) (wrap64 ((wrap64 (1 + (wrap64 (Int.tmod (IntKind.u64.wrap (a0)) 1000000)))) + 1)) t194 t195 _ A3.out).mono ?_); rintro e w' ⟨rfl, ⟨nd, rfl⟩⟩; refine ⟨_, rfl, ?_⟩) | ((with_reducible refine gate_callee (f := 23) rfl ?_); refine goesL_ (some 40) rfl rfl Tryd.func23 (by kernel_rfl) rfl #[.int .i64 (wrap64 ((wrap64 (1 + (wrap64 (Int.tmod (IntKind.u64.wrap (a0)) 1000000)))) - 4611686018427387904)), .int .i64 (wrap64 (-(wrap64 (1 + (wrap64 (Int.tmod (IntKind.u64.wrap (a0)) 1000000))))))] rfl (by (try simp only [List.map_toArray, List.map_cons, List.map_nil]); first | done | rfl | (simp only [List.length_drop, List.length_take]; rfl)) ?_; (with_reducible refine (num_Add.calls (wrap64 ((wrap64 (1 + (wrap64 (Int.tmod (IntKind.u64.wrap (a0)) 1000000)))) - 4611686018427387904)) (wrap64 (-(wrap64 (1 + (wrap64 (Int.tmod (IntKind.u64.wrap (a0)) 1000000)))))) t196 t197 _ A4.out).mono ?_); rintro e w' ⟨rfl, ⟨nd, rfl⟩⟩; refine ⟨_, rfl, ?_⟩) | ((with_reducible refine gate_callee (f := 23) rfl ?_); refine goesL_ (some 49) rfl rfl Tryd.func23 (by kernel_rfl) rfl #[.int .i64 (wrap64 ((wrap64 (1 + (wrap64 (Int.tmod (IntKind.u64.wrap (a0)) 1000000)))) - 4611686018427387904)), .int .i64 (wrap64 ((wrap64 (-(wrap64 (1 + (wrap64 (Int.tmod (IntKind.u64.wrap (a0)) 1000000)))))) - 1))] rfl (by (try simp only [List.map_toArray, List.map_cons, List.map_nil]); first | done | rfl | (simp only [List.length_drop, List.length_take]; rfl)) ?_; (with_reducible refine (num_Add.calls (wrap64 ((wrap64 (1 + (wrap64 (Int.tmod (IntKind.u64.wrap (a0)) 1000000)))) - 4611686018427387904)) (wrap64 ((wrap64 (-(wrap64 (1 + (wrap64 (Int.tmod (IntKind.u64.wrap (a0)) 1000000)))))) - 1)) t198 t199 _ A5.out).mono ?_); rintro e w' ⟨rfl, ⟨nd, rfl⟩⟩; refine ⟨_, rfl, ?_⟩) | ((with_reducible refine gate_callee (f := 24) rfl ?_); refine goesL_ (some 57) rfl rfl Tryd.func24 (by kernel_rfl) rfl #[.int .i64 (wrap64 ((wrap64 (Int.tdiv (4611686018427387904 : Int) (wrap64 (1 + (wrap64 (Int.tmod (IntKind.u64.wrap (a0)) 1000000)))))) + 1)), .int .i64 (wrap64 (1 + (wrap64 (Int.tmod (IntKind.u64.wrap (a0)) 1000000))))] rfl (by (try simp only [List.map_toArray, List.map_cons, List.map_nil]); first | done | rfl | (simp only [List.length_drop, List.length_take]; rfl)) ?_; (with_reducible refine (num_Mul.calls k (wrap64 ((wrap64 (Int.tdiv (4611686018427387904 : Int) (wrap64 (1 + (wrap64 (Int.tmod (IntKind.u64.wrap (a0)) 1000000)))))) + 1)) (wrap64 (1 + (wrap64 (Int.tmod (IntKind.u64.wrap (a0)) 1000000)))) t200 t201 _ A7.out).mono ?_); rintro e w' ⟨rfl, ⟨nd, rfl⟩⟩; refine ⟨_, rfl, ?_⟩) | ((with_reducible refine gate_callee (f := 24) rfl ?_); refine goesL_ (some 64) rfl rfl Tryd.func24 (by kernel_rfl) rfl #[.int .i64 (wrap64 (Int.tdiv (4611686018427387904 : Int) (wrap64 (1 + (wrap64 (Int.tmod (IntKind.u64.wrap (a0)) 1000000)))))), .int .i64 (wrap64 (1 + (wrap64 (Int.tmod (IntKind.u64.wrap (a0)) 1000000))))] rfl (by (try simp only [List.map_toArray, List.map_cons, List.map_nil]); first | done | rfl | (simp only [List.length_drop, List.length_take]; rfl)) ?_; (with_reducible refine (num_Mul.calls k (wrap64 (Int.tdiv (4611686018427387904 : Int) (wrap64 (1 + (wrap64 (Int.tmod (IntKind.u64.wrap (a0)) 1000000)))))) (wrap64 (1 + (wrap64 (Int.tmod (IntKind.u64.wrap (a0)) 1000000)))) t202 t203 _ A8.out).mono ?_); rintro e w' ⟨rfl, ⟨nd, rfl⟩⟩; refine ⟨_, rfl, ?_⟩))
      go_ret
      exact ⟨by first | rfl | (simp [errW_none, errW_some] <;> rfl) | (simp [*, errW_none, errW_some] <;> rfl), by repeat (first | (with_reducible first | exact HB.out | apply below_alloc | apply pw_below_drewN | apply below_drew1) | exact HB.out)⟩

/-- THE ONE PURE STATEMENT of solsticelaw01_NumEdges: yours. -/
def solsticelaw01_NumEdges.Pure : Prop := ∀ (a0 : Int), (Lit.int .i64 a0).wf = true → ∃ k, solsticelaw01_NumEdges.f k a0 = some true
end Go.Proofs.YtlfohcjajmebjaaDoor.PNum
