-- Printed by a program of this session's over the kit's printer; library functions by contracts off the shelf.
import Derived.Test.YtookjnpmbenheaaDoorGP
import Derived.Test.YtookjnpmbenheaaDoorPFmtx0
import Derived.Test.YtookjnpmbenheaaDoorPFmtx1
import Derived.Test.YtookjnpmbenheaaDoorPFmtx3
import Derived.Test.YtookjnpmbenheaaDoorPFmtx4
import Derived.Test.YtookjnpmbenheaaDoorPFmtx6
namespace Go.Proofs.YtookjnpmbenheaaDoor.PFmt
open Go.RowKit Go.Proofs.YtookjnpmbenheaaDoorW.PrintWords Go.Proofs.YtookjnpmbenheaaDoorW.PrintLast Go.Proofs.YtookjnpmbenheaaDoorW.PrintMore Go.Proofs.YtookjnpmbenheaaDoor.Base
attribute [local go_sem] max2_int min2_int max_two min_two max_three min_three max_four min_four   -- for this text's walks alone
set_option linter.unusedVariables false
set_option linter.unusedSimpArgs false
def solsticelaw12_wakes.f (k : Nat)  : Option (Bool) := (format_Name.f k (⟨#[67, 69, 37, 115, 84]⟩ : ByteArray) (⟨#[83]⟩ : ByteArray) 7200 3600).bind fun bt165 => ((format_Name.f k (⟨#[65, 47, 66]⟩ : ByteArray) (⟨#[]⟩ : ByteArray) 0 0).bind fun bt167 => ((format_Short.f k (-5400)).bind fun bt169 => ((format_Name.f k (⟨#[37, 115]⟩ : ByteArray) (⟨#[]⟩ : ByteArray) 0 0).bind fun bt171 => (if bt165.2 = 0 then (if bt165.1.toList = ([67, 69, 83, 84] : List UInt8) then (if bt167.2 = 0 then (if bt167.1.toList = ([65] : List UInt8) then (if bt169.2 = 0 then (if bt169.1.toList = ([45, 48, 49, 51, 48] : List UInt8) then (if bt171.2 = 16 then ((format_Right.f k (⟨#[43, 48, 51]⟩ : ByteArray)).bind fun t173 => (some t173)) else (some false)) else (some false)) else (some false)) else (some false)) else (some false)) else (some false)) else (some false)))))
theorem solsticelaw12_wakes.mono : ∀ k, LeO (solsticelaw12_wakes.f k ) (solsticelaw12_wakes.f (k + 1) ) := by
 intro  k
 unfold solsticelaw12_wakes.f
 repeat' first
   | (with_reducible exact format_Name.mono _ _ _ _ _)
   | (with_reducible exact format_Right.mono _ _)
   | (with_reducible exact format_Short.mono _ _)
   | (with_reducible exact LeO.refl _)
   | (with_reducible exact LeO.none _)
   | (with_reducible refine LeO.ite ?_ ?_)
   | (with_reducible refine LeO.bind ?_ (fun _ => ?_))
   | exact format_Name.mono _ _ _ _ _
   | exact format_Right.mono _ _
   | exact format_Short.mono _ _
   | exact LeO.none _
   | refine LeO.ite ?_ ?_
   | refine LeO.bind ?_ (fun _ => ?_)
set_option maxHeartbeats 8000000 in
set_option maxRecDepth 100000 in
theorem solsticelaw12_wakes.calls (k : Nat)  (r : Bool) (w : World) (hG : GP w) (h : solsticelaw12_wakes.f k  = some r) :
  Calls Tryd.prog 12 #[] w fun e w' => e = .returned (.bool r) ∧ Below w.heap.size w w' := by
 have HG := Aside0.mk hG
 clear hG
 have HB := Aside0.mk (Below.refl w.heap.size w)
 have H : ((format_Name.f k (⟨#[67, 69, 37, 115, 84]⟩ : ByteArray) (⟨#[83]⟩ : ByteArray) 7200 3600).bind fun bt165 => ((format_Name.f k (⟨#[65, 47, 66]⟩ : ByteArray) (⟨#[]⟩ : ByteArray) 0 0).bind fun bt167 => ((format_Short.f k (-5400)).bind fun bt169 => ((format_Name.f k (⟨#[37, 115]⟩ : ByteArray) (⟨#[]⟩ : ByteArray) 0 0).bind fun bt171 => (if bt165.2 = 0 then (if bt165.1.toList = ([67, 69, 83, 84] : List UInt8) then (if bt167.2 = 0 then (if bt167.1.toList = ([65] : List UInt8) then (if bt169.2 = 0 then (if bt169.1.toList = ([45, 48, 49, 51, 48] : List UInt8) then (if bt171.2 = 16 then ((format_Right.f k (⟨#[43, 48, 51]⟩ : ByteArray)).bind fun t173 => (some t173)) else (some false)) else (some false)) else (some false)) else (some false)) else (some false)) else (some false)) else (some false)))))) = some r := h
 clear h
 replace H := Option.bind_eq_some_iff.mp H
 obtain ⟨⟨t165, t166⟩, A10, H⟩ := H
 replace H : ((format_Name.f k (⟨#[65, 47, 66]⟩ : ByteArray) (⟨#[]⟩ : ByteArray) 0 0).bind fun bt167 => ((format_Short.f k (-5400)).bind fun bt169 => ((format_Name.f k (⟨#[37, 115]⟩ : ByteArray) (⟨#[]⟩ : ByteArray) 0 0).bind fun bt171 => (if t166 = 0 then (if t165.toList = ([67, 69, 83, 84] : List UInt8) then (if bt167.2 = 0 then (if bt167.1.toList = ([65] : List UInt8) then (if bt169.2 = 0 then (if bt169.1.toList = ([45, 48, 49, 51, 48] : List UInt8) then (if bt171.2 = 16 then ((format_Right.f k (⟨#[43, 48, 51]⟩ : ByteArray)).bind fun t173 => (some t173)) else (some false)) else (some false)) else (some false)) else (some false)) else (some false)) else (some false)) else (some false))))) = some r := H
 have A1 := Aside0.mk A10
 clear A10
 replace H := Option.bind_eq_some_iff.mp H
 obtain ⟨⟨t167, t168⟩, A20, H⟩ := H
 replace H : ((format_Short.f k (-5400)).bind fun bt169 => ((format_Name.f k (⟨#[37, 115]⟩ : ByteArray) (⟨#[]⟩ : ByteArray) 0 0).bind fun bt171 => (if t166 = 0 then (if t165.toList = ([67, 69, 83, 84] : List UInt8) then (if t168 = 0 then (if t167.toList = ([65] : List UInt8) then (if bt169.2 = 0 then (if bt169.1.toList = ([45, 48, 49, 51, 48] : List UInt8) then (if bt171.2 = 16 then ((format_Right.f k (⟨#[43, 48, 51]⟩ : ByteArray)).bind fun t173 => (some t173)) else (some false)) else (some false)) else (some false)) else (some false)) else (some false)) else (some false)) else (some false)))) = some r := H
 have A2 := Aside0.mk A20
 clear A20
 replace H := Option.bind_eq_some_iff.mp H
 obtain ⟨⟨t169, t170⟩, A30, H⟩ := H
 replace H : ((format_Name.f k (⟨#[37, 115]⟩ : ByteArray) (⟨#[]⟩ : ByteArray) 0 0).bind fun bt171 => (if t166 = 0 then (if t165.toList = ([67, 69, 83, 84] : List UInt8) then (if t168 = 0 then (if t167.toList = ([65] : List UInt8) then (if t170 = 0 then (if t169.toList = ([45, 48, 49, 51, 48] : List UInt8) then (if bt171.2 = 16 then ((format_Right.f k (⟨#[43, 48, 51]⟩ : ByteArray)).bind fun t173 => (some t173)) else (some false)) else (some false)) else (some false)) else (some false)) else (some false)) else (some false)) else (some false))) = some r := H
 have A3 := Aside0.mk A30
 clear A30
 replace H := Option.bind_eq_some_iff.mp H
 obtain ⟨⟨t171, t172⟩, A40, H⟩ := H
 replace H : (if t166 = 0 then (if t165.toList = ([67, 69, 83, 84] : List UInt8) then (if t168 = 0 then (if t167.toList = ([65] : List UInt8) then (if t170 = 0 then (if t169.toList = ([45, 48, 49, 51, 48] : List UInt8) then (if t172 = 16 then ((format_Right.f k (⟨#[43, 48, 51]⟩ : ByteArray)).bind fun t173 => (some t173)) else (some false)) else (some false)) else (some false)) else (some false)) else (some false)) else (some false)) else (some false)) = some r := H
 have A4 := Aside0.mk A40
 clear A40
 by_cases c5 : t166 = 0
 ·rw [if_pos c5] at H
  have c5b0 : (t166 == 0) = true := beq_iff_eq.mpr c5
  have c5b1 : (t166 != 0) = false := bne_eq_false_iff_eq.mpr c5
  clear c5
  by_cases c6 : t165.toList = ([67, 69, 83, 84] : List UInt8)
  ·rw [if_pos c6] at H
   have c6b0 : (t165.toList == ([67, 69, 83, 84] : List UInt8)) = true := beq_iff_eq.mpr c6
   have c6b1 : (t165.toList != ([67, 69, 83, 84] : List UInt8)) = false := bne_eq_false_iff_eq.mpr c6
   clear c6
   by_cases c7 : t168 = 0
   ·rw [if_pos c7] at H
    have c7b0 : (t168 == 0) = true := beq_iff_eq.mpr c7
    have c7b1 : (t168 != 0) = false := bne_eq_false_iff_eq.mpr c7
    clear c7
    by_cases c8 : t167.toList = ([65] : List UInt8)
    ·rw [if_pos c8] at H
     have c8b0 : (t167.toList == ([65] : List UInt8)) = true := beq_iff_eq.mpr c8
     have c8b1 : (t167.toList != ([65] : List UInt8)) = false := bne_eq_false_iff_eq.mpr c8
     clear c8
     by_cases c9 : t170 = 0
     ·rw [if_pos c9] at H
      have c9b0 : (t170 == 0) = true := beq_iff_eq.mpr c9
      have c9b1 : (t170 != 0) = false := bne_eq_false_iff_eq.mpr c9
      clear c9
      by_cases c10 : t169.toList = ([45, 48, 49, 51, 48] : List UInt8)
      ·rw [if_pos c10] at H
       have c10b0 : (t169.toList == ([45, 48, 49, 51, 48] : List UInt8)) = true := beq_iff_eq.mpr c10
       have c10b1 : (t169.toList != ([45, 48, 49, 51, 48] : List UInt8)) = false := bne_eq_false_iff_eq.mpr c10
       clear c10
       by_cases c11 : t172 = 16
       ·rw [if_pos c11] at H
        have c11b0 : (t172 == 16) = true := beq_iff_eq.mpr c11
        have c11b1 : (t172 != 16) = false := bne_eq_false_iff_eq.mpr c11
        clear c11
        replace H := Option.bind_eq_some_iff.mp H
        obtain ⟨t173, A120, H⟩ := H
        replace H : (some t173) = some r := H
        have A12 := Aside0.mk A120
        clear A120
        obtain rfl := Option.some.inj H
        go_enter Tryd.func12, Tryd.ntmps12
        go_wp2_with (first | ((with_reducible refine gate_callee (f := 7) rfl ?_); refine goesL_ (some 10) rfl rfl Tryd.func7 (by kernel_rfl) rfl #[.string (⟨#[67, 69, 37, 115, 84]⟩ : ByteArray), .string (⟨#[83]⟩ : ByteArray), .int .i64 7200, .int .i64 3600] rfl (by (try simp only [List.map_toArray, List.map_cons, List.map_nil]); first | done | rfl | (simp only [List.length_drop, List.length_take]; rfl)) ?_; (with_reducible refine (format_Name.calls k (⟨#[67, 69, 37, 115, 84]⟩ : ByteArray) (⟨#[83]⟩ : ByteArray) 7200 3600 t165 t166 _ ?sideG A1.out).mono ?_); (case sideG => first | exact GP_below HG.out (by repeat (first | (with_reducible first | exact HB.out | apply below_alloc | apply pw_below_drewN | apply below_drew1) | exact HB.out)) | repeat (first | exact HG.out | refine GP_alloc ?_ _ | refine GP_drewN ?_ _ | refine GP_drew ?_)); rintro e w13 ⟨rfl, hb⟩; refine ⟨_, rfl, ?_⟩; have n0_ := Aside0.mk (below_step (by repeat (first | (with_reducible first | exact HB.out | apply below_alloc | apply pw_below_drewN | apply below_drew1) | exact HB.out)) hb); clear HB; have HB := n0_; clear n0_; (try clear hb); (try clear hb2); (try clear hk); (try clear hi)) | ((with_reducible refine gate_callee (f := 7) rfl ?_); refine goesL_ (some 14) rfl rfl Tryd.func7 (by kernel_rfl) rfl #[.string (⟨#[65, 47, 66]⟩ : ByteArray), .string (⟨#[]⟩ : ByteArray), .int .i64 0, .int .i64 0] rfl (by (try simp only [List.map_toArray, List.map_cons, List.map_nil]); first | done | rfl | (simp only [List.length_drop, List.length_take]; rfl)) ?_; (with_reducible refine (format_Name.calls k (⟨#[65, 47, 66]⟩ : ByteArray) (⟨#[]⟩ : ByteArray) 0 0 t167 t168 _ ?sideG A2.out).mono ?_); (case sideG => first | exact GP_below HG.out (by repeat (first | (with_reducible first | exact HB.out | apply below_alloc | apply pw_below_drewN | apply below_drew1) | exact HB.out)) | repeat (first | exact HG.out | refine GP_alloc ?_ _ | refine GP_drewN ?_ _ | refine GP_drew ?_)); rintro e w14 ⟨rfl, hb⟩; refine ⟨_, rfl, ?_⟩; have n0_ := Aside0.mk (below_step (by repeat (first | (with_reducible first | exact HB.out | apply below_alloc | apply pw_below_drewN | apply below_drew1) | exact HB.out)) hb); clear HB; have HB := n0_; clear n0_; (try clear hb); (try clear hb2); (try clear hk); (try clear hi)) | ((with_reducible refine gate_callee (f := 8) rfl ?_); refine goesL_ (some 18) rfl rfl Tryd.func8 (by kernel_rfl) rfl #[.int .i64 (-5400)] rfl (by (try simp only [List.map_toArray, List.map_cons, List.map_nil]); first | done | rfl | (simp only [List.length_drop, List.length_take]; rfl)) ?_; (with_reducible refine (format_Short.calls k (-5400) t169 t170 _ ?sideG A3.out).mono ?_); (case sideG => first | exact GP_below HG.out (by repeat (first | (with_reducible first | exact HB.out | apply below_alloc | apply pw_below_drewN | apply below_drew1) | exact HB.out)) | repeat (first | exact HG.out | refine GP_alloc ?_ _ | refine GP_drewN ?_ _ | refine GP_drew ?_)); rintro e w15 ⟨rfl, hb⟩; refine ⟨_, rfl, ?_⟩; have n0_ := Aside0.mk (below_step (by repeat (first | (with_reducible first | exact HB.out | apply below_alloc | apply pw_below_drewN | apply below_drew1) | exact HB.out)) hb); clear HB; have HB := n0_; clear n0_; (try clear hb); (try clear hb2); (try clear hk); (try clear hi)) | ((with_reducible refine gate_callee (f := 7) rfl ?_); refine goesL_ (some 22) rfl rfl Tryd.func7 (by kernel_rfl) rfl #[.string (⟨#[37, 115]⟩ : ByteArray), .string (⟨#[]⟩ : ByteArray), .int .i64 0, .int .i64 0] rfl (by (try simp only [List.map_toArray, List.map_cons, List.map_nil]); first | done | rfl | (simp only [List.length_drop, List.length_take]; rfl)) ?_; (with_reducible refine (format_Name.calls k (⟨#[37, 115]⟩ : ByteArray) (⟨#[]⟩ : ByteArray) 0 0 t171 t172 _ ?sideG A4.out).mono ?_); (case sideG => first | exact GP_below HG.out (by repeat (first | (with_reducible first | exact HB.out | apply below_alloc | apply pw_below_drewN | apply below_drew1) | exact HB.out)) | repeat (first | exact HG.out | refine GP_alloc ?_ _ | refine GP_drewN ?_ _ | refine GP_drew ?_)); rintro e w16 ⟨rfl, hb⟩; refine ⟨_, rfl, ?_⟩; have n0_ := Aside0.mk (below_step (by repeat (first | (with_reducible first | exact HB.out | apply below_alloc | apply pw_below_drewN | apply below_drew1) | exact HB.out)) hb); clear HB; have HB := n0_; clear n0_; (try clear hb); (try clear hb2); (try clear hk); (try clear hi)) | (go_at_call 10; (with_reducible refine (format_Right.calls k (⟨#[43, 48, 51]⟩ : ByteArray) t173 _ A12.out).mono ?_); rintro e w' ⟨rfl, ⟨nd, rfl⟩⟩))
        go_ret
        exact ⟨by first | rfl | (simp [errW_none, errW_some] <;> rfl) | (simp [*, errW_none, errW_some] <;> rfl), by repeat (first | (with_reducible first | exact HB.out | apply below_alloc | apply pw_below_drewN | apply below_drew1) | exact HB.out)⟩
       ·rw [if_neg c11] at H
        have c11b0 : (t172 == 16) = false := beq_eq_false_iff_ne.mpr c11
        have c11b1 : (t172 != 16) = true := bne_iff_ne.mpr c11
        obtain rfl := Option.some.inj H
        go_enter Tryd.func12, Tryd.ntmps12
        go_wp2_with (first | ((with_reducible refine gate_callee (f := 7) rfl ?_); refine goesL_ (some 10) rfl rfl Tryd.func7 (by kernel_rfl) rfl #[.string (⟨#[67, 69, 37, 115, 84]⟩ : ByteArray), .string (⟨#[83]⟩ : ByteArray), .int .i64 7200, .int .i64 3600] rfl (by (try simp only [List.map_toArray, List.map_cons, List.map_nil]); first | done | rfl | (simp only [List.length_drop, List.length_take]; rfl)) ?_; (with_reducible refine (format_Name.calls k (⟨#[67, 69, 37, 115, 84]⟩ : ByteArray) (⟨#[83]⟩ : ByteArray) 7200 3600 t165 t166 _ ?sideG A1.out).mono ?_); (case sideG => first | exact GP_below HG.out (by repeat (first | (with_reducible first | exact HB.out | apply below_alloc | apply pw_below_drewN | apply below_drew1) | exact HB.out)) | repeat (first | exact HG.out | refine GP_alloc ?_ _ | refine GP_drewN ?_ _ | refine GP_drew ?_)); rintro e w17 ⟨rfl, hb⟩; refine ⟨_, rfl, ?_⟩; have n0_ := Aside0.mk (below_step (by repeat (first | (with_reducible first | exact HB.out | apply below_alloc | apply pw_below_drewN | apply below_drew1) | exact HB.out)) hb); clear HB; have HB := n0_; clear n0_; (try clear hb); (try clear hb2); (try clear hk); (try clear hi)) | ((with_reducible refine gate_callee (f := 7) rfl ?_); refine goesL_ (some 14) rfl rfl Tryd.func7 (by kernel_rfl) rfl #[.string (⟨#[65, 47, 66]⟩ : ByteArray), .string (⟨#[]⟩ : ByteArray), .int .i64 0, .int .i64 0] rfl (by (try simp only [List.map_toArray, List.map_cons, List.map_nil]); first | done | rfl | (simp only [List.length_drop, List.length_take]; rfl)) ?_; (with_reducible refine (format_Name.calls k (⟨#[65, 47, 66]⟩ : ByteArray) (⟨#[]⟩ : ByteArray) 0 0 t167 t168 _ ?sideG A2.out).mono ?_); (case sideG => first | exact GP_below HG.out (by repeat (first | (with_reducible first | exact HB.out | apply below_alloc | apply pw_below_drewN | apply below_drew1) | exact HB.out)) | repeat (first | exact HG.out | refine GP_alloc ?_ _ | refine GP_drewN ?_ _ | refine GP_drew ?_)); rintro e w18 ⟨rfl, hb⟩; refine ⟨_, rfl, ?_⟩; have n0_ := Aside0.mk (below_step (by repeat (first | (with_reducible first | exact HB.out | apply below_alloc | apply pw_below_drewN | apply below_drew1) | exact HB.out)) hb); clear HB; have HB := n0_; clear n0_; (try clear hb); (try clear hb2); (try clear hk); (try clear hi)) | ((with_reducible refine gate_callee (f := 8) rfl ?_); refine goesL_ (some 18) rfl rfl Tryd.func8 (by kernel_rfl) rfl #[.int .i64 (-5400)] rfl (by (try simp only [List.map_toArray, List.map_cons, List.map_nil]); first | done | rfl | (simp only [List.length_drop, List.length_take]; rfl)) ?_; (with_reducible refine (format_Short.calls k (-5400) t169 t170 _ ?sideG A3.out).mono ?_); (case sideG => first | exact GP_below HG.out (by repeat (first | (with_reducible first | exact HB.out | apply below_alloc | apply pw_below_drewN | apply below_drew1) | exact HB.out)) | repeat (first | exact HG.out | refine GP_alloc ?_ _ | refine GP_drewN ?_ _ | refine GP_drew ?_)); rintro e w19 ⟨rfl, hb⟩; refine ⟨_, rfl, ?_⟩; have n0_ := Aside0.mk (below_step (by repeat (first | (with_reducible first | exact HB.out | apply below_alloc | apply pw_below_drewN | apply below_drew1) | exact HB.out)) hb); clear HB; have HB := n0_; clear n0_; (try clear hb); (try clear hb2); (try clear hk); (try clear hi)) | ((with_reducible refine gate_callee (f := 7) rfl ?_); refine goesL_ (some 22) rfl rfl Tryd.func7 (by kernel_rfl) rfl #[.string (⟨#[37, 115]⟩ : ByteArray), .string (⟨#[]⟩ : ByteArray), .int .i64 0, .int .i64 0] rfl (by (try simp only [List.map_toArray, List.map_cons, List.map_nil]); first | done | rfl | (simp only [List.length_drop, List.length_take]; rfl)) ?_; (with_reducible refine (format_Name.calls k (⟨#[37, 115]⟩ : ByteArray) (⟨#[]⟩ : ByteArray) 0 0 t171 t172 _ ?sideG A4.out).mono ?_); (case sideG => first | exact GP_below HG.out (by repeat (first | (with_reducible first | exact HB.out | apply below_alloc | apply pw_below_drewN | apply below_drew1) | exact HB.out)) | repeat (first | exact HG.out | refine GP_alloc ?_ _ | refine GP_drewN ?_ _ | refine GP_drew ?_)); rintro e w20 ⟨rfl, hb⟩; refine ⟨_, rfl, ?_⟩; have n0_ := Aside0.mk (below_step (by repeat (first | (with_reducible first | exact HB.out | apply below_alloc | apply pw_below_drewN | apply below_drew1) | exact HB.out)) hb); clear HB; have HB := n0_; clear n0_; (try clear hb); (try clear hb2); (try clear hk); (try clear hi)))
        go_ret
        exact ⟨by first | rfl | (simp [errW_none, errW_some] <;> rfl) | (simp [*, errW_none, errW_some] <;> rfl), by repeat (first | (with_reducible first | exact HB.out | apply below_alloc | apply pw_below_drewN | apply below_drew1) | exact HB.out)⟩
      ·rw [if_neg c10] at H
       have c10b0 : (t169.toList == ([45, 48, 49, 51, 48] : List UInt8)) = false := beq_eq_false_iff_ne.mpr c10
       have c10b1 : (t169.toList != ([45, 48, 49, 51, 48] : List UInt8)) = true := bne_iff_ne.mpr c10
       obtain rfl := Option.some.inj H
       go_enter Tryd.func12, Tryd.ntmps12
       go_wp2_with (first | ((with_reducible refine gate_callee (f := 7) rfl ?_); refine goesL_ (some 10) rfl rfl Tryd.func7 (by kernel_rfl) rfl #[.string (⟨#[67, 69, 37, 115, 84]⟩ : ByteArray), .string (⟨#[83]⟩ : ByteArray), .int .i64 7200, .int .i64 3600] rfl (by (try simp only [List.map_toArray, List.map_cons, List.map_nil]); first | done | rfl | (simp only [List.length_drop, List.length_take]; rfl)) ?_; (with_reducible refine (format_Name.calls k (⟨#[67, 69, 37, 115, 84]⟩ : ByteArray) (⟨#[83]⟩ : ByteArray) 7200 3600 t165 t166 _ ?sideG A1.out).mono ?_); (case sideG => first | exact GP_below HG.out (by repeat (first | (with_reducible first | exact HB.out | apply below_alloc | apply pw_below_drewN | apply below_drew1) | exact HB.out)) | repeat (first | exact HG.out | refine GP_alloc ?_ _ | refine GP_drewN ?_ _ | refine GP_drew ?_)); rintro e w21 ⟨rfl, hb⟩; refine ⟨_, rfl, ?_⟩; have n0_ := Aside0.mk (below_step (by repeat (first | (with_reducible first | exact HB.out | apply below_alloc | apply pw_below_drewN | apply below_drew1) | exact HB.out)) hb); clear HB; have HB := n0_; clear n0_; (try clear hb); (try clear hb2); (try clear hk); (try clear hi)) | ((with_reducible refine gate_callee (f := 7) rfl ?_); refine goesL_ (some 14) rfl rfl Tryd.func7 (by kernel_rfl) rfl #[.string (⟨#[65, 47, 66]⟩ : ByteArray), .string (⟨#[]⟩ : ByteArray), .int .i64 0, .int .i64 0] rfl (by (try simp only [List.map_toArray, List.map_cons, List.map_nil]); first | done | rfl | (simp only [List.length_drop, List.length_take]; rfl)) ?_; (with_reducible refine (format_Name.calls k (⟨#[65, 47, 66]⟩ : ByteArray) (⟨#[]⟩ : ByteArray) 0 0 t167 t168 _ ?sideG A2.out).mono ?_); (case sideG => first | exact GP_below HG.out (by repeat (first | (with_reducible first | exact HB.out | apply below_alloc | apply pw_below_drewN | apply below_drew1) | exact HB.out)) | repeat (first | exact HG.out | refine GP_alloc ?_ _ | refine GP_drewN ?_ _ | refine GP_drew ?_)); rintro e w22 ⟨rfl, hb⟩; refine ⟨_, rfl, ?_⟩; have n0_ := Aside0.mk (below_step (by repeat (first | (with_reducible first | exact HB.out | apply below_alloc | apply pw_below_drewN | apply below_drew1) | exact HB.out)) hb); clear HB; have HB := n0_; clear n0_; (try clear hb); (try clear hb2); (try clear hk); (try clear hi)) | ((with_reducible refine gate_callee (f := 8) rfl ?_); refine goesL_ (some 18) rfl rfl Tryd.func8 (by kernel_rfl) rfl #[.int .i64 (-5400)] rfl (by (try simp only [List.map_toArray, List.map_cons, List.map_nil]); first | done | rfl | (simp only [List.length_drop, List.length_take]; rfl)) ?_; (with_reducible refine (format_Short.calls k (-5400) t169 t170 _ ?sideG A3.out).mono ?_); (case sideG => first | exact GP_below HG.out (by repeat (first | (with_reducible first | exact HB.out | apply below_alloc | apply pw_below_drewN | apply below_drew1) | exact HB.out)) | repeat (first | exact HG.out | refine GP_alloc ?_ _ | refine GP_drewN ?_ _ | refine GP_drew ?_)); rintro e w23 ⟨rfl, hb⟩; refine ⟨_, rfl, ?_⟩; have n0_ := Aside0.mk (below_step (by repeat (first | (with_reducible first | exact HB.out | apply below_alloc | apply pw_below_drewN | apply below_drew1) | exact HB.out)) hb); clear HB; have HB := n0_; clear n0_; (try clear hb); (try clear hb2); (try clear hk); (try clear hi)) | ((with_reducible refine gate_callee (f := 7) rfl ?_); refine goesL_ (some 22) rfl rfl Tryd.func7 (by kernel_rfl) rfl #[.string (⟨#[37, 115]⟩ : ByteArray), .string (⟨#[]⟩ : ByteArray), .int .i64 0, .int .i64 0] rfl (by (try simp only [List.map_toArray, List.map_cons, List.map_nil]); first | done | rfl | (simp only [List.length_drop, List.length_take]; rfl)) ?_; (with_reducible refine (format_Name.calls k (⟨#[37, 115]⟩ : ByteArray) (⟨#[]⟩ : ByteArray) 0 0 t171 t172 _ ?sideG A4.out).mono ?_); (case sideG => first | exact GP_below HG.out (by repeat (first | (with_reducible first | exact HB.out | apply below_alloc | apply pw_below_drewN | apply below_drew1) | exact HB.out)) | repeat (first | exact HG.out | refine GP_alloc ?_ _ | refine GP_drewN ?_ _ | refine GP_drew ?_)); rintro e w24 ⟨rfl, hb⟩; refine ⟨_, rfl, ?_⟩; have n0_ := Aside0.mk (below_step (by repeat (first | (with_reducible first | exact HB.out | apply below_alloc | apply pw_below_drewN | apply below_drew1) | exact HB.out)) hb); clear HB; have HB := n0_; clear n0_; (try clear hb); (try clear hb2); (try clear hk); (try clear hi)))
       go_ret
       exact ⟨by first | rfl | (simp [errW_none, errW_some] <;> rfl) | (simp [*, errW_none, errW_some] <;> rfl), by repeat (first | (with_reducible first | exact HB.out | apply below_alloc | apply pw_below_drewN | apply below_drew1) | exact HB.out)⟩
     ·rw [if_neg c9] at H
      have c9b0 : (t170 == 0) = false := beq_eq_false_iff_ne.mpr c9
      have c9b1 : (t170 != 0) = true := bne_iff_ne.mpr c9
      obtain rfl := Option.some.inj H
      go_enter Tryd.func12, Tryd.ntmps12
      go_wp2_with (first | ((with_reducible refine gate_callee (f := 7) rfl ?_); refine goesL_ (some 10) rfl rfl Tryd.func7 (by kernel_rfl) rfl #[.string (⟨#[67, 69, 37, 115, 84]⟩ : ByteArray), .string (⟨#[83]⟩ : ByteArray), .int .i64 7200, .int .i64 3600] rfl (by (try simp only [List.map_toArray, List.map_cons, List.map_nil]); first | done | rfl | (simp only [List.length_drop, List.length_take]; rfl)) ?_; (with_reducible refine (format_Name.calls k (⟨#[67, 69, 37, 115, 84]⟩ : ByteArray) (⟨#[83]⟩ : ByteArray) 7200 3600 t165 t166 _ ?sideG A1.out).mono ?_); (case sideG => first | exact GP_below HG.out (by repeat (first | (with_reducible first | exact HB.out | apply below_alloc | apply pw_below_drewN | apply below_drew1) | exact HB.out)) | repeat (first | exact HG.out | refine GP_alloc ?_ _ | refine GP_drewN ?_ _ | refine GP_drew ?_)); rintro e w25 ⟨rfl, hb⟩; refine ⟨_, rfl, ?_⟩; have n0_ := Aside0.mk (below_step (by repeat (first | (with_reducible first | exact HB.out | apply below_alloc | apply pw_below_drewN | apply below_drew1) | exact HB.out)) hb); clear HB; have HB := n0_; clear n0_; (try clear hb); (try clear hb2); (try clear hk); (try clear hi)) | ((with_reducible refine gate_callee (f := 7) rfl ?_); refine goesL_ (some 14) rfl rfl Tryd.func7 (by kernel_rfl) rfl #[.string (⟨#[65, 47, 66]⟩ : ByteArray), .string (⟨#[]⟩ : ByteArray), .int .i64 0, .int .i64 0] rfl (by (try simp only [List.map_toArray, List.map_cons, List.map_nil]); first | done | rfl | (simp only [List.length_drop, List.length_take]; rfl)) ?_; (with_reducible refine (format_Name.calls k (⟨#[65, 47, 66]⟩ : ByteArray) (⟨#[]⟩ : ByteArray) 0 0 t167 t168 _ ?sideG A2.out).mono ?_); (case sideG => first | exact GP_below HG.out (by repeat (first | (with_reducible first | exact HB.out | apply below_alloc | apply pw_below_drewN | apply below_drew1) | exact HB.out)) | repeat (first | exact HG.out | refine GP_alloc ?_ _ | refine GP_drewN ?_ _ | refine GP_drew ?_)); rintro e w26 ⟨rfl, hb⟩; refine ⟨_, rfl, ?_⟩; have n0_ := Aside0.mk (below_step (by repeat (first | (with_reducible first | exact HB.out | apply below_alloc | apply pw_below_drewN | apply below_drew1) | exact HB.out)) hb); clear HB; have HB := n0_; clear n0_; (try clear hb); (try clear hb2); (try clear hk); (try clear hi)) | ((with_reducible refine gate_callee (f := 8) rfl ?_); refine goesL_ (some 18) rfl rfl Tryd.func8 (by kernel_rfl) rfl #[.int .i64 (-5400)] rfl (by (try simp only [List.map_toArray, List.map_cons, List.map_nil]); first | done | rfl | (simp only [List.length_drop, List.length_take]; rfl)) ?_; (with_reducible refine (format_Short.calls k (-5400) t169 t170 _ ?sideG A3.out).mono ?_); (case sideG => first | exact GP_below HG.out (by repeat (first | (with_reducible first | exact HB.out | apply below_alloc | apply pw_below_drewN | apply below_drew1) | exact HB.out)) | repeat (first | exact HG.out | refine GP_alloc ?_ _ | refine GP_drewN ?_ _ | refine GP_drew ?_)); rintro e w27 ⟨rfl, hb⟩; refine ⟨_, rfl, ?_⟩; have n0_ := Aside0.mk (below_step (by repeat (first | (with_reducible first | exact HB.out | apply below_alloc | apply pw_below_drewN | apply below_drew1) | exact HB.out)) hb); clear HB; have HB := n0_; clear n0_; (try clear hb); (try clear hb2); (try clear hk); (try clear hi)) | ((with_reducible refine gate_callee (f := 7) rfl ?_); refine goesL_ (some 22) rfl rfl Tryd.func7 (by kernel_rfl) rfl #[.string (⟨#[37, 115]⟩ : ByteArray), .string (⟨#[]⟩ : ByteArray), .int .i64 0, .int .i64 0] rfl (by (try simp only [List.map_toArray, List.map_cons, List.map_nil]); first | done | rfl | (simp only [List.length_drop, List.length_take]; rfl)) ?_; (with_reducible refine (format_Name.calls k (⟨#[37, 115]⟩ : ByteArray) (⟨#[]⟩ : ByteArray) 0 0 t171 t172 _ ?sideG A4.out).mono ?_); (case sideG => first | exact GP_below HG.out (by repeat (first | (with_reducible first | exact HB.out | apply below_alloc | apply pw_below_drewN | apply below_drew1) | exact HB.out)) | repeat (first | exact HG.out | refine GP_alloc ?_ _ | refine GP_drewN ?_ _ | refine GP_drew ?_)); rintro e w28 ⟨rfl, hb⟩; refine ⟨_, rfl, ?_⟩; have n0_ := Aside0.mk (below_step (by repeat (first | (with_reducible first | exact HB.out | apply below_alloc | apply pw_below_drewN | apply below_drew1) | exact HB.out)) hb); clear HB; have HB := n0_; clear n0_; (try clear hb); (try clear hb2); (try clear hk); (try clear hi)))
      go_ret
      exact ⟨by first | rfl | (simp [errW_none, errW_some] <;> rfl) | (simp [*, errW_none, errW_some] <;> rfl), by repeat (first | (with_reducible first | exact HB.out | apply below_alloc | apply pw_below_drewN | apply below_drew1) | exact HB.out)⟩
    ·rw [if_neg c8] at H
     have c8b0 : (t167.toList == ([65] : List UInt8)) = false := beq_eq_false_iff_ne.mpr c8
     have c8b1 : (t167.toList != ([65] : List UInt8)) = true := bne_iff_ne.mpr c8
     obtain rfl := Option.some.inj H
     go_enter Tryd.func12, Tryd.ntmps12
     go_wp2_with (first | ((with_reducible refine gate_callee (f := 7) rfl ?_); refine goesL_ (some 10) rfl rfl Tryd.func7 (by kernel_rfl) rfl #[.string (⟨#[67, 69, 37, 115, 84]⟩ : ByteArray), .string (⟨#[83]⟩ : ByteArray), .int .i64 7200, .int .i64 3600] rfl (by (try simp only [List.map_toArray, List.map_cons, List.map_nil]); first | done | rfl | (simp only [List.length_drop, List.length_take]; rfl)) ?_; (with_reducible refine (format_Name.calls k (⟨#[67, 69, 37, 115, 84]⟩ : ByteArray) (⟨#[83]⟩ : ByteArray) 7200 3600 t165 t166 _ ?sideG A1.out).mono ?_); (case sideG => first | exact GP_below HG.out (by repeat (first | (with_reducible first | exact HB.out | apply below_alloc | apply pw_below_drewN | apply below_drew1) | exact HB.out)) | repeat (first | exact HG.out | refine GP_alloc ?_ _ | refine GP_drewN ?_ _ | refine GP_drew ?_)); rintro e w29 ⟨rfl, hb⟩; refine ⟨_, rfl, ?_⟩; have n0_ := Aside0.mk (below_step (by repeat (first | (with_reducible first | exact HB.out | apply below_alloc | apply pw_below_drewN | apply below_drew1) | exact HB.out)) hb); clear HB; have HB := n0_; clear n0_; (try clear hb); (try clear hb2); (try clear hk); (try clear hi)) | ((with_reducible refine gate_callee (f := 7) rfl ?_); refine goesL_ (some 14) rfl rfl Tryd.func7 (by kernel_rfl) rfl #[.string (⟨#[65, 47, 66]⟩ : ByteArray), .string (⟨#[]⟩ : ByteArray), .int .i64 0, .int .i64 0] rfl (by (try simp only [List.map_toArray, List.map_cons, List.map_nil]); first | done | rfl | (simp only [List.length_drop, List.length_take]; rfl)) ?_; (with_reducible refine (format_Name.calls k (⟨#[65, 47, 66]⟩ : ByteArray) (⟨#[]⟩ : ByteArray) 0 0 t167 t168 _ ?sideG A2.out).mono ?_); (case sideG => first | exact GP_below HG.out (by repeat (first | (with_reducible first | exact HB.out | apply below_alloc | apply pw_below_drewN | apply below_drew1) | exact HB.out)) | repeat (first | exact HG.out | refine GP_alloc ?_ _ | refine GP_drewN ?_ _ | refine GP_drew ?_)); rintro e w30 ⟨rfl, hb⟩; refine ⟨_, rfl, ?_⟩; have n0_ := Aside0.mk (below_step (by repeat (first | (with_reducible first | exact HB.out | apply below_alloc | apply pw_below_drewN | apply below_drew1) | exact HB.out)) hb); clear HB; have HB := n0_; clear n0_; (try clear hb); (try clear hb2); (try clear hk); (try clear hi)) | ((with_reducible refine gate_callee (f := 8) rfl ?_); refine goesL_ (some 18) rfl rfl Tryd.func8 (by kernel_rfl) rfl #[.int .i64 (-5400)] rfl (by (try simp only [List.map_toArray, List.map_cons, List.map_nil]); first | done | rfl | (simp only [List.length_drop, List.length_take]; rfl)) ?_; (with_reducible refine (format_Short.calls k (-5400) t169 t170 _ ?sideG A3.out).mono ?_); (case sideG => first | exact GP_below HG.out (by repeat (first | (with_reducible first | exact HB.out | apply below_alloc | apply pw_below_drewN | apply below_drew1) | exact HB.out)) | repeat (first | exact HG.out | refine GP_alloc ?_ _ | refine GP_drewN ?_ _ | refine GP_drew ?_)); rintro e w31 ⟨rfl, hb⟩; refine ⟨_, rfl, ?_⟩; have n0_ := Aside0.mk (below_step (by repeat (first | (with_reducible first | exact HB.out | apply below_alloc | apply pw_below_drewN | apply below_drew1) | exact HB.out)) hb); clear HB; have HB := n0_; clear n0_; (try clear hb); (try clear hb2); (try clear hk); (try clear hi)) | ((with_reducible refine gate_callee (f := 7) rfl ?_); refine goesL_ (some 22) rfl rfl Tryd.func7 (by kernel_rfl) rfl #[.string (⟨#[37, 115]⟩ : ByteArray), .string (⟨#[]⟩ : ByteArray), .int .i64 0, .int .i64 0] rfl (by (try simp only [List.map_toArray, List.map_cons, List.map_nil]); first | done | rfl | (simp only [List.length_drop, List.length_take]; rfl)) ?_; (with_reducible refine (format_Name.calls k (⟨#[37, 115]⟩ : ByteArray) (⟨#[]⟩ : ByteArray) 0 0 t171 t172 _ ?sideG A4.out).mono ?_); (case sideG => first | exact GP_below HG.out (by repeat (first | (with_reducible first | exact HB.out | apply below_alloc | apply pw_below_drewN | apply below_drew1) | exact HB.out)) | repeat (first | exact HG.out | refine GP_alloc ?_ _ | refine GP_drewN ?_ _ | refine GP_drew ?_)); rintro e w32 ⟨rfl, hb⟩; refine ⟨_, rfl, ?_⟩; have n0_ := Aside0.mk (below_step (by repeat (first | (with_reducible first | exact HB.out | apply below_alloc | apply pw_below_drewN | apply below_drew1) | exact HB.out)) hb); clear HB; have HB := n0_; clear n0_; (try clear hb); (try clear hb2); (try clear hk); (try clear hi)))
     go_ret
     exact ⟨by first | rfl | (simp [errW_none, errW_some] <;> rfl) | (simp [*, errW_none, errW_some] <;> rfl), by repeat (first | (with_reducible first | exact HB.out | apply below_alloc | apply pw_below_drewN | apply below_drew1) | exact HB.out)⟩
   ·rw [if_neg c7] at H
    have c7b0 : (t168 == 0) = false := beq_eq_false_iff_ne.mpr c7
    have c7b1 : (t168 != 0) = true := bne_iff_ne.mpr c7
    obtain rfl := Option.some.inj H
    go_enter Tryd.func12, Tryd.ntmps12
    go_wp2_with (first | ((with_reducible refine gate_callee (f := 7) rfl ?_); refine goesL_ (some 10) rfl rfl Tryd.func7 (by kernel_rfl) rfl #[.string (⟨#[67, 69, 37, 115, 84]⟩ : ByteArray), .string (⟨#[83]⟩ : ByteArray), .int .i64 7200, .int .i64 3600] rfl (by (try simp only [List.map_toArray, List.map_cons, List.map_nil]); first | done | rfl | (simp only [List.length_drop, List.length_take]; rfl)) ?_; (with_reducible refine (format_Name.calls k (⟨#[67, 69, 37, 115, 84]⟩ : ByteArray) (⟨#[83]⟩ : ByteArray) 7200 3600 t165 t166 _ ?sideG A1.out).mono ?_); (case sideG => first | exact GP_below HG.out (by repeat (first | (with_reducible first | exact HB.out | apply below_alloc | apply pw_below_drewN | apply below_drew1) | exact HB.out)) | repeat (first | exact HG.out | refine GP_alloc ?_ _ | refine GP_drewN ?_ _ | refine GP_drew ?_)); rintro e w33 ⟨rfl, hb⟩; refine ⟨_, rfl, ?_⟩; have n0_ := Aside0.mk (below_step (by repeat (first | (with_reducible first | exact HB.out | apply below_alloc | apply pw_below_drewN | apply below_drew1) | exact HB.out)) hb); clear HB; have HB := n0_; clear n0_; (try clear hb); (try clear hb2); (try clear hk); (try clear hi)) | ((with_reducible refine gate_callee (f := 7) rfl ?_); refine goesL_ (some 14) rfl rfl Tryd.func7 (by kernel_rfl) rfl #[.string (⟨#[65, 47, 66]⟩ : ByteArray), .string (⟨#[]⟩ : ByteArray), .int .i64 0, .int .i64 0] rfl (by (try simp only [List.map_toArray, List.map_cons, List.map_nil]); first | done | rfl | (simp only [List.length_drop, List.length_take]; rfl)) ?_; (with_reducible refine (format_Name.calls k (⟨#[65, 47, 66]⟩ : ByteArray) (⟨#[]⟩ : ByteArray) 0 0 t167 t168 _ ?sideG A2.out).mono ?_); (case sideG => first | exact GP_below HG.out (by repeat (first | (with_reducible first | exact HB.out | apply below_alloc | apply pw_below_drewN | apply below_drew1) | exact HB.out)) | repeat (first | exact HG.out | refine GP_alloc ?_ _ | refine GP_drewN ?_ _ | refine GP_drew ?_)); rintro e w34 ⟨rfl, hb⟩; refine ⟨_, rfl, ?_⟩; have n0_ := Aside0.mk (below_step (by repeat (first | (with_reducible first | exact HB.out | apply below_alloc | apply pw_below_drewN | apply below_drew1) | exact HB.out)) hb); clear HB; have HB := n0_; clear n0_; (try clear hb); (try clear hb2); (try clear hk); (try clear hi)) | ((with_reducible refine gate_callee (f := 8) rfl ?_); refine goesL_ (some 18) rfl rfl Tryd.func8 (by kernel_rfl) rfl #[.int .i64 (-5400)] rfl (by (try simp only [List.map_toArray, List.map_cons, List.map_nil]); first | done | rfl | (simp only [List.length_drop, List.length_take]; rfl)) ?_; (with_reducible refine (format_Short.calls k (-5400) t169 t170 _ ?sideG A3.out).mono ?_); (case sideG => first | exact GP_below HG.out (by repeat (first | (with_reducible first | exact HB.out | apply below_alloc | apply pw_below_drewN | apply below_drew1) | exact HB.out)) | repeat (first | exact HG.out | refine GP_alloc ?_ _ | refine GP_drewN ?_ _ | refine GP_drew ?_)); rintro e w35 ⟨rfl, hb⟩; refine ⟨_, rfl, ?_⟩; have n0_ := Aside0.mk (below_step (by repeat (first | (with_reducible first | exact HB.out | apply below_alloc | apply pw_below_drewN | apply below_drew1) | exact HB.out)) hb); clear HB; have HB := n0_; clear n0_; (try clear hb); (try clear hb2); (try clear hk); (try clear hi)) | ((with_reducible refine gate_callee (f := 7) rfl ?_); refine goesL_ (some 22) rfl rfl Tryd.func7 (by kernel_rfl) rfl #[.string (⟨#[37, 115]⟩ : ByteArray), .string (⟨#[]⟩ : ByteArray), .int .i64 0, .int .i64 0] rfl (by (try simp only [List.map_toArray, List.map_cons, List.map_nil]); first | done | rfl | (simp only [List.length_drop, List.length_take]; rfl)) ?_; (with_reducible refine (format_Name.calls k (⟨#[37, 115]⟩ : ByteArray) (⟨#[]⟩ : ByteArray) 0 0 t171 t172 _ ?sideG A4.out).mono ?_); (case sideG => first | exact GP_below HG.out (by repeat (first | (with_reducible first | exact HB.out | apply below_alloc | apply pw_below_drewN | apply below_drew1) | exact HB.out)) | repeat (first | exact HG.out | refine GP_alloc ?_ _ | refine GP_drewN ?_ _ | refine GP_drew ?_)); rintro e w36 ⟨rfl, hb⟩; refine ⟨_, rfl, ?_⟩; have n0_ := Aside0.mk (below_step (by repeat (first | (with_reducible first | exact HB.out | apply below_alloc | apply pw_below_drewN | apply below_drew1) | exact HB.out)) hb); clear HB; have HB := n0_; clear n0_; (try clear hb); (try clear hb2); (try clear hk); (try clear hi)))
    go_ret
    exact ⟨by first | rfl | (simp [errW_none, errW_some] <;> rfl) | (simp [*, errW_none, errW_some] <;> rfl), by repeat (first | (with_reducible first | exact HB.out | apply below_alloc | apply pw_below_drewN | apply below_drew1) | exact HB.out)⟩
  ·rw [if_neg c6] at H
   have c6b0 : (t165.toList == ([67, 69, 83, 84] : List UInt8)) = false := beq_eq_false_iff_ne.mpr c6
   have c6b1 : (t165.toList != ([67, 69, 83, 84] : List UInt8)) = true := bne_iff_ne.mpr c6
   obtain rfl := Option.some.inj H
   go_enter Tryd.func12, Tryd.ntmps12
   go_wp2_with (first | ((with_reducible refine gate_callee (f := 7) rfl ?_); refine goesL_ (some 10) rfl rfl Tryd.func7 (by kernel_rfl) rfl #[.string (⟨#[67, 69, 37, 115, 84]⟩ : ByteArray), .string (⟨#[83]⟩ : ByteArray), .int .i64 7200, .int .i64 3600] rfl (by (try simp only [List.map_toArray, List.map_cons, List.map_nil]); first | done | rfl | (simp only [List.length_drop, List.length_take]; rfl)) ?_; (with_reducible refine (format_Name.calls k (⟨#[67, 69, 37, 115, 84]⟩ : ByteArray) (⟨#[83]⟩ : ByteArray) 7200 3600 t165 t166 _ ?sideG A1.out).mono ?_); (case sideG => first | exact GP_below HG.out (by repeat (first | (with_reducible first | exact HB.out | apply below_alloc | apply pw_below_drewN | apply below_drew1) | exact HB.out)) | repeat (first | exact HG.out | refine GP_alloc ?_ _ | refine GP_drewN ?_ _ | refine GP_drew ?_)); rintro e w37 ⟨rfl, hb⟩; refine ⟨_, rfl, ?_⟩; have n0_ := Aside0.mk (below_step (by repeat (first | (with_reducible first | exact HB.out | apply below_alloc | apply pw_below_drewN | apply below_drew1) | exact HB.out)) hb); clear HB; have HB := n0_; clear n0_; (try clear hb); (try clear hb2); (try clear hk); (try clear hi)) | ((with_reducible refine gate_callee (f := 7) rfl ?_); refine goesL_ (some 14) rfl rfl Tryd.func7 (by kernel_rfl) rfl #[.string (⟨#[65, 47, 66]⟩ : ByteArray), .string (⟨#[]⟩ : ByteArray), .int .i64 0, .int .i64 0] rfl (by (try simp only [List.map_toArray, List.map_cons, List.map_nil]); first | done | rfl | (simp only [List.length_drop, List.length_take]; rfl)) ?_; (with_reducible refine (format_Name.calls k (⟨#[65, 47, 66]⟩ : ByteArray) (⟨#[]⟩ : ByteArray) 0 0 t167 t168 _ ?sideG A2.out).mono ?_); (case sideG => first | exact GP_below HG.out (by repeat (first | (with_reducible first | exact HB.out | apply below_alloc | apply pw_below_drewN | apply below_drew1) | exact HB.out)) | repeat (first | exact HG.out | refine GP_alloc ?_ _ | refine GP_drewN ?_ _ | refine GP_drew ?_)); rintro e w38 ⟨rfl, hb⟩; refine ⟨_, rfl, ?_⟩; have n0_ := Aside0.mk (below_step (by repeat (first | (with_reducible first | exact HB.out | apply below_alloc | apply pw_below_drewN | apply below_drew1) | exact HB.out)) hb); clear HB; have HB := n0_; clear n0_; (try clear hb); (try clear hb2); (try clear hk); (try clear hi)) | ((with_reducible refine gate_callee (f := 8) rfl ?_); refine goesL_ (some 18) rfl rfl Tryd.func8 (by kernel_rfl) rfl #[.int .i64 (-5400)] rfl (by (try simp only [List.map_toArray, List.map_cons, List.map_nil]); first | done | rfl | (simp only [List.length_drop, List.length_take]; rfl)) ?_; (with_reducible refine (format_Short.calls k (-5400) t169 t170 _ ?sideG A3.out).mono ?_); (case sideG => first | exact GP_below HG.out (by repeat (first | (with_reducible first | exact HB.out | apply below_alloc | apply pw_below_drewN | apply below_drew1) | exact HB.out)) | repeat (first | exact HG.out | refine GP_alloc ?_ _ | refine GP_drewN ?_ _ | refine GP_drew ?_)); rintro e w39 ⟨rfl, hb⟩; refine ⟨_, rfl, ?_⟩; have n0_ := Aside0.mk (below_step (by repeat (first | (with_reducible first | exact HB.out | apply below_alloc | apply pw_below_drewN | apply below_drew1) | exact HB.out)) hb); clear HB; have HB := n0_; clear n0_; (try clear hb); (try clear hb2); (try clear hk); (try clear hi)) | ((with_reducible refine gate_callee (f := 7) rfl ?_); refine goesL_ (some 22) rfl rfl Tryd.func7 (by kernel_rfl) rfl #[.string (⟨#[37, 115]⟩ : ByteArray), .string (⟨#[]⟩ : ByteArray), .int .i64 0, .int .i64 0] rfl (by (try simp only [List.map_toArray, List.map_cons, List.map_nil]); first | done | rfl | (simp only [List.length_drop, List.length_take]; rfl)) ?_; (with_reducible refine (format_Name.calls k (⟨#[37, 115]⟩ : ByteArray) (⟨#[]⟩ : ByteArray) 0 0 t171 t172 _ ?sideG A4.out).mono ?_); (case sideG => first | exact GP_below HG.out (by repeat (first | (with_reducible first | exact HB.out | apply below_alloc | apply pw_below_drewN | apply below_drew1) | exact HB.out)) | repeat (first | exact HG.out | refine GP_alloc ?_ _ | refine GP_drewN ?_ _ | refine GP_drew ?_)); rintro e w40 ⟨rfl, hb⟩; refine ⟨_, rfl, ?_⟩; have n0_ := Aside0.mk (below_step (by repeat (first | (with_reducible first | exact HB.out | apply below_alloc | apply pw_below_drewN | apply below_drew1) | exact HB.out)) hb); clear HB; have HB := n0_; clear n0_; (try clear hb); (try clear hb2); (try clear hk); (try clear hi)))
   go_ret
   exact ⟨by first | rfl | (simp [errW_none, errW_some] <;> rfl) | (simp [*, errW_none, errW_some] <;> rfl), by repeat (first | (with_reducible first | exact HB.out | apply below_alloc | apply pw_below_drewN | apply below_drew1) | exact HB.out)⟩
 ·rw [if_neg c5] at H
  have c5b0 : (t166 == 0) = false := beq_eq_false_iff_ne.mpr c5
  have c5b1 : (t166 != 0) = true := bne_iff_ne.mpr c5
  obtain rfl := Option.some.inj H
  go_enter Tryd.func12, Tryd.ntmps12
  go_wp2_with (first | ((with_reducible refine gate_callee (f := 7) rfl ?_); refine goesL_ (some 10) rfl rfl Tryd.func7 (by kernel_rfl) rfl #[.string (⟨#[67, 69, 37, 115, 84]⟩ : ByteArray), .string (⟨#[83]⟩ : ByteArray), .int .i64 7200, .int .i64 3600] rfl (by (try simp only [List.map_toArray, List.map_cons, List.map_nil]); first | done | rfl | (simp only [List.length_drop, List.length_take]; rfl)) ?_; (with_reducible refine (format_Name.calls k (⟨#[67, 69, 37, 115, 84]⟩ : ByteArray) (⟨#[83]⟩ : ByteArray) 7200 3600 t165 t166 _ ?sideG A1.out).mono ?_); (case sideG => first | exact GP_below HG.out (by repeat (first | (with_reducible first | exact HB.out | apply below_alloc | apply pw_below_drewN | apply below_drew1) | exact HB.out)) | repeat (first | exact HG.out | refine GP_alloc ?_ _ | refine GP_drewN ?_ _ | refine GP_drew ?_)); rintro e w41 ⟨rfl, hb⟩; refine ⟨_, rfl, ?_⟩; have n0_ := Aside0.mk (below_step (by repeat (first | (with_reducible first | exact HB.out | apply below_alloc | apply pw_below_drewN | apply below_drew1) | exact HB.out)) hb); clear HB; have HB := n0_; clear n0_; (try clear hb); (try clear hb2); (try clear hk); (try clear hi)) | ((with_reducible refine gate_callee (f := 7) rfl ?_); refine goesL_ (some 14) rfl rfl Tryd.func7 (by kernel_rfl) rfl #[.string (⟨#[65, 47, 66]⟩ : ByteArray), .string (⟨#[]⟩ : ByteArray), .int .i64 0, .int .i64 0] rfl (by (try simp only [List.map_toArray, List.map_cons, List.map_nil]); first | done | rfl | (simp only [List.length_drop, List.length_take]; rfl)) ?_; (with_reducible refine (format_Name.calls k (⟨#[65, 47, 66]⟩ : ByteArray) (⟨#[]⟩ : ByteArray) 0 0 t167 t168 _ ?sideG A2.out).mono ?_); (case sideG => first | exact GP_below HG.out (by repeat (first | (with_reducible first | exact HB.out | apply below_alloc | apply pw_below_drewN | apply below_drew1) | exact HB.out)) | repeat (first | exact HG.out | refine GP_alloc ?_ _ | refine GP_drewN ?_ _ | refine GP_drew ?_)); rintro e w42 ⟨rfl, hb⟩; refine ⟨_, rfl, ?_⟩; have n0_ := Aside0.mk (below_step (by repeat (first | (with_reducible first | exact HB.out | apply below_alloc | apply pw_below_drewN | apply below_drew1) | exact HB.out)) hb); clear HB; have HB := n0_; clear n0_; (try clear hb); (try clear hb2); (try clear hk); (try clear hi)) | ((with_reducible refine gate_callee (f := 8) rfl ?_); refine goesL_ (some 18) rfl rfl Tryd.func8 (by kernel_rfl) rfl #[.int .i64 (-5400)] rfl (by (try simp only [List.map_toArray, List.map_cons, List.map_nil]); first | done | rfl | (simp only [List.length_drop, List.length_take]; rfl)) ?_; (with_reducible refine (format_Short.calls k (-5400) t169 t170 _ ?sideG A3.out).mono ?_); (case sideG => first | exact GP_below HG.out (by repeat (first | (with_reducible first | exact HB.out | apply below_alloc | apply pw_below_drewN | apply below_drew1) | exact HB.out)) | repeat (first | exact HG.out | refine GP_alloc ?_ _ | refine GP_drewN ?_ _ | refine GP_drew ?_)); rintro e w43 ⟨rfl, hb⟩; refine ⟨_, rfl, ?_⟩; have n0_ := Aside0.mk (below_step (by repeat (first | (with_reducible first | exact HB.out | apply below_alloc | apply pw_below_drewN | apply below_drew1) | exact HB.out)) hb); clear HB; have HB := n0_; clear n0_; (try clear hb); (try clear hb2); (try clear hk); (try clear hi)) | ((with_reducible refine gate_callee (f := 7) rfl ?_); refine goesL_ (some 22) rfl rfl Tryd.func7 (by kernel_rfl) rfl #[.string (⟨#[37, 115]⟩ : ByteArray), .string (⟨#[]⟩ : ByteArray), .int .i64 0, .int .i64 0] rfl (by (try simp only [List.map_toArray, List.map_cons, List.map_nil]); first | done | rfl | (simp only [List.length_drop, List.length_take]; rfl)) ?_; (with_reducible refine (format_Name.calls k (⟨#[37, 115]⟩ : ByteArray) (⟨#[]⟩ : ByteArray) 0 0 t171 t172 _ ?sideG A4.out).mono ?_); (case sideG => first | exact GP_below HG.out (by repeat (first | (with_reducible first | exact HB.out | apply below_alloc | apply pw_below_drewN | apply below_drew1) | exact HB.out)) | repeat (first | exact HG.out | refine GP_alloc ?_ _ | refine GP_drewN ?_ _ | refine GP_drew ?_)); rintro e w44 ⟨rfl, hb⟩; refine ⟨_, rfl, ?_⟩; have n0_ := Aside0.mk (below_step (by repeat (first | (with_reducible first | exact HB.out | apply below_alloc | apply pw_below_drewN | apply below_drew1) | exact HB.out)) hb); clear HB; have HB := n0_; clear n0_; (try clear hb); (try clear hb2); (try clear hk); (try clear hi)))
  go_ret
  exact ⟨by first | rfl | (simp [errW_none, errW_some] <;> rfl) | (simp [*, errW_none, errW_some] <;> rfl), by repeat (first | (with_reducible first | exact HB.out | apply below_alloc | apply pw_below_drewN | apply below_drew1) | exact HB.out)⟩
mutual
def solsticelaw12_FormatExact.j0 : Nat → ByteArray → ByteArray → Int → Int → Bool → Option (Bool)
 | 0, _, _, _, _, _ => none
 | k + 1, x0, x1, x2, x3, x22 => if x22 = true then (some true) else ((format_Name.f k x0 x1 x2 x3).bind fun bt174 => ((format_Short.f k x2).bind fun bt176 => ((solsticeref09_Abbr.f k x0 x1 x2 x3).bind fun bt178 => (if bt178.2 = true then (if bt174.2 = 0 then (if bt174.1.toList = bt178.1.toList then ((format_Right.f k x0).bind fun t180 => ((solsticeref09_Plain.f k x0 40).bind fun t181 => (solsticelaw12_FormatExact.j1 k x2 bt176.1 bt176.2 (t180 != t181)))) else (solsticelaw12_FormatExact.j1 k x2 bt176.1 bt176.2 true)) else (solsticelaw12_FormatExact.j1 k x2 bt176.1 bt176.2 true)) else (if bt174.2 = 16 then (if bt174.1.toList = ([] : List UInt8) then ((format_Right.f k x0).bind fun t182 => ((solsticeref09_Plain.f k x0 40).bind fun t183 => (solsticelaw12_FormatExact.j1 k x2 bt176.1 bt176.2 (t182 != t183)))) else (solsticelaw12_FormatExact.j1 k x2 bt176.1 bt176.2 true)) else (solsticelaw12_FormatExact.j1 k x2 bt176.1 bt176.2 true))))))
def solsticelaw12_FormatExact.j1 : Nat → Int → ByteArray → Int → Bool → Option (Bool)
 | 0, _, _, _, _ => none
 | k + 1, x2, x11, x12, x72 => if x72 = true then (some false) else (if x2 ≤ (-172800) then (solsticelaw12_FormatExact.j2 k x2 x11 x12 true) else (solsticelaw12_FormatExact.j2 k x2 x11 x12 (decide (x2 ≥ 172800))))
def solsticelaw12_FormatExact.j2 : Nat → Int → ByteArray → Int → Bool → Option (Bool)
 | 0, _, _, _, _ => none
 | k + 1, x2, x11, x12, x78 => if x78 = true then (if x12 = 5 then (if x11.toList = ([] : List UInt8) then ((solsticelaw12_wakes.f k).bind fun t184 => (some t184)) else (some false)) else (some false)) else (if x12 = 0 then ((solsticeref09_Short.f k x2).bind fun t185 => (if x11.toList = t185.toList then ((solsticelaw12_wakes.f k).bind fun t186 => (some t186)) else (some false))) else (some false))
end
def solsticelaw12_FormatExact.f (k : Nat) (a0 : ByteArray) (a1 : ByteArray) (a2 : Int) (a3 : Int) : Option (Bool) := if (a0.size : Int) > 200 then (solsticelaw12_FormatExact.j0 k a0 a1 a2 a3 true) else (solsticelaw12_FormatExact.j0 k a0 a1 a2 a3 (decide ((a1.size : Int) > 200)))
theorem solsticelaw12_FormatExact.mono_l : ∀ k, (∀ y0 y1 y2 y3 y4, LeO (solsticelaw12_FormatExact.j0 k y0 y1 y2 y3 y4) (solsticelaw12_FormatExact.j0 (k + 1) y0 y1 y2 y3 y4)) ∧ (∀ y0 y1 y2 y3, LeO (solsticelaw12_FormatExact.j1 k y0 y1 y2 y3) (solsticelaw12_FormatExact.j1 (k + 1) y0 y1 y2 y3)) ∧ (∀ y0 y1 y2 y3, LeO (solsticelaw12_FormatExact.j2 k y0 y1 y2 y3) (solsticelaw12_FormatExact.j2 (k + 1) y0 y1 y2 y3))
 | 0 => ⟨fun _ _ _ _ _ r h => by simp [solsticelaw12_FormatExact.j0] at h, fun _ _ _ _ r h => by simp [solsticelaw12_FormatExact.j1] at h, fun _ _ _ _ r h => by simp [solsticelaw12_FormatExact.j2] at h⟩
 | k + 1 => by
  obtain ⟨ih0, ih1, ih2⟩ := solsticelaw12_FormatExact.mono_l k
  refine ⟨?_, ?_, ?_⟩
  ·intro y0 y1 y2 y3 y4
   unfold solsticelaw12_FormatExact.j0
   repeat' first
   | (with_reducible exact ih0 _ _ _ _ _)
   | (with_reducible exact ih1 _ _ _ _)
   | (with_reducible exact ih2 _ _ _ _)
   | (with_reducible exact format_Name.mono _ _ _ _ _)
   | (with_reducible exact format_Right.mono _ _)
   | (with_reducible exact format_Short.mono _ _)
   | (with_reducible exact solsticelaw12_wakes.mono _)
   | (with_reducible exact solsticeref09_Abbr.mono _ _ _ _ _)
   | (with_reducible exact solsticeref09_Plain.mono _ _ _)
   | (with_reducible exact solsticeref09_Short.mono _ _)
   | (with_reducible exact LeO.refl _)
   | (with_reducible exact LeO.none _)
   | (with_reducible refine LeO.ite ?_ ?_)
   | (with_reducible refine LeO.bind ?_ (fun _ => ?_))
   | exact ih0 _ _ _ _ _
   | exact ih1 _ _ _ _
   | exact ih2 _ _ _ _
   | exact format_Name.mono _ _ _ _ _
   | exact format_Right.mono _ _
   | exact format_Short.mono _ _
   | exact solsticelaw12_wakes.mono _
   | exact solsticeref09_Abbr.mono _ _ _ _ _
   | exact solsticeref09_Plain.mono _ _ _
   | exact solsticeref09_Short.mono _ _
   | exact LeO.none _
   | refine LeO.ite ?_ ?_
   | refine LeO.bind ?_ (fun _ => ?_)
  ·intro y0 y1 y2 y3
   unfold solsticelaw12_FormatExact.j1
   repeat' first
   | (with_reducible exact ih0 _ _ _ _ _)
   | (with_reducible exact ih1 _ _ _ _)
   | (with_reducible exact ih2 _ _ _ _)
   | (with_reducible exact format_Name.mono _ _ _ _ _)
   | (with_reducible exact format_Right.mono _ _)
   | (with_reducible exact format_Short.mono _ _)
   | (with_reducible exact solsticelaw12_wakes.mono _)
   | (with_reducible exact solsticeref09_Abbr.mono _ _ _ _ _)
   | (with_reducible exact solsticeref09_Plain.mono _ _ _)
   | (with_reducible exact solsticeref09_Short.mono _ _)
   | (with_reducible exact LeO.refl _)
   | (with_reducible exact LeO.none _)
   | (with_reducible refine LeO.ite ?_ ?_)
   | (with_reducible refine LeO.bind ?_ (fun _ => ?_))
   | exact ih0 _ _ _ _ _
   | exact ih1 _ _ _ _
   | exact ih2 _ _ _ _
   | exact format_Name.mono _ _ _ _ _
   | exact format_Right.mono _ _
   | exact format_Short.mono _ _
   | exact solsticelaw12_wakes.mono _
   | exact solsticeref09_Abbr.mono _ _ _ _ _
   | exact solsticeref09_Plain.mono _ _ _
   | exact solsticeref09_Short.mono _ _
   | exact LeO.none _
   | refine LeO.ite ?_ ?_
   | refine LeO.bind ?_ (fun _ => ?_)
  ·intro y0 y1 y2 y3
   unfold solsticelaw12_FormatExact.j2
   repeat' first
   | (with_reducible exact ih0 _ _ _ _ _)
   | (with_reducible exact ih1 _ _ _ _)
   | (with_reducible exact ih2 _ _ _ _)
   | (with_reducible exact format_Name.mono _ _ _ _ _)
   | (with_reducible exact format_Right.mono _ _)
   | (with_reducible exact format_Short.mono _ _)
   | (with_reducible exact solsticelaw12_wakes.mono _)
   | (with_reducible exact solsticeref09_Abbr.mono _ _ _ _ _)
   | (with_reducible exact solsticeref09_Plain.mono _ _ _)
   | (with_reducible exact solsticeref09_Short.mono _ _)
   | (with_reducible exact LeO.refl _)
   | (with_reducible exact LeO.none _)
   | (with_reducible refine LeO.ite ?_ ?_)
   | (with_reducible refine LeO.bind ?_ (fun _ => ?_))
   | exact ih0 _ _ _ _ _
   | exact ih1 _ _ _ _
   | exact ih2 _ _ _ _
   | exact format_Name.mono _ _ _ _ _
   | exact format_Right.mono _ _
   | exact format_Short.mono _ _
   | exact solsticelaw12_wakes.mono _
   | exact solsticeref09_Abbr.mono _ _ _ _ _
   | exact solsticeref09_Plain.mono _ _ _
   | exact solsticeref09_Short.mono _ _
   | exact LeO.none _
   | refine LeO.ite ?_ ?_
   | refine LeO.bind ?_ (fun _ => ?_)
theorem solsticelaw12_FormatExact.mono : ∀ a0 a1 a2 a3 k, LeO (solsticelaw12_FormatExact.f k a0 a1 a2 a3) (solsticelaw12_FormatExact.f (k + 1) a0 a1 a2 a3) := by
 intro a0 a1 a2 a3 k
 obtain ⟨ih0, ih1, ih2⟩ := solsticelaw12_FormatExact.mono_l k
 unfold solsticelaw12_FormatExact.f
 repeat' first
   | (with_reducible exact ih0 _ _ _ _ _)
   | (with_reducible exact ih1 _ _ _ _)
   | (with_reducible exact ih2 _ _ _ _)
   | (with_reducible exact format_Name.mono _ _ _ _ _)
   | (with_reducible exact format_Right.mono _ _)
   | (with_reducible exact format_Short.mono _ _)
   | (with_reducible exact solsticelaw12_wakes.mono _)
   | (with_reducible exact solsticeref09_Abbr.mono _ _ _ _ _)
   | (with_reducible exact solsticeref09_Plain.mono _ _ _)
   | (with_reducible exact solsticeref09_Short.mono _ _)
   | (with_reducible exact LeO.refl _)
   | (with_reducible exact LeO.none _)
   | (with_reducible refine LeO.ite ?_ ?_)
   | (with_reducible refine LeO.bind ?_ (fun _ => ?_))
   | exact ih0 _ _ _ _ _
   | exact ih1 _ _ _ _
   | exact ih2 _ _ _ _
   | exact format_Name.mono _ _ _ _ _
   | exact format_Right.mono _ _
   | exact format_Short.mono _ _
   | exact solsticelaw12_wakes.mono _
   | exact solsticeref09_Abbr.mono _ _ _ _ _
   | exact solsticeref09_Plain.mono _ _ _
   | exact solsticeref09_Short.mono _ _
   | exact LeO.none _
   | refine LeO.ite ?_ ?_
   | refine LeO.bind ?_ (fun _ => ?_)
set_option maxHeartbeats 8000000 in
set_option maxRecDepth 100000 in
theorem solsticelaw12_FormatExact.calls (k : Nat) (a0 : ByteArray) (a1 : ByteArray) (a2 : Int) (a3 : Int) (r : Bool) (w : World) (hG : GP w) (h : solsticelaw12_FormatExact.f k a0 a1 a2 a3 = some r) :
  Calls Tryd.prog 3 #[.string a0, .string a1, .int .i64 a2, .int .i64 a3] w fun e w' => e = .returned (.bool r) ∧ Below w.heap.size w w' := by
 have HG := Aside0.mk hG
 clear hG
 have HB := Aside0.mk (Below.refl w.heap.size w)
 have H : (if (a0.size : Int) > 200 then (solsticelaw12_FormatExact.j0 k a0 a1 a2 a3 true) else (solsticelaw12_FormatExact.j0 k a0 a1 a2 a3 (decide ((a1.size : Int) > 200)))) = some r := h
 clear h
 have HC5 := Aside0.mk H
 clear H
 go_enter Tryd.func3, Tryd.ntmps3
 go_upto_region 1 with (fail)
 go_cut [22] (fun v22 wc => ∃ (kq : Nat) (x22_4 : Bool), v22 = .bool x22_4 ∧ Aside0 (solsticelaw12_FormatExact.j0 kq a0 a1 a2 a3 x22_4 = some r) ∧ Aside0 (kq ≤ k) ∧ Aside0 (Below w.heap.size w wc))
 case first =>
  have H := HC5.out
  clear HC5
  by_cases c6 : (a0.size : Int) > 200
  ·rw [if_pos c6] at H
   have c6b0 : decide (200 < (a0.size : Int)) = true := decide_eq_true c6
   have c6b1 : decide (200 < a0.size) = true := decide_eq_true (by omega)
   clear c6
   (first | rw [c6b0] | (simp only [i64_w, i32_w]; rw [c6b0]) | skip)
   have H' := Aside0.mk H
   clear H
   go_wp2
   go_meet
   case rel => exact ⟨_, (true), (by first | rfl | (simp; done) | (simp [*]; done)), H', ⟨by first | omega | exact Nat.le_refl _⟩, ⟨by repeat (first | (with_reducible first | exact HB.out | apply below_alloc | apply pw_below_drewN | apply below_drew1) | exact HB.out)⟩⟩
  ·rw [if_neg c6] at H
   have c6b0 : decide (200 < (a0.size : Int)) = false := decide_eq_false c6
   have c6b1 : decide (200 < a0.size) = false := decide_eq_false (by omega)
   clear c6
   (first | rw [c6b0] | (simp only [i64_w, i32_w]; rw [c6b0]) | skip)
   have H' := Aside0.mk H
   clear H
   go_wp2
   go_meet
   case rel => exact ⟨_, (decide ((a1.size : Int) > 200)), (by first | rfl | (simp; done) | (simp [*]; done)), H', ⟨by first | omega | exact Nat.le_refl _⟩, ⟨by repeat (first | (with_reducible first | exact HB.out | apply below_alloc | apply pw_below_drewN | apply below_drew1) | exact HB.out)⟩⟩
 case rest =>
  as_aux_lemma =>
   clear HC5
   try clear p2
   try clear c3
   try clear c6
   try clear c6b0
   try clear c6b1
   obtain ⟨kq, x22_4, rfl, HA, HJ4, HB⟩ := hcut
   cases kq with
   | zero => exact absurd HA.out (by simp [solsticelaw12_FormatExact.j0])
   | succ kj4 =>
    have H := HA.out
    clear HA
    simp only [solsticelaw12_FormatExact.j0] at H
    by_cases c7 : x22_4 = true
    ·subst c7
     have H1 : (some true) = some r := by rw [if_pos rfl] at H; exact H
     clear H
     have H := H1
     clear H1
     obtain rfl := Option.some.inj H
     go_wp2
     go_ret
     exact ⟨by first | rfl | (simp [errW_none, errW_some] <;> rfl) | (simp [*, errW_none, errW_some] <;> rfl), by repeat (first | (with_reducible first | exact HB.out | apply below_alloc | apply pw_below_drewN | apply below_drew1) | exact HB.out)⟩
    ·replace c7 := Bool.eq_false_iff.mpr c7
     subst c7
     have H1 : ((format_Name.f kj4 a0 a1 a2 a3).bind fun bt174 => ((format_Short.f kj4 a2).bind fun bt176 => ((solsticeref09_Abbr.f kj4 a0 a1 a2 a3).bind fun bt178 => (if bt178.2 = true then (if bt174.2 = 0 then (if bt174.1.toList = bt178.1.toList then ((format_Right.f kj4 a0).bind fun t180 => ((solsticeref09_Plain.f kj4 a0 40).bind fun t181 => (solsticelaw12_FormatExact.j1 kj4 a2 bt176.1 bt176.2 (t180 != t181)))) else (solsticelaw12_FormatExact.j1 kj4 a2 bt176.1 bt176.2 true)) else (solsticelaw12_FormatExact.j1 kj4 a2 bt176.1 bt176.2 true)) else (if bt174.2 = 16 then (if bt174.1.toList = ([] : List UInt8) then ((format_Right.f kj4 a0).bind fun t182 => ((solsticeref09_Plain.f kj4 a0 40).bind fun t183 => (solsticelaw12_FormatExact.j1 kj4 a2 bt176.1 bt176.2 (t182 != t183)))) else (solsticelaw12_FormatExact.j1 kj4 a2 bt176.1 bt176.2 true)) else (solsticelaw12_FormatExact.j1 kj4 a2 bt176.1 bt176.2 true)))))) = some r := by rw [if_neg (show ¬ (false = true) by decide)] at H; exact H
     clear H
     have H := H1
     clear H1
     replace H := Option.bind_eq_some_iff.mp H
     obtain ⟨⟨t174, t175⟩, A80, H⟩ := H
     replace H : ((format_Short.f kj4 a2).bind fun bt176 => ((solsticeref09_Abbr.f kj4 a0 a1 a2 a3).bind fun bt178 => (if bt178.2 = true then (if t175 = 0 then (if t174.toList = bt178.1.toList then ((format_Right.f kj4 a0).bind fun t180 => ((solsticeref09_Plain.f kj4 a0 40).bind fun t181 => (solsticelaw12_FormatExact.j1 kj4 a2 bt176.1 bt176.2 (t180 != t181)))) else (solsticelaw12_FormatExact.j1 kj4 a2 bt176.1 bt176.2 true)) else (solsticelaw12_FormatExact.j1 kj4 a2 bt176.1 bt176.2 true)) else (if t175 = 16 then (if t174.toList = ([] : List UInt8) then ((format_Right.f kj4 a0).bind fun t182 => ((solsticeref09_Plain.f kj4 a0 40).bind fun t183 => (solsticelaw12_FormatExact.j1 kj4 a2 bt176.1 bt176.2 (t182 != t183)))) else (solsticelaw12_FormatExact.j1 kj4 a2 bt176.1 bt176.2 true)) else (solsticelaw12_FormatExact.j1 kj4 a2 bt176.1 bt176.2 true))))) = some r := H
     have A8 := Aside0.mk A80
     clear A80
     replace H := Option.bind_eq_some_iff.mp H
     obtain ⟨⟨t176, t177⟩, A90, H⟩ := H
     replace H : ((solsticeref09_Abbr.f kj4 a0 a1 a2 a3).bind fun bt178 => (if bt178.2 = true then (if t175 = 0 then (if t174.toList = bt178.1.toList then ((format_Right.f kj4 a0).bind fun t180 => ((solsticeref09_Plain.f kj4 a0 40).bind fun t181 => (solsticelaw12_FormatExact.j1 kj4 a2 t176 t177 (t180 != t181)))) else (solsticelaw12_FormatExact.j1 kj4 a2 t176 t177 true)) else (solsticelaw12_FormatExact.j1 kj4 a2 t176 t177 true)) else (if t175 = 16 then (if t174.toList = ([] : List UInt8) then ((format_Right.f kj4 a0).bind fun t182 => ((solsticeref09_Plain.f kj4 a0 40).bind fun t183 => (solsticelaw12_FormatExact.j1 kj4 a2 t176 t177 (t182 != t183)))) else (solsticelaw12_FormatExact.j1 kj4 a2 t176 t177 true)) else (solsticelaw12_FormatExact.j1 kj4 a2 t176 t177 true)))) = some r := H
     have A9 := Aside0.mk A90
     clear A90
     replace H := Option.bind_eq_some_iff.mp H
     obtain ⟨⟨t178, t179⟩, A100, H⟩ := H
     replace H : (if t179 = true then (if t175 = 0 then (if t174.toList = t178.toList then ((format_Right.f kj4 a0).bind fun t180 => ((solsticeref09_Plain.f kj4 a0 40).bind fun t181 => (solsticelaw12_FormatExact.j1 kj4 a2 t176 t177 (t180 != t181)))) else (solsticelaw12_FormatExact.j1 kj4 a2 t176 t177 true)) else (solsticelaw12_FormatExact.j1 kj4 a2 t176 t177 true)) else (if t175 = 16 then (if t174.toList = ([] : List UInt8) then ((format_Right.f kj4 a0).bind fun t182 => ((solsticeref09_Plain.f kj4 a0 40).bind fun t183 => (solsticelaw12_FormatExact.j1 kj4 a2 t176 t177 (t182 != t183)))) else (solsticelaw12_FormatExact.j1 kj4 a2 t176 t177 true)) else (solsticelaw12_FormatExact.j1 kj4 a2 t176 t177 true))) = some r := H
     have A10 := Aside0.mk A100
     clear A100
     have HC11 := Aside0.mk H
     clear H
     go_upto_region 6 with (first | ((with_reducible refine gate_callee (f := 7) rfl ?_); refine goesL_ (some 28) rfl rfl Tryd.func7 (by kernel_rfl) rfl #[.string a0, .string a1, .int .i64 a2, .int .i64 a3] rfl (by (try simp only [List.map_toArray, List.map_cons, List.map_nil]); first | done | rfl | (simp only [List.length_drop, List.length_take]; rfl)) ?_; (with_reducible refine (format_Name.calls kj4 a0 a1 a2 a3 t174 t175 _ ?sideG A8.out).mono ?_); (case sideG => first | exact GP_below HG.out (by repeat (first | (with_reducible first | exact HB.out | apply below_alloc | apply pw_below_drewN | apply below_drew1) | exact HB.out)) | repeat (first | exact HG.out | refine GP_alloc ?_ _ | refine GP_drewN ?_ _ | refine GP_drew ?_)); rintro e w12 ⟨rfl, hb⟩; refine ⟨_, rfl, ?_⟩; have n0_ := Aside0.mk (below_step (by repeat (first | (with_reducible first | exact HB.out | apply below_alloc | apply pw_below_drewN | apply below_drew1) | exact HB.out)) hb); clear HB; have HB := n0_; clear n0_; (try clear hb); (try clear hb2); (try clear hk); (try clear hi)) | ((with_reducible refine gate_callee (f := 8) rfl ?_); refine goesL_ (some 33) rfl rfl Tryd.func8 (by kernel_rfl) rfl #[.int .i64 a2] rfl (by (try simp only [List.map_toArray, List.map_cons, List.map_nil]); first | done | rfl | (simp only [List.length_drop, List.length_take]; rfl)) ?_; (with_reducible refine (format_Short.calls kj4 a2 t176 t177 _ ?sideG A9.out).mono ?_); (case sideG => first | exact GP_below HG.out (by repeat (first | (with_reducible first | exact HB.out | apply below_alloc | apply pw_below_drewN | apply below_drew1) | exact HB.out)) | repeat (first | exact HG.out | refine GP_alloc ?_ _ | refine GP_drewN ?_ _ | refine GP_drew ?_)); rintro e w13 ⟨rfl, hb⟩; refine ⟨_, rfl, ?_⟩; have n0_ := Aside0.mk (below_step (by repeat (first | (with_reducible first | exact HB.out | apply below_alloc | apply pw_below_drewN | apply below_drew1) | exact HB.out)) hb); clear HB; have HB := n0_; clear n0_; (try clear hb); (try clear hb2); (try clear hk); (try clear hi)) | ((with_reducible refine gate_callee (f := 9) rfl ?_); refine goesL_ (some 41) rfl rfl Tryd.func9 (by kernel_rfl) rfl #[.string a0, .string a1, .int .i64 a2, .int .i64 a3] rfl (by (try simp only [List.map_toArray, List.map_cons, List.map_nil]); first | done | rfl | (simp only [List.length_drop, List.length_take]; rfl)) ?_; (with_reducible refine (solsticeref09_Abbr.calls kj4 a0 a1 a2 a3 t178 t179 _ A10.out).mono ?_); rintro e w14 ⟨rfl, hb⟩; refine ⟨_, rfl, ?_⟩; have n0_ := Aside0.mk (below_step (by repeat (first | (with_reducible first | exact HB.out | apply below_alloc | apply pw_below_drewN | apply below_drew1) | exact HB.out)) hb); clear HB; have HB := n0_; clear n0_; (try clear hb); (try clear hb2); (try clear hk); (try clear hi)))
     (try simp only [Act.put, List.setIfInBounds_toArray, List.set_cons_zero, List.set_cons_succ])
     go_cut [72] (fun v72 wc => ∃ (kq : Nat) (x72_10 : Bool), v72 = .bool x72_10 ∧ Aside0 (solsticelaw12_FormatExact.j1 kq a2 t176 t177 x72_10 = some r) ∧ Aside0 (kq ≤ kj4) ∧ Aside0 (Below w.heap.size w wc))
     case first =>
      have H := HC11.out
      clear HC11
      by_cases c15 : t179 = true
      ·subst c15
       have H1 : (if t175 = 0 then (if t174.toList = t178.toList then ((format_Right.f kj4 a0).bind fun t180 => ((solsticeref09_Plain.f kj4 a0 40).bind fun t181 => (solsticelaw12_FormatExact.j1 kj4 a2 t176 t177 (t180 != t181)))) else (solsticelaw12_FormatExact.j1 kj4 a2 t176 t177 true)) else (solsticelaw12_FormatExact.j1 kj4 a2 t176 t177 true)) = some r := by rw [if_pos rfl] at H; exact H
       clear H
       have H := H1
       clear H1
       by_cases c16 : t175 = 0
       ·rw [if_pos c16] at H
        have c16b0 : (t175 == 0) = true := beq_iff_eq.mpr c16
        have c16b1 : (t175 != 0) = false := bne_eq_false_iff_eq.mpr c16
        clear c16
        (first | rw [c16b0] | (simp only [i64_w, i32_w]; rw [c16b0]) | skip)
        by_cases c17 : t174.toList = t178.toList
        ·rw [if_pos c17] at H
         have c17b0 : (t174.toList == t178.toList) = true := beq_iff_eq.mpr c17
         have c17b1 : (t174.toList != t178.toList) = false := bne_eq_false_iff_eq.mpr c17
         clear c17
         replace H := Option.bind_eq_some_iff.mp H
         obtain ⟨t180, A180, H⟩ := H
         replace H : ((solsticeref09_Plain.f kj4 a0 40).bind fun t181 => (solsticelaw12_FormatExact.j1 kj4 a2 t176 t177 (t180 != t181))) = some r := H
         have A18 := Aside0.mk A180
         clear A180
         replace H := Option.bind_eq_some_iff.mp H
         obtain ⟨t181, A190, H⟩ := H
         replace H : (solsticelaw12_FormatExact.j1 kj4 a2 t176 t177 (t180 != t181)) = some r := H
         have A19 := Aside0.mk A190
         clear A190
         have H' := Aside0.mk H
         clear H
         go_wp2_with (first | (go_at_call 10; (with_reducible refine (format_Right.calls kj4 a0 t180 _ A18.out).mono ?_); rintro e w' ⟨rfl, ⟨nd, rfl⟩⟩) | (go_at_call 11; (with_reducible refine (solsticeref09_Plain.calls kj4 a0 40 t181 _ A19.out).mono ?_); rintro e w' ⟨rfl, ⟨nd, rfl⟩⟩))
         go_meet
         case rel => exact ⟨_, ((t180 != t181)), (by first | rfl | (simp; done) | (simp [*]; done)), H', ⟨by have := HJ4.out; first | omega | exact Nat.le_refl _⟩, ⟨by repeat (first | (with_reducible first | exact HB.out | apply below_alloc | apply pw_below_drewN | apply below_drew1) | exact HB.out)⟩⟩
        ·rw [if_neg c17] at H
         have c17b0 : (t174.toList == t178.toList) = false := beq_eq_false_iff_ne.mpr c17
         have c17b1 : (t174.toList != t178.toList) = true := bne_iff_ne.mpr c17
         have H' := Aside0.mk H
         clear H
         go_wp2
         go_meet
         case rel => exact ⟨_, (true), (by first | rfl | (simp; done) | (simp [*]; done)), H', ⟨by have := HJ4.out; first | omega | exact Nat.le_refl _⟩, ⟨by repeat (first | (with_reducible first | exact HB.out | apply below_alloc | apply pw_below_drewN | apply below_drew1) | exact HB.out)⟩⟩
       ·rw [if_neg c16] at H
        have c16b0 : (t175 == 0) = false := beq_eq_false_iff_ne.mpr c16
        have c16b1 : (t175 != 0) = true := bne_iff_ne.mpr c16
        (first | rw [c16b0] | (simp only [i64_w, i32_w]; rw [c16b0]) | skip)
        have H' := Aside0.mk H
        clear H
        go_wp2
        go_meet
        case rel => exact ⟨_, (true), (by first | rfl | (simp; done) | (simp [*]; done)), H', ⟨by have := HJ4.out; first | omega | exact Nat.le_refl _⟩, ⟨by repeat (first | (with_reducible first | exact HB.out | apply below_alloc | apply pw_below_drewN | apply below_drew1) | exact HB.out)⟩⟩
      ·replace c15 := Bool.eq_false_iff.mpr c15
       subst c15
       have H1 : (if t175 = 16 then (if t174.toList = ([] : List UInt8) then ((format_Right.f kj4 a0).bind fun t182 => ((solsticeref09_Plain.f kj4 a0 40).bind fun t183 => (solsticelaw12_FormatExact.j1 kj4 a2 t176 t177 (t182 != t183)))) else (solsticelaw12_FormatExact.j1 kj4 a2 t176 t177 true)) else (solsticelaw12_FormatExact.j1 kj4 a2 t176 t177 true)) = some r := by rw [if_neg (show ¬ (false = true) by decide)] at H; exact H
       clear H
       have H := H1
       clear H1
       by_cases c20 : t175 = 16
       ·rw [if_pos c20] at H
        have c20b0 : (t175 == 16) = true := beq_iff_eq.mpr c20
        have c20b1 : (t175 != 16) = false := bne_eq_false_iff_eq.mpr c20
        clear c20
        by_cases c21 : t174.toList = ([] : List UInt8)
        ·rw [if_pos c21] at H
         have c21b0 : (t174.toList == ([] : List UInt8)) = true := beq_iff_eq.mpr c21
         have c21b1 : (t174.toList != ([] : List UInt8)) = false := bne_eq_false_iff_eq.mpr c21
         clear c21
         replace H := Option.bind_eq_some_iff.mp H
         obtain ⟨t182, A220, H⟩ := H
         replace H : ((solsticeref09_Plain.f kj4 a0 40).bind fun t183 => (solsticelaw12_FormatExact.j1 kj4 a2 t176 t177 (t182 != t183))) = some r := H
         have A22 := Aside0.mk A220
         clear A220
         replace H := Option.bind_eq_some_iff.mp H
         obtain ⟨t183, A230, H⟩ := H
         replace H : (solsticelaw12_FormatExact.j1 kj4 a2 t176 t177 (t182 != t183)) = some r := H
         have A23 := Aside0.mk A230
         clear A230
         have H' := Aside0.mk H
         clear H
         go_wp2_with (first | (go_at_call 10; (with_reducible refine (format_Right.calls kj4 a0 t182 _ A22.out).mono ?_); rintro e w' ⟨rfl, ⟨nd, rfl⟩⟩) | (go_at_call 11; (with_reducible refine (solsticeref09_Plain.calls kj4 a0 40 t183 _ A23.out).mono ?_); rintro e w' ⟨rfl, ⟨nd, rfl⟩⟩))
         go_meet
         case rel => exact ⟨_, ((t182 != t183)), (by first | rfl | (simp; done) | (simp [*]; done)), H', ⟨by have := HJ4.out; first | omega | exact Nat.le_refl _⟩, ⟨by repeat (first | (with_reducible first | exact HB.out | apply below_alloc | apply pw_below_drewN | apply below_drew1) | exact HB.out)⟩⟩
        ·rw [if_neg c21] at H
         have c21b0 : (t174.toList == ([] : List UInt8)) = false := beq_eq_false_iff_ne.mpr c21
         have c21b1 : (t174.toList != ([] : List UInt8)) = true := bne_iff_ne.mpr c21
         have H' := Aside0.mk H
         clear H
         go_wp2
         go_meet
         case rel => exact ⟨_, (true), (by first | rfl | (simp; done) | (simp [*]; done)), H', ⟨by have := HJ4.out; first | omega | exact Nat.le_refl _⟩, ⟨by repeat (first | (with_reducible first | exact HB.out | apply below_alloc | apply pw_below_drewN | apply below_drew1) | exact HB.out)⟩⟩
       ·rw [if_neg c20] at H
        have c20b0 : (t175 == 16) = false := beq_eq_false_iff_ne.mpr c20
        have c20b1 : (t175 != 16) = true := bne_iff_ne.mpr c20
        have H' := Aside0.mk H
        clear H
        go_wp2
        go_meet
        case rel => exact ⟨_, (true), (by first | rfl | (simp; done) | (simp [*]; done)), H', ⟨by have := HJ4.out; first | omega | exact Nat.le_refl _⟩, ⟨by repeat (first | (with_reducible first | exact HB.out | apply below_alloc | apply pw_below_drewN | apply below_drew1) | exact HB.out)⟩⟩
     case rest =>
      as_aux_lemma =>
       clear HC11
       try clear c1
       try clear c2
       try clear p2
       try clear c3
       try clear c6
       try clear c6b0
       try clear c6b1
       try clear c7
       try clear c8
       try clear c9
       try clear c15
       try clear c16
       try clear c16b0
       try clear c16b1
       try clear c17
       try clear c17b0
       try clear c17b1
       try clear c20
       try clear c20b0
       try clear c20b1
       try clear c21
       try clear c21b0
       try clear c21b1
       try clear p2
       obtain ⟨kq, x72_10, rfl, HA, HJ10, HB⟩ := hcut
       cases kq with
       | zero => exact absurd HA.out (by simp [solsticelaw12_FormatExact.j1])
       | succ kj10 =>
        have H := HA.out
        clear HA
        simp only [solsticelaw12_FormatExact.j1] at H
        by_cases c24 : x72_10 = true
        ·subst c24
         have H1 : (some false) = some r := by rw [if_pos rfl] at H; exact H
         clear H
         have H := H1
         clear H1
         obtain rfl := Option.some.inj H
         go_wp2
         go_ret
         exact ⟨by first | rfl | (simp [errW_none, errW_some] <;> rfl) | (simp [*, errW_none, errW_some] <;> rfl), by repeat (first | (with_reducible first | exact HB.out | apply below_alloc | apply pw_below_drewN | apply below_drew1) | exact HB.out)⟩
        ·replace c24 := Bool.eq_false_iff.mpr c24
         subst c24
         have H1 : (if a2 ≤ (-172800) then (solsticelaw12_FormatExact.j2 kj10 a2 t176 t177 true) else (solsticelaw12_FormatExact.j2 kj10 a2 t176 t177 (decide (a2 ≥ 172800)))) = some r := by rw [if_neg (show ¬ (false = true) by decide)] at H; exact H
         clear H
         have H := H1
         clear H1
         have HC25 := Aside0.mk H
         clear H
         go_upto_region 8 with (fail)
         go_cut [78] (fun v78 wc => ∃ (kq : Nat) (x78_24 : Bool), v78 = .bool x78_24 ∧ Aside0 (solsticelaw12_FormatExact.j2 kq a2 t176 t177 x78_24 = some r) ∧ Aside0 (kq ≤ kj10) ∧ Aside0 (Below w.heap.size w wc))
         case first =>
          have H := HC25.out
          clear HC25
          by_cases c26 : a2 ≤ (-172800)
          ·rw [if_pos c26] at H
           have c26b0 : decide (a2 ≤ (-172800)) = true := decide_eq_true c26
           clear c26
           (first | rw [c26b0] | (simp only [i64_w, i32_w]; rw [c26b0]) | skip)
           have H' := Aside0.mk H
           clear H
           go_wp2
           go_meet
           case rel => exact ⟨_, (true), (by first | rfl | (simp; done) | (simp [*]; done)), H', ⟨by have := HJ4.out; have := HJ10.out; first | omega | exact Nat.le_refl _⟩, ⟨by repeat (first | (with_reducible first | exact HB.out | apply below_alloc | apply pw_below_drewN | apply below_drew1) | exact HB.out)⟩⟩
          ·rw [if_neg c26] at H
           have c26b0 : decide (a2 ≤ (-172800)) = false := decide_eq_false c26
           clear c26
           (first | rw [c26b0] | (simp only [i64_w, i32_w]; rw [c26b0]) | skip)
           have H' := Aside0.mk H
           clear H
           go_wp2
           go_meet
           case rel => exact ⟨_, (decide (a2 ≥ 172800)), (by first | rfl | (simp; done) | (simp [*]; done)), H', ⟨by have := HJ4.out; have := HJ10.out; first | omega | exact Nat.le_refl _⟩, ⟨by repeat (first | (with_reducible first | exact HB.out | apply below_alloc | apply pw_below_drewN | apply below_drew1) | exact HB.out)⟩⟩
         case rest =>
          as_aux_lemma =>
           clear HC25
           try clear c1
           try clear c2
           try clear p2
           try clear c3
           try clear c6
           try clear c6b0
           try clear c6b1
           try clear c7
           try clear c8
           try clear c9
           try clear c15
           try clear c16
           try clear c16b0
           try clear c16b1
           try clear c17
           try clear c17b0
           try clear c17b1
           try clear c20
           try clear c20b0
           try clear c20b1
           try clear c21
           try clear c21b0
           try clear c21b1
           try clear c24
           try clear c26
           try clear c26b0
           try clear p2
           obtain ⟨kq, x78_24, rfl, HA, HJ24, HB⟩ := hcut
           cases kq with
           | zero => exact absurd HA.out (by simp [solsticelaw12_FormatExact.j2])
           | succ kj24 =>
            have H := HA.out
            clear HA
            simp only [solsticelaw12_FormatExact.j2] at H
            by_cases c27 : x78_24 = true
            ·subst c27
             have H1 : (if t177 = 5 then (if t176.toList = ([] : List UInt8) then ((solsticelaw12_wakes.f kj24).bind fun t184 => (some t184)) else (some false)) else (some false)) = some r := by rw [if_pos rfl] at H; exact H
             clear H
             have H := H1
             clear H1
             by_cases c28 : t177 = 5
             ·rw [if_pos c28] at H
              have c28b0 : (t177 == 5) = true := beq_iff_eq.mpr c28
              have c28b1 : (t177 != 5) = false := bne_eq_false_iff_eq.mpr c28
              clear c28
              by_cases c29 : t176.toList = ([] : List UInt8)
              ·rw [if_pos c29] at H
               have c29b0 : (t176.toList == ([] : List UInt8)) = true := beq_iff_eq.mpr c29
               have c29b1 : (t176.toList != ([] : List UInt8)) = false := bne_eq_false_iff_eq.mpr c29
               clear c29
               replace H := Option.bind_eq_some_iff.mp H
               obtain ⟨t184, A300, H⟩ := H
               replace H : (some t184) = some r := H
               have A30 := Aside0.mk A300
               clear A300
               obtain rfl := Option.some.inj H
               go_wp2_with (first | (go_at_call 12; (with_reducible refine (solsticelaw12_wakes.calls kj24  t184 _ ?sideG A30.out).mono ?_); (case sideG => first | exact GP_below HG.out (by repeat (first | (with_reducible first | exact HB.out | apply below_alloc | apply pw_below_drewN | apply below_drew1) | exact HB.out)) | repeat (first | exact HG.out | refine GP_alloc ?_ _ | refine GP_drewN ?_ _ | refine GP_drew ?_)); rintro e w31 ⟨rfl, hb⟩; have n0_ := Aside0.mk (below_step (by repeat (first | (with_reducible first | exact HB.out | apply below_alloc | apply pw_below_drewN | apply below_drew1) | exact HB.out)) hb); clear HB; have HB := n0_; clear n0_; (try clear hb); (try clear hb2); (try clear hk); (try clear hi)))
               go_ret
               exact ⟨by first | rfl | (simp [errW_none, errW_some] <;> rfl) | (simp [*, errW_none, errW_some] <;> rfl), by repeat (first | (with_reducible first | exact HB.out | apply below_alloc | apply pw_below_drewN | apply below_drew1) | exact HB.out)⟩
              ·rw [if_neg c29] at H
               have c29b0 : (t176.toList == ([] : List UInt8)) = false := beq_eq_false_iff_ne.mpr c29
               have c29b1 : (t176.toList != ([] : List UInt8)) = true := bne_iff_ne.mpr c29
               obtain rfl := Option.some.inj H
               go_wp2
               go_ret
               exact ⟨by first | rfl | (simp [errW_none, errW_some] <;> rfl) | (simp [*, errW_none, errW_some] <;> rfl), by repeat (first | (with_reducible first | exact HB.out | apply below_alloc | apply pw_below_drewN | apply below_drew1) | exact HB.out)⟩
             ·rw [if_neg c28] at H
              have c28b0 : (t177 == 5) = false := beq_eq_false_iff_ne.mpr c28
              have c28b1 : (t177 != 5) = true := bne_iff_ne.mpr c28
              obtain rfl := Option.some.inj H
              go_wp2
              go_ret
              exact ⟨by first | rfl | (simp [errW_none, errW_some] <;> rfl) | (simp [*, errW_none, errW_some] <;> rfl), by repeat (first | (with_reducible first | exact HB.out | apply below_alloc | apply pw_below_drewN | apply below_drew1) | exact HB.out)⟩
            ·replace c27 := Bool.eq_false_iff.mpr c27
             subst c27
             have H1 : (if t177 = 0 then ((solsticeref09_Short.f kj24 a2).bind fun t185 => (if t176.toList = t185.toList then ((solsticelaw12_wakes.f kj24).bind fun t186 => (some t186)) else (some false))) else (some false)) = some r := by rw [if_neg (show ¬ (false = true) by decide)] at H; exact H
             clear H
             have H := H1
             clear H1
             by_cases c32 : t177 = 0
             ·rw [if_pos c32] at H
              have c32b0 : (t177 == 0) = true := beq_iff_eq.mpr c32
              have c32b1 : (t177 != 0) = false := bne_eq_false_iff_eq.mpr c32
              clear c32
              replace H := Option.bind_eq_some_iff.mp H
              obtain ⟨t185, A330, H⟩ := H
              replace H : (if t176.toList = t185.toList then ((solsticelaw12_wakes.f kj24).bind fun t186 => (some t186)) else (some false)) = some r := H
              have A33 := Aside0.mk A330
              clear A330
              by_cases c34 : t176.toList = t185.toList
              ·rw [if_pos c34] at H
               have c34b0 : (t176.toList == t185.toList) = true := beq_iff_eq.mpr c34
               have c34b1 : (t176.toList != t185.toList) = false := bne_eq_false_iff_eq.mpr c34
               clear c34
               replace H := Option.bind_eq_some_iff.mp H
               obtain ⟨t186, A350, H⟩ := H
               replace H : (some t186) = some r := H
               have A35 := Aside0.mk A350
               clear A350
               obtain rfl := Option.some.inj H
               go_wp2_with (first | (go_at_call 13; (with_reducible refine (solsticeref09_Short.calls kj24 a2 t185 _ A33.out).mono ?_); rintro e w36 ⟨rfl, hb⟩; have n0_ := Aside0.mk (below_step (by repeat (first | (with_reducible first | exact HB.out | apply below_alloc | apply pw_below_drewN | apply below_drew1) | exact HB.out)) hb); clear HB; have HB := n0_; clear n0_; (try clear hb); (try clear hb2); (try clear hk); (try clear hi)) | (go_at_call 12; (with_reducible refine (solsticelaw12_wakes.calls kj24  t186 _ ?sideG A35.out).mono ?_); (case sideG => first | exact GP_below HG.out (by repeat (first | (with_reducible first | exact HB.out | apply below_alloc | apply pw_below_drewN | apply below_drew1) | exact HB.out)) | repeat (first | exact HG.out | refine GP_alloc ?_ _ | refine GP_drewN ?_ _ | refine GP_drew ?_)); rintro e w37 ⟨rfl, hb⟩; have n0_ := Aside0.mk (below_step (by repeat (first | (with_reducible first | exact HB.out | apply below_alloc | apply pw_below_drewN | apply below_drew1) | exact HB.out)) hb); clear HB; have HB := n0_; clear n0_; (try clear hb); (try clear hb2); (try clear hk); (try clear hi)))
               go_ret
               exact ⟨by first | rfl | (simp [errW_none, errW_some] <;> rfl) | (simp [*, errW_none, errW_some] <;> rfl), by repeat (first | (with_reducible first | exact HB.out | apply below_alloc | apply pw_below_drewN | apply below_drew1) | exact HB.out)⟩
              ·rw [if_neg c34] at H
               have c34b0 : (t176.toList == t185.toList) = false := beq_eq_false_iff_ne.mpr c34
               have c34b1 : (t176.toList != t185.toList) = true := bne_iff_ne.mpr c34
               obtain rfl := Option.some.inj H
               go_wp2_with (first | (go_at_call 13; (with_reducible refine (solsticeref09_Short.calls kj24 a2 t185 _ A33.out).mono ?_); rintro e w38 ⟨rfl, hb⟩; have n0_ := Aside0.mk (below_step (by repeat (first | (with_reducible first | exact HB.out | apply below_alloc | apply pw_below_drewN | apply below_drew1) | exact HB.out)) hb); clear HB; have HB := n0_; clear n0_; (try clear hb); (try clear hb2); (try clear hk); (try clear hi)))
               go_ret
               exact ⟨by first | rfl | (simp [errW_none, errW_some] <;> rfl) | (simp [*, errW_none, errW_some] <;> rfl), by repeat (first | (with_reducible first | exact HB.out | apply below_alloc | apply pw_below_drewN | apply below_drew1) | exact HB.out)⟩
             ·rw [if_neg c32] at H
              have c32b0 : (t177 == 0) = false := beq_eq_false_iff_ne.mpr c32
              have c32b1 : (t177 != 0) = true := bne_iff_ne.mpr c32
              obtain rfl := Option.some.inj H
              go_wp2
              go_ret
              exact ⟨by first | rfl | (simp [errW_none, errW_some] <;> rfl) | (simp [*, errW_none, errW_some] <;> rfl), by repeat (first | (with_reducible first | exact HB.out | apply below_alloc | apply pw_below_drewN | apply below_drew1) | exact HB.out)⟩
def solsticelaw12_FormatExact.Pure : Prop := ∀ (a0 : ByteArray) (a1 : ByteArray) (a2 : Int) (a3 : Int), a0.size ≤ 140737488351232 → a1.size ≤ 140737488351232 → (Lit.int .i64 a2).wf = true → (Lit.int .i64 a3).wf = true → ∃ k, solsticelaw12_FormatExact.f k a0 a1 a2 a3 = some true
end Go.Proofs.YtookjnpmbenheaaDoor.PFmt