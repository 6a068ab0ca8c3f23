-- A text of the kit's tools for this claim, its remarks left out.
import Derived.Test.YtjanombhdnoemaaGreatDoorRecE
import Derived.Test.YtjanombhdnoemaaGreatDoorRecG
import Derived.Test.YtjanombhdnoemaaGreatDoorRecQ
import Derived.Test.YtjanombhdnoemaaGreatDoorRecXa
import Derived.Test.YtjanombhdnoemaaGreatDoorRecW
namespace Go.Proofs.YtjanombhdnoemaaGreatDoor.PRec
open Go.RowKit Go.Proofs.YtjanombhdnoemaaGreatDoorW.PrintWords Go.Proofs.YtjanombhdnoemaaGreatDoorW.PrintLast Go.Proofs.YtjanombhdnoemaaGreatDoorW.PrintMore Go.Proofs.YtjanombhdnoemaaGreatDoor.Base
attribute [local go_sem] max2_int min2_int max_two min_two max_three min_three max_four min_four
set_option linter.unusedVariables false
set_option linter.unusedSimpArgs false
def hvB (l6 : List Int) (l7 : List Int) (l8 : List Int) (l9 : List S38) (l10 : List Int) (l11 : List Int) (l12 : List Int) (l13 : List Int) (l14 : List Int) : Bool := (decide (70 < l6.length) || (decide (70 < l7.length) || (decide (30 < l8.length) || (decide (60 < l9.length) || (decide (70 < l10.length) || (decide (60 < l11.length) || (decide (60 < l12.length) || (decide (20 < l13.length) || (decide (60 < l14.length))))))))))
set_option maxHeartbeats 16000000 in
set_option maxRecDepth 100000 in
theorem heavy_calls (a0 : Int) (a1 : Int) (a2 : Int) (a3 : Bool) (a4 : Int) (a5 : Bool) (A6 : Option Addr) (c6 : Nat) (l6 : List Int) (A7 : Option Addr) (c7 : Nat) (l7 : List Int) (A8 : Option Addr) (c8 : Nat) (l8 : List Int) (A9 : Option Addr) (c9 : Nat) (l9 : List S38) (A10 : Option Addr) (c10 : Nat) (l10 : List Int) (A11 : Option Addr) (c11 : Nat) (l11 : List Int) (A12 : Option Addr) (c12 : Nat) (l12 : List Int) (A13 : Option Addr) (c13 : Nat) (l13 : List Int) (A14 : Option Addr) (c14 : Nat) (l14 : List Int) (a15 : Int) (r : Bool) (w : World) (h6 : Kd.C (Kd.int .i64) w A6 l6.length l6) (q6 : l6.length ≤ c6) (h7 : Kd.C (Kd.int .i64) w A7 l7.length l7) (q7 : l7.length ≤ c7) (h8 : Kd.C (Kd.int .i64) w A8 l8.length l8) (q8 : l8.length ≤ c8) (h9 : Kd.C k38 w A9 l9.length l9) (q9 : l9.length ≤ c9) (h10 : Kd.C (Kd.int .i64) w A10 l10.length l10) (q10 : l10.length ≤ c10) (h11 : Kd.C (Kd.int .i64) w A11 l11.length l11) (q11 : l11.length ≤ c11) (h12 : Kd.C (Kd.int .i64) w A12 l12.length l12) (q12 : l12.length ≤ c12) (h13 : Kd.C (Kd.int .i64) w A13 l13.length l13) (q13 : l13.length ≤ c13) (h14 : Kd.C (Kd.int .i64) w A14 l14.length l14) (q14 : l14.length ≤ c14) (E : Aside0 (hvB l6 l7 l8 l9 l10 l11 l12 l13 l14 = r)) : Calls Tryz.prog 9 #[.agg #[Value.int .i64 a0, Value.int .i64 a1, Value.int .i64 a2, Value.bool a3, Value.int .i64 a4, Value.bool a5, Value.slice A6 l6.length c6, Value.slice A7 l7.length c7, Value.slice A8 l8.length c8, Value.slice A9 l9.length c9, Value.slice A10 l10.length c10, Value.slice A11 l11.length c11, Value.slice A12 l12.length c12, Value.slice A13 l13.length c13, Value.slice A14 l14.length c14, Value.int .i64 a15]] w fun e w' => e = .returned (.bool r) ∧ Below w.heap.size w w' := by
 have HB := Aside0.mk (Below.refl w.heap.size w)
 have H6 := Aside0.mk h6; have Q6 := Aside0.mk q6
 have H7 := Aside0.mk h7; have Q7 := Aside0.mk q7
 have H8 := Aside0.mk h8; have Q8 := Aside0.mk q8
 have H9 := Aside0.mk h9; have Q9 := Aside0.mk q9
 have H10 := Aside0.mk h10; have Q10 := Aside0.mk q10
 have H11 := Aside0.mk h11; have Q11 := Aside0.mk q11
 have H12 := Aside0.mk h12; have Q12 := Aside0.mk q12
 have H13 := Aside0.mk h13; have Q13 := Aside0.mk q13
 have H14 := Aside0.mk h14; have Q14 := Aside0.mk q14
 clear h6 q6 h7 q7 h8 q8 h9 q9 h10 q10 h11 q11 h12 q12 h13 q13 h14 q14
 have hu25 := Tryz.underlying25
 go_enter Tryz.func9, Tryz.ntmps9
 go_upto_region 1 with (first | ((with_reducible refine gate_dst (N := 1) rfl ?_); refine box_event ?hg (N := 1) ?hd (cs := #[Value.int .i64 a0, Value.int .i64 a1, Value.int .i64 a2, Value.bool a3, Value.int .i64 a4, Value.bool a5, Value.slice A6 l6.length c6, Value.slice A7 l7.length c7, Value.slice A8 l8.length c8, Value.slice A9 l9.length c9, Value.slice A10 l10.length c10, Value.slice A11 l11.length c11, Value.slice A12 l12.length c12, Value.slice A13 l13.length c13, Value.slice A14 l14.length c14, Value.int .i64 a15]) (t := 25) ?hr ?_; (case hd => rfl); (case hg => rfl); (case hr => first | (go_simp; done) | (go_simp; rfl)); intro ga hg_ w1_ hbox hb; replace HB := Aside0.mk (below_then HB.out HB.out.size hb); have Xga := Aside0.mk (show Bx w1_ ga a0 a1 a2 a3 a4 a5 A6 c6 l6 A7 c7 l7 A8 c8 l8 A9 c9 l9 A10 c10 l10 A11 c11 l11 A12 c12 l12 A13 c13 l13 A14 c14 l14 a15 from ⟨hbox, Kd.C_below H6.out hb, Q6.out, Kd.C_below H7.out hb, Q7.out, Kd.C_below H8.out hb, Q8.out, Kd.C_below H9.out hb, Q9.out, Kd.C_below H10.out hb, Q10.out, Kd.C_below H11.out hb, Q11.out, Kd.C_below H12.out hb, Q12.out, Kd.C_below H13.out hb, Q13.out, Kd.C_below H14.out hb, Q14.out⟩); clear hbox hb hg_))
 clear H6 Q6 H7 Q7 H8 Q8 H9 Q9 H10 Q10 H11 Q11 H12 Q12 H13 Q13 H14 Q14
 obtain ⟨P0, P1, P2, P3, P4, P5, P6, P7, P8, P9, P10, P11, P12, P13, P14, P15⟩ := cells16 Xga.out.b
 by_cases c6 : 70 < l6.length
 ·
  have f6 : decide ((l6.length : Int) > 70) = true := decide_eq_true (by omega)
  have hr : r = true := by rw [← E.out]; unfold hvB; rw [decide_eq_true c6]; rfl
  clear E c6
  as_aux_lemma =>
   go_wp2
   repeat (go_quiet (fail); try go_wp2)
   go_ret
   exact ⟨by subst hr; rfl, HB.out⟩
 have f6 : decide ((l6.length : Int) > 70) = false := decide_eq_false (by omega)
 have g6 := Aside0.mk c6
 clear c6
 by_cases c7 : 70 < l7.length
 ·
  have f7 : decide ((l7.length : Int) > 70) = true := decide_eq_true (by omega)
  have hr : r = true := by rw [← E.out]; unfold hvB; rw [decide_eq_false (Aside0.out g6), decide_eq_true c7]; rfl
  clear E c7
  as_aux_lemma =>
   go_wp2
   repeat (go_quiet (fail); try go_wp2)
   go_ret
   exact ⟨by subst hr; rfl, HB.out⟩
 have f7 : decide ((l7.length : Int) > 70) = false := decide_eq_false (by omega)
 have g7 := Aside0.mk c7
 clear c7
 by_cases c8 : 30 < l8.length
 ·
  have f8 : decide ((l8.length : Int) > 30) = true := decide_eq_true (by omega)
  have hr : r = true := by rw [← E.out]; unfold hvB; rw [decide_eq_false (Aside0.out g6), decide_eq_false (Aside0.out g7), decide_eq_true c8]; rfl
  clear E c8
  as_aux_lemma =>
   go_wp2
   repeat (go_quiet (fail); try go_wp2)
   go_ret
   exact ⟨by subst hr; rfl, HB.out⟩
 have f8 : decide ((l8.length : Int) > 30) = false := decide_eq_false (by omega)
 have g8 := Aside0.mk c8
 clear c8
 by_cases c9 : 60 < l9.length
 ·
  have f9 : decide ((l9.length : Int) > 60) = true := decide_eq_true (by omega)
  have hr : r = true := by rw [← E.out]; unfold hvB; rw [decide_eq_false (Aside0.out g6), decide_eq_false (Aside0.out g7), decide_eq_false (Aside0.out g8), decide_eq_true c9]; rfl
  clear E c9
  as_aux_lemma =>
   go_wp2
   repeat (go_quiet (fail); try go_wp2)
   go_ret
   exact ⟨by subst hr; rfl, HB.out⟩
 have f9 : decide ((l9.length : Int) > 60) = false := decide_eq_false (by omega)
 have g9 := Aside0.mk c9
 clear c9
 by_cases c10 : 70 < l10.length
 ·
  have f10 : decide ((l10.length : Int) > 70) = true := decide_eq_true (by omega)
  have hr : r = true := by rw [← E.out]; unfold hvB; rw [decide_eq_false (Aside0.out g6), decide_eq_false (Aside0.out g7), decide_eq_false (Aside0.out g8), decide_eq_false (Aside0.out g9), decide_eq_true c10]; rfl
  clear E c10
  as_aux_lemma =>
   go_wp2
   repeat (go_quiet (fail); try go_wp2)
   go_ret
   exact ⟨by subst hr; rfl, HB.out⟩
 have f10 : decide ((l10.length : Int) > 70) = false := decide_eq_false (by omega)
 have g10 := Aside0.mk c10
 clear c10
 by_cases c11 : 60 < l11.length
 ·
  have f11 : decide ((l11.length : Int) > 60) = true := decide_eq_true (by omega)
  have hr : r = true := by rw [← E.out]; unfold hvB; rw [decide_eq_false (Aside0.out g6), decide_eq_false (Aside0.out g7), decide_eq_false (Aside0.out g8), decide_eq_false (Aside0.out g9), decide_eq_false (Aside0.out g10), decide_eq_true c11]; rfl
  clear E c11
  as_aux_lemma =>
   go_wp2
   repeat (go_quiet (fail); try go_wp2)
   go_ret
   exact ⟨by subst hr; rfl, HB.out⟩
 have f11 : decide ((l11.length : Int) > 60) = false := decide_eq_false (by omega)
 have g11 := Aside0.mk c11
 clear c11
 by_cases c12 : 60 < l12.length
 ·
  have f12 : decide ((l12.length : Int) > 60) = true := decide_eq_true (by omega)
  have hr : r = true := by rw [← E.out]; unfold hvB; rw [decide_eq_false (Aside0.out g6), decide_eq_false (Aside0.out g7), decide_eq_false (Aside0.out g8), decide_eq_false (Aside0.out g9), decide_eq_false (Aside0.out g10), decide_eq_false (Aside0.out g11), decide_eq_true c12]; rfl
  clear E c12
  as_aux_lemma =>
   go_wp2
   repeat (go_quiet (fail); try go_wp2)
   go_ret
   exact ⟨by subst hr; rfl, HB.out⟩
 have f12 : decide ((l12.length : Int) > 60) = false := decide_eq_false (by omega)
 have g12 := Aside0.mk c12
 clear c12
 by_cases c13 : 20 < l13.length
 ·
  have f13 : decide ((l13.length : Int) > 20) = true := decide_eq_true (by omega)
  have hr : r = true := by rw [← E.out]; unfold hvB; rw [decide_eq_false (Aside0.out g6), decide_eq_false (Aside0.out g7), decide_eq_false (Aside0.out g8), decide_eq_false (Aside0.out g9), decide_eq_false (Aside0.out g10), decide_eq_false (Aside0.out g11), decide_eq_false (Aside0.out g12), decide_eq_true c13]; rfl
  clear E c13
  as_aux_lemma =>
   go_wp2
   repeat (go_quiet (fail); try go_wp2)
   go_ret
   exact ⟨by subst hr; rfl, HB.out⟩
 have f13 : decide ((l13.length : Int) > 20) = false := decide_eq_false (by omega)
 have g13 := Aside0.mk c13
 clear c13
 by_cases c14 : 60 < l14.length
 ·
  have f14 : decide ((l14.length : Int) > 60) = true := decide_eq_true (by omega)
  have hr : r = true := by rw [← E.out]; unfold hvB; rw [decide_eq_false (Aside0.out g6), decide_eq_false (Aside0.out g7), decide_eq_false (Aside0.out g8), decide_eq_false (Aside0.out g9), decide_eq_false (Aside0.out g10), decide_eq_false (Aside0.out g11), decide_eq_false (Aside0.out g12), decide_eq_false (Aside0.out g13), decide_eq_true c14]; rfl
  clear E c14
  as_aux_lemma =>
   go_wp2
   repeat (go_quiet (fail); try go_wp2)
   go_ret
   exact ⟨by subst hr; rfl, HB.out⟩
 have f14 : decide ((l14.length : Int) > 60) = false := decide_eq_false (by omega)
 have g14 := Aside0.mk c14
 clear c14
 have hr : r = false := by rw [← E.out]; unfold hvB; rw [decide_eq_false (Aside0.out g6), decide_eq_false (Aside0.out g7), decide_eq_false (Aside0.out g8), decide_eq_false (Aside0.out g9), decide_eq_false (Aside0.out g10), decide_eq_false (Aside0.out g11), decide_eq_false (Aside0.out g12), decide_eq_false (Aside0.out g13), decide_eq_false (Aside0.out g14)]; rfl
 clear E
 go_wp2
 repeat (go_quiet (fail); try go_wp2)
 go_ret
 exact ⟨by subst hr; rfl, HB.out⟩
end Go.Proofs.YtjanombhdnoemaaGreatDoor.PRec
