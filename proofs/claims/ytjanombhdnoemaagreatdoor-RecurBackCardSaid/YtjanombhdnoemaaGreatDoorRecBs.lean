-- A text of the kit's tools for this claim, its remarks left out.
import Derived.Test.YtjanombhdnoemaaGreatDoorRecXa
namespace Go.Proofs.YtjanombhdnoemaaGreatDoor.PRec
open Go.RowKit Go.Proofs.YtjanombhdnoemaaGreatDoorW.PrintWords Go.Proofs.YtjanombhdnoemaaGreatDoorW.PrintLast Go.Proofs.YtjanombhdnoemaaGreatDoorW.PrintMore Go.Proofs.YtjanombhdnoemaaGreatDoor.Base
attribute [local go_sem] max2_int min2_int max_two min_two max_three min_three max_four min_four
set_option linter.unusedVariables false
set_option linter.unusedSimpArgs false
def recur_beside.f (a0 : Int) (a1 : Int) (a2 : Int) (a3 : Bool) (a4 : Int) (a5 : Bool) (l6 : List Int) (l7 : List Int) (l8 : List Int) (l9 : List S38) (l10 : List Int) (l11 : List Int) (l12 : List Int) (l13 : List Int) (l14 : List Int) (a15 : Int) : Option (Bool) := some (if (((a0 == 5 && decide (0 < l10.length)) || ((a0 == 4 || (a0 == 5 || a0 == 6)) && decide (0 < l11.length))) || (a0 != 7 && decide (0 < l12.length))) = true then false else ((l14.length : Int) == 0 || decide (wrap64 (wrap64 (wrap64 (wrap64 (wrap64 (wrap64 (wrap64 ((l6.length : Int) + (l7.length : Int)) + (l8.length : Int)) + (l9.length : Int)) + (l10.length : Int)) + (l11.length : Int)) + (l12.length : Int)) + (l13.length : Int)) > 0)))
set_option maxHeartbeats 16000000 in
set_option maxRecDepth 100000 in
theorem beside_walk (a0 : Int) (a1 : Int) (a2 : Int) (a3 : Bool) (a4 : Int) (a5 : Bool) (A6 : Option Addr) (c6 : Nat) (l6 : List Int) (A7 : Option Addr) (c7 : Nat) (l7 : List Int) (A8 : Option Addr) (c8 : Nat) (l8 : List Int) (A9 : Option Addr) (c9 : Nat) (l9 : List S38) (A10 : Option Addr) (c10 : Nat) (l10 : List Int) (A11 : Option Addr) (c11 : Nat) (l11 : List Int) (A12 : Option Addr) (c12 : Nat) (l12 : List Int) (A13 : Option Addr) (c13 : Nat) (l13 : List Int) (A14 : Option Addr) (c14 : Nat) (l14 : List Int) (a15 : Int) (sm : Int) (r w5 w7 x4 x6 dv bv t10 t11 t12 z14 : Bool) (w : World) (h6 : Kd.C (Kd.int .i64) w A6 l6.length l6) (q6 : l6.length ≤ c6) (h7 : Kd.C (Kd.int .i64) w A7 l7.length l7) (q7 : l7.length ≤ c7) (h8 : Kd.C (Kd.int .i64) w A8 l8.length l8) (q8 : l8.length ≤ c8) (h9 : Kd.C k38 w A9 l9.length l9) (q9 : l9.length ≤ c9) (h10 : Kd.C (Kd.int .i64) w A10 l10.length l10) (q10 : l10.length ≤ c10) (h11 : Kd.C (Kd.int .i64) w A11 l11.length l11) (q11 : l11.length ≤ c11) (h12 : Kd.C (Kd.int .i64) w A12 l12.length l12) (q12 : l12.length ≤ c12) (h13 : Kd.C (Kd.int .i64) w A13 l13.length l13) (q13 : l13.length ≤ c13) (h14 : Kd.C (Kd.int .i64) w A14 l14.length l14) (q14 : l14.length ≤ c14) (E4 : (a0 == 4) = x4) (E5 : (a0 == 5) = w5) (E6 : (a0 == 6) = x6) (E7 : (a0 != 7) = w7) (HD : Aside0 (dv = (x4 || (w5 || x6)))) (E10 : decide (0 < l10.length) = t10) (E11 : decide (0 < l11.length) = t11) (E12 : decide (0 < l12.length) = t12) (HV : Aside0 (bv = (((w5 && t10) || (dv && t11)) || (w7 && t12)))) (E14 : ((l14.length : Int) == 0) = z14) (hr : Aside0 (r = (if bv = true then false else (z14 || decide (sm > 0))))) (HS : Aside0 (sm = wrap64 (wrap64 (wrap64 (wrap64 (wrap64 (wrap64 (wrap64 ((l6.length : Int) + (l7.length : Int)) + (l8.length : Int)) + (l9.length : Int)) + (l10.length : Int)) + (l11.length : Int)) + (l12.length : Int)) + (l13.length : Int)))) :
 Calls Tryz.prog 51 #[.agg #[Value.int .i64 a0, Value.int .i64 a1, Value.int .i64 a2, Value.bool a3, Value.int .i64 a4, Value.bool a5, Value.slice A6 l6.length c6, Value.slice A7 l7.length c7, Value.slice A8 l8.length c8, Value.slice A9 l9.length c9, Value.slice A10 l10.length c10, Value.slice A11 l11.length c11, Value.slice A12 l12.length c12, Value.slice A13 l13.length c13, Value.slice A14 l14.length c14, Value.int .i64 a15]] w fun e w' => e = .returned (.bool r) ∧ Below w.heap.size w w' := by
 have HB := Aside0.mk (Below.refl w.heap.size w)
 have H6 := Aside0.mk h6; have Q6 := Aside0.mk q6
 have H7 := Aside0.mk h7; have Q7 := Aside0.mk q7
 have H8 := Aside0.mk h8; have Q8 := Aside0.mk q8
 have H9 := Aside0.mk h9; have Q9 := Aside0.mk q9
 have H10 := Aside0.mk h10; have Q10 := Aside0.mk q10
 have H11 := Aside0.mk h11; have Q11 := Aside0.mk q11
 have H12 := Aside0.mk h12; have Q12 := Aside0.mk q12
 have H13 := Aside0.mk h13; have Q13 := Aside0.mk q13
 have H14 := Aside0.mk h14; have Q14 := Aside0.mk q14
 clear h6 q6 h7 q7 h8 q8 h9 q9 h10 q10 h11 q11 h12 q12 h13 q13 h14 q14
 have hu25 := Tryz.underlying25
 have hu38 := Tryz.underlying38
 go_enter Tryz.func51, Tryz.ntmps51
 go_upto_region 1 with (first | ((with_reducible refine gate_dst (N := 1) rfl ?_); refine box_event ?hg (N := 1) ?hd (cs := #[Value.int .i64 a0, Value.int .i64 a1, Value.int .i64 a2, Value.bool a3, Value.int .i64 a4, Value.bool a5, Value.slice A6 l6.length c6, Value.slice A7 l7.length c7, Value.slice A8 l8.length c8, Value.slice A9 l9.length c9, Value.slice A10 l10.length c10, Value.slice A11 l11.length c11, Value.slice A12 l12.length c12, Value.slice A13 l13.length c13, Value.slice A14 l14.length c14, Value.int .i64 a15]) (t := 25) ?hr ?_; (case hd => rfl); (case hg => rfl); (case hr => first | (go_simp; done) | (go_simp; rfl)); intro ga hg_ w1_ hbox hb; replace HB := Aside0.mk (below_then HB.out HB.out.size hb); have Xga := Aside0.mk (show Bx w1_ ga a0 a1 a2 a3 a4 a5 A6 c6 l6 A7 c7 l7 A8 c8 l8 A9 c9 l9 A10 c10 l10 A11 c11 l11 A12 c12 l12 A13 c13 l13 A14 c14 l14 a15 from ⟨hbox, Kd.C_below H6.out hb, Q6.out, Kd.C_below H7.out hb, Q7.out, Kd.C_below H8.out hb, Q8.out, Kd.C_below H9.out hb, Q9.out, Kd.C_below H10.out hb, Q10.out, Kd.C_below H11.out hb, Q11.out, Kd.C_below H12.out hb, Q12.out, Kd.C_below H13.out hb, Q13.out, Kd.C_below H14.out hb, Q14.out⟩); clear hbox hb hg_))
 clear H6 Q6 H7 Q7 H8 Q8 H9 Q9 H10 Q10 H11 Q11 H12 Q12 H13 Q13 H14 Q14
 go_cut [3] from 5 to 17 (fun v3 wc => v3 = .bool dv ∧ Aside0 (Bx wc ga a0 a1 a2 a3 a4 a5 A6 c6 l6 A7 c7 l7 A8 c8 l8 A9 c9 l9 A10 c10 l10 A11 c11 l11 A12 c12 l12 A13 c13 l13 A14 c14 l14 a15) ∧ Aside0 (Below w.heap.size w wc))
 case first =>
  obtain ⟨P0, P1, P2, P3, P4, P5, P6, P7, P8, P9, P10, P11, P12, P13, P14, P15⟩ := cells16 Xga.out.b
  cases x4 with
  | true =>
   as_aux_lemma =>
    go_wp2
    repeat (go_quiet (fail); try go_wp2)
    go_meet
    case rel => exact ⟨by rw [HD.out]; rfl, Xga, HB⟩
  | false =>
   cases w5 with
   | true =>
    as_aux_lemma =>
     go_wp2
     repeat (go_quiet (fail); try go_wp2)
     go_meet
     case rel => exact ⟨by rw [HD.out]; rfl, Xga, HB⟩
   | false =>
    cases x6 with
    | true =>
     as_aux_lemma =>
      go_wp2
      repeat (go_quiet (fail); try go_wp2)
      go_meet
      case rel => exact ⟨by rw [HD.out]; rfl, Xga, HB⟩
    | false =>
     as_aux_lemma =>
      go_wp2
      repeat (go_quiet (fail); try go_wp2)
      go_meet
      case rel => exact ⟨by rw [HD.out]; rfl, Xga, HB⟩
 case rest =>
  clear Xga HB
  obtain ⟨rfl, Xga, HB⟩ := hcut
  go_upto_region 2 with (fail)
  go_cut [0, 3, 46] from 18 to 46 (fun v0 v3 v46 wc => v46 = .bool bv ∧ Aside0 (Bx wc ga a0 a1 a2 a3 a4 a5 A6 c6 l6 A7 c7 l7 A8 c8 l8 A9 c9 l9 A10 c10 l10 A11 c11 l11 A12 c12 l12 A13 c13 l13 A14 c14 l14 a15) ∧ Aside0 (Below w.heap.size w wc))
  case first =>
   obtain ⟨P0, P1, P2, P3, P4, P5, P6, P7, P8, P9, P10, P11, P12, P13, P14, P15⟩ := cells16 Xga.out.b
   clear HD E4 E6
   cases w5 with
   | true =>
    cases t10 with
    | true =>
     as_aux_lemma =>
      go_wp2
      repeat (go_quiet (fail); try go_wp2)
      go_meet
      case rel => exact ⟨by rw [HV.out]; rfl, Xga, HB⟩
    | false =>
     cases dv with
     | true =>
      cases t11 with
      | true =>
       as_aux_lemma =>
        go_wp2
        repeat (go_quiet (fail); try go_wp2)
        go_meet
        case rel => exact ⟨by rw [HV.out]; rfl, Xga, HB⟩
      | false =>
       cases w7 with
       | true =>
        cases t12 with
        | true =>
         as_aux_lemma =>
          go_wp2
          repeat (go_quiet (fail); try go_wp2)
          go_meet
          case rel => exact ⟨by rw [HV.out]; rfl, Xga, HB⟩
        | false =>
         as_aux_lemma =>
          go_wp2
          repeat (go_quiet (fail); try go_wp2)
          go_meet
          case rel => exact ⟨by rw [HV.out]; rfl, Xga, HB⟩
       | false =>
        as_aux_lemma =>
         go_wp2
         repeat (go_quiet (fail); try go_wp2)
         go_meet
         case rel => exact ⟨by rw [HV.out]; rfl, Xga, HB⟩
     | false =>
      cases w7 with
      | true =>
       cases t12 with
       | true =>
        as_aux_lemma =>
         go_wp2
         repeat (go_quiet (fail); try go_wp2)
         go_meet
         case rel => exact ⟨by rw [HV.out]; rfl, Xga, HB⟩
       | false =>
        as_aux_lemma =>
         go_wp2
         repeat (go_quiet (fail); try go_wp2)
         go_meet
         case rel => exact ⟨by rw [HV.out]; rfl, Xga, HB⟩
      | false =>
       as_aux_lemma =>
        go_wp2
        repeat (go_quiet (fail); try go_wp2)
        go_meet
        case rel => exact ⟨by rw [HV.out]; rfl, Xga, HB⟩
   | false =>
    cases dv with
    | true =>
     cases t11 with
     | true =>
      as_aux_lemma =>
       go_wp2
       repeat (go_quiet (fail); try go_wp2)
       go_meet
       case rel => exact ⟨by rw [HV.out]; rfl, Xga, HB⟩
     | false =>
      cases w7 with
      | true =>
       cases t12 with
       | true =>
        as_aux_lemma =>
         go_wp2
         repeat (go_quiet (fail); try go_wp2)
         go_meet
         case rel => exact ⟨by rw [HV.out]; rfl, Xga, HB⟩
       | false =>
        as_aux_lemma =>
         go_wp2
         repeat (go_quiet (fail); try go_wp2)
         go_meet
         case rel => exact ⟨by rw [HV.out]; rfl, Xga, HB⟩
      | false =>
       as_aux_lemma =>
        go_wp2
        repeat (go_quiet (fail); try go_wp2)
        go_meet
        case rel => exact ⟨by rw [HV.out]; rfl, Xga, HB⟩
    | false =>
     cases w7 with
     | true =>
      cases t12 with
      | true =>
       as_aux_lemma =>
        go_wp2
        repeat (go_quiet (fail); try go_wp2)
        go_meet
        case rel => exact ⟨by rw [HV.out]; rfl, Xga, HB⟩
      | false =>
       as_aux_lemma =>
        go_wp2
        repeat (go_quiet (fail); try go_wp2)
        go_meet
        case rel => exact ⟨by rw [HV.out]; rfl, Xga, HB⟩
     | false =>
      as_aux_lemma =>
       go_wp2
       repeat (go_quiet (fail); try go_wp2)
       go_meet
       case rel => exact ⟨by rw [HV.out]; rfl, Xga, HB⟩
  case rest =>
   clear Xga HB
   obtain ⟨rfl, Xga, HB⟩ := hcut
   cases bv with
   | true =>
    as_aux_lemma =>
     go_wp2
     go_ret
     exact ⟨by rw [hr.out]; rfl, HB.out⟩
   | false =>
    go_upto_region 4 with (fail)
    go_cut [4] from 47 to 77 (fun v4 wc => v4 = .int .i64 sm ∧ Aside0 (Bx wc ga a0 a1 a2 a3 a4 a5 A6 c6 l6 A7 c7 l7 A8 c8 l8 A9 c9 l9 A10 c10 l10 A11 c11 l11 A12 c12 l12 A13 c13 l13 A14 c14 l14 a15) ∧ Aside0 (Below w.heap.size w wc))
    case first =>
     obtain ⟨P0, P1, P2, P3, P4, P5, P6, P7, P8, P9, P10, P11, P12, P13, P14, P15⟩ := cells16 Xga.out.b
     go_wp2
     repeat (go_quiet (fail); try go_wp2)
     go_meet
     case rel => exact ⟨by rw [HS.out], Xga, HB⟩
    case rest =>
     clear Xga HB
     obtain ⟨rfl, Xga, HB⟩ := hcut
     obtain ⟨P0, P1, P2, P3, P4, P5, P6, P7, P8, P9, P10, P11, P12, P13, P14, P15⟩ := cells16 Xga.out.b
     cases z14 with
     | true =>
      as_aux_lemma =>
       go_wp2
       repeat (go_quiet (fail); try go_wp2)
       go_ret
       exact ⟨by rw [hr.out]; rfl, HB.out⟩
     | false =>
      as_aux_lemma =>
       go_wp2
       repeat (go_quiet (fail); try go_wp2)
       go_ret
       exact ⟨by rw [hr.out]; rfl, HB.out⟩
theorem recur_beside.calls (a0 : Int) (a1 : Int) (a2 : Int) (a3 : Bool) (a4 : Int) (a5 : Bool) (A6 : Option Addr) (c6 : Nat) (l6 : List Int) (A7 : Option Addr) (c7 : Nat) (l7 : List Int) (A8 : Option Addr) (c8 : Nat) (l8 : List Int) (A9 : Option Addr) (c9 : Nat) (l9 : List S38) (A10 : Option Addr) (c10 : Nat) (l10 : List Int) (A11 : Option Addr) (c11 : Nat) (l11 : List Int) (A12 : Option Addr) (c12 : Nat) (l12 : List Int) (A13 : Option Addr) (c13 : Nat) (l13 : List Int) (A14 : Option Addr) (c14 : Nat) (l14 : List Int) (a15 : Int) (r : Bool) (w : World) (h6 : Kd.C (Kd.int .i64) w A6 l6.length l6) (q6 : l6.length ≤ c6) (h7 : Kd.C (Kd.int .i64) w A7 l7.length l7) (q7 : l7.length ≤ c7) (h8 : Kd.C (Kd.int .i64) w A8 l8.length l8) (q8 : l8.length ≤ c8) (h9 : Kd.C k38 w A9 l9.length l9) (q9 : l9.length ≤ c9) (h10 : Kd.C (Kd.int .i64) w A10 l10.length l10) (q10 : l10.length ≤ c10) (h11 : Kd.C (Kd.int .i64) w A11 l11.length l11) (q11 : l11.length ≤ c11) (h12 : Kd.C (Kd.int .i64) w A12 l12.length l12) (q12 : l12.length ≤ c12) (h13 : Kd.C (Kd.int .i64) w A13 l13.length l13) (q13 : l13.length ≤ c13) (h14 : Kd.C (Kd.int .i64) w A14 l14.length l14) (q14 : l14.length ≤ c14) (h : recur_beside.f a0 a1 a2 a3 a4 a5 l6 l7 l8 l9 l10 l11 l12 l13 l14 a15 = some r) :
 Calls Tryz.prog 51 #[.agg #[Value.int .i64 a0, Value.int .i64 a1, Value.int .i64 a2, Value.bool a3, Value.int .i64 a4, Value.bool a5, Value.slice A6 l6.length c6, Value.slice A7 l7.length c7, Value.slice A8 l8.length c8, Value.slice A9 l9.length c9, Value.slice A10 l10.length c10, Value.slice A11 l11.length c11, Value.slice A12 l12.length c12, Value.slice A13 l13.length c13, Value.slice A14 l14.length c14, Value.int .i64 a15]] w fun e w' => e = .returned (.bool r) ∧ Below w.heap.size w w' :=
 beside_walk a0 a1 a2 a3 a4 a5 A6 c6 l6 A7 c7 l7 A8 c8 l8 A9 c9 l9 A10 c10 l10 A11 c11 l11 A12 c12 l12 A13 c13 l13 A14 c14 l14 a15 _ r _ _ _ _ _ _ _ _ _ _ w h6 q6 h7 q7 h8 q8 h9 q9 h10 q10 h11 q11 h12 q12 h13 q13 h14 q14 rfl rfl rfl rfl ⟨rfl⟩ rfl rfl rfl ⟨rfl⟩ rfl ⟨(Option.some.inj h).symm⟩ ⟨rfl⟩
end Go.Proofs.YtjanombhdnoemaaGreatDoor.PRec
