-- A text of the kit's tools for this claim, its remarks left out.
import Derived.Test.YtjanombhdnoemaaGreatDoorRecE
import Derived.Test.YtjanombhdnoemaaGreatDoorRecG
import Derived.Test.YtjanombhdnoemaaGreatDoorRecQ
import Derived.Test.YtjanombhdnoemaaGreatDoorRecXa
import Derived.Test.YtjanombhdnoemaaGreatDoorRecW
import Derived.Test.YtjanombhdnoemaaGreatDoorStr
import Derived.Test.YtjanombhdnoemaaGreatDoorPRecx1
import Derived.Test.YtjanombhdnoemaaGreatDoorERecx12
namespace Go.Proofs.YtjanombhdnoemaaGreatDoor.PRec
open Go.RowKit Go.Proofs.YtjanombhdnoemaaGreatDoorW.PrintWords Go.Proofs.YtjanombhdnoemaaGreatDoorW.PrintLast Go.Proofs.YtjanombhdnoemaaGreatDoorW.PrintMore Go.Proofs.YtjanombhdnoemaaGreatDoor.Base
attribute [local go_sem] max2_int min2_int max_two min_two max_three min_three max_four min_four
set_option linter.unusedVariables false
set_option linter.unusedSimpArgs false
theorem Ints_L0 (a b : List Int) (hl : (a.length : Int) = b.length) (hb : (a.length : Int) ≤ 9223372036854775806) : ∀ (k : Nat) (i : Int), i + k = a.length → 0 ≤ i → solsticekeep_Ints.L0 a b i = some (decide (a.drop i.toNat = b.drop i.toNat)) := by
 intro k
 induction k with
 | zero =>
  intro i h1 h2
  rw [solsticekeep_Ints.L0_eq, if_neg (by omega), drop_nil_ (by omega), drop_nil_ (by omega)]
  rfl
 | succ k ih =>
  intro i h1 h2
  rw [solsticekeep_Ints.L0_eq, if_pos (by omega), if_pos h2, if_pos (by omega), drop_cons_ 0 h2 (by omega), drop_cons_ 0 h2 (l := b) (by omega), wrap64_id (by omega) (by omega), ih (i + 1) (by omega) (by omega)]
  by_cases h : rd a i = rd b i
  ·rw [if_pos h]
   congr 1
   apply decide_eq_decide.2
   rw [List.cons.injEq]
   exact ⟨fun e => ⟨h, e⟩, fun e => e.2⟩
  ·rw [if_neg h]
   congr 1
   refine (decide_eq_false fun e => h ?_).symm
   injection e
theorem Ints_eq (a b : List Int) (hb : (a.length : Int) ≤ 9223372036854775806) : solsticekeep_Ints.F a b = some (decide (a = b)) := by
 rw [solsticekeep_Ints.F_eq]
 by_cases h : (a.length : Int) = (b.length : Int)
 ·rw [if_pos h, Ints_L0 a b h hb a.length 0 (by omega) (by omega)]
  rfl
 ·rw [if_neg h]
  congr 1
  refine (decide_eq_false fun e => h ?_).symm
  rw [e]
theorem ints_calls (A : Option Addr) (c : Nat) (l : List Int) (A' : Option Addr) (c' : Nat) (l' : List Int) (r : Bool) (w : World) (h : Kd.C (Kd.int .i64) w A l.length l) (q : l.length ≤ c) (h' : Kd.C (Kd.int .i64) w A' l'.length l') (q' : l'.length ≤ c') (hl : l.length ≤ 100000000) (hr : decide (l = l') = r) :
 Calls Tryz.prog 15 #[.slice A l.length c, .slice A' l'.length c'] w fun e w' => e = .returned (.bool r) ∧ Below w.heap.size w w' := by
 have hF := Ints_eq l l' (by omega)
 rw [hr] at hF
 obtain ⟨k, hk⟩ := lim_some hF
 exact (solsticekeep_Ints.calls k A c l A' c' l' r w h q h' q' hk).mono fun e w' hw => ⟨hw.1, hw.2.below⟩
attribute [local go_sem high] eqA38
set_option maxHeartbeats 16000000 in
set_option maxRecDepth 100000 in
theorem keep_calls (a0 : Int) (a1 : Int) (a2 : Int) (a3 : Bool) (a4 : Int) (a5 : Bool) (A6 : Option Addr) (c6 : Nat) (l6 : List Int) (A7 : Option Addr) (c7 : Nat) (l7 : List Int) (A8 : Option Addr) (c8 : Nat) (l8 : List Int) (A9 : Option Addr) (c9 : Nat) (l9 : List S38) (A10 : Option Addr) (c10 : Nat) (l10 : List Int) (A11 : Option Addr) (c11 : Nat) (l11 : List Int) (A12 : Option Addr) (c12 : Nat) (l12 : List Int) (A13 : Option Addr) (c13 : Nat) (l13 : List Int) (A14 : Option Addr) (c14 : Nat) (l14 : List Int) (a15 : Int) (b0 : Int) (b1 : Int) (b2 : Int) (b3 : Bool) (b4 : Int) (b5 : Bool) (B6 : Option Addr) (d6 : Nat) (m6 : List Int) (B7 : Option Addr) (d7 : Nat) (m7 : List Int) (B8 : Option Addr) (d8 : Nat) (m8 : List Int) (B9 : Option Addr) (d9 : Nat) (m9 : List S38) (B10 : Option Addr) (d10 : Nat) (m10 : List Int) (B11 : Option Addr) (d11 : Nat) (m11 : List Int) (B12 : Option Addr) (d12 : Nat) (m12 : List Int) (B13 : Option Addr) (d13 : Nat) (m13 : List Int) (B14 : Option Addr) (d14 : Nat) (m14 : List Int) (b15 : Int) (hv : Bool) (r6 : Bool) (r7 : Bool) (r8 : Bool) (r10 : Bool) (r11 : Bool) (r12 : Bool) (r13 : Bool) (r14 : Bool) (w : World) (h6 : Kd.C (Kd.int .i64) w A6 l6.length l6) (q6 : l6.length ≤ c6) (h7 : Kd.C (Kd.int .i64) w A7 l7.length l7) (q7 : l7.length ≤ c7) (h8 : Kd.C (Kd.int .i64) w A8 l8.length l8) (q8 : l8.length ≤ c8) (h9 : Kd.C k38 w A9 l9.length l9) (q9 : l9.length ≤ c9) (h10 : Kd.C (Kd.int .i64) w A10 l10.length l10) (q10 : l10.length ≤ c10) (h11 : Kd.C (Kd.int .i64) w A11 l11.length l11) (q11 : l11.length ≤ c11) (h12 : Kd.C (Kd.int .i64) w A12 l12.length l12) (q12 : l12.length ≤ c12) (h13 : Kd.C (Kd.int .i64) w A13 l13.length l13) (q13 : l13.length ≤ c13) (h14 : Kd.C (Kd.int .i64) w A14 l14.length l14) (q14 : l14.length ≤ c14) (k6 : Kd.C (Kd.int .i64) w B6 m6.length m6) (u6 : m6.length ≤ d6) (k7 : Kd.C (Kd.int .i64) w B7 m7.length m7) (u7 : m7.length ≤ d7) (k8 : Kd.C (Kd.int .i64) w B8 m8.length m8) (u8 : m8.length ≤ d8) (k9 : Kd.C k38 w B9 m9.length m9) (u9 : m9.length ≤ d9) (k10 : Kd.C (Kd.int .i64) w B10 m10.length m10) (u10 : m10.length ≤ d10) (k11 : Kd.C (Kd.int .i64) w B11 m11.length m11) (u11 : m11.length ≤ d11) (k12 : Kd.C (Kd.int .i64) w B12 m12.length m12) (u12 : m12.length ≤ d12) (k13 : Kd.C (Kd.int .i64) w B13 m13.length m13) (u13 : m13.length ≤ d13) (k14 : Kd.C (Kd.int .i64) w B14 m14.length m14) (u14 : m14.length ≤ d14) (hL9 : Aside0 (l9.length ≤ 100000000)) (hL6 : Aside0 (l6.length ≤ 100000000)) (hL7 : Aside0 (l7.length ≤ 100000000)) (hL8 : Aside0 (l8.length ≤ 100000000)) (hL10 : Aside0 (l10.length ≤ 100000000)) (hL11 : Aside0 (l11.length ≤ 100000000)) (hL12 : Aside0 (l12.length ≤ 100000000)) (hL13 : Aside0 (l13.length ≤ 100000000)) (hL14 : Aside0 (l14.length ≤ 100000000)) (hH : hv = (a0 == b0 && (a1 == b1 && (a2 == b2 && (a3 == b3 && (a4 == b4 && (a5 == b5 && (a15 == b15 && ((l9.length : Int) == (m9.length : Int)))))))))) (E6 : Aside0 (decide (l6 = m6) = r6)) (E7 : Aside0 (decide (l7 = m7) = r7)) (E8 : Aside0 (decide (l8 = m8) = r8)) (E10 : Aside0 (decide (l10 = m10) = r10)) (E11 : Aside0 (decide (l11 = m11) = r11)) (E12 : Aside0 (decide (l12 = m12) = r12)) (E13 : Aside0 (decide (l13 = m13) = r13)) (E14 : Aside0 (decide (l14 = m14) = r14)) :
 Calls Tryz.prog 13 #[.agg #[Value.int .i64 a0, Value.int .i64 a1, Value.int .i64 a2, Value.bool a3, Value.int .i64 a4, Value.bool a5, Value.slice A6 l6.length c6, Value.slice A7 l7.length c7, Value.slice A8 l8.length c8, Value.slice A9 l9.length c9, Value.slice A10 l10.length c10, Value.slice A11 l11.length c11, Value.slice A12 l12.length c12, Value.slice A13 l13.length c13, Value.slice A14 l14.length c14, Value.int .i64 a15], .agg #[Value.int .i64 b0, Value.int .i64 b1, Value.int .i64 b2, Value.bool b3, Value.int .i64 b4, Value.bool b5, Value.slice B6 m6.length d6, Value.slice B7 m7.length d7, Value.slice B8 m8.length d8, Value.slice B9 m9.length d9, Value.slice B10 m10.length d10, Value.slice B11 m11.length d11, Value.slice B12 m12.length d12, Value.slice B13 m13.length d13, Value.slice B14 m14.length d14, Value.int .i64 b15]] w fun e w' => e = .returned (.bool (hv && (decide (l9 = m9) && (r6 && (r7 && (r8 && (r10 && (r11 && (r12 && (r13 && (r14))))))))))) ∧ Below w.heap.size w w' := by
 have HB := Aside0.mk (Below.refl w.heap.size w)
 have H6 := Aside0.mk h6; have Q6 := Aside0.mk q6; have K6 := Aside0.mk k6; have U6 := Aside0.mk u6
 have H7 := Aside0.mk h7; have Q7 := Aside0.mk q7; have K7 := Aside0.mk k7; have U7 := Aside0.mk u7
 have H8 := Aside0.mk h8; have Q8 := Aside0.mk q8; have K8 := Aside0.mk k8; have U8 := Aside0.mk u8
 have H9 := Aside0.mk h9; have Q9 := Aside0.mk q9; have K9 := Aside0.mk k9; have U9 := Aside0.mk u9
 have H10 := Aside0.mk h10; have Q10 := Aside0.mk q10; have K10 := Aside0.mk k10; have U10 := Aside0.mk u10
 have H11 := Aside0.mk h11; have Q11 := Aside0.mk q11; have K11 := Aside0.mk k11; have U11 := Aside0.mk u11
 have H12 := Aside0.mk h12; have Q12 := Aside0.mk q12; have K12 := Aside0.mk k12; have U12 := Aside0.mk u12
 have H13 := Aside0.mk h13; have Q13 := Aside0.mk q13; have K13 := Aside0.mk k13; have U13 := Aside0.mk u13
 have H14 := Aside0.mk h14; have Q14 := Aside0.mk q14; have K14 := Aside0.mk k14; have U14 := Aside0.mk u14
 clear h6 q6 k6 u6 h7 q7 k7 u7 h8 q8 k8 u8 h9 q9 k9 u9 h10 q10 k10 u10 h11 q11 k11 u11 h12 q12 k12 u12 h13 q13 k13 u13 h14 q14 k14 u14
 have hu25 := Tryz.underlying25
 have hu38 := Tryz.underlying38
 go_enter Tryz.func13, Tryz.ntmps13
 go_upto_region 1 with (first | ((with_reducible refine gate_dst (N := 2) rfl ?_); refine box_event ?hg (N := 2) ?hd (cs := #[Value.int .i64 a0, Value.int .i64 a1, Value.int .i64 a2, Value.bool a3, Value.int .i64 a4, Value.bool a5, Value.slice A6 l6.length c6, Value.slice A7 l7.length c7, Value.slice A8 l8.length c8, Value.slice A9 l9.length c9, Value.slice A10 l10.length c10, Value.slice A11 l11.length c11, Value.slice A12 l12.length c12, Value.slice A13 l13.length c13, Value.slice A14 l14.length c14, Value.int .i64 a15]) (t := 25) ?hr ?_; (case hd => rfl); (case hg => rfl); (case hr => first | (go_simp; done) | (go_simp; rfl)); intro ga hg_ w1_ hbox hb; have hb1_ := Aside0.mk hb; replace HB := Aside0.mk (below_then HB.out HB.out.size hb); have Xga := Aside0.mk (show Bx w1_ ga a0 a1 a2 a3 a4 a5 A6 c6 l6 A7 c7 l7 A8 c8 l8 A9 c9 l9 A10 c10 l10 A11 c11 l11 A12 c12 l12 A13 c13 l13 A14 c14 l14 a15 from ⟨hbox, Kd.C_below H6.out hb, Q6.out, Kd.C_below H7.out hb, Q7.out, Kd.C_below H8.out hb, Q8.out, Kd.C_below H9.out hb, Q9.out, Kd.C_below H10.out hb, Q10.out, Kd.C_below H11.out hb, Q11.out, Kd.C_below H12.out hb, Q12.out, Kd.C_below H13.out hb, Q13.out, Kd.C_below H14.out hb, Q14.out⟩); clear hbox hb hg_) | ((with_reducible refine gate_dst (N := 3) rfl ?_); refine box_event ?hg (N := 3) ?hd (cs := #[Value.int .i64 b0, Value.int .i64 b1, Value.int .i64 b2, Value.bool b3, Value.int .i64 b4, Value.bool b5, Value.slice B6 m6.length d6, Value.slice B7 m7.length d7, Value.slice B8 m8.length d8, Value.slice B9 m9.length d9, Value.slice B10 m10.length d10, Value.slice B11 m11.length d11, Value.slice B12 m12.length d12, Value.slice B13 m13.length d13, Value.slice B14 m14.length d14, Value.int .i64 b15]) (t := 25) ?hr ?_; (case hd => rfl); (case hg => rfl); (case hr => first | (go_simp; done) | (go_simp; rfl)); intro gz hg_ w2_ hbox hb; replace HB := Aside0.mk (below_then HB.out HB.out.size hb); replace Xga := Aside0.mk (Xga.out.below hb); have Xgz := Aside0.mk (show Bx w2_ gz b0 b1 b2 b3 b4 b5 B6 d6 m6 B7 d7 m7 B8 d8 m8 B9 d9 m9 B10 d10 m10 B11 d11 m11 B12 d12 m12 B13 d13 m13 B14 d14 m14 b15 from ⟨hbox, Kd.C_below (Kd.C_below K6.out hb1_.out) hb, U6.out, Kd.C_below (Kd.C_below K7.out hb1_.out) hb, U7.out, Kd.C_below (Kd.C_below K8.out hb1_.out) hb, U8.out, Kd.C_below (Kd.C_below K9.out hb1_.out) hb, U9.out, Kd.C_below (Kd.C_below K10.out hb1_.out) hb, U10.out, Kd.C_below (Kd.C_below K11.out hb1_.out) hb, U11.out, Kd.C_below (Kd.C_below K12.out hb1_.out) hb, U12.out, Kd.C_below (Kd.C_below K13.out hb1_.out) hb, U13.out, Kd.C_below (Kd.C_below K14.out hb1_.out) hb, U14.out⟩); clear hbox hb hg_))
 clear H6 Q6 K6 U6 H7 Q7 K7 U7 H8 Q8 K8 U8 H9 Q9 K9 U9 H10 Q10 K10 U10 H11 Q11 K11 U11 H12 Q12 K12 U12 H13 Q13 K13 U13 H14 Q14 K14 U14 hb1_
 go_cut [61] from 6 to 61 (fun v61 wc => v61 = .bool (!hv) ∧ Aside0 (Bx wc ga a0 a1 a2 a3 a4 a5 A6 c6 l6 A7 c7 l7 A8 c8 l8 A9 c9 l9 A10 c10 l10 A11 c11 l11 A12 c12 l12 A13 c13 l13 A14 c14 l14 a15) ∧ Aside0 (Bx wc gz b0 b1 b2 b3 b4 b5 B6 d6 m6 B7 d7 m7 B8 d8 m8 B9 d9 m9 B10 d10 m10 B11 d11 m11 B12 d12 m12 B13 d13 m13 B14 d14 m14 b15) ∧ Aside0 (Below w.heap.size w wc))
 case first =>
  obtain ⟨P0, P1, P2, P3, P4, P5, P6, P7, P8, P9, P10, P11, P12, P13, P14, P15⟩ := cells16 Xga.out.b
  obtain ⟨R0, R1, R2, R3, R4, R5, R6, R7, R8, R9, R10, R11, R12, R13, R14, R15⟩ := cells16 Xgz.out.b
  by_cases c0 : a0 = b0
  rotate_left
  ·
   have f0 : (a0 != b0) = true := bne_iff_ne.mpr c0
   have g0 : (a0 == b0) = false := by simpa using c0
   have hv0 : hv = false := by rw [hH]; simp [g0]
   clear hH c0
   as_aux_lemma =>
    go_wp2
    repeat (go_quiet (fail); try go_wp2)
    go_meet
    case rel => exact ⟨by rw [hv0]; rfl, Xga, Xgz, HB⟩
  have f0 : (a0 != b0) = false := bne_eq_false_iff_eq.mpr c0
  have g0 : (a0 == b0) = true := beq_iff_eq.mpr c0
  clear c0
  by_cases c1 : a1 = b1
  rotate_left
  ·
   have f1 : (a1 != b1) = true := bne_iff_ne.mpr c1
   have g1 : (a1 == b1) = false := by simpa using c1
   have hv0 : hv = false := by rw [hH]; simp [g0, g1]
   clear hH c1
   as_aux_lemma =>
    go_wp2
    repeat (go_quiet (fail); try go_wp2)
    go_meet
    case rel => exact ⟨by rw [hv0]; rfl, Xga, Xgz, HB⟩
  have f1 : (a1 != b1) = false := bne_eq_false_iff_eq.mpr c1
  have g1 : (a1 == b1) = true := beq_iff_eq.mpr c1
  clear c1
  by_cases c2 : a2 = b2
  rotate_left
  ·
   have f2 : (a2 != b2) = true := bne_iff_ne.mpr c2
   have g2 : (a2 == b2) = false := by simpa using c2
   have hv0 : hv = false := by rw [hH]; simp [g0, g1, g2]
   clear hH c2
   as_aux_lemma =>
    go_wp2
    repeat (go_quiet (fail); try go_wp2)
    go_meet
    case rel => exact ⟨by rw [hv0]; rfl, Xga, Xgz, HB⟩
  have f2 : (a2 != b2) = false := bne_eq_false_iff_eq.mpr c2
  have g2 : (a2 == b2) = true := beq_iff_eq.mpr c2
  clear c2
  by_cases c3 : a3 = b3
  rotate_left
  ·
   have f3 : (a3 != b3) = true := bne_iff_ne.mpr c3
   have g3 : (a3 == b3) = false := by simpa using c3
   have hv0 : hv = false := by rw [hH]; simp [g0, g1, g2, g3]
   have k3_ : decide (a3 = b3) = false := decide_eq_false c3
   clear hH c3
   as_aux_lemma =>
    go_wp2
    repeat (go_quiet (fail); try go_wp2)
    go_meet
    case rel => exact ⟨by rw [hv0]; rfl, Xga, Xgz, HB⟩
  have f3 : (a3 != b3) = false := bne_eq_false_iff_eq.mpr c3
  have g3 : (a3 == b3) = true := beq_iff_eq.mpr c3
  have k3_ : decide (a3 = b3) = true := decide_eq_true c3
  clear c3
  by_cases c4 : a4 = b4
  rotate_left
  ·
   have f4 : (a4 != b4) = true := bne_iff_ne.mpr c4
   have g4 : (a4 == b4) = false := by simpa using c4
   have hv0 : hv = false := by rw [hH]; simp [g0, g1, g2, g3, g4]
   clear hH c4
   as_aux_lemma =>
    go_wp2
    repeat (go_quiet (fail); try go_wp2)
    go_meet
    case rel => exact ⟨by rw [hv0]; rfl, Xga, Xgz, HB⟩
  have f4 : (a4 != b4) = false := bne_eq_false_iff_eq.mpr c4
  have g4 : (a4 == b4) = true := beq_iff_eq.mpr c4
  clear c4
  by_cases c5 : a5 = b5
  rotate_left
  ·
   have f5 : (a5 != b5) = true := bne_iff_ne.mpr c5
   have g5 : (a5 == b5) = false := by simpa using c5
   have hv0 : hv = false := by rw [hH]; simp [g0, g1, g2, g3, g4, g5]
   have k5_ : decide (a5 = b5) = false := decide_eq_false c5
   clear hH c5
   as_aux_lemma =>
    go_wp2
    repeat (go_quiet (fail); try go_wp2)
    go_meet
    case rel => exact ⟨by rw [hv0]; rfl, Xga, Xgz, HB⟩
  have f5 : (a5 != b5) = false := bne_eq_false_iff_eq.mpr c5
  have g5 : (a5 == b5) = true := beq_iff_eq.mpr c5
  have k5_ : decide (a5 = b5) = true := decide_eq_true c5
  clear c5
  by_cases c15 : a15 = b15
  rotate_left
  ·
   have f15 : (a15 != b15) = true := bne_iff_ne.mpr c15
   have g15 : (a15 == b15) = false := by simpa using c15
   have hv0 : hv = false := by rw [hH]; simp [g0, g1, g2, g3, g4, g5, g15]
   clear hH c15
   as_aux_lemma =>
    go_wp2
    repeat (go_quiet (fail); try go_wp2)
    go_meet
    case rel => exact ⟨by rw [hv0]; rfl, Xga, Xgz, HB⟩
  have f15 : (a15 != b15) = false := bne_eq_false_iff_eq.mpr c15
  have g15 : (a15 == b15) = true := beq_iff_eq.mpr c15
  clear c15
  have hv0 : hv = ((l9.length : Int) == (m9.length : Int)) := by rw [hH, g0, g1, g2, g3, g4, g5, g15]; rfl
  clear hH
  by_cases c9 : (l9.length : Int) = (m9.length : Int)
  ·
   have f9 : ((l9.length : Int) != (m9.length : Int)) = false := by simpa using c9
   have hv1 : hv = true := by rw [hv0]; simpa using c9
   clear c9 hv0
   as_aux_lemma =>
    go_wp2
    repeat (go_quiet (fail); try go_wp2)
    go_meet
    case rel => exact ⟨by rw [hv1]; rfl, Xga, Xgz, HB⟩
  ·
   have f9 : ((l9.length : Int) != (m9.length : Int)) = true := by simpa using c9
   have hv1 : hv = false := by rw [hv0]; simpa using c9
   clear c9 hv0
   as_aux_lemma =>
    go_wp2
    repeat (go_quiet (fail); try go_wp2)
    go_meet
    case rel => exact ⟨by rw [hv1]; rfl, Xga, Xgz, HB⟩
 case rest =>
  clear Xga Xgz HB
  obtain ⟨rfl, Xga, Xgz, HB⟩ := hcut
  cases hv with
  | false =>
   clear hH
   go_wp2
   go_ret
   exact ⟨by rfl, HB.out⟩
  | true =>
   have hlen : (l9.length : Int) = (m9.length : Int) := by
    have h := hH.symm
    simp only [Bool.and_eq_true, beq_iff_eq] at h
    omega
   clear hH
   replace hlen := Aside0.mk hlen
   go_wp2
   go_loopg [5] l9.length (fun kq v5 w' => ∃ x : Int, v5 = .int .i64 x ∧ Aside0 (0 ≤ x ∧ x ≤ l9.length ∧ kq = l9.length - x.toNat ∧ l9.take x.toNat = m9.take x.toNat) ∧ Aside0 (Bx w' ga a0 a1 a2 a3 a4 a5 A6 c6 l6 A7 c7 l7 A8 c8 l8 A9 c9 l9 A10 c10 l10 A11 c11 l11 A12 c12 l12 A13 c13 l13 A14 c14 l14 a15) ∧ Aside0 (Bx w' gz b0 b1 b2 b3 b4 b5 B6 d6 m6 B7 d7 m7 B8 d8 m8 B9 d9 m9 B10 d10 m10 B11 d11 m11 B12 d12 m12 B13 d13 m13 B14 d14 m14 b15) ∧ Aside0 (Below w.heap.size w w'))
   case atStart => exact ⟨0, by rfl, ⟨Int.le_refl _, by omega, rfl, rfl⟩, Xga, Xgz, HB⟩
   case round =>
    clear Xga Xgz HB
    obtain ⟨x, rfl, HI, Xga, Xgz, HB⟩ := hrel
    obtain ⟨P0, P1, P2, P3, P4, P5, P6, P7, P8, P9, P10, P11, P12, P13, P14, P15⟩ := cells16 Xga.out.b
    obtain ⟨R0, R1, R2, R3, R4, R5, R6, R7, R8, R9, R10, R11, R12, R13, R14, R15⟩ := cells16 Xgz.out.b
    by_cases c : x < (l9.length : Int)
    ·
     have cb : decide (x < (l9.length : Int)) = true := decide_eq_true c
     have x0 : 0 ≤ x := HI.out.1
     have x2 : x < (m9.length : Int) := by have := hlen.out; omega
     have n1 : x.toNat < l9.length := by omega
     have n2 : x.toNat < m9.length := by omega
     obtain ⟨ad1, e1, hx0, hx1⟩ := at_T38 Xga.out.h9 x x0 c
     obtain ⟨ad2, e2, hy0, hy1⟩ := at_T38 Xgz.out.h9 x x0 x2
     obtain ⟨hr1, hr2⟩ : rd_T38 l9 x = l9[x.toNat] ∧ rd_T38 m9 x = m9[x.toNat] := by
      unfold rd_T38
      rw [List.getD_eq_getElem?_getD, List.getD_eq_getElem?_getD, List.getElem?_eq_getElem n1, List.getElem?_eq_getElem n2]
      exact ⟨rfl, rfl⟩
     have HN := Aside0.mk (show x + 1 ≤ l9.length ∧ (l9.take (x + 1).toNat = m9.take (x + 1).toNat ↔ rd_T38 l9 x = rd_T38 m9 x) from ⟨by omega, by
      rw [show (x + 1).toNat = x.toNat + 1 by omega, List.take_succ_eq_append_getElem n1, List.take_succ_eq_append_getElem n2, HI.out.2.2.2, hr1, hr2]
      exact ⟨fun h => (List.cons.inj (List.append_cancel_left h)).1, fun h => by rw [h]⟩⟩)
     have hne : rd_T38 l9 x ≠ rd_T38 m9 x → l9 ≠ m9 := fun q h => by
      have hN := HN.out.2
      rw [h] at hN q
      exact q (hN.1 rfl)
     clear hr1 hr2 n1 n2 c
     generalize rd_T38 l9 x = z1 at hx0 hx1 HN hne
     generalize rd_T38 m9 x = z2 at hy0 hy1 HN hne
     replace x0 := eq_true x0
     have p1 : (x < (l9.length : Int)) = True := eq_true (of_decide_eq_true cb)
     replace x2 := eq_true x2
     cases e1
     cases e2
     by_cases q : z1 = z2
     ·
      have qb : (!(z1.f0 == z2.f0) || (!(z1.f1 == z2.f1))) = false := by rw [q]; simp
      clear hne
      as_aux_lemma =>
       go_wp2
       repeat (go_quiet (fail); try go_wp2)
       go_roundg (l9.length - (x + 1).toNat)
       case measure => have hI := HI.out; have hN := HN.out; omega
       case rel => exact ⟨wrap64 (x + 1), by rfl, ⟨by have hI := HI.out; have hN := HN.out; have := hL9.out; rw [wrap64_id (by omega) (by omega)]; exact ⟨by omega, hN.1, rfl, hN.2.2 q⟩⟩, ⟨Xga.out.below (pw_below_drewN (Below.refl _ _) _)⟩, ⟨Xgz.out.below (pw_below_drewN (Below.refl _ _) _)⟩, ⟨pw_below_drewN HB.out _⟩⟩
     ·
      have qb : (!(z1.f0 == z2.f0) || (!(z1.f1 == z2.f1))) = true := by
       by_cases h0 : z1.f0 = z2.f0
       ·have h1 : z1.f1 ≠ z2.f1 := fun h1 => q (S38_ext.2 ⟨h0, h1⟩)
        simp [h1]
       ·simp [h0]
      replace hne := Aside0.mk (hne q)
      clear q
      as_aux_lemma =>
       go_wp2
       repeat (go_quiet (fail); try go_wp2)
       go_ret
       exact ⟨by rw [decide_eq_false hne.out]; rfl, by first | exact HB.out | exact pw_below_drewN HB.out _⟩
    ·
     have cb : decide (x < (l9.length : Int)) = false := decide_eq_false c
     have he : l9 = m9 := by
      have hI := HI.out
      have h1 := hlen.out
      have h2 := hI.2.2.2
      rw [List.take_of_length_le (by omega), List.take_of_length_le (by omega)] at h2
      exact h2
     replace he := Aside0.mk he
     clear c HI
     as_aux_lemma =>
      cases r6 with
      | false =>
       as_aux_lemma =>
        go_wp2_with (first | (go_at_call 15; (with_reducible refine (ints_calls A6 c6 l6 B6 d6 m6 false _ Xga.out.h6 Xga.out.q6 Xgz.out.h6 Xgz.out.q6 hL6.out E6.out).mono ?_); rintro e w3_ ⟨rfl, hb⟩; replace HB := Aside0.mk (below_then HB.out HB.out.size hb); replace Xga := Aside0.mk (Xga.out.below hb); replace Xgz := Aside0.mk (Xgz.out.below hb); clear P0 R0 P1 R1 P2 R2 P3 R3 P4 R4 P5 R5 P6 R6 P7 R7 P8 R8 P9 R9 P10 R10 P11 R11 P12 R12 P13 R13 P14 R14 P15 R15; obtain ⟨P0, P1, P2, P3, P4, P5, P6, P7, P8, P9, P10, P11, P12, P13, P14, P15⟩ := cells16 Xga.out.b; obtain ⟨R0, R1, R2, R3, R4, R5, R6, R7, R8, R9, R10, R11, R12, R13, R14, R15⟩ := cells16 Xgz.out.b; clear hb))
        go_ret
        exact ⟨by rw [decide_eq_true he.out]; simp, HB.out⟩
      | true =>
       go_wp2_with (first | (go_at_call 15; (with_reducible refine (ints_calls A6 c6 l6 B6 d6 m6 true _ Xga.out.h6 Xga.out.q6 Xgz.out.h6 Xgz.out.q6 hL6.out E6.out).mono ?_); rintro e w3_ ⟨rfl, hb⟩; replace HB := Aside0.mk (below_then HB.out HB.out.size hb); replace Xga := Aside0.mk (Xga.out.below hb); replace Xgz := Aside0.mk (Xgz.out.below hb); clear P0 R0 P1 R1 P2 R2 P3 R3 P4 R4 P5 R5 P6 R6 P7 R7 P8 R8 P9 R9 P10 R10 P11 R11 P12 R12 P13 R13 P14 R14 P15 R15; obtain ⟨P0, P1, P2, P3, P4, P5, P6, P7, P8, P9, P10, P11, P12, P13, P14, P15⟩ := cells16 Xga.out.b; obtain ⟨R0, R1, R2, R3, R4, R5, R6, R7, R8, R9, R10, R11, R12, R13, R14, R15⟩ := cells16 Xgz.out.b; clear hb))
       as_aux_lemma =>
        cases r7 with
        | false =>
         as_aux_lemma =>
          go_wp2_with (first | (go_at_call 15; (with_reducible refine (ints_calls A7 c7 l7 B7 d7 m7 false _ Xga.out.h7 Xga.out.q7 Xgz.out.h7 Xgz.out.q7 hL7.out E7.out).mono ?_); rintro e w3_ ⟨rfl, hb⟩; replace HB := Aside0.mk (below_then HB.out HB.out.size hb); replace Xga := Aside0.mk (Xga.out.below hb); replace Xgz := Aside0.mk (Xgz.out.below hb); clear P0 R0 P1 R1 P2 R2 P3 R3 P4 R4 P5 R5 P6 R6 P7 R7 P8 R8 P9 R9 P10 R10 P11 R11 P12 R12 P13 R13 P14 R14 P15 R15; obtain ⟨P0, P1, P2, P3, P4, P5, P6, P7, P8, P9, P10, P11, P12, P13, P14, P15⟩ := cells16 Xga.out.b; obtain ⟨R0, R1, R2, R3, R4, R5, R6, R7, R8, R9, R10, R11, R12, R13, R14, R15⟩ := cells16 Xgz.out.b; clear hb))
          go_ret
          exact ⟨by rw [decide_eq_true he.out]; simp, HB.out⟩
        | true =>
         go_wp2_with (first | (go_at_call 15; (with_reducible refine (ints_calls A7 c7 l7 B7 d7 m7 true _ Xga.out.h7 Xga.out.q7 Xgz.out.h7 Xgz.out.q7 hL7.out E7.out).mono ?_); rintro e w3_ ⟨rfl, hb⟩; replace HB := Aside0.mk (below_then HB.out HB.out.size hb); replace Xga := Aside0.mk (Xga.out.below hb); replace Xgz := Aside0.mk (Xgz.out.below hb); clear P0 R0 P1 R1 P2 R2 P3 R3 P4 R4 P5 R5 P6 R6 P7 R7 P8 R8 P9 R9 P10 R10 P11 R11 P12 R12 P13 R13 P14 R14 P15 R15; obtain ⟨P0, P1, P2, P3, P4, P5, P6, P7, P8, P9, P10, P11, P12, P13, P14, P15⟩ := cells16 Xga.out.b; obtain ⟨R0, R1, R2, R3, R4, R5, R6, R7, R8, R9, R10, R11, R12, R13, R14, R15⟩ := cells16 Xgz.out.b; clear hb))
         as_aux_lemma =>
          cases r8 with
          | false =>
           as_aux_lemma =>
            go_wp2_with (first | (go_at_call 15; (with_reducible refine (ints_calls A8 c8 l8 B8 d8 m8 false _ Xga.out.h8 Xga.out.q8 Xgz.out.h8 Xgz.out.q8 hL8.out E8.out).mono ?_); rintro e w3_ ⟨rfl, hb⟩; replace HB := Aside0.mk (below_then HB.out HB.out.size hb); replace Xga := Aside0.mk (Xga.out.below hb); replace Xgz := Aside0.mk (Xgz.out.below hb); clear P0 R0 P1 R1 P2 R2 P3 R3 P4 R4 P5 R5 P6 R6 P7 R7 P8 R8 P9 R9 P10 R10 P11 R11 P12 R12 P13 R13 P14 R14 P15 R15; obtain ⟨P0, P1, P2, P3, P4, P5, P6, P7, P8, P9, P10, P11, P12, P13, P14, P15⟩ := cells16 Xga.out.b; obtain ⟨R0, R1, R2, R3, R4, R5, R6, R7, R8, R9, R10, R11, R12, R13, R14, R15⟩ := cells16 Xgz.out.b; clear hb))
            go_ret
            exact ⟨by rw [decide_eq_true he.out]; simp, HB.out⟩
          | true =>
           go_wp2_with (first | (go_at_call 15; (with_reducible refine (ints_calls A8 c8 l8 B8 d8 m8 true _ Xga.out.h8 Xga.out.q8 Xgz.out.h8 Xgz.out.q8 hL8.out E8.out).mono ?_); rintro e w3_ ⟨rfl, hb⟩; replace HB := Aside0.mk (below_then HB.out HB.out.size hb); replace Xga := Aside0.mk (Xga.out.below hb); replace Xgz := Aside0.mk (Xgz.out.below hb); clear P0 R0 P1 R1 P2 R2 P3 R3 P4 R4 P5 R5 P6 R6 P7 R7 P8 R8 P9 R9 P10 R10 P11 R11 P12 R12 P13 R13 P14 R14 P15 R15; obtain ⟨P0, P1, P2, P3, P4, P5, P6, P7, P8, P9, P10, P11, P12, P13, P14, P15⟩ := cells16 Xga.out.b; obtain ⟨R0, R1, R2, R3, R4, R5, R6, R7, R8, R9, R10, R11, R12, R13, R14, R15⟩ := cells16 Xgz.out.b; clear hb))
           as_aux_lemma =>
            cases r10 with
            | false =>
             as_aux_lemma =>
              go_wp2_with (first | (go_at_call 15; (with_reducible refine (ints_calls A10 c10 l10 B10 d10 m10 false _ Xga.out.h10 Xga.out.q10 Xgz.out.h10 Xgz.out.q10 hL10.out E10.out).mono ?_); rintro e w3_ ⟨rfl, hb⟩; replace HB := Aside0.mk (below_then HB.out HB.out.size hb); replace Xga := Aside0.mk (Xga.out.below hb); replace Xgz := Aside0.mk (Xgz.out.below hb); clear P0 R0 P1 R1 P2 R2 P3 R3 P4 R4 P5 R5 P6 R6 P7 R7 P8 R8 P9 R9 P10 R10 P11 R11 P12 R12 P13 R13 P14 R14 P15 R15; obtain ⟨P0, P1, P2, P3, P4, P5, P6, P7, P8, P9, P10, P11, P12, P13, P14, P15⟩ := cells16 Xga.out.b; obtain ⟨R0, R1, R2, R3, R4, R5, R6, R7, R8, R9, R10, R11, R12, R13, R14, R15⟩ := cells16 Xgz.out.b; clear hb))
              go_ret
              exact ⟨by rw [decide_eq_true he.out]; simp, HB.out⟩
            | true =>
             go_wp2_with (first | (go_at_call 15; (with_reducible refine (ints_calls A10 c10 l10 B10 d10 m10 true _ Xga.out.h10 Xga.out.q10 Xgz.out.h10 Xgz.out.q10 hL10.out E10.out).mono ?_); rintro e w3_ ⟨rfl, hb⟩; replace HB := Aside0.mk (below_then HB.out HB.out.size hb); replace Xga := Aside0.mk (Xga.out.below hb); replace Xgz := Aside0.mk (Xgz.out.below hb); clear P0 R0 P1 R1 P2 R2 P3 R3 P4 R4 P5 R5 P6 R6 P7 R7 P8 R8 P9 R9 P10 R10 P11 R11 P12 R12 P13 R13 P14 R14 P15 R15; obtain ⟨P0, P1, P2, P3, P4, P5, P6, P7, P8, P9, P10, P11, P12, P13, P14, P15⟩ := cells16 Xga.out.b; obtain ⟨R0, R1, R2, R3, R4, R5, R6, R7, R8, R9, R10, R11, R12, R13, R14, R15⟩ := cells16 Xgz.out.b; clear hb))
             as_aux_lemma =>
              cases r11 with
              | false =>
               as_aux_lemma =>
                go_wp2_with (first | (go_at_call 15; (with_reducible refine (ints_calls A11 c11 l11 B11 d11 m11 false _ Xga.out.h11 Xga.out.q11 Xgz.out.h11 Xgz.out.q11 hL11.out E11.out).mono ?_); rintro e w3_ ⟨rfl, hb⟩; replace HB := Aside0.mk (below_then HB.out HB.out.size hb); replace Xga := Aside0.mk (Xga.out.below hb); replace Xgz := Aside0.mk (Xgz.out.below hb); clear P0 R0 P1 R1 P2 R2 P3 R3 P4 R4 P5 R5 P6 R6 P7 R7 P8 R8 P9 R9 P10 R10 P11 R11 P12 R12 P13 R13 P14 R14 P15 R15; obtain ⟨P0, P1, P2, P3, P4, P5, P6, P7, P8, P9, P10, P11, P12, P13, P14, P15⟩ := cells16 Xga.out.b; obtain ⟨R0, R1, R2, R3, R4, R5, R6, R7, R8, R9, R10, R11, R12, R13, R14, R15⟩ := cells16 Xgz.out.b; clear hb))
                go_ret
                exact ⟨by rw [decide_eq_true he.out]; simp, HB.out⟩
              | true =>
               go_wp2_with (first | (go_at_call 15; (with_reducible refine (ints_calls A11 c11 l11 B11 d11 m11 true _ Xga.out.h11 Xga.out.q11 Xgz.out.h11 Xgz.out.q11 hL11.out E11.out).mono ?_); rintro e w3_ ⟨rfl, hb⟩; replace HB := Aside0.mk (below_then HB.out HB.out.size hb); replace Xga := Aside0.mk (Xga.out.below hb); replace Xgz := Aside0.mk (Xgz.out.below hb); clear P0 R0 P1 R1 P2 R2 P3 R3 P4 R4 P5 R5 P6 R6 P7 R7 P8 R8 P9 R9 P10 R10 P11 R11 P12 R12 P13 R13 P14 R14 P15 R15; obtain ⟨P0, P1, P2, P3, P4, P5, P6, P7, P8, P9, P10, P11, P12, P13, P14, P15⟩ := cells16 Xga.out.b; obtain ⟨R0, R1, R2, R3, R4, R5, R6, R7, R8, R9, R10, R11, R12, R13, R14, R15⟩ := cells16 Xgz.out.b; clear hb))
               as_aux_lemma =>
                cases r12 with
                | false =>
                 as_aux_lemma =>
                  go_wp2_with (first | (go_at_call 15; (with_reducible refine (ints_calls A12 c12 l12 B12 d12 m12 false _ Xga.out.h12 Xga.out.q12 Xgz.out.h12 Xgz.out.q12 hL12.out E12.out).mono ?_); rintro e w3_ ⟨rfl, hb⟩; replace HB := Aside0.mk (below_then HB.out HB.out.size hb); replace Xga := Aside0.mk (Xga.out.below hb); replace Xgz := Aside0.mk (Xgz.out.below hb); clear P0 R0 P1 R1 P2 R2 P3 R3 P4 R4 P5 R5 P6 R6 P7 R7 P8 R8 P9 R9 P10 R10 P11 R11 P12 R12 P13 R13 P14 R14 P15 R15; obtain ⟨P0, P1, P2, P3, P4, P5, P6, P7, P8, P9, P10, P11, P12, P13, P14, P15⟩ := cells16 Xga.out.b; obtain ⟨R0, R1, R2, R3, R4, R5, R6, R7, R8, R9, R10, R11, R12, R13, R14, R15⟩ := cells16 Xgz.out.b; clear hb))
                  go_ret
                  exact ⟨by rw [decide_eq_true he.out]; simp, HB.out⟩
                | true =>
                 go_wp2_with (first | (go_at_call 15; (with_reducible refine (ints_calls A12 c12 l12 B12 d12 m12 true _ Xga.out.h12 Xga.out.q12 Xgz.out.h12 Xgz.out.q12 hL12.out E12.out).mono ?_); rintro e w3_ ⟨rfl, hb⟩; replace HB := Aside0.mk (below_then HB.out HB.out.size hb); replace Xga := Aside0.mk (Xga.out.below hb); replace Xgz := Aside0.mk (Xgz.out.below hb); clear P0 R0 P1 R1 P2 R2 P3 R3 P4 R4 P5 R5 P6 R6 P7 R7 P8 R8 P9 R9 P10 R10 P11 R11 P12 R12 P13 R13 P14 R14 P15 R15; obtain ⟨P0, P1, P2, P3, P4, P5, P6, P7, P8, P9, P10, P11, P12, P13, P14, P15⟩ := cells16 Xga.out.b; obtain ⟨R0, R1, R2, R3, R4, R5, R6, R7, R8, R9, R10, R11, R12, R13, R14, R15⟩ := cells16 Xgz.out.b; clear hb))
                 as_aux_lemma =>
                  cases r13 with
                  | false =>
                   as_aux_lemma =>
                    go_wp2_with (first | (go_at_call 15; (with_reducible refine (ints_calls A13 c13 l13 B13 d13 m13 false _ Xga.out.h13 Xga.out.q13 Xgz.out.h13 Xgz.out.q13 hL13.out E13.out).mono ?_); rintro e w3_ ⟨rfl, hb⟩; replace HB := Aside0.mk (below_then HB.out HB.out.size hb); replace Xga := Aside0.mk (Xga.out.below hb); replace Xgz := Aside0.mk (Xgz.out.below hb); clear P0 R0 P1 R1 P2 R2 P3 R3 P4 R4 P5 R5 P6 R6 P7 R7 P8 R8 P9 R9 P10 R10 P11 R11 P12 R12 P13 R13 P14 R14 P15 R15; obtain ⟨P0, P1, P2, P3, P4, P5, P6, P7, P8, P9, P10, P11, P12, P13, P14, P15⟩ := cells16 Xga.out.b; obtain ⟨R0, R1, R2, R3, R4, R5, R6, R7, R8, R9, R10, R11, R12, R13, R14, R15⟩ := cells16 Xgz.out.b; clear hb))
                    go_ret
                    exact ⟨by rw [decide_eq_true he.out]; simp, HB.out⟩
                  | true =>
                   go_wp2_with (first | (go_at_call 15; (with_reducible refine (ints_calls A13 c13 l13 B13 d13 m13 true _ Xga.out.h13 Xga.out.q13 Xgz.out.h13 Xgz.out.q13 hL13.out E13.out).mono ?_); rintro e w3_ ⟨rfl, hb⟩; replace HB := Aside0.mk (below_then HB.out HB.out.size hb); replace Xga := Aside0.mk (Xga.out.below hb); replace Xgz := Aside0.mk (Xgz.out.below hb); clear P0 R0 P1 R1 P2 R2 P3 R3 P4 R4 P5 R5 P6 R6 P7 R7 P8 R8 P9 R9 P10 R10 P11 R11 P12 R12 P13 R13 P14 R14 P15 R15; obtain ⟨P0, P1, P2, P3, P4, P5, P6, P7, P8, P9, P10, P11, P12, P13, P14, P15⟩ := cells16 Xga.out.b; obtain ⟨R0, R1, R2, R3, R4, R5, R6, R7, R8, R9, R10, R11, R12, R13, R14, R15⟩ := cells16 Xgz.out.b; clear hb))
                   as_aux_lemma =>
                    go_wp2_with (first | (go_at_call 15; (with_reducible refine (ints_calls A14 c14 l14 B14 d14 m14 r14 _ Xga.out.h14 Xga.out.q14 Xgz.out.h14 Xgz.out.q14 hL14.out E14.out).mono ?_); rintro e w3_ ⟨rfl, hb⟩; replace HB := Aside0.mk (below_then HB.out HB.out.size hb); replace Xga := Aside0.mk (Xga.out.below hb); replace Xgz := Aside0.mk (Xgz.out.below hb); clear P0 R0 P1 R1 P2 R2 P3 R3 P4 R4 P5 R5 P6 R6 P7 R7 P8 R8 P9 R9 P10 R10 P11 R11 P12 R12 P13 R13 P14 R14 P15 R15; obtain ⟨P0, P1, P2, P3, P4, P5, P6, P7, P8, P9, P10, P11, P12, P13, P14, P15⟩ := cells16 Xga.out.b; obtain ⟨R0, R1, R2, R3, R4, R5, R6, R7, R8, R9, R10, R11, R12, R13, R14, R15⟩ := cells16 Xgz.out.b; clear hb))
                    go_ret
                    exact ⟨by rw [decide_eq_true he.out]; first | rfl | simp, HB.out⟩
end Go.Proofs.YtjanombhdnoemaaGreatDoor.PRec
