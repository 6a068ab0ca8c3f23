-- Printed by a program of this session's over the kit's printer; library functions by contracts off the shelf.
import Derived.Test.YtligbecmbefclaaDoorGP
import Derived.Test.YtligbecmbefclaaDoorPVlsx0
import Derived.Test.YtligbecmbefclaaDoorPVlsx2
import Derived.Test.YtligbecmbefclaaDoorPVlsx7
import Derived.Test.YtligbecmbefclaaDoorPVlsx8
import Derived.Test.YtligbecmbefclaaDoorPVlsx9
namespace Go.Proofs.YtligbecmbefclaaDoor.PVls
open Go.RowKit Go.Proofs.YtligbecmbefclaaDoorW.PrintWords Go.Proofs.YtligbecmbefclaaDoorW.PrintLast Go.Proofs.YtligbecmbefclaaDoorW.PrintMore Go.Proofs.YtligbecmbefclaaDoor.Base
attribute [local go_sem] max2_int min2_int max_two min_two max_three min_three max_four min_four   -- for this text's walks alone
set_option linter.unusedVariables false
set_option linter.unusedSimpArgs false
mutual
def solsticelaw20_ValueLists.j0 : Nat → List Int → Bool → Int → Bool → Option (Bool)
 | 0, _, _, _, _ => none
 | k + 1, x0, x1, x2, x32 => if x32 = true then (some true) else (if (IntKind.u64.wrap ((x0.length : Int))) = 0 then (none) else (solsticelaw20_ValueLists.l0 k x0 x1 (wrap64 (Int.tmod (IntKind.u64.wrap (x2)) (IntKind.u64.wrap ((x0.length : Int))))) (⟨#[]⟩ : ByteArray) (⟨#[]⟩ : ByteArray) ([] : List Int) 0))
def solsticelaw20_ValueLists.l0 : Nat → List Int → Bool → Int → ByteArray → ByteArray → List Int → Int → Option (Bool)
 | 0, _, _, _, _, _, _, _ => none
 | k + 1, x0, x1, x2, x7, x8, x9, x10 => if x10 < (x0.length : Int) then (if 0 ≤ x10 then ((solsticelaw20_Some.f k (rd x0 x10)).bind fun t241 => ((value_Time.f k t241 x1).bind fun bt242 => ((value_Time.f k t241 (x1 != (x10 == x2))).bind fun bt244 => (if bt242.2 = 0 then (solsticelaw20_ValueLists.j2 k x0 x1 x2 x7 x8 x9 x10 t241 bt242.1 bt244.1 (bt244.2 != 0)) else (solsticelaw20_ValueLists.j2 k x0 x1 x2 x7 x8 x9 x10 t241 bt242.1 bt244.1 true))))) else (none)) else ((value_Times.f k x7).bind fun bt252 => ((value_Times.f k x8).bind fun bt257 => (if x7.size + 1 ≤ 9223372036854775807 then ((value_Times.f k (x7 ++ (⟨#[44]⟩ : ByteArray))).bind fun bt262 => (if bt252.2.2 = 0 then ((solsticekeep_Ints.f k bt252.1 x9).bind fun t267 => (if t267 = true then (if (bt252.2.1 == x1) = true then (if (((x0.length : Int) == 1) == (bt257.2.2 == 0)) = true then (if bt262.2.2 = 19 then ((solsticelaw20_wakes.f k).bind fun t268 => (some t268)) else (some false)) else (some false)) else (some false)) else (some false))) else (some false))) else (none))))
def solsticelaw20_ValueLists.j2 : Nat → List Int → Bool → Int → ByteArray → ByteArray → List Int → Int → Int → ByteArray → ByteArray → Bool → Option (Bool)
 | 0, _, _, _, _, _, _, _, _, _, _, _ => none
 | k + 1, x0, x1, x2, x7, x8, x9, x10, x11, x12, x14, x72 => if x72 = true then (some false) else (if x10 > 0 then (if x7.size + 1 ≤ 9223372036854775807 then (if x8.size + 1 ≤ 9223372036854775807 then (if (x7 ++ (⟨#[44]⟩ : ByteArray)).size + x12.size ≤ 9223372036854775807 then (if (x8 ++ (⟨#[44]⟩ : ByteArray)).size + x14.size ≤ 9223372036854775807 then (if x9.length < 17592186044416 then (solsticelaw20_ValueLists.l0 k x0 x1 x2 ((x7 ++ (⟨#[44]⟩ : ByteArray)) ++ x12) ((x8 ++ (⟨#[44]⟩ : ByteArray)) ++ x14) (x9 ++ [x11]) (wrap64 (x10 + 1))) else (none)) else (none)) else (none)) else (none)) else (none)) else (if x7.size + x12.size ≤ 9223372036854775807 then (if x8.size + x14.size ≤ 9223372036854775807 then (if x9.length < 17592186044416 then (solsticelaw20_ValueLists.l0 k x0 x1 x2 (x7 ++ x12) (x8 ++ x14) (x9 ++ [x11]) (wrap64 (x10 + 1))) else (none)) else (none)) else (none)))
end
def solsticelaw20_ValueLists.f (k : Nat) (l0 : List Int) (a1 : Bool) (a2 : Int) : Option (Bool) := if (l0.length : Int) > 40 then (solsticelaw20_ValueLists.j0 k l0 a1 a2 true) else (solsticelaw20_ValueLists.j0 k l0 a1 a2 ((l0.length : Int) == 0))
theorem solsticelaw20_ValueLists.mono_l : ∀ k, (∀ y0 y1 y2 y3, LeO (solsticelaw20_ValueLists.j0 k y0 y1 y2 y3) (solsticelaw20_ValueLists.j0 (k + 1) y0 y1 y2 y3)) ∧ (∀ y0 y1 y2 y3 y4 y5 y6, LeO (solsticelaw20_ValueLists.l0 k y0 y1 y2 y3 y4 y5 y6) (solsticelaw20_ValueLists.l0 (k + 1) y0 y1 y2 y3 y4 y5 y6)) ∧ (∀ y0 y1 y2 y3 y4 y5 y6 y7 y8 y9 y10, LeO (solsticelaw20_ValueLists.j2 k y0 y1 y2 y3 y4 y5 y6 y7 y8 y9 y10) (solsticelaw20_ValueLists.j2 (k + 1) y0 y1 y2 y3 y4 y5 y6 y7 y8 y9 y10))
 | 0 => ⟨fun _ _ _ _ r h => by simp [solsticelaw20_ValueLists.j0] at h, fun _ _ _ _ _ _ _ r h => by simp [solsticelaw20_ValueLists.l0] at h, fun _ _ _ _ _ _ _ _ _ _ _ r h => by simp [solsticelaw20_ValueLists.j2] at h⟩
 | k + 1 => by
  obtain ⟨ih0, ih1, ih2⟩ := solsticelaw20_ValueLists.mono_l k
  refine ⟨?_, ?_, ?_⟩
  ·intro y0 y1 y2 y3
   unfold solsticelaw20_ValueLists.j0
   repeat' first
   | (with_reducible exact ih0 _ _ _ _)
   | (with_reducible exact ih1 _ _ _ _ _ _ _)
   | (with_reducible exact ih2 _ _ _ _ _ _ _ _ _ _ _)
   | (with_reducible exact solsticekeep_Ints.mono _ _ _)
   | (with_reducible exact solsticelaw20_Some.mono _ _)
   | (with_reducible exact solsticelaw20_wakes.mono _)
   | (with_reducible exact value_Time.mono _ _ _)
   | (with_reducible exact value_Times.mono _ _)
   | (with_reducible exact LeO.refl _)
   | (with_reducible exact LeO.none _)
   | (with_reducible refine LeO.ite ?_ ?_)
   | (with_reducible refine LeO.bind ?_ (fun _ => ?_))
   | exact ih0 _ _ _ _
   | exact ih1 _ _ _ _ _ _ _
   | exact ih2 _ _ _ _ _ _ _ _ _ _ _
   | exact solsticekeep_Ints.mono _ _ _
   | exact solsticelaw20_Some.mono _ _
   | exact solsticelaw20_wakes.mono _
   | exact value_Time.mono _ _ _
   | exact value_Times.mono _ _
   | exact LeO.none _
   | refine LeO.ite ?_ ?_
   | refine LeO.bind ?_ (fun _ => ?_)
  ·intro y0 y1 y2 y3 y4 y5 y6
   unfold solsticelaw20_ValueLists.l0
   repeat' first
   | (with_reducible exact ih0 _ _ _ _)
   | (with_reducible exact ih1 _ _ _ _ _ _ _)
   | (with_reducible exact ih2 _ _ _ _ _ _ _ _ _ _ _)
   | (with_reducible exact solsticekeep_Ints.mono _ _ _)
   | (with_reducible exact solsticelaw20_Some.mono _ _)
   | (with_reducible exact solsticelaw20_wakes.mono _)
   | (with_reducible exact value_Time.mono _ _ _)
   | (with_reducible exact value_Times.mono _ _)
   | (with_reducible exact LeO.refl _)
   | (with_reducible exact LeO.none _)
   | (with_reducible refine LeO.ite ?_ ?_)
   | (with_reducible refine LeO.bind ?_ (fun _ => ?_))
   | exact ih0 _ _ _ _
   | exact ih1 _ _ _ _ _ _ _
   | exact ih2 _ _ _ _ _ _ _ _ _ _ _
   | exact solsticekeep_Ints.mono _ _ _
   | exact solsticelaw20_Some.mono _ _
   | exact solsticelaw20_wakes.mono _
   | exact value_Time.mono _ _ _
   | exact value_Times.mono _ _
   | exact LeO.none _
   | refine LeO.ite ?_ ?_
   | refine LeO.bind ?_ (fun _ => ?_)
  ·intro y0 y1 y2 y3 y4 y5 y6 y7 y8 y9 y10
   unfold solsticelaw20_ValueLists.j2
   repeat' first
   | (with_reducible exact ih0 _ _ _ _)
   | (with_reducible exact ih1 _ _ _ _ _ _ _)
   | (with_reducible exact ih2 _ _ _ _ _ _ _ _ _ _ _)
   | (with_reducible exact solsticekeep_Ints.mono _ _ _)
   | (with_reducible exact solsticelaw20_Some.mono _ _)
   | (with_reducible exact solsticelaw20_wakes.mono _)
   | (with_reducible exact value_Time.mono _ _ _)
   | (with_reducible exact value_Times.mono _ _)
   | (with_reducible exact LeO.refl _)
   | (with_reducible exact LeO.none _)
   | (with_reducible refine LeO.ite ?_ ?_)
   | (with_reducible refine LeO.bind ?_ (fun _ => ?_))
   | exact ih0 _ _ _ _
   | exact ih1 _ _ _ _ _ _ _
   | exact ih2 _ _ _ _ _ _ _ _ _ _ _
   | exact solsticekeep_Ints.mono _ _ _
   | exact solsticelaw20_Some.mono _ _
   | exact solsticelaw20_wakes.mono _
   | exact value_Time.mono _ _ _
   | exact value_Times.mono _ _
   | exact LeO.none _
   | refine LeO.ite ?_ ?_
   | refine LeO.bind ?_ (fun _ => ?_)
theorem solsticelaw20_ValueLists.mono : ∀ a0 a1 a2 k, LeO (solsticelaw20_ValueLists.f k a0 a1 a2) (solsticelaw20_ValueLists.f (k + 1) a0 a1 a2) := by
 intro a0 a1 a2 k
 obtain ⟨ih0, ih1, ih2⟩ := solsticelaw20_ValueLists.mono_l k
 unfold solsticelaw20_ValueLists.f
 repeat' first
   | (with_reducible exact ih0 _ _ _ _)
   | (with_reducible exact ih1 _ _ _ _ _ _ _)
   | (with_reducible exact ih2 _ _ _ _ _ _ _ _ _ _ _)
   | (with_reducible exact solsticekeep_Ints.mono _ _ _)
   | (with_reducible exact solsticelaw20_Some.mono _ _)
   | (with_reducible exact solsticelaw20_wakes.mono _)
   | (with_reducible exact value_Time.mono _ _ _)
   | (with_reducible exact value_Times.mono _ _)
   | (with_reducible exact LeO.refl _)
   | (with_reducible exact LeO.none _)
   | (with_reducible refine LeO.ite ?_ ?_)
   | (with_reducible refine LeO.bind ?_ (fun _ => ?_))
   | exact ih0 _ _ _ _
   | exact ih1 _ _ _ _ _ _ _
   | exact ih2 _ _ _ _ _ _ _ _ _ _ _
   | exact solsticekeep_Ints.mono _ _ _
   | exact solsticelaw20_Some.mono _ _
   | exact solsticelaw20_wakes.mono _
   | exact value_Time.mono _ _ _
   | exact value_Times.mono _ _
   | exact LeO.none _
   | refine LeO.ite ?_ ?_
   | refine LeO.bind ?_ (fun _ => ?_)
set_option maxHeartbeats 8000000 in
set_option maxRecDepth 100000 in
theorem solsticelaw20_ValueLists.calls (k : Nat) (A0 : Option Addr) (c0 : Nat) (l0 : List Int) (a1 : Bool) (a2 : Int) (r : Bool) (htrue : r = true) (w : World) (hr0 : Kd.C (Kd.int .i64) w A0 l0.length l0) (hc0 : l0.length ≤ c0) (hG : GP w) (h : solsticelaw20_ValueLists.f k l0 a1 a2 = some r) :
  Calls Tryd.prog 5 #[.slice A0 l0.length c0, .bool a1, .int .i64 a2] w fun e w' => e = .returned (.bool r) ∧ Below w.heap.size w w' := by
 have HG := Aside0.mk hG
 clear hG
 have HR0 := Aside0.mk hr0
 have HC0 := Aside0.mk hc0
 clear hr0 hc0
 have HB := Aside0.mk (Below.refl w.heap.size w)
 have H : (if (l0.length : Int) > 40 then (solsticelaw20_ValueLists.j0 k l0 a1 a2 true) else (solsticelaw20_ValueLists.j0 k l0 a1 a2 ((l0.length : Int) == 0))) = some r := h
 clear h
 have HC4 := Aside0.mk H
 clear H
 go_enter Tryd.func5, Tryd.ntmps5
 go_upto_region 1 with (fail)
 go_cut [32] (fun v32 wc => ∃ (kq : Nat) (x32_3 : Bool), v32 = .bool x32_3 ∧ Aside0 (solsticelaw20_ValueLists.j0 kq l0 a1 a2 x32_3 = some r) ∧ Aside0 (kq ≤ k) ∧ Aside0 (Below w.heap.size w wc))
 case first =>
  have H := HC4.out
  clear HC4
  by_cases c5 : (l0.length : Int) > 40
  ·rw [if_pos c5] at H
   have c5b0 : decide (40 < (l0.length : Int)) = true := decide_eq_true c5
   have c5b1 : decide (40 < l0.length) = true := decide_eq_true (by omega)
   clear c5
   (first | rw [c5b0] | (simp only [i64_w, i32_w]; rw [c5b0]) | skip)
   have H' := Aside0.mk H
   clear H
   go_wp2
   go_meet
   case rel => exact ⟨_, (true), (by first | rfl | (simp; done) | (simp [*]; done)), H', ⟨by first | omega | exact Nat.le_refl _⟩, ⟨by repeat (first | (with_reducible first | exact HB.out | apply below_alloc | apply pw_below_drewN | apply below_drew1) | exact HB.out)⟩⟩
  ·rw [if_neg c5] at H
   have c5b0 : decide (40 < (l0.length : Int)) = false := decide_eq_false c5
   have c5b1 : decide (40 < l0.length) = false := decide_eq_false (by omega)
   clear c5
   (first | rw [c5b0] | (simp only [i64_w, i32_w]; rw [c5b0]) | skip)
   have H' := Aside0.mk H
   clear H
   go_wp2
   go_meet
   case rel => exact ⟨_, (((l0.length : Int) == 0)), (by first | rfl | (simp; done) | (simp [*]; done)), H', ⟨by first | omega | exact Nat.le_refl _⟩, ⟨by repeat (first | (with_reducible first | exact HB.out | apply below_alloc | apply pw_below_drewN | apply below_drew1) | exact HB.out)⟩⟩
 case rest =>
  as_aux_lemma =>
   clear HC4
   try clear p2
   try clear c5
   try clear c5b0
   try clear c5b1
   obtain ⟨kq, x32_3, rfl, HA, HJ3, HB⟩ := hcut
   cases kq with
   | zero => exact absurd HA.out (by simp [solsticelaw20_ValueLists.j0])
   | succ kj3 =>
    have H := HA.out
    clear HA
    simp only [solsticelaw20_ValueLists.j0] at H
    by_cases c6 : x32_3 = true
    ·subst c6
     have H1 : (some true) = some r := by rw [if_pos rfl] at H; exact H
     clear H
     have H := H1
     clear H1
     obtain rfl := Option.some.inj H
     go_wp2
     go_ret
     exact ⟨by first | rfl | (simp [errW_none, errW_some] <;> rfl) | (simp [*, errW_none, errW_some] <;> rfl), by repeat (first | (with_reducible first | exact HB.out | apply below_alloc | apply pw_below_drewN | apply below_drew1) | exact HB.out)⟩
    ·replace c6 := Bool.eq_false_iff.mpr c6
     subst c6
     have H1 : (if (IntKind.u64.wrap ((l0.length : Int))) = 0 then (none) else (solsticelaw20_ValueLists.l0 kj3 l0 a1 (wrap64 (Int.tmod (IntKind.u64.wrap (a2)) (IntKind.u64.wrap ((l0.length : Int))))) (⟨#[]⟩ : ByteArray) (⟨#[]⟩ : ByteArray) ([] : List Int) 0)) = some r := by rw [if_neg (show ¬ (false = true) by decide)] at H; exact H
     clear H
     have H := H1
     clear H1
     by_cases c7 : (IntKind.u64.wrap ((l0.length : Int))) = 0
     ·rw [if_pos c7] at H
      exact absurd H (by simp)
     ·rw [if_neg c7] at H
      have c7b0 : ((IntKind.u64.wrap ((l0.length : Int))) == 0) = false := beq_eq_false_iff_ne.mpr c7
      have c7b1 : ((IntKind.u64.wrap ((l0.length : Int))) != 0) = true := bne_iff_ne.mpr c7
      have H' := Aside0.mk H
      clear H
      go_wp2
      go_loopg [7, 8, 9, 10] kj3 (fun kq v7 v8 v9 v10 w' => ∃ (x7_2 : ByteArray) (x8_2 : ByteArray) (x9_2 : List Int) (x10_2 : Int), v7 = .string x7_2 ∧ v8 = .string x8_2 ∧ v10 = .int .i64 x10_2 ∧ Aside0 (solsticelaw20_ValueLists.l0 kq l0 a1 (wrap64 (Int.tmod (IntKind.u64.wrap (a2)) (IntKind.u64.wrap ((l0.length : Int))))) x7_2 x8_2 x9_2 x10_2 = some r) ∧ Aside0 (kq ≤ kj3) ∧ Aside0 (Kd.R (Kd.int .i64) 3 w' w.heap.size (fun _ => True) v9 x9_2) ∧ Aside0 (Below w.heap.size w w'))
      case atStart => exact ⟨((⟨#[]⟩ : ByteArray)), ((⟨#[]⟩ : ByteArray)), (([] : List Int)), (0), (by first | rfl | (simp; done) | (simp [*]; done)), (by first | rfl | (simp; done) | (simp [*]; done)), (by first | rfl | (simp; done) | (simp [*]; done)), H', ⟨Nat.le_refl _⟩, ⟨by first | exact Kd.R_nil _ _ _ _ _ | exact Kd.N_nil _ _ _ _ _ | exact Kd.V_nil _ _ _ _ _ | exact Kd.Q_nil _ _ _ _ _ | exact Kd.S_nil _ _ _ _ _⟩, ⟨by repeat (first | (with_reducible first | exact HB.out | apply below_alloc | apply pw_below_drewN | apply below_drew1) | exact HB.out)⟩⟩
      case round =>
       as_aux_lemma =>
        clear H'
        try clear p2
        try clear c5
        try clear c5b0
        try clear c5b1
        try clear c6
        try clear p6
        try clear c7
        try clear c7b0
        try clear c7b1
        try clear p2
        obtain ⟨x7_2, x8_2, x9_2, x10_2, rfl, rfl, rfl, HA, HK2, HO_9, HB⟩ := hrel
        cases gk with
        | zero => exact absurd HA.out (by simp [solsticelaw20_ValueLists.l0])
        | succ k2 =>
         have H := HA.out
         clear HA
         simp only [solsticelaw20_ValueLists.l0] at H
         by_cases c8 : x10_2 < (l0.length : Int)
         ·rw [if_pos c8] at H
          have c8b0 : decide (x10_2 < (l0.length : Int)) = true := decide_eq_true c8
          clear c8
          by_cases c9 : 0 ≤ x10_2
          ·rw [if_pos c9] at H
           have c9b0 : decide (0 ≤ x10_2) = true := decide_eq_true c9
           clear c9
           replace H := Option.bind_eq_some_iff.mp H
           obtain ⟨t241, A100, H⟩ := H
           replace H : ((value_Time.f k2 t241 a1).bind fun bt242 => ((value_Time.f k2 t241 (a1 != (x10_2 == (wrap64 (Int.tmod (IntKind.u64.wrap (a2)) (IntKind.u64.wrap ((l0.length : Int)))))))).bind fun bt244 => (if bt242.2 = 0 then (solsticelaw20_ValueLists.j2 k2 l0 a1 (wrap64 (Int.tmod (IntKind.u64.wrap (a2)) (IntKind.u64.wrap ((l0.length : Int))))) x7_2 x8_2 x9_2 x10_2 t241 bt242.1 bt244.1 (bt244.2 != 0)) else (solsticelaw20_ValueLists.j2 k2 l0 a1 (wrap64 (Int.tmod (IntKind.u64.wrap (a2)) (IntKind.u64.wrap ((l0.length : Int))))) x7_2 x8_2 x9_2 x10_2 t241 bt242.1 bt244.1 true)))) = some r := H
           have A10 := Aside0.mk A100
           clear A100
           replace H := Option.bind_eq_some_iff.mp H
           obtain ⟨⟨t242, t243⟩, A110, H⟩ := H
           replace H : ((value_Time.f k2 t241 (a1 != (x10_2 == (wrap64 (Int.tmod (IntKind.u64.wrap (a2)) (IntKind.u64.wrap ((l0.length : Int)))))))).bind fun bt244 => (if t243 = 0 then (solsticelaw20_ValueLists.j2 k2 l0 a1 (wrap64 (Int.tmod (IntKind.u64.wrap (a2)) (IntKind.u64.wrap ((l0.length : Int))))) x7_2 x8_2 x9_2 x10_2 t241 t242 bt244.1 (bt244.2 != 0)) else (solsticelaw20_ValueLists.j2 k2 l0 a1 (wrap64 (Int.tmod (IntKind.u64.wrap (a2)) (IntKind.u64.wrap ((l0.length : Int))))) x7_2 x8_2 x9_2 x10_2 t241 t242 bt244.1 true))) = some r := H
           have A11 := Aside0.mk A110
           clear A110
           replace H := Option.bind_eq_some_iff.mp H
           obtain ⟨⟨t244, t245⟩, A120, H⟩ := H
           replace H : (if t243 = 0 then (solsticelaw20_ValueLists.j2 k2 l0 a1 (wrap64 (Int.tmod (IntKind.u64.wrap (a2)) (IntKind.u64.wrap ((l0.length : Int))))) x7_2 x8_2 x9_2 x10_2 t241 t242 t244 (t245 != 0)) else (solsticelaw20_ValueLists.j2 k2 l0 a1 (wrap64 (Int.tmod (IntKind.u64.wrap (a2)) (IntKind.u64.wrap ((l0.length : Int))))) x7_2 x8_2 x9_2 x10_2 t241 t242 t244 true)) = some r := H
           have A12 := Aside0.mk A120
           clear A120
           have HC13 := Aside0.mk H
           clear H
           have p240 : 0 ≤ (x10_2 : Int) := of_decide_eq_true (by first | (with_reducible assumption) | assumption)
           have q240 : x10_2 < (l0.length : Int) := of_decide_eq_true (by first | (with_reducible assumption) | assumption)
           obtain ⟨ad240, e240, hx240_0⟩ := Kd.at_int HR0.out x10_2 p240 q240
           cases e240
           replace hx240_0 := (HB.out.cell (World.block_lt_of_cell? w _ hx240_0)).trans hx240_0
           replace p240 := eq_true p240
           replace q240 := eq_true q240
           go_upto_region 12 with (first | ((with_reducible refine gate_callee (f := 20) rfl ?_); refine goesL_ (some 50) rfl rfl Tryd.func20 (by kernel_rfl) rfl #[.int .i64 (rd l0 x10_2)] rfl (by (try simp only [List.map_toArray, List.map_cons, List.map_nil]); first | done | rfl | (simp only [List.length_drop, List.length_take]; rfl)) ?_; (with_reducible refine (solsticelaw20_Some.calls k2 (rd l0 x10_2) t241 _ A10.out).mono ?_); rintro e w14 ⟨rfl, hb⟩; refine ⟨_, rfl, ?_⟩; have n0_ := Aside0.mk (Kd.R_below (by (with_reducible repeat (first | apply Kd.R_alloc | apply Kd.R_drewN | apply Kd.R_drew)); exact HO_9.out) hb); have n1_ := Aside0.mk (below_step (by repeat (first | (with_reducible first | exact HB.out | apply below_alloc | apply pw_below_drewN | apply below_drew1) | exact HB.out)) hb); clear HO_9; clear HB; have HO_9 := n0_; have HB := n1_; clear n0_ n1_; (try clear hb); (try clear hb2); (try clear hk); (try clear hi)) | ((with_reducible refine gate_callee (f := 7) rfl ?_); refine goesL_ (some 54) rfl rfl Tryd.func7 (by kernel_rfl) rfl #[.int .i64 t241, .bool a1] rfl (by (try simp only [List.map_toArray, List.map_cons, List.map_nil]); first | done | rfl | (simp only [List.length_drop, List.length_take]; rfl)) ?_; (with_reducible refine (value_Time.calls k2 t241 a1 t242 t243 _ ?sideG A11.out).mono ?_); (case sideG => first | exact GP_below HG.out (by repeat (first | (with_reducible first | exact HB.out | apply below_alloc | apply pw_below_drewN | apply below_drew1) | exact HB.out)) | repeat (first | exact HG.out | refine GP_alloc ?_ _ | refine GP_drewN ?_ _ | refine GP_drew ?_)); rintro e w15 ⟨rfl, hb⟩; refine ⟨_, rfl, ?_⟩; have n0_ := Aside0.mk (Kd.R_below (by (with_reducible repeat (first | apply Kd.R_alloc | apply Kd.R_drewN | apply Kd.R_drew)); exact HO_9.out) hb); have n1_ := Aside0.mk (below_step (by repeat (first | (with_reducible first | exact HB.out | apply below_alloc | apply pw_below_drewN | apply below_drew1) | exact HB.out)) hb); clear HO_9; clear HB; have HO_9 := n0_; have HB := n1_; clear n0_ n1_; (try clear hb); (try clear hb2); (try clear hk); (try clear hi)) | ((with_reducible refine gate_callee (f := 7) rfl ?_); refine goesL_ (some 64) rfl rfl Tryd.func7 (by kernel_rfl) rfl #[.int .i64 t241, .bool (a1 != (x10_2 == (wrap64 (Int.tmod (IntKind.u64.wrap (a2)) (IntKind.u64.wrap ((l0.length : Int)))))))] rfl (by (try simp only [List.map_toArray, List.map_cons, List.map_nil]); first | done | rfl | (simp only [List.length_drop, List.length_take]; rfl)) ?_; (with_reducible refine (value_Time.calls k2 t241 (a1 != (x10_2 == (wrap64 (Int.tmod (IntKind.u64.wrap (a2)) (IntKind.u64.wrap ((l0.length : Int))))))) t244 t245 _ ?sideG A12.out).mono ?_); (case sideG => first | exact GP_below HG.out (by repeat (first | (with_reducible first | exact HB.out | apply below_alloc | apply pw_below_drewN | apply below_drew1) | exact HB.out)) | repeat (first | exact HG.out | refine GP_alloc ?_ _ | refine GP_drewN ?_ _ | refine GP_drew ?_)); rintro e w16 ⟨rfl, hb⟩; refine ⟨_, rfl, ?_⟩; have n0_ := Aside0.mk (Kd.R_below (by (with_reducible repeat (first | apply Kd.R_alloc | apply Kd.R_drewN | apply Kd.R_drew)); exact HO_9.out) hb); have n1_ := Aside0.mk (below_step (by repeat (first | (with_reducible first | exact HB.out | apply below_alloc | apply pw_below_drewN | apply below_drew1) | exact HB.out)) hb); clear HO_9; clear HB; have HO_9 := n0_; have HB := n1_; clear n0_ n1_; (try clear hb); (try clear hb2); (try clear hk); (try clear hi)))
           (try simp only [Act.put, List.setIfInBounds_toArray, List.set_cons_zero, List.set_cons_succ])
           go_cut [72] (fun v72 wc => ∃ (kq : Nat) (x72_12 : Bool), v72 = .bool x72_12 ∧ Aside0 (solsticelaw20_ValueLists.j2 kq l0 a1 (wrap64 (Int.tmod (IntKind.u64.wrap (a2)) (IntKind.u64.wrap ((l0.length : Int))))) x7_2 x8_2 x9_2 x10_2 t241 t242 t244 x72_12 = some r) ∧ Aside0 (kq ≤ k2) ∧ Aside0 (Kd.R (Kd.int .i64) 3 wc w.heap.size (fun _ => True) u9 x9_2) ∧ Aside0 (Below w.heap.size w wc))
           case first =>
            have H := HC13.out
            clear HC13
            by_cases c17 : t243 = 0
            ·rw [if_pos c17] at H
             have c17b0 : (t243 == 0) = true := beq_iff_eq.mpr c17
             have c17b1 : (t243 != 0) = false := bne_eq_false_iff_eq.mpr c17
             clear c17
             (first | rw [c17b0] | (simp only [i64_w, i32_w]; rw [c17b0]) | skip)
             have H' := Aside0.mk H
             clear H
             go_wp2
             go_meet
             case rel => exact ⟨_, ((t245 != 0)), (by first | rfl | (simp; done) | (simp [*]; done)), H', ⟨by have := HJ3.out; have := HK2.out; first | omega | exact Nat.le_refl _⟩, ⟨by (with_reducible repeat (first | apply Kd.R_alloc | apply Kd.R_drewN | apply Kd.R_drew)); exact HO_9.out⟩, ⟨by repeat (first | (with_reducible first | exact HB.out | apply below_alloc | apply pw_below_drewN | apply below_drew1) | exact HB.out)⟩⟩
            ·rw [if_neg c17] at H
             have c17b0 : (t243 == 0) = false := beq_eq_false_iff_ne.mpr c17
             have c17b1 : (t243 != 0) = true := bne_iff_ne.mpr c17
             (first | rw [c17b0] | (simp only [i64_w, i32_w]; rw [c17b0]) | skip)
             have H' := Aside0.mk H
             clear H
             go_wp2
             go_meet
             case rel => exact ⟨_, (true), (by first | rfl | (simp; done) | (simp [*]; done)), H', ⟨by have := HJ3.out; have := HK2.out; first | omega | exact Nat.le_refl _⟩, ⟨by (with_reducible repeat (first | apply Kd.R_alloc | apply Kd.R_drewN | apply Kd.R_drew)); exact HO_9.out⟩, ⟨by repeat (first | (with_reducible first | exact HB.out | apply below_alloc | apply pw_below_drewN | apply below_drew1) | exact HB.out)⟩⟩
           case rest =>
            as_aux_lemma =>
             clear HC13
             try clear c1
             try clear c2
             try clear p2
             try clear q2
             try clear hx2
             try clear c5
             try clear c5b0
             try clear c5b1
             try clear c6
             try clear p6
             try clear c7
             try clear c7b0
             try clear c7b1
             try clear c8
             try clear c8b0
             try clear c9
             try clear c9b0
             try clear c17
             try clear c17b0
             try clear c17b1
             try clear hx240_0
             try clear p2
             try clear p240
             try clear p6
             try clear q240
             obtain ⟨kq, x72_12, rfl, HA, HJ12, HO_9, HB⟩ := hcut
             cases kq with
             | zero => exact absurd HA.out (by simp [solsticelaw20_ValueLists.j2])
             | succ kj12 =>
              have H := HA.out
              clear HA
              simp only [solsticelaw20_ValueLists.j2] at H
              by_cases c18 : x72_12 = true
              ·subst c18
               have H1 : (some false) = some r := by rw [if_pos rfl] at H; exact H
               clear H
               have H := H1
               clear H1
               obtain rfl := Option.some.inj H
               cases htrue
              ·replace c18 := Bool.eq_false_iff.mpr c18
               subst c18
               have H1 : (if x10_2 > 0 then (if x7_2.size + 1 ≤ 9223372036854775807 then (if x8_2.size + 1 ≤ 9223372036854775807 then (if (x7_2 ++ (⟨#[44]⟩ : ByteArray)).size + t242.size ≤ 9223372036854775807 then (if (x8_2 ++ (⟨#[44]⟩ : ByteArray)).size + t244.size ≤ 9223372036854775807 then (if x9_2.length < 17592186044416 then (solsticelaw20_ValueLists.l0 kj12 l0 a1 (wrap64 (Int.tmod (IntKind.u64.wrap (a2)) (IntKind.u64.wrap ((l0.length : Int))))) ((x7_2 ++ (⟨#[44]⟩ : ByteArray)) ++ t242) ((x8_2 ++ (⟨#[44]⟩ : ByteArray)) ++ t244) (x9_2 ++ [t241]) (wrap64 (x10_2 + 1))) else (none)) else (none)) else (none)) else (none)) else (none)) else (if x7_2.size + t242.size ≤ 9223372036854775807 then (if x8_2.size + t244.size ≤ 9223372036854775807 then (if x9_2.length < 17592186044416 then (solsticelaw20_ValueLists.l0 kj12 l0 a1 (wrap64 (Int.tmod (IntKind.u64.wrap (a2)) (IntKind.u64.wrap ((l0.length : Int))))) (x7_2 ++ t242) (x8_2 ++ t244) (x9_2 ++ [t241]) (wrap64 (x10_2 + 1))) else (none)) else (none)) else (none))) = some r := by rw [if_neg (show ¬ (false = true) by decide)] at H; exact H
               clear H
               have H := H1
               clear H1
               by_cases c19 : x10_2 > 0
               ·rw [if_pos c19] at H
                have c19b0 : decide (0 < x10_2) = true := decide_eq_true c19
                clear c19
                by_cases c20 : x7_2.size + 1 ≤ 9223372036854775807
                ·rw [if_pos c20] at H
                 have c20b0 := eq_true c20
                 have c20b1 : decide (x7_2.size + 1 ≤ 9223372036854775807) = true := decide_eq_true c20
                 try have c20b2 : (9223372036854775807 < x7_2.size + 1) = False := eq_false (Nat.not_lt.2 c20)
                 by_cases c21 : x8_2.size + 1 ≤ 9223372036854775807
                 ·rw [if_pos c21] at H
                  have c21b0 := eq_true c21
                  have c21b1 : decide (x8_2.size + 1 ≤ 9223372036854775807) = true := decide_eq_true c21
                  try have c21b2 : (9223372036854775807 < x8_2.size + 1) = False := eq_false (Nat.not_lt.2 c21)
                  by_cases c22 : (x7_2 ++ (⟨#[44]⟩ : ByteArray)).size + t242.size ≤ 9223372036854775807
                  ·rw [if_pos c22] at H
                   have c22b0 := eq_true c22
                   have c22b1 : decide ((x7_2 ++ (⟨#[44]⟩ : ByteArray)).size + t242.size ≤ 9223372036854775807) = true := decide_eq_true c22
                   try have c22b3 : (9223372036854775807 < (x7_2.size + 1) + t242.size) = False := eq_false (Nat.not_lt.2 (by have h_ := c22; simp only [ByteArray.size_append, show (⟨#[44]⟩ : ByteArray).size = 1 from rfl] at h_; omega))
                   try have c22b2 : (9223372036854775807 < (x7_2 ++ (⟨#[44]⟩ : ByteArray)).size + t242.size) = False := eq_false (Nat.not_lt.2 c22)
                   by_cases c23 : (x8_2 ++ (⟨#[44]⟩ : ByteArray)).size + t244.size ≤ 9223372036854775807
                   ·rw [if_pos c23] at H
                    have c23b0 := eq_true c23
                    have c23b1 : decide ((x8_2 ++ (⟨#[44]⟩ : ByteArray)).size + t244.size ≤ 9223372036854775807) = true := decide_eq_true c23
                    try have c23b3 : (9223372036854775807 < (x8_2.size + 1) + t244.size) = False := eq_false (Nat.not_lt.2 (by have h_ := c23; simp only [ByteArray.size_append, show (⟨#[44]⟩ : ByteArray).size = 1 from rfl] at h_; omega))
                    try have c23b2 : (9223372036854775807 < (x8_2 ++ (⟨#[44]⟩ : ByteArray)).size + t244.size) = False := eq_false (Nat.not_lt.2 c23)
                    by_cases c24 : x9_2.length < 17592186044416
                    ·rw [if_pos c24] at H
                     have LMc24 := Aside0.mk c24
                     clear c24
                     obtain ⟨y246, hy246⟩ : ∃ y_ : List Int, y_ = (x9_2 ++ [t241]) := ⟨_, rfl⟩
                     replace H : (solsticelaw20_ValueLists.l0 kj12 l0 a1 (wrap64 (Int.tmod (IntKind.u64.wrap (a2)) (IntKind.u64.wrap ((l0.length : Int))))) ((x7_2 ++ (⟨#[44]⟩ : ByteArray)) ++ t242) ((x8_2 ++ (⟨#[44]⟩ : ByteArray)) ++ t244) y246 (wrap64 (x10_2 + 1))) = some r := by first | (rw [hy246]; with_reducible exact H) | (have H2_ := (Option.bind_some _ _).symm.trans H; rw [hy246]; with_reducible exact H2_) | (have H2_ := (Option.bind_some _ _).symm.trans H; with_reducible exact H2_) | with_reducible exact H | (rw [hy246]; exact H) | exact H
                     have Ny246 := Aside0.mk hy246
                     clear hy246
                     have H' := Aside0.mk H
                     clear H
                     go_wp2_with (first | ((with_reducible refine gate_builtin (b := .append) (xs := #[.tmp 85, .tmp 87]) rfl ?_); (try (refine gate_guard (by rfl) ?_; dsimp only)); at_builtin; refine Kd.R_append (Kd.int .i64) (w0 := w) w.heap.size rfl (.tmp 85) (.tmp 87) 30 3 (.int .i64 0) 8 rfl Tryd.underlying30 info3 rfl (by decide) (by omega) u9 x9_2 t241 [.int .i64 t241] (fun _ => True) (fun _ => False) rfl rfl ?aP (fun _ hk => hk.elim) ?aF ?aO ?aB ?aS ?aL ?_; (case aP => exact rfl); (case aB => exact (by repeat (first | (with_reducible first | exact HB.out | apply below_alloc | apply pw_below_drewN | apply below_drew1) | exact HB.out))); (case aF => exact (fun _ _ => trivial)); (case aO => exact (by (with_reducible repeat (first | apply Kd.R_alloc | apply Kd.R_drewN | apply Kd.R_drew)); exact HO_9.out)); (case aS => exact (below_size (by repeat (first | (with_reducible first | exact HB.out | apply below_alloc | apply pw_below_drewN | apply below_drew1) | exact HB.out)))); (case aL => have := LMc24.out; omega); intro v247 w25 ho hb hg hat; rw [← Ny246.out] at ho; have n0_ := Aside0.mk (hb); have n1_ := Aside0.mk (ho); clear HB; clear HO_9; have HB := n0_; have HO248 := n1_; clear n0_ n1_; clear ho hb hg hat))
                     go_roundg kj12
                     case measure => have := HJ3.out; have := HK2.out; have := HJ12.out; omega
                     case rel => exact ⟨((x7_2 ++ (⟨#[44]⟩ : ByteArray)) ++ t242), ((x8_2 ++ (⟨#[44]⟩ : ByteArray)) ++ t244), (y246), (wrap64 (x10_2 + 1)), (by first | rfl | (simp; done) | (simp [*]; done)), (by first | rfl | (simp; done) | (simp [*]; done)), (by first | rfl | (simp; done) | (simp [*]; done)), H', ⟨by have := HJ3.out; have := HK2.out; have := HJ12.out; omega⟩, ⟨by (with_reducible repeat (first | apply Kd.R_alloc | apply Kd.R_drewN | apply Kd.R_drew)); exact HO248.out⟩, ⟨by repeat (first | (with_reducible first | exact HB.out | apply below_alloc | apply pw_below_drewN | apply below_drew1) | exact HB.out)⟩⟩
                    ·rw [if_neg c24] at H
                     exact absurd H (by simp)
                   ·rw [if_neg c23] at H
                    exact absurd H (by simp)
                  ·rw [if_neg c22] at H
                   exact absurd H (by simp)
                 ·rw [if_neg c21] at H
                  exact absurd H (by simp)
                ·rw [if_neg c20] at H
                 exact absurd H (by simp)
               ·rw [if_neg c19] at H
                have c19b0 : decide (0 < x10_2) = false := decide_eq_false c19
                clear c19
                by_cases c26 : x7_2.size + t242.size ≤ 9223372036854775807
                ·rw [if_pos c26] at H
                 have c26b0 := eq_true c26
                 have c26b1 : decide (x7_2.size + t242.size ≤ 9223372036854775807) = true := decide_eq_true c26
                 try have c26b2 : (9223372036854775807 < x7_2.size + t242.size) = False := eq_false (Nat.not_lt.2 c26)
                 by_cases c27 : x8_2.size + t244.size ≤ 9223372036854775807
                 ·rw [if_pos c27] at H
                  have c27b0 := eq_true c27
                  have c27b1 : decide (x8_2.size + t244.size ≤ 9223372036854775807) = true := decide_eq_true c27
                  try have c27b2 : (9223372036854775807 < x8_2.size + t244.size) = False := eq_false (Nat.not_lt.2 c27)
                  by_cases c28 : x9_2.length < 17592186044416
                  ·rw [if_pos c28] at H
                   have LMc28 := Aside0.mk c28
                   clear c28
                   obtain ⟨y249, hy249⟩ : ∃ y_ : List Int, y_ = (x9_2 ++ [t241]) := ⟨_, rfl⟩
                   replace H : (solsticelaw20_ValueLists.l0 kj12 l0 a1 (wrap64 (Int.tmod (IntKind.u64.wrap (a2)) (IntKind.u64.wrap ((l0.length : Int))))) (x7_2 ++ t242) (x8_2 ++ t244) y249 (wrap64 (x10_2 + 1))) = some r := by first | (rw [hy249]; with_reducible exact H) | (have H2_ := (Option.bind_some _ _).symm.trans H; rw [hy249]; with_reducible exact H2_) | (have H2_ := (Option.bind_some _ _).symm.trans H; with_reducible exact H2_) | with_reducible exact H | (rw [hy249]; exact H) | exact H
                   have Ny249 := Aside0.mk hy249
                   clear hy249
                   have H' := Aside0.mk H
                   clear H
                   go_wp2_with (first | ((with_reducible refine gate_builtin (b := .append) (xs := #[.tmp 85, .tmp 87]) rfl ?_); (try (refine gate_guard (by rfl) ?_; dsimp only)); at_builtin; refine Kd.R_append (Kd.int .i64) (w0 := w) w.heap.size rfl (.tmp 85) (.tmp 87) 30 3 (.int .i64 0) 8 rfl Tryd.underlying30 info3 rfl (by decide) (by omega) u9 x9_2 t241 [.int .i64 t241] (fun _ => True) (fun _ => False) rfl rfl ?aP (fun _ hk => hk.elim) ?aF ?aO ?aB ?aS ?aL ?_; (case aP => exact rfl); (case aB => exact (by repeat (first | (with_reducible first | exact HB.out | apply below_alloc | apply pw_below_drewN | apply below_drew1) | exact HB.out))); (case aF => exact (fun _ _ => trivial)); (case aO => exact (by (with_reducible repeat (first | apply Kd.R_alloc | apply Kd.R_drewN | apply Kd.R_drew)); exact HO_9.out)); (case aS => exact (below_size (by repeat (first | (with_reducible first | exact HB.out | apply below_alloc | apply pw_below_drewN | apply below_drew1) | exact HB.out)))); (case aL => have := LMc28.out; omega); intro v250 w29 ho hb hg hat; rw [← Ny249.out] at ho; have n0_ := Aside0.mk (hb); have n1_ := Aside0.mk (ho); clear HB; clear HO_9; have HB := n0_; have HO251 := n1_; clear n0_ n1_; clear ho hb hg hat))
                   go_roundg kj12
                   case measure => have := HJ3.out; have := HK2.out; have := HJ12.out; omega
                   case rel => exact ⟨(x7_2 ++ t242), (x8_2 ++ t244), (y249), (wrap64 (x10_2 + 1)), (by first | rfl | (simp; done) | (simp [*]; done)), (by first | rfl | (simp; done) | (simp [*]; done)), (by first | rfl | (simp; done) | (simp [*]; done)), H', ⟨by have := HJ3.out; have := HK2.out; have := HJ12.out; omega⟩, ⟨by (with_reducible repeat (first | apply Kd.R_alloc | apply Kd.R_drewN | apply Kd.R_drew)); exact HO251.out⟩, ⟨by repeat (first | (with_reducible first | exact HB.out | apply below_alloc | apply pw_below_drewN | apply below_drew1) | exact HB.out)⟩⟩
                  ·rw [if_neg c28] at H
                   exact absurd H (by simp)
                 ·rw [if_neg c27] at H
                  exact absurd H (by simp)
                ·rw [if_neg c26] at H
                 exact absurd H (by simp)
          ·rw [if_neg c9] at H
           exact absurd H (by simp)
         ·rw [if_neg c8] at H
          have c8b0 : decide (x10_2 < (l0.length : Int)) = false := decide_eq_false c8
          clear c8
          replace H := Option.bind_eq_some_iff.mp H
          obtain ⟨⟨t252, t253, t254⟩, A300, H⟩ := H
          replace H : ((value_Times.f k2 x8_2).bind fun bt257 => (if x7_2.size + 1 ≤ 9223372036854775807 then ((value_Times.f k2 (x7_2 ++ (⟨#[44]⟩ : ByteArray))).bind fun bt262 => (if t254 = 0 then ((solsticekeep_Ints.f k2 t252 x9_2).bind fun t267 => (if t267 = true then (if (t253 == a1) = true then (if (((l0.length : Int) == 1) == (bt257.2.2 == 0)) = true then (if bt262.2.2 = 19 then ((solsticelaw20_wakes.f k2).bind fun t268 => (some t268)) else (some false)) else (some false)) else (some false)) else (some false))) else (some false))) else (none))) = some r := H
          have A30 := Aside0.mk A300
          clear A300
          replace H := Option.bind_eq_some_iff.mp H
          obtain ⟨⟨t257, t258, t259⟩, A310, H⟩ := H
          replace H : (if x7_2.size + 1 ≤ 9223372036854775807 then ((value_Times.f k2 (x7_2 ++ (⟨#[44]⟩ : ByteArray))).bind fun bt262 => (if t254 = 0 then ((solsticekeep_Ints.f k2 t252 x9_2).bind fun t267 => (if t267 = true then (if (t253 == a1) = true then (if (((l0.length : Int) == 1) == (t259 == 0)) = true then (if bt262.2.2 = 19 then ((solsticelaw20_wakes.f k2).bind fun t268 => (some t268)) else (some false)) else (some false)) else (some false)) else (some false))) else (some false))) else (none)) = some r := H
          have A31 := Aside0.mk A310
          clear A310
          by_cases c32 : x7_2.size + 1 ≤ 9223372036854775807
          ·rw [if_pos c32] at H
           have c32b0 := eq_true c32
           have c32b1 : decide (x7_2.size + 1 ≤ 9223372036854775807) = true := decide_eq_true c32
           try have c32b2 : (9223372036854775807 < x7_2.size + 1) = False := eq_false (Nat.not_lt.2 c32)
           replace H := Option.bind_eq_some_iff.mp H
           obtain ⟨⟨t262, t263, t264⟩, A330, H⟩ := H
           replace H : (if t254 = 0 then ((solsticekeep_Ints.f k2 t252 x9_2).bind fun t267 => (if t267 = true then (if (t253 == a1) = true then (if (((l0.length : Int) == 1) == (t259 == 0)) = true then (if t264 = 19 then ((solsticelaw20_wakes.f k2).bind fun t268 => (some t268)) else (some false)) else (some false)) else (some false)) else (some false))) else (some false)) = some r := H
           have A33 := Aside0.mk A330
           clear A330
           by_cases c34 : t254 = 0
           ·rw [if_pos c34] at H
            have c34b0 : (t254 == 0) = true := beq_iff_eq.mpr c34
            have c34b1 : (t254 != 0) = false := bne_eq_false_iff_eq.mpr c34
            clear c34
            replace H := Option.bind_eq_some_iff.mp H
            obtain ⟨t267, A350, H⟩ := H
            replace H : (if t267 = true then (if (t253 == a1) = true then (if (((l0.length : Int) == 1) == (t259 == 0)) = true then (if t264 = 19 then ((solsticelaw20_wakes.f k2).bind fun t268 => (some t268)) else (some false)) else (some false)) else (some false)) else (some false)) = some r := H
            have A35 := Aside0.mk A350
            clear A350
            by_cases c36 : t267 = true
            ·subst c36
             have H1 : (if (t253 == a1) = true then (if (((l0.length : Int) == 1) == (t259 == 0)) = true then (if t264 = 19 then ((solsticelaw20_wakes.f k2).bind fun t268 => (some t268)) else (some false)) else (some false)) else (some false)) = some r := by rw [if_pos rfl] at H; exact H
             clear H
             have H := H1
             clear H1
             by_cases c37 : (t253 == a1) = true
             ·rw [if_pos c37] at H
              have c37b0 : (t253 == a1) = true := c37
              (try (have c37b1 : decide (t253 = a1) = true := by simpa using c37))
              (try (have c37b2 : (t253 == a1) = true := by simpa using c37))
              clear c37
              by_cases c38 : (((l0.length : Int) == 1) == (t259 == 0)) = true
              ·rw [if_pos c38] at H
               have c38b0 : (((l0.length : Int) == 1) == (t259 == 0)) = true := c38
               (try (have c38b1 : decide (((l0.length : Int) == 1) = (t259 == 0)) = true := by simpa using c38))
               (try (have c38b2 : (((l0.length : Int) == 1) == (t259 == 0)) = true := by simpa using c38))
               clear c38
               by_cases c39 : t264 = 19
               ·rw [if_pos c39] at H
                have c39b0 : (t264 == 19) = true := beq_iff_eq.mpr c39
                have c39b1 : (t264 != 19) = false := bne_eq_false_iff_eq.mpr c39
                clear c39
                replace H := Option.bind_eq_some_iff.mp H
                obtain ⟨t268, A400, H⟩ := H
                replace H : (some t268) = some r := H
                have A40 := Aside0.mk A400
                clear A400
                obtain rfl := Option.some.inj H
                go_wp2_with (first | ((with_reducible refine gate_callee (f := 11) rfl ?_); refine goesL_ (some 91) rfl rfl Tryd.func11 (by kernel_rfl) rfl #[.string x7_2] rfl (by (try simp only [List.map_toArray, List.map_cons, List.map_nil]); first | done | rfl | (simp only [List.length_drop, List.length_take]; rfl)) ?_; (with_reducible refine (value_Times.calls k2 x7_2 t252 t253 t254 _ ?sideG A30.out).mono ?_); (case sideG => first | exact GP_below HG.out (by repeat (first | (with_reducible first | exact HB.out | apply below_alloc | apply pw_below_drewN | apply below_drew1) | exact HB.out)) | repeat (first | exact HG.out | refine GP_alloc ?_ _ | refine GP_drewN ?_ _ | refine GP_drew ?_)); rintro e w41 ⟨v255, rfl, ho0, hb⟩; refine ⟨_, rfl, ?_⟩; have n0_ := Aside0.mk (Kd.R_elder' (by (with_reducible repeat (first | apply Kd.R_alloc | apply Kd.R_drewN | apply Kd.R_drew)); exact HO_9.out) (Kd.R_base ho0) hb); have n1_ := Aside0.mk (Kd.R_lower (Kd.R_new' ho0 (Kd.R_lt (by (with_reducible repeat (first | apply Kd.R_alloc | apply Kd.R_drewN | apply Kd.R_drew)); exact HO_9.out))) (below_size (by repeat (first | (with_reducible first | exact HB.out | apply below_alloc | apply pw_below_drewN | apply below_drew1) | exact HB.out)))); have n2_ := Aside0.mk (below_step (by repeat (first | (with_reducible first | exact HB.out | apply below_alloc | apply pw_below_drewN | apply below_drew1) | exact HB.out)) hb); clear HO_9; clear HB; have HO_9 := n0_; have HO256 := n1_; have HB := n2_; clear n0_ n1_ n2_; (try clear hb); (try clear hb2); (try clear hk); (try clear hi); (try clear ho0)) | ((with_reducible refine gate_callee (f := 11) rfl ?_); refine goesL_ (some 97) rfl rfl Tryd.func11 (by kernel_rfl) rfl #[.string x8_2] rfl (by (try simp only [List.map_toArray, List.map_cons, List.map_nil]); first | done | rfl | (simp only [List.length_drop, List.length_take]; rfl)) ?_; (with_reducible refine (value_Times.calls k2 x8_2 t257 t258 t259 _ ?sideG A31.out).mono ?_); (case sideG => first | exact GP_below HG.out (by repeat (first | (with_reducible first | exact HB.out | apply below_alloc | apply pw_below_drewN | apply below_drew1) | exact HB.out)) | repeat (first | exact HG.out | refine GP_alloc ?_ _ | refine GP_drewN ?_ _ | refine GP_drew ?_)); rintro e w42 ⟨v260, rfl, ho0, hb⟩; refine ⟨_, rfl, ?_⟩; have n0_ := Aside0.mk (Kd.R_elder' (by (with_reducible repeat (first | apply Kd.R_alloc | apply Kd.R_drewN | apply Kd.R_drew)); exact HO_9.out) (Kd.R_base ho0) hb); have n1_ := Aside0.mk (Kd.R_elder' (by (with_reducible repeat (first | apply Kd.R_alloc | apply Kd.R_drewN | apply Kd.R_drew)); exact HO256.out) (Kd.R_base ho0) hb); have n2_ := Aside0.mk (Kd.R_lower (Kd.R_new' (Kd.R_new' ho0 (Kd.R_lt (by (with_reducible repeat (first | apply Kd.R_alloc | apply Kd.R_drewN | apply Kd.R_drew)); exact HO_9.out))) (Kd.R_lt (by (with_reducible repeat (first | apply Kd.R_alloc | apply Kd.R_drewN | apply Kd.R_drew)); exact HO256.out))) (below_size (by repeat (first | (with_reducible first | exact HB.out | apply below_alloc | apply pw_below_drewN | apply below_drew1) | exact HB.out)))); have n3_ := Aside0.mk (below_step (by repeat (first | (with_reducible first | exact HB.out | apply below_alloc | apply pw_below_drewN | apply below_drew1) | exact HB.out)) hb); clear HO_9; clear HO256; clear HB; have HO_9 := n0_; have HO256 := n1_; have HO261 := n2_; have HB := n3_; clear n0_ n1_ n2_ n3_; (try clear hb); (try clear hb2); (try clear hk); (try clear hi); (try clear ho0)) | ((with_reducible refine gate_callee (f := 11) rfl ?_); refine goesL_ (some 104) rfl rfl Tryd.func11 (by kernel_rfl) rfl #[.string (x7_2 ++ (⟨#[44]⟩ : ByteArray))] rfl (by (try simp only [List.map_toArray, List.map_cons, List.map_nil]); first | done | rfl | (simp only [List.length_drop, List.length_take]; rfl)) ?_; (with_reducible refine (value_Times.calls k2 (x7_2 ++ (⟨#[44]⟩ : ByteArray)) t262 t263 t264 _ ?sideG A33.out).mono ?_); (case sideG => first | exact GP_below HG.out (by repeat (first | (with_reducible first | exact HB.out | apply below_alloc | apply pw_below_drewN | apply below_drew1) | exact HB.out)) | repeat (first | exact HG.out | refine GP_alloc ?_ _ | refine GP_drewN ?_ _ | refine GP_drew ?_)); rintro e w43 ⟨v265, rfl, ho0, hb⟩; refine ⟨_, rfl, ?_⟩; have n0_ := Aside0.mk (Kd.R_elder' (by (with_reducible repeat (first | apply Kd.R_alloc | apply Kd.R_drewN | apply Kd.R_drew)); exact HO_9.out) (Kd.R_base ho0) hb); have n1_ := Aside0.mk (Kd.R_elder' (by (with_reducible repeat (first | apply Kd.R_alloc | apply Kd.R_drewN | apply Kd.R_drew)); exact HO256.out) (Kd.R_base ho0) hb); have n2_ := Aside0.mk (Kd.R_elder' (by (with_reducible repeat (first | apply Kd.R_alloc | apply Kd.R_drewN | apply Kd.R_drew)); exact HO261.out) (Kd.R_base ho0) hb); have n3_ := Aside0.mk (Kd.R_lower (Kd.R_new' (Kd.R_new' (Kd.R_new' ho0 (Kd.R_lt (by (with_reducible repeat (first | apply Kd.R_alloc | apply Kd.R_drewN | apply Kd.R_drew)); exact HO_9.out))) (Kd.R_lt (by (with_reducible repeat (first | apply Kd.R_alloc | apply Kd.R_drewN | apply Kd.R_drew)); exact HO256.out))) (Kd.R_lt (by (with_reducible repeat (first | apply Kd.R_alloc | apply Kd.R_drewN | apply Kd.R_drew)); exact HO261.out))) (below_size (by repeat (first | (with_reducible first | exact HB.out | apply below_alloc | apply pw_below_drewN | apply below_drew1) | exact HB.out)))); have n4_ := Aside0.mk (below_step (by repeat (first | (with_reducible first | exact HB.out | apply below_alloc | apply pw_below_drewN | apply below_drew1) | exact HB.out)) hb); clear HO_9; clear HO256; clear HO261; clear HB; have HO_9 := n0_; have HO256 := n1_; have HO261 := n2_; have HO266 := n3_; have HB := n4_; clear n0_ n1_ n2_ n3_ n4_; (try clear hb); (try clear hb2); (try clear hk); (try clear hi); (try clear ho0); obtain ⟨Ao44, co44, eo44⟩ := Kd.R_slice HO256.out; subst eo44; obtain ⟨Ao45, co45, eo45⟩ := Kd.R_slice HO_9.out; subst eo45) | (go_at_call 15; (with_reducible refine (solsticekeep_Ints.calls k2 _ _ t252 _ _ x9_2 true _ ?side1 ?side2 ?side3 ?side4 A35.out).mono ?_); (case side1 => repeat (first | exact (Kd.R_reads' HO256.out).2.2 | (with_reducible refine Kd.C_alloc ?_ _) | (with_reducible refine Kd.C_drewN ?_ _) | (with_reducible refine Kd.C_drew ?_))); (case side2 => exact (Kd.R_reads' HO256.out).2.1); (case side3 => repeat (first | exact (Kd.R_reads' HO_9.out).2.2 | (with_reducible refine Kd.C_alloc ?_ _) | (with_reducible refine Kd.C_drewN ?_ _) | (with_reducible refine Kd.C_drew ?_))); (case side4 => exact (Kd.R_reads' HO_9.out).2.1); rintro e w' ⟨rfl, ⟨nd, rfl⟩⟩) | (go_at_call 18; (with_reducible refine (solsticelaw20_wakes.calls k2  t268 htrue _ ?sideG A40.out).mono ?_); (case sideG => first | exact GP_below HG.out (by repeat (first | (with_reducible first | exact HB.out | apply below_alloc | apply pw_below_drewN | apply below_drew1) | exact HB.out)) | repeat (first | exact HG.out | refine GP_alloc ?_ _ | refine GP_drewN ?_ _ | refine GP_drew ?_)); rintro e w46 ⟨rfl, hb⟩; have n0_ := Aside0.mk (Kd.R_below (by (with_reducible repeat (first | apply Kd.R_alloc | apply Kd.R_drewN | apply Kd.R_drew)); exact HO_9.out) hb); have n1_ := Aside0.mk (Kd.R_below (by (with_reducible repeat (first | apply Kd.R_alloc | apply Kd.R_drewN | apply Kd.R_drew)); exact HO256.out) hb); have n2_ := Aside0.mk (Kd.R_below (by (with_reducible repeat (first | apply Kd.R_alloc | apply Kd.R_drewN | apply Kd.R_drew)); exact HO261.out) hb); have n3_ := Aside0.mk (Kd.R_below (by (with_reducible repeat (first | apply Kd.R_alloc | apply Kd.R_drewN | apply Kd.R_drew)); exact HO266.out) hb); have n4_ := Aside0.mk (below_step (by repeat (first | (with_reducible first | exact HB.out | apply below_alloc | apply pw_below_drewN | apply below_drew1) | exact HB.out)) hb); clear HO_9; clear HO256; clear HO261; clear HO266; clear HB; have HO_9 := n0_; have HO256 := n1_; have HO261 := n2_; have HO266 := n3_; have HB := n4_; clear n0_ n1_ n2_ n3_ n4_; (try clear hb); (try clear hb2); (try clear hk); (try clear hi)))
                go_ret
                exact ⟨by first | rfl | (simp [errW_none, errW_some] <;> rfl) | (simp [*, errW_none, errW_some] <;> rfl), by repeat (first | (with_reducible first | exact HB.out | apply below_alloc | apply pw_below_drewN | apply below_drew1) | exact HB.out)⟩
               ·rw [if_neg c39] at H
                have c39b0 : (t264 == 19) = false := beq_eq_false_iff_ne.mpr c39
                have c39b1 : (t264 != 19) = true := bne_iff_ne.mpr c39
                obtain rfl := Option.some.inj H
                cases htrue
              ·rw [if_neg c38] at H
               have c38b0 : (((l0.length : Int) == 1) == (t259 == 0)) = false := by simpa using c38
               (try (have c38b1 : decide (((l0.length : Int) == 1) = (t259 == 0)) = false := by simpa using c38))
               (try (have c38b2 : (((l0.length : Int) == 1) == (t259 == 0)) = false := by simpa using c38))
               (try (have c38b3 : ¬ (((l0.length : Int) == 1) = (t259 == 0)) := by simpa using c38))
               clear c38
               obtain rfl := Option.some.inj H
               cases htrue
             ·rw [if_neg c37] at H
              have c37b0 : (t253 == a1) = false := by simpa using c37
              (try (have c37b1 : decide (t253 = a1) = false := by simpa using c37))
              (try (have c37b2 : (t253 == a1) = false := by simpa using c37))
              (try (have c37b3 : ¬ (t253 = a1) := by simpa using c37))
              clear c37
              obtain rfl := Option.some.inj H
              cases htrue
            ·replace c36 := Bool.eq_false_iff.mpr c36
             subst c36
             have H1 : (some false) = some r := by rw [if_neg (show ¬ (false = true) by decide)] at H; exact H
             clear H
             have H := H1
             clear H1
             obtain rfl := Option.some.inj H
             cases htrue
           ·rw [if_neg c34] at H
            have c34b0 : (t254 == 0) = false := beq_eq_false_iff_ne.mpr c34
            have c34b1 : (t254 != 0) = true := bne_iff_ne.mpr c34
            obtain rfl := Option.some.inj H
            cases htrue
          ·rw [if_neg c32] at H
           exact absurd H (by simp)
def solsticelaw20_ValueLists.Pure : Prop := ∀ (l0 : List Int) (a1 : Bool) (a2 : Int), l0.length ≤ maxLen → l0.length * 8 ≤ 140737488351232 → (∀ x ∈ l0, (Lit.int .i64 x).wf = true) → (Lit.int .i64 a2).wf = true → ∃ k, solsticelaw20_ValueLists.f k l0 a1 a2 = some true
end Go.Proofs.YtligbecmbefclaaDoor.PVls