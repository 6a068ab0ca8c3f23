-- Printed by a program of this session's over the kit's printer; library functions by contracts off the shelf.
import Derived.Test.YtookjnpmbenheaaPLinx0
namespace Go.Proofs.Ytookjnpmbenheaa.PLin
open Go.RowKit Go.Proofs.YtookjnpmbenheaaW.PrintWords Go.Proofs.YtookjnpmbenheaaW.PrintLast Go.Proofs.YtookjnpmbenheaaW.PrintMore
attribute [local go_sem] max2_int min2_int max_two min_two max_three min_three max_four min_four   -- for this text's walks alone
set_option linter.unusedVariables false
set_option linter.unusedSimpArgs false
def solsticekeep_Texts.l0 : Nat → List ByteArray → List ByteArray → Int → Option (Bool)
 | 0, _, _, _ => none
 | k + 1, x0, x1, x5 => if x5 < (x0.length : Int) then (if 0 ≤ x5 then (if x5 < (x1.length : Int) then (if (rdOf ByteArray.empty x0 x5).toList = (rdOf ByteArray.empty x1 x5).toList then (solsticekeep_Texts.l0 k x0 x1 (wrap64 (x5 + 1))) else (some false)) else (none)) else (none)) else (some true)
def solsticekeep_Texts.f (k : Nat) (l0 : List ByteArray) (l1 : List ByteArray) : Option (Bool) := if (l0.length : Int) = (l1.length : Int) then (solsticekeep_Texts.l0 k l0 l1 0) else (some false)
theorem solsticekeep_Texts.mono_l : ∀ k, (∀ y0 y1 y2, LeO (solsticekeep_Texts.l0 k y0 y1 y2) (solsticekeep_Texts.l0 (k + 1) y0 y1 y2))
 | 0 => fun _ _ _ r h => by simp [solsticekeep_Texts.l0] at h
 | k + 1 => by
  have ih0 := solsticekeep_Texts.mono_l k
  ·intro y0 y1 y2
   unfold solsticekeep_Texts.l0
   repeat' first
   | (with_reducible exact ih0 _ _ _)
   | (with_reducible exact LeO.refl _)
   | (with_reducible exact LeO.none _)
   | (with_reducible refine LeO.ite ?_ ?_)
   | (with_reducible refine LeO.bind ?_ (fun _ => ?_))
   | exact ih0 _ _ _
   | exact LeO.none _
   | refine LeO.ite ?_ ?_
   | refine LeO.bind ?_ (fun _ => ?_)
theorem solsticekeep_Texts.mono : ∀ a0 a1 k, LeO (solsticekeep_Texts.f k a0 a1) (solsticekeep_Texts.f (k + 1) a0 a1) := by
 (intro a0 a1 k); (have ih0 := solsticekeep_Texts.mono_l k); (unfold solsticekeep_Texts.f)
 repeat' first
   | (with_reducible exact ih0 _ _ _)
   | (with_reducible exact LeO.refl _)
   | (with_reducible exact LeO.none _)
   | (with_reducible refine LeO.ite ?_ ?_)
   | (with_reducible refine LeO.bind ?_ (fun _ => ?_))
   | exact ih0 _ _ _
   | exact LeO.none _
   | refine LeO.ite ?_ ?_
   | refine LeO.bind ?_ (fun _ => ?_)
set_option maxHeartbeats 8000000 in
set_option maxRecDepth 100000 in
theorem solsticekeep_Texts.calls (k : Nat) (A0 : Option Addr) (c0 : Nat) (l0 : List ByteArray) (A1 : Option Addr) (c1 : Nat) (l1 : List ByteArray) (r : Bool) (w : World) (hr0 : Kd.C Kd.string w A0 l0.length l0) (hc0 : l0.length ≤ c0) (hr1 : Kd.C Kd.string w A1 l1.length l1) (hc1 : l1.length ≤ c1) (h : solsticekeep_Texts.f k l0 l1 = some r) :
  Calls Try.prog 19 #[.slice A0 l0.length c0, .slice A1 l1.length c1] w fun e w' => e = .returned (.bool r) ∧ Drawn0 w w' := by
 (have HR0 := aM hr0); (have HC0 := aM hc0); clear hr0 hc0; (have HR1 := aM hr1); (have HC1 := aM hc1); clear hr1 hc1; (have H : (if (l0.length : Int) = (l1.length : Int) then (solsticekeep_Texts.l0 k l0 l1 0) else (some false)) = some r := h); clear h; (by_cases c3 : (l0.length : Int) = (l1.length : Int))
 ·(rw [if_pos c3] at H); (have c3b0 : ((l0.length : Int) == (l1.length : Int)) = true := beq_iff_eq.mpr c3); (have c3b1 : ((l0.length : Int) != (l1.length : Int)) = false := bne_eq_false_iff_eq.mpr c3); (have c3b2 : (l0.length == l1.length) = true := by first | simpa using c3 | (simp at c3 ⊢; omega)); clear c3; (have H' := aM H); clear H; (go_enter Try.func19, Try.ntmps19); (go_wp2); (repeat (go_quiet (fail); try go_wp2)); (go_loopg [5] k (fun kq v5 w' => ∃ (x5_1 : Int), v5 = .int .i64 x5_1 ∧ Aside0 (solsticekeep_Texts.l0 kq l0 l1 x5_1 = some r) ∧ Aside0 (kq ≤ k) ∧ Drawn0 w w'))
  case atStart => exact ⟨(0), (by first | rfl | (simp; done) | (simp [*]; done)), H', ⟨Nat.le_refl _⟩, by repeat (first | exact Drawn0.refl _ | apply Drawn0.step)⟩
  case round =>
   clear H'; (try clear c1); (try clear p2); (try clear c3); (try clear c3b0); (try clear c3b1); (try clear c3b2); (obtain ⟨x5_1, rfl, HA, HK1, ⟨m1, rfl⟩⟩ := hrel)
   cases gk with
   | zero => exact absurd HA.out (by simp [solsticekeep_Texts.l0])
   | succ k1 =>
    (have H := HA.out); clear HA; (simp only [solsticekeep_Texts.l0] at H); (by_cases c4 : x5_1 < (l0.length : Int))
    ·(rw [if_pos c4] at H); (have c4b0 : decide (x5_1 < (l0.length : Int)) = true := dE c4); clear c4; (by_cases c5 : 0 ≤ x5_1)
     ·(rw [if_pos c5] at H); (have c5b0 : decide (0 ≤ x5_1) = true := dE c5); clear c5; (by_cases c6 : x5_1 < (l1.length : Int))
      ·(rw [if_pos c6] at H); (have c6b0 : decide (x5_1 < (l1.length : Int)) = true := dE c6); clear c6; (by_cases c7 : (rdOf ByteArray.empty l0 x5_1).toList = (rdOf ByteArray.empty l1 x5_1).toList)
       ·(rw [if_pos c7] at H); (have c7b0 : ((rdOf ByteArray.empty l0 x5_1).toList == (rdOf ByteArray.empty l1 x5_1).toList) = true := beq_iff_eq.mpr c7); (have c7b1 : ((rdOf ByteArray.empty l0 x5_1).toList != (rdOf ByteArray.empty l1 x5_1).toList) = false := bne_eq_false_iff_eq.mpr c7); clear c7; (have H' := aM H); clear H; (have p101 : 0 ≤ (x5_1 : Int) := oD (by first | (with_reducible assumption) | assumption)); (have q101 : x5_1 < (l0.length : Int) := oD (by first | (with_reducible assumption) | assumption)); (obtain ⟨ad101, e101, hx101_0⟩ := Kd.at_string HR0.out x5_1 p101 q101)
        cases e101
        (replace p101 := eq_true p101); (replace q101 := eq_true q101); (have p102 : 0 ≤ (x5_1 : Int) := oD (by first | (with_reducible assumption) | assumption)); (have q102 : x5_1 < (l1.length : Int) := oD (by first | (with_reducible assumption) | assumption)); (obtain ⟨ad102, e102, hx102_0⟩ := Kd.at_string HR1.out x5_1 p102 q102)
        cases e102
        (replace p102 := eq_true p102); (replace q102 := eq_true q102); (go_wp2); (repeat (go_quiet (fail); try go_wp2)); (go_roundg k1)
        case measure => have := HK1.out; omega
        case rel => exact ⟨(wrap64 (x5_1 + 1)), (by first | rfl | (simp; done) | (simp [*]; done)), H', ⟨by have := HK1.out; omega⟩, by repeat (first | exact Drawn0.refl _ | apply Drawn0.step)⟩
       ·(rw [if_neg c7] at H); (have c7b0 : ((rdOf ByteArray.empty l0 x5_1).toList == (rdOf ByteArray.empty l1 x5_1).toList) = false := beq_eq_false_iff_ne.mpr c7); (have c7b1 : ((rdOf ByteArray.empty l0 x5_1).toList != (rdOf ByteArray.empty l1 x5_1).toList) = true := bne_iff_ne.mpr c7); (obtain rfl := Option.some.inj H); (have p101 : 0 ≤ (x5_1 : Int) := oD (by first | (with_reducible assumption) | assumption)); (have q101 : x5_1 < (l0.length : Int) := oD (by first | (with_reducible assumption) | assumption)); (obtain ⟨ad101, e101, hx101_0⟩ := Kd.at_string HR0.out x5_1 p101 q101)
        cases e101
        (replace p101 := eq_true p101); (replace q101 := eq_true q101); (have p102 : 0 ≤ (x5_1 : Int) := oD (by first | (with_reducible assumption) | assumption)); (have q102 : x5_1 < (l1.length : Int) := oD (by first | (with_reducible assumption) | assumption)); (obtain ⟨ad102, e102, hx102_0⟩ := Kd.at_string HR1.out x5_1 p102 q102)
        cases e102
        (replace p102 := eq_true p102); (replace q102 := eq_true q102); (go_wp2); (repeat (go_quiet (fail); try go_wp2)); (go_ret); (exact ⟨by first | rfl | (simp; done) | (simp [*]; done), by repeat (first | exact Drawn0.refl _ | apply Drawn0.step)⟩)
      ·(rw [if_neg c6] at H); (exact absurd H (by simp))
     ·(rw [if_neg c5] at H); (exact absurd H (by simp))
    ·(rw [if_neg c4] at H); (have c4b0 : decide (x5_1 < (l0.length : Int)) = false := decide_eq_false c4); clear c4; (obtain rfl := Option.some.inj H); (go_wp2); (repeat (go_quiet (fail); try go_wp2)); (go_ret); (exact ⟨by first | rfl | (simp; done) | (simp [*]; done), by repeat (first | exact Drawn0.refl _ | apply Drawn0.step)⟩)
 ·(rw [if_neg c3] at H); (have c3b0 : ((l0.length : Int) == (l1.length : Int)) = false := beq_eq_false_iff_ne.mpr c3); (have c3b1 : ((l0.length : Int) != (l1.length : Int)) = true := bne_iff_ne.mpr c3); (have c3b2 : (l0.length == l1.length) = false := by first | simpa using c3 | (simp at c3 ⊢; omega)); (obtain rfl := Option.some.inj H); (go_enter Try.func19, Try.ntmps19); (go_wp2); (repeat (go_quiet (fail); try go_wp2)); (go_ret); (exact ⟨by first | rfl | (simp; done) | (simp [*]; done), by repeat (first | exact Drawn0.refl _ | apply Drawn0.step)⟩)
mutual
def solsticelaw18_Heavy.j0 : Nat → Bool → ByteArray → List (S54) → ByteArray → Option (Bool)
 | 0, _, _, _, _ => none
 | k + 1, x20, x104000, x104001, x104002 => if x20 = true then (some true) else (solsticelaw18_Heavy.l0 k 0 x104000 x104001 x104002)
def solsticelaw18_Heavy.l0 : Nat → Int → ByteArray → List (S54) → ByteArray → Option (Bool)
 | 0, _, _, _, _ => none
 | k + 1, x3, x104000, x104001, x104002 => if x3 < (x104001.length : Int) then (if 0 ≤ x3 then (if (((rd_T54 x104001 x3).f0).size : Int) > 200 then (solsticelaw18_Heavy.j2 k x3 true x104000 x104001 x104002) else (solsticelaw18_Heavy.j2 k x3 (decide ((((rd_T54 x104001 x3).f1).length : Int) > 20)) x104000 x104001 x104002)) else (none)) else (some false)
def solsticelaw18_Heavy.j2 : Nat → Int → Bool → ByteArray → List (S54) → ByteArray → Option (Bool)
 | 0, _, _, _, _, _ => none
 | k + 1, x3, x45, x104000, x104001, x104002 => if x45 = true then (some true) else (solsticelaw18_Heavy.l1 k x3 0 x104000 x104001 x104002)
def solsticelaw18_Heavy.l1 : Nat → Int → Int → ByteArray → List (S54) → ByteArray → Option (Bool)
 | 0, _, _, _, _, _ => none
 | k + 1, x3, x4, x104000, x104001, x104002 => if 0 ≤ x3 then (if x3 < (x104001.length : Int) then (if x4 < (((rd_T54 x104001 x3).f1).length : Int) then (if 0 ≤ x4 then (if ((rdOf ByteArray.empty ((rd_T54 x104001 x3).f1) x4).size : Int) > 200 then (some true) else (solsticelaw18_Heavy.l1 k x3 (wrap64 (x4 + 1)) x104000 x104001 x104002)) else (none)) else (solsticelaw18_Heavy.l0 k (wrap64 (x3 + 1)) x104000 x104001 x104002)) else (none)) else (none)
end
def solsticelaw18_Heavy.f (k : Nat) (a0_0 : ByteArray) (l0_1 : List (S54)) (a0_2 : ByteArray) : Option (Bool) := if (a0_0.size : Int) > 200 then (solsticelaw18_Heavy.j0 k true a0_0 l0_1 a0_2) else (if (a0_2.size : Int) > 500 then (solsticelaw18_Heavy.j0 k true a0_0 l0_1 a0_2) else (solsticelaw18_Heavy.j0 k (decide ((l0_1.length : Int) > 20)) a0_0 l0_1 a0_2))
theorem solsticelaw18_Heavy.mono_l : ∀ k, (∀ y0 y1 y2 y3, LeO (solsticelaw18_Heavy.j0 k y0 y1 y2 y3) (solsticelaw18_Heavy.j0 (k + 1) y0 y1 y2 y3)) ∧ (∀ y0 y1 y2 y3, LeO (solsticelaw18_Heavy.l0 k y0 y1 y2 y3) (solsticelaw18_Heavy.l0 (k + 1) y0 y1 y2 y3)) ∧ (∀ y0 y1 y2 y3 y4, LeO (solsticelaw18_Heavy.j2 k y0 y1 y2 y3 y4) (solsticelaw18_Heavy.j2 (k + 1) y0 y1 y2 y3 y4)) ∧ (∀ y0 y1 y2 y3 y4, LeO (solsticelaw18_Heavy.l1 k y0 y1 y2 y3 y4) (solsticelaw18_Heavy.l1 (k + 1) y0 y1 y2 y3 y4))
 | 0 => ⟨fun _ _ _ _ r h => by simp [solsticelaw18_Heavy.j0] at h, fun _ _ _ _ r h => by simp [solsticelaw18_Heavy.l0] at h, fun _ _ _ _ _ r h => by simp [solsticelaw18_Heavy.j2] at h, fun _ _ _ _ _ r h => by simp [solsticelaw18_Heavy.l1] at h⟩
 | k + 1 => by
  obtain ⟨ih0, ih1, ih2, ih3⟩ := solsticelaw18_Heavy.mono_l k
  refine ⟨?_, ?_, ?_, ?_⟩
  ·intro y0 y1 y2 y3
   unfold solsticelaw18_Heavy.j0
   repeat' first
   | (with_reducible exact ih0 _ _ _ _)
   | (with_reducible exact ih1 _ _ _ _)
   | (with_reducible exact ih2 _ _ _ _ _)
   | (with_reducible exact ih3 _ _ _ _ _)
   | (with_reducible exact LeO.refl _)
   | (with_reducible exact LeO.none _)
   | (with_reducible refine LeO.ite ?_ ?_)
   | (with_reducible refine LeO.bind ?_ (fun _ => ?_))
   | exact ih0 _ _ _ _
   | exact ih1 _ _ _ _
   | exact ih2 _ _ _ _ _
   | exact ih3 _ _ _ _ _
   | exact LeO.none _
   | refine LeO.ite ?_ ?_
   | refine LeO.bind ?_ (fun _ => ?_)
  ·intro y0 y1 y2 y3
   unfold solsticelaw18_Heavy.l0
   repeat' first
   | (with_reducible exact ih0 _ _ _ _)
   | (with_reducible exact ih1 _ _ _ _)
   | (with_reducible exact ih2 _ _ _ _ _)
   | (with_reducible exact ih3 _ _ _ _ _)
   | (with_reducible exact LeO.refl _)
   | (with_reducible exact LeO.none _)
   | (with_reducible refine LeO.ite ?_ ?_)
   | (with_reducible refine LeO.bind ?_ (fun _ => ?_))
   | exact ih0 _ _ _ _
   | exact ih1 _ _ _ _
   | exact ih2 _ _ _ _ _
   | exact ih3 _ _ _ _ _
   | exact LeO.none _
   | refine LeO.ite ?_ ?_
   | refine LeO.bind ?_ (fun _ => ?_)
  ·intro y0 y1 y2 y3 y4
   unfold solsticelaw18_Heavy.j2
   repeat' first
   | (with_reducible exact ih0 _ _ _ _)
   | (with_reducible exact ih1 _ _ _ _)
   | (with_reducible exact ih2 _ _ _ _ _)
   | (with_reducible exact ih3 _ _ _ _ _)
   | (with_reducible exact LeO.refl _)
   | (with_reducible exact LeO.none _)
   | (with_reducible refine LeO.ite ?_ ?_)
   | (with_reducible refine LeO.bind ?_ (fun _ => ?_))
   | exact ih0 _ _ _ _
   | exact ih1 _ _ _ _
   | exact ih2 _ _ _ _ _
   | exact ih3 _ _ _ _ _
   | exact LeO.none _
   | refine LeO.ite ?_ ?_
   | refine LeO.bind ?_ (fun _ => ?_)
  ·intro y0 y1 y2 y3 y4
   unfold solsticelaw18_Heavy.l1
   repeat' first
   | (with_reducible exact ih0 _ _ _ _)
   | (with_reducible exact ih1 _ _ _ _)
   | (with_reducible exact ih2 _ _ _ _ _)
   | (with_reducible exact ih3 _ _ _ _ _)
   | (with_reducible exact LeO.refl _)
   | (with_reducible exact LeO.none _)
   | (with_reducible refine LeO.ite ?_ ?_)
   | (with_reducible refine LeO.bind ?_ (fun _ => ?_))
   | exact ih0 _ _ _ _
   | exact ih1 _ _ _ _
   | exact ih2 _ _ _ _ _
   | exact ih3 _ _ _ _ _
   | exact LeO.none _
   | refine LeO.ite ?_ ?_
   | refine LeO.bind ?_ (fun _ => ?_)
theorem solsticelaw18_Heavy.mono : ∀ a0 a1 a2 k, LeO (solsticelaw18_Heavy.f k a0 a1 a2) (solsticelaw18_Heavy.f (k + 1) a0 a1 a2) := by
 (intro a0 a1 a2 k); (obtain ⟨ih0, ih1, ih2, ih3⟩ := solsticelaw18_Heavy.mono_l k); (unfold solsticelaw18_Heavy.f)
 repeat' first
   | (with_reducible exact ih0 _ _ _ _)
   | (with_reducible exact ih1 _ _ _ _)
   | (with_reducible exact ih2 _ _ _ _ _)
   | (with_reducible exact ih3 _ _ _ _ _)
   | (with_reducible exact LeO.refl _)
   | (with_reducible exact LeO.none _)
   | (with_reducible refine LeO.ite ?_ ?_)
   | (with_reducible refine LeO.bind ?_ (fun _ => ?_))
   | exact ih0 _ _ _ _
   | exact ih1 _ _ _ _
   | exact ih2 _ _ _ _ _
   | exact ih3 _ _ _ _ _
   | exact LeO.none _
   | refine LeO.ite ?_ ?_
   | refine LeO.bind ?_ (fun _ => ?_)
set_option maxHeartbeats 8000000 in
set_option maxRecDepth 100000 in
theorem solsticelaw18_Heavy.calls (k : Nat) (a0_0 : ByteArray) (A0_1 : Option Addr) (c0_1 : Nat) (l0_1 : List (S54)) (a0_2 : ByteArray) (r : Bool) (w : World) (hr0_1 : Kd.C k54 w A0_1 l0_1.length l0_1) (hc0_1 : l0_1.length ≤ c0_1) (h : solsticelaw18_Heavy.f k a0_0 l0_1 a0_2 = some r) :
  Calls Try.prog 22 #[.agg #[.string a0_0, .slice A0_1 l0_1.length c0_1, .string a0_2]] w fun e w' => e = .returned (.bool r) ∧ Below w.heap.size w w' := by
 (have hu38 := Try.underlying38); (have HR0_1 := aM hr0_1); (have HC0_1 := aM hc0_1); clear hr0_1 hc0_1; (have HB := aM (Below.refl w.heap.size w)); (have H : (if (a0_0.size : Int) > 200 then (solsticelaw18_Heavy.j0 k true a0_0 l0_1 a0_2) else (if (a0_2.size : Int) > 500 then (solsticelaw18_Heavy.j0 k true a0_0 l0_1 a0_2) else (solsticelaw18_Heavy.j0 k (decide ((l0_1.length : Int) > 20)) a0_0 l0_1 a0_2))) = some r := h); clear h; (have HC2 := aM H); clear H; (go_enter Try.func22, Try.ntmps22); (go_upto_region 1 with (first | ((with_reducible refine gate_dst (N := 1) rfl ?_); (try (refine gate_guard (by rfl) ?_; dsimp only)); refine box_event ?hg (N := 1) ?hd (cs := #[.string a0_0, .slice A0_1 l0_1.length c0_1, .string a0_2]) (t := 38) ?hr ?_; (case hd => rfl); (case hg => rfl); (case hr => first | (go_simp; done) | (go_simp; rfl)); intro gb103 hg w3 hbox hb; have n0_ := aM (below_step (by repeat (first | (with_reducible first | exact HB.out | apply lA | apply lN | apply lW) | exact HB.out)) hb); have n1_ := aM (hbox); have n2_ := aM ((by rw [hg]; exact (below_size (by repeat (first | (with_reducible first | exact HB.out | apply lA | apply lN | apply lW) | exact HB.out))) : w.heap.size ≤ gb103)); have n3_ := aM ((by rw [hg]; exact (below_size (by repeat (first | (with_reducible first | exact HB.out | apply lA | apply lN | apply lW) | exact HB.out))) : w.heap.size ≤ gb103)); clear HB; have HB := n0_; have BK103 := n1_; have GW103 := n2_; have GE103 := n3_; clear n0_ n1_ n2_ n3_; clear hb hbox hg))); ((try simp only [Act.put, List.setIfInBounds_toArray, List.set_cons_zero, List.set_cons_succ])); (go_cut [20] (fun v20 wc => ∃ (kq : Nat) (x20_1 : Bool), v20 = .bool x20_1 ∧ Aside0 (solsticelaw18_Heavy.j0 kq x20_1 a0_0 l0_1 a0_2 = some r) ∧ Aside0 (kq ≤ k) ∧ Aside0 (wc.heap[gb103]? = some (.cells #[.string a0_0, (.slice A0_1 l0_1.length c0_1), .string a0_2] 38 (0, 0))) ∧ Aside0 (Below w.heap.size w wc)))
 case first =>
  (have H := HC2.out); clear HC2; (by_cases c4 : (a0_0.size : Int) > 200)
  ·(rw [if_pos c4] at H); (have c4b0 : decide (200 < (a0_0.size : Int)) = true := dE c4); (have c4b1 : decide (200 < a0_0.size) = true := dE (by omega)); clear c4; ((first | rw [c4b0] | (simp only [i64_w, i32_w]; rw [c4b0]) | skip)); (have H' := aM H); clear H; (have hcz5_0 : w3.cell? ⟨gb103, 0, none⟩ = some (.string a0_0) := (qC BK103.out 0).trans rfl); (have hcz5_1 : w3.cell? ⟨gb103, 1, none⟩ = some (.slice A0_1 l0_1.length c0_1) := (qC BK103.out 1).trans rfl); (have hcz5_2 : w3.cell? ⟨gb103, 2, none⟩ = some (.string a0_2) := (qC BK103.out 2).trans rfl); (have hfz5_0 := qF BK103.out 0); (have hfz5_1 := qF BK103.out 1); (have hfz5_2 := qF BK103.out 2); (go_wp2); (go_meet)
   case rel => exact ⟨_, (true), (by first | rfl | (simp; done) | (simp [*]; done)), H', ⟨by first | omega | exact Nat.le_refl _⟩, ⟨by (with_reducible repeat (first | refine qN ?_ _ | refine qW ?_ | refine qA ?_ _)); exact BK103.out⟩, ⟨by repeat (first | (with_reducible first | exact HB.out | apply lA | apply lN | apply lW | refine lS ?_ GE103.out) | exact HB.out)⟩⟩
  ·(rw [if_neg c4] at H); (have c4b0 : decide (200 < (a0_0.size : Int)) = false := decide_eq_false c4); (have c4b1 : decide (200 < a0_0.size) = false := decide_eq_false (by omega)); clear c4; ((first | rw [c4b0] | (simp only [i64_w, i32_w]; rw [c4b0]) | skip)); (by_cases c6 : (a0_2.size : Int) > 500)
   ·(rw [if_pos c6] at H); (have c6b0 : decide (500 < (a0_2.size : Int)) = true := dE c6); (have c6b1 : decide (500 < a0_2.size) = true := dE (by omega)); clear c6; (have H' := aM H); clear H; (have hcz7_0 : w3.cell? ⟨gb103, 0, none⟩ = some (.string a0_0) := (qC BK103.out 0).trans rfl); (have hcz7_1 : w3.cell? ⟨gb103, 1, none⟩ = some (.slice A0_1 l0_1.length c0_1) := (qC BK103.out 1).trans rfl); (have hcz7_2 : w3.cell? ⟨gb103, 2, none⟩ = some (.string a0_2) := (qC BK103.out 2).trans rfl); (have hfz7_0 := qF BK103.out 0); (have hfz7_1 := qF BK103.out 1); (have hfz7_2 := qF BK103.out 2); (go_wp2); (go_meet)
    case rel => exact ⟨_, (true), (by first | rfl | (simp; done) | (simp [*]; done)), H', ⟨by first | omega | exact Nat.le_refl _⟩, ⟨by (with_reducible repeat (first | refine qN ?_ _ | refine qW ?_ | refine qA ?_ _)); exact BK103.out⟩, ⟨by repeat (first | (with_reducible first | exact HB.out | apply lA | apply lN | apply lW | refine lS ?_ GE103.out) | exact HB.out)⟩⟩
   ·(rw [if_neg c6] at H); (have c6b0 : decide (500 < (a0_2.size : Int)) = false := decide_eq_false c6); (have c6b1 : decide (500 < a0_2.size) = false := decide_eq_false (by omega)); clear c6; (have H' := aM H); clear H; (have hcz8_0 : w3.cell? ⟨gb103, 0, none⟩ = some (.string a0_0) := (qC BK103.out 0).trans rfl); (have hcz8_1 : w3.cell? ⟨gb103, 1, none⟩ = some (.slice A0_1 l0_1.length c0_1) := (qC BK103.out 1).trans rfl); (have hcz8_2 : w3.cell? ⟨gb103, 2, none⟩ = some (.string a0_2) := (qC BK103.out 2).trans rfl); (have hfz8_0 := qF BK103.out 0); (have hfz8_1 := qF BK103.out 1); (have hfz8_2 := qF BK103.out 2); (go_wp2); (go_meet)
    case rel => exact ⟨_, (decide ((l0_1.length : Int) > 20)), (by first | rfl | (simp; done) | (simp [*]; done)), H', ⟨by first | omega | exact Nat.le_refl _⟩, ⟨by (with_reducible repeat (first | refine qN ?_ _ | refine qW ?_ | refine qA ?_ _)); exact BK103.out⟩, ⟨by repeat (first | (with_reducible first | exact HB.out | apply lA | apply lN | apply lW | refine lS ?_ GE103.out) | exact HB.out)⟩⟩
 case rest =>
  as_aux_lemma =>
   clear HC2; (try clear c2); (try clear p2); (try clear c4); (try clear c4b0); (try clear c4b1); (try clear c6); (try clear c6b0); (try clear c6b1); (try clear hcz5_0); (try clear hcz5_1); (try clear hcz5_2); (try clear hcz7_0); (try clear hcz7_1); (try clear hcz7_2); (try clear hcz8_0); (try clear hcz8_1); (try clear hcz8_2); (try clear hfz5_0); (try clear hfz5_1); (try clear hfz5_2); (try clear hfz7_0); (try clear hfz7_1); (try clear hfz7_2); (try clear hfz8_0); (try clear hfz8_1); (try clear hfz8_2); (obtain ⟨kq, x20_1, rfl, HA, HJ1, BK103, HB⟩ := hcut)
   cases kq with
   | zero => exact absurd HA.out (by simp [solsticelaw18_Heavy.j0])
   | succ kj1 =>
    (have H := HA.out); clear HA; (simp only [solsticelaw18_Heavy.j0] at H); (by_cases c9 : x20_1 = true)
    ·subst c9; (have H1 : (some true) = some r := by rw [if_pos rfl] at H; exact H); clear H; (have H := H1); clear H1; (obtain rfl := Option.some.inj H); (go_wp2); (go_ret); (exact ⟨by first | rfl | (simp [errW_none, errW_some] <;> rfl) | (simp [*, errW_none, errW_some] <;> rfl), by repeat (first | (with_reducible first | exact HB.out | apply lA | apply lN | apply lW | refine lS ?_ GE103.out) | exact HB.out)⟩)
    ·(replace c9 := Bool.eq_false_iff.mpr c9); subst c9; (have H1 : (solsticelaw18_Heavy.l0 kj1 0 a0_0 l0_1 a0_2) = some r := by rw [if_neg (show ¬ (false = true) by decide)] at H; exact H); clear H; (have H := H1); clear H1; (have H' := aM H); clear H; (go_wp2); (go_loopg [3] kj1 (fun kq v3 w' => ∃ (x3_2 : Int), v3 = .int .i64 x3_2 ∧ Aside0 (solsticelaw18_Heavy.l0 kq x3_2 a0_0 l0_1 a0_2 = some r) ∧ Aside0 (kq ≤ kj1) ∧ Aside0 (w'.heap[gb103]? = some (.cells #[.string a0_0, (.slice A0_1 l0_1.length c0_1), .string a0_2] 38 (0, 0))) ∧ Aside0 (Below w.heap.size w w')))
     case atStart => exact ⟨(0), (by first | rfl | (simp; done) | (simp [*]; done)), H', ⟨Nat.le_refl _⟩, ⟨by (with_reducible repeat (first | refine qN ?_ _ | refine qW ?_ | refine qA ?_ _)); exact BK103.out⟩, ⟨by repeat (first | (with_reducible first | exact HB.out | apply lA | apply lN | apply lW | refine lS ?_ GE103.out) | exact HB.out)⟩⟩
     case round =>
      as_aux_lemma =>
       clear H'; (try clear c2); (try clear p2); (try clear c4); (try clear c4b0); (try clear c4b1); (try clear c6); (try clear c6b0); (try clear c6b1); (try clear c9); (try clear hcz5_0); (try clear hcz5_1); (try clear hcz5_2); (try clear hcz7_0); (try clear hcz7_1); (try clear hcz7_2); (try clear hcz8_0); (try clear hcz8_1); (try clear hcz8_2); (try clear hfz5_0); (try clear hfz5_1); (try clear hfz5_2); (try clear hfz7_0); (try clear hfz7_1); (try clear hfz7_2); (try clear hfz8_0); (try clear hfz8_1); (try clear hfz8_2); (try clear p2); (obtain ⟨x3_2, rfl, HA, HK2, BK103, HB⟩ := hrel)
       cases gk with
       | zero => exact absurd HA.out (by simp [solsticelaw18_Heavy.l0])
       | succ k2 =>
        (have H := HA.out); clear HA; (simp only [solsticelaw18_Heavy.l0] at H); (by_cases c10 : x3_2 < (l0_1.length : Int))
        ·(rw [if_pos c10] at H); (have c10b0 : decide (x3_2 < (l0_1.length : Int)) = true := dE c10); clear c10; (have HC11 := aM H); clear H; (have hcz12_0 : wr.cell? ⟨gb103, 0, none⟩ = some (.string a0_0) := (qC BK103.out 0).trans rfl); (have hcz12_1 : wr.cell? ⟨gb103, 1, none⟩ = some (.slice A0_1 l0_1.length c0_1) := (qC BK103.out 1).trans rfl); (have hcz12_2 : wr.cell? ⟨gb103, 2, none⟩ = some (.string a0_2) := (qC BK103.out 2).trans rfl); (have hfz12_0 := qF BK103.out 0); (have hfz12_1 := qF BK103.out 1); (have hfz12_2 := qF BK103.out 2); (go_upto_region 6 with (fail)); (go_cut [45] (fun v45 wc => ∃ (kq : Nat) (x45_10 : Bool), v45 = .bool x45_10 ∧ Aside0 (solsticelaw18_Heavy.j2 kq x3_2 x45_10 a0_0 l0_1 a0_2 = some r) ∧ Aside0 (kq ≤ k2) ∧ Aside0 (wc.heap[gb103]? = some (.cells #[.string a0_0, (.slice A0_1 l0_1.length c0_1), .string a0_2] 38 (0, 0))) ∧ Aside0 (Below w.heap.size w wc)))
         case first =>
          (have H := HC11.out); clear HC11; (by_cases c13 : 0 ≤ x3_2)
          ·(rw [if_pos c13] at H); (have c13b0 : decide (0 ≤ x3_2) = true := dE c13); clear c13; ((first | rw [c13b0] | (simp only [i64_w, i32_w]; rw [c13b0]) | skip)); (by_cases c14 : (((rd_T54 l0_1 x3_2).f0).size : Int) > 200)
           ·(rw [if_pos c14] at H); (have c14b0 : decide (200 < (((rd_T54 l0_1 x3_2).f0).size : Int)) = true := dE c14); (have c14b1 : decide (200 < ((rd_T54 l0_1 x3_2).f0).size) = true := dE (by omega)); clear c14; (have H' := aM H); clear H; (have hcz15_0 : wr.cell? ⟨gb103, 0, none⟩ = some (.string a0_0) := (qC BK103.out 0).trans rfl); (have hcz15_1 : wr.cell? ⟨gb103, 1, none⟩ = some (.slice A0_1 l0_1.length c0_1) := (qC BK103.out 1).trans rfl); (have hcz15_2 : wr.cell? ⟨gb103, 2, none⟩ = some (.string a0_2) := (qC BK103.out 2).trans rfl); (have hfz15_0 := qF BK103.out 0); (have hfz15_1 := qF BK103.out 1); (have hfz15_2 := qF BK103.out 2); (have p104 : 0 ≤ (x3_2 : Int) := oD (by first | (with_reducible assumption) | assumption)); (have q104 : x3_2 < (l0_1.length : Int) := oD (by first | (with_reducible assumption) | assumption)); (obtain ⟨ad104, A104_1, c104_1, e104, hx104_0, hx104_1, hl104_1, hi104_1⟩ := at_T54 HR0_1.out x3_2 p104 q104)
            cases e104
            (replace hx104_0 := (HB.out.cell (World.block_lt_of_cell? w _ hx104_0)).trans hx104_0); (replace hx104_1 := (HB.out.cell (World.block_lt_of_cell? w _ hx104_1)).trans hx104_1); (have HR104_1 := aM hi104_1); (have HC104_1 := aM hl104_1); clear hi104_1 hl104_1; (replace p104 := eq_true p104); (replace q104 := eq_true q104); (go_wp2); (go_meet)
            case rel => exact ⟨_, (true), (by first | rfl | (simp; done) | (simp [*]; done)), H', ⟨by have := HJ1.out; have := HK2.out; first | omega | exact Nat.le_refl _⟩, ⟨by (with_reducible repeat (first | refine qN ?_ _ | refine qW ?_ | refine qA ?_ _)); exact BK103.out⟩, ⟨by repeat (first | (with_reducible first | exact HB.out | apply lA | apply lN | apply lW | refine lS ?_ GE103.out) | exact HB.out)⟩⟩
           ·(rw [if_neg c14] at H); (have c14b0 : decide (200 < (((rd_T54 l0_1 x3_2).f0).size : Int)) = false := decide_eq_false c14); (have c14b1 : decide (200 < ((rd_T54 l0_1 x3_2).f0).size) = false := decide_eq_false (by omega)); clear c14; (have H' := aM H); clear H; (have hcz16_0 : wr.cell? ⟨gb103, 0, none⟩ = some (.string a0_0) := (qC BK103.out 0).trans rfl); (have hcz16_1 : wr.cell? ⟨gb103, 1, none⟩ = some (.slice A0_1 l0_1.length c0_1) := (qC BK103.out 1).trans rfl); (have hcz16_2 : wr.cell? ⟨gb103, 2, none⟩ = some (.string a0_2) := (qC BK103.out 2).trans rfl); (have hfz16_0 := qF BK103.out 0); (have hfz16_1 := qF BK103.out 1); (have hfz16_2 := qF BK103.out 2); (have p104 : 0 ≤ (x3_2 : Int) := oD (by first | (with_reducible assumption) | assumption)); (have q104 : x3_2 < (l0_1.length : Int) := oD (by first | (with_reducible assumption) | assumption)); (obtain ⟨ad104, A104_1, c104_1, e104, hx104_0, hx104_1, hl104_1, hi104_1⟩ := at_T54 HR0_1.out x3_2 p104 q104)
            cases e104
            (replace hx104_0 := (HB.out.cell (World.block_lt_of_cell? w _ hx104_0)).trans hx104_0); (replace hx104_1 := (HB.out.cell (World.block_lt_of_cell? w _ hx104_1)).trans hx104_1); (have HR104_1 := aM hi104_1); (have HC104_1 := aM hl104_1); clear hi104_1 hl104_1; (replace p104 := eq_true p104); (replace q104 := eq_true q104); (have p105 : 0 ≤ (x3_2 : Int) := oD (by first | (with_reducible assumption) | assumption)); (have q105 : x3_2 < (l0_1.length : Int) := oD (by first | (with_reducible assumption) | assumption)); (obtain ⟨ad105, A105_1, c105_1, e105, hx105_0, hx105_1, hl105_1, hi105_1⟩ := at_T54 HR0_1.out x3_2 p105 q105); (obtain rfl : ad104 = ad105 := (by injection e105)); (replace hx105_0 := (HB.out.cell (World.block_lt_of_cell? w _ hx105_0)).trans hx105_0); (replace hx105_1 := (HB.out.cell (World.block_lt_of_cell? w _ hx105_1)).trans hx105_1); (have HR105_1 := aM hi105_1); (have HC105_1 := aM hl105_1); clear hi105_1 hl105_1; (replace p105 := eq_true p105); (replace q105 := eq_true q105); (have ea_ := Option.some.inj (hx104_1.symm.trans hx105_1)); (injection ea_ with ea_ en_ ec_); subst ea_; subst ec_; clear en_; (go_wp2); (go_meet)
            case rel => exact ⟨_, (decide ((((rd_T54 l0_1 x3_2).f1).length : Int) > 20)), (by first | rfl | (simp; done) | (simp [*]; done)), H', ⟨by have := HJ1.out; have := HK2.out; first | omega | exact Nat.le_refl _⟩, ⟨by (with_reducible repeat (first | refine qN ?_ _ | refine qW ?_ | refine qA ?_ _)); exact BK103.out⟩, ⟨by repeat (first | (with_reducible first | exact HB.out | apply lA | apply lN | apply lW | refine lS ?_ GE103.out) | exact HB.out)⟩⟩
          ·(rw [if_neg c13] at H); (exact absurd H (by simp))
         case rest =>
          as_aux_lemma =>
           clear HC11; (try clear c1); (try clear p1); (try clear q1); (try clear hx1); (try clear c2); (try clear p2); (try clear c4); (try clear c4b0); (try clear c4b1); (try clear c6); (try clear c6b0); (try clear c6b1); (try clear c9); (try clear c10); (try clear c10b0); (try clear p10); (try clear q10); (try clear hx10); (try clear c13); (try clear c13b0); (try clear c14); (try clear c14b0); (try clear c14b1); (try clear hcz12_0); (try clear hcz12_1); (try clear hcz12_2); (try clear hcz15_0); (try clear hcz15_1); (try clear hcz15_2); (try clear hcz16_0); (try clear hcz16_1); (try clear hcz16_2); (try clear hcz5_0); (try clear hcz5_1); (try clear hcz5_2); (try clear hcz7_0); (try clear hcz7_1); (try clear hcz7_2); (try clear hcz8_0); (try clear hcz8_1); (try clear hcz8_2); (try clear hfz12_0); (try clear hfz12_1); (try clear hfz12_2); (try clear hfz15_0); (try clear hfz15_1); (try clear hfz15_2); (try clear hfz16_0); (try clear hfz16_1); (try clear hfz16_2); (try clear hfz5_0); (try clear hfz5_1); (try clear hfz5_2); (try clear hfz7_0); (try clear hfz7_1); (try clear hfz7_2); (try clear hfz8_0); (try clear hfz8_1); (try clear hfz8_2); (try clear hx104_0); (try clear hx104_1); (try clear hx105_0); (try clear hx105_1); (try clear p104); (try clear p105); (try clear p2); (try clear q104); (try clear q105); (obtain ⟨kq, x45_10, rfl, HA, HJ10, BK103, HB⟩ := hcut)
           cases kq with
           | zero => exact absurd HA.out (by simp [solsticelaw18_Heavy.j2])
           | succ kj10 =>
            (have H := HA.out); clear HA; (simp only [solsticelaw18_Heavy.j2] at H); (by_cases c17 : x45_10 = true)
            ·subst c17; (have H1 : (some true) = some r := by rw [if_pos rfl] at H; exact H); clear H; (have H := H1); clear H1; (obtain rfl := Option.some.inj H); (go_wp2); (go_ret); (exact ⟨by first | rfl | (simp [errW_none, errW_some] <;> rfl) | (simp [*, errW_none, errW_some] <;> rfl), by repeat (first | (with_reducible first | exact HB.out | apply lA | apply lN | apply lW | refine lS ?_ GE103.out) | exact HB.out)⟩)
            ·(replace c17 := Bool.eq_false_iff.mpr c17); subst c17; (have H1 : (solsticelaw18_Heavy.l1 kj10 x3_2 0 a0_0 l0_1 a0_2) = some r := by rw [if_neg (show ¬ (false = true) by decide)] at H; exact H); clear H; (have H := H1); clear H1; (have H' := aM H); clear H; (go_wp2); (go_loopg [4] kj10 (fun kq v4 w' => ∃ (x4_4 : Int), v4 = .int .i64 x4_4 ∧ Aside0 (solsticelaw18_Heavy.l1 kq x3_2 x4_4 a0_0 l0_1 a0_2 = some r) ∧ Aside0 (kq ≤ kj10) ∧ Aside0 (w'.heap[gb103]? = some (.cells #[.string a0_0, (.slice A0_1 l0_1.length c0_1), .string a0_2] 38 (0, 0))) ∧ Aside0 (Below w.heap.size w w')))
             case atStart => exact ⟨(0), (by first | rfl | (simp; done) | (simp [*]; done)), H', ⟨Nat.le_refl _⟩, ⟨by (with_reducible repeat (first | refine qN ?_ _ | refine qW ?_ | refine qA ?_ _)); exact BK103.out⟩, ⟨by repeat (first | (with_reducible first | exact HB.out | apply lA | apply lN | apply lW | refine lS ?_ GE103.out) | exact HB.out)⟩⟩
             case round =>
              as_aux_lemma =>
               clear H'; (try clear c1); (try clear p1); (try clear q1); (try clear hx1); (try clear c2); (try clear p2); (try clear c4); (try clear c4b0); (try clear c4b1); (try clear c6); (try clear c6b0); (try clear c6b1); (try clear c9); (try clear c10); (try clear c10b0); (try clear p10); (try clear q10); (try clear hx10); (try clear c13); (try clear c13b0); (try clear c14); (try clear c14b0); (try clear c14b1); (try clear c17); (try clear hcz12_0); (try clear hcz12_1); (try clear hcz12_2); (try clear hcz15_0); (try clear hcz15_1); (try clear hcz15_2); (try clear hcz16_0); (try clear hcz16_1); (try clear hcz16_2); (try clear hcz5_0); (try clear hcz5_1); (try clear hcz5_2); (try clear hcz7_0); (try clear hcz7_1); (try clear hcz7_2); (try clear hcz8_0); (try clear hcz8_1); (try clear hcz8_2); (try clear hfz12_0); (try clear hfz12_1); (try clear hfz12_2); (try clear hfz15_0); (try clear hfz15_1); (try clear hfz15_2); (try clear hfz16_0); (try clear hfz16_1); (try clear hfz16_2); (try clear hfz5_0); (try clear hfz5_1); (try clear hfz5_2); (try clear hfz7_0); (try clear hfz7_1); (try clear hfz7_2); (try clear hfz8_0); (try clear hfz8_1); (try clear hfz8_2); (try clear hx104_0); (try clear hx104_1); (try clear hx105_0); (try clear hx105_1); (try clear p1); (try clear p10); (try clear p104); (try clear p105); (try clear p2); (try clear q1); (try clear q10); (try clear q104); (try clear q105); (obtain ⟨x4_4, rfl, HA, HK4, BK103, HB⟩ := hrel)
               cases gk with
               | zero => exact absurd HA.out (by simp [solsticelaw18_Heavy.l1])
               | succ k4 =>
                (have H := HA.out); clear HA; (simp only [solsticelaw18_Heavy.l1] at H); (by_cases c18 : 0 ≤ x3_2)
                ·(rw [if_pos c18] at H); (have c18b0 : decide (0 ≤ x3_2) = true := dE c18); clear c18; (by_cases c19 : x3_2 < (l0_1.length : Int))
                 ·(rw [if_pos c19] at H); (have c19b0 : decide (x3_2 < (l0_1.length : Int)) = true := dE c19); clear c19; (by_cases c20 : x4_4 < (((rd_T54 l0_1 x3_2).f1).length : Int))
                  ·(rw [if_pos c20] at H); (have c20b0 : decide (x4_4 < (((rd_T54 l0_1 x3_2).f1).length : Int)) = true := dE c20); clear c20; (by_cases c21 : 0 ≤ x4_4)
                   ·(rw [if_pos c21] at H); (have c21b0 : decide (0 ≤ x4_4) = true := dE c21); clear c21; (by_cases c22 : ((rdOf ByteArray.empty ((rd_T54 l0_1 x3_2).f1) x4_4).size : Int) > 200)
                    ·(rw [if_pos c22] at H); (have c22b0 : decide (200 < ((rdOf ByteArray.empty ((rd_T54 l0_1 x3_2).f1) x4_4).size : Int)) = true := dE c22); (have c22b1 : decide (200 < (rdOf ByteArray.empty ((rd_T54 l0_1 x3_2).f1) x4_4).size) = true := dE (by omega)); clear c22; (obtain rfl := Option.some.inj H); (have hcz23_0 : wr.cell? ⟨gb103, 0, none⟩ = some (.string a0_0) := (qC BK103.out 0).trans rfl); (have hcz23_1 : wr.cell? ⟨gb103, 1, none⟩ = some (.slice A0_1 l0_1.length c0_1) := (qC BK103.out 1).trans rfl); (have hcz23_2 : wr.cell? ⟨gb103, 2, none⟩ = some (.string a0_2) := (qC BK103.out 2).trans rfl); (have hfz23_0 := qF BK103.out 0); (have hfz23_1 := qF BK103.out 1); (have hfz23_2 := qF BK103.out 2); (have p106 : 0 ≤ (x3_2 : Int) := oD (by first | (with_reducible assumption) | assumption)); (have q106 : x3_2 < (l0_1.length : Int) := oD (by first | (with_reducible assumption) | assumption)); (obtain ⟨ad106, A106_1, c106_1, e106, hx106_0, hx106_1, hl106_1, hi106_1⟩ := at_T54 HR0_1.out x3_2 p106 q106)
                     cases e106
                     (replace hx106_0 := (HB.out.cell (World.block_lt_of_cell? w _ hx106_0)).trans hx106_0); (replace hx106_1 := (HB.out.cell (World.block_lt_of_cell? w _ hx106_1)).trans hx106_1); (have HR106_1 := aM hi106_1); (have HC106_1 := aM hl106_1); clear hi106_1 hl106_1; (replace p106 := eq_true p106); (replace q106 := eq_true q106); (have p107 : 0 ≤ (x3_2 : Int) := oD (by first | (with_reducible assumption) | assumption)); (have q107 : x3_2 < (l0_1.length : Int) := oD (by first | (with_reducible assumption) | assumption)); (obtain ⟨ad107, A107_1, c107_1, e107, hx107_0, hx107_1, hl107_1, hi107_1⟩ := at_T54 HR0_1.out x3_2 p107 q107); (obtain rfl : ad106 = ad107 := (by injection e107)); (replace hx107_0 := (HB.out.cell (World.block_lt_of_cell? w _ hx107_0)).trans hx107_0); (replace hx107_1 := (HB.out.cell (World.block_lt_of_cell? w _ hx107_1)).trans hx107_1); (have HR107_1 := aM hi107_1); (have HC107_1 := aM hl107_1); clear hi107_1 hl107_1; (replace p107 := eq_true p107); (replace q107 := eq_true q107); (have ea_ := Option.some.inj (hx106_1.symm.trans hx107_1)); (injection ea_ with ea_ en_ ec_); subst ea_; subst ec_; clear en_; (have p108 : 0 ≤ (x4_4 : Int) := oD (by first | (with_reducible assumption) | assumption)); (have q108 : x4_4 < (((rd_T54 l0_1 x3_2).f1).length : Int) := oD (by first | (with_reducible assumption) | assumption)); (obtain ⟨ad108, e108, hx108_0⟩ := Kd.at_string HR107_1.out x4_4 p108 q108)
                     cases e108
                     (replace hx108_0 := (HB.out.cell (World.block_lt_of_cell? w _ hx108_0)).trans hx108_0); (replace p108 := eq_true p108); (replace q108 := eq_true q108); (go_wp2); (go_ret); (exact ⟨by first | rfl | (simp [errW_none, errW_some] <;> rfl) | (simp [*, errW_none, errW_some] <;> rfl), by repeat (first | (with_reducible first | exact HB.out | apply lA | apply lN | apply lW | refine lS ?_ GE103.out) | exact HB.out)⟩)
                    ·(rw [if_neg c22] at H); (have c22b0 : decide (200 < ((rdOf ByteArray.empty ((rd_T54 l0_1 x3_2).f1) x4_4).size : Int)) = false := decide_eq_false c22); (have c22b1 : decide (200 < (rdOf ByteArray.empty ((rd_T54 l0_1 x3_2).f1) x4_4).size) = false := decide_eq_false (by omega)); clear c22; (have H' := aM H); clear H; (have hcz24_0 : wr.cell? ⟨gb103, 0, none⟩ = some (.string a0_0) := (qC BK103.out 0).trans rfl); (have hcz24_1 : wr.cell? ⟨gb103, 1, none⟩ = some (.slice A0_1 l0_1.length c0_1) := (qC BK103.out 1).trans rfl); (have hcz24_2 : wr.cell? ⟨gb103, 2, none⟩ = some (.string a0_2) := (qC BK103.out 2).trans rfl); (have hfz24_0 := qF BK103.out 0); (have hfz24_1 := qF BK103.out 1); (have hfz24_2 := qF BK103.out 2); (have p106 : 0 ≤ (x3_2 : Int) := oD (by first | (with_reducible assumption) | assumption)); (have q106 : x3_2 < (l0_1.length : Int) := oD (by first | (with_reducible assumption) | assumption)); (obtain ⟨ad106, A106_1, c106_1, e106, hx106_0, hx106_1, hl106_1, hi106_1⟩ := at_T54 HR0_1.out x3_2 p106 q106)
                     cases e106
                     (replace hx106_0 := (HB.out.cell (World.block_lt_of_cell? w _ hx106_0)).trans hx106_0); (replace hx106_1 := (HB.out.cell (World.block_lt_of_cell? w _ hx106_1)).trans hx106_1); (have HR106_1 := aM hi106_1); (have HC106_1 := aM hl106_1); clear hi106_1 hl106_1; (replace p106 := eq_true p106); (replace q106 := eq_true q106); (have p107 : 0 ≤ (x3_2 : Int) := oD (by first | (with_reducible assumption) | assumption)); (have q107 : x3_2 < (l0_1.length : Int) := oD (by first | (with_reducible assumption) | assumption)); (obtain ⟨ad107, A107_1, c107_1, e107, hx107_0, hx107_1, hl107_1, hi107_1⟩ := at_T54 HR0_1.out x3_2 p107 q107); (obtain rfl : ad106 = ad107 := (by injection e107)); (replace hx107_0 := (HB.out.cell (World.block_lt_of_cell? w _ hx107_0)).trans hx107_0); (replace hx107_1 := (HB.out.cell (World.block_lt_of_cell? w _ hx107_1)).trans hx107_1); (have HR107_1 := aM hi107_1); (have HC107_1 := aM hl107_1); clear hi107_1 hl107_1; (replace p107 := eq_true p107); (replace q107 := eq_true q107); (have ea_ := Option.some.inj (hx106_1.symm.trans hx107_1)); (injection ea_ with ea_ en_ ec_); subst ea_; subst ec_; clear en_; (have p108 : 0 ≤ (x4_4 : Int) := oD (by first | (with_reducible assumption) | assumption)); (have q108 : x4_4 < (((rd_T54 l0_1 x3_2).f1).length : Int) := oD (by first | (with_reducible assumption) | assumption)); (obtain ⟨ad108, e108, hx108_0⟩ := Kd.at_string HR107_1.out x4_4 p108 q108)
                     cases e108
                     (replace hx108_0 := (HB.out.cell (World.block_lt_of_cell? w _ hx108_0)).trans hx108_0); (replace p108 := eq_true p108); (replace q108 := eq_true q108); (go_wp2); (go_roundg k4)
                     case measure => have := HJ1.out; have := HK2.out; have := HJ10.out; have := HK4.out; omega
                     case rel => exact ⟨(wrap64 (x4_4 + 1)), (by first | rfl | (simp; done) | (simp [*]; done)), H', ⟨by have := HJ1.out; have := HK2.out; have := HJ10.out; have := HK4.out; omega⟩, ⟨by (with_reducible repeat (first | refine qN ?_ _ | refine qW ?_ | refine qA ?_ _)); exact BK103.out⟩, ⟨by repeat (first | (with_reducible first | exact HB.out | apply lA | apply lN | apply lW | refine lS ?_ GE103.out) | exact HB.out)⟩⟩
                   ·(rw [if_neg c21] at H); (exact absurd H (by simp))
                  ·(rw [if_neg c20] at H); (have c20b0 : decide (x4_4 < (((rd_T54 l0_1 x3_2).f1).length : Int)) = false := decide_eq_false c20); clear c20; (have H' := aM H); clear H; (have hcz25_0 : wr.cell? ⟨gb103, 0, none⟩ = some (.string a0_0) := (qC BK103.out 0).trans rfl); (have hcz25_1 : wr.cell? ⟨gb103, 1, none⟩ = some (.slice A0_1 l0_1.length c0_1) := (qC BK103.out 1).trans rfl); (have hcz25_2 : wr.cell? ⟨gb103, 2, none⟩ = some (.string a0_2) := (qC BK103.out 2).trans rfl); (have hfz25_0 := qF BK103.out 0); (have hfz25_1 := qF BK103.out 1); (have hfz25_2 := qF BK103.out 2); (have p106 : 0 ≤ (x3_2 : Int) := oD (by first | (with_reducible assumption) | assumption)); (have q106 : x3_2 < (l0_1.length : Int) := oD (by first | (with_reducible assumption) | assumption)); (obtain ⟨ad106, A106_1, c106_1, e106, hx106_0, hx106_1, hl106_1, hi106_1⟩ := at_T54 HR0_1.out x3_2 p106 q106)
                   cases e106
                   (replace hx106_0 := (HB.out.cell (World.block_lt_of_cell? w _ hx106_0)).trans hx106_0); (replace hx106_1 := (HB.out.cell (World.block_lt_of_cell? w _ hx106_1)).trans hx106_1); (have HR106_1 := aM hi106_1); (have HC106_1 := aM hl106_1); clear hi106_1 hl106_1; (replace p106 := eq_true p106); (replace q106 := eq_true q106); (go_wp2); (go_roundg k4)
                   case measure => have := HJ1.out; have := HK2.out; have := HJ10.out; have := HK4.out; omega
                   case rel => exact ⟨(wrap64 (x3_2 + 1)), (by first | rfl | (simp; done) | (simp [*]; done)), H', ⟨by have := HJ1.out; have := HK2.out; have := HJ10.out; have := HK4.out; omega⟩, ⟨by (with_reducible repeat (first | refine qN ?_ _ | refine qW ?_ | refine qA ?_ _)); exact BK103.out⟩, ⟨by repeat (first | (with_reducible first | exact HB.out | apply lA | apply lN | apply lW | refine lS ?_ GE103.out) | exact HB.out)⟩⟩
                 ·(rw [if_neg c19] at H); (exact absurd H (by simp))
                ·(rw [if_neg c18] at H); (exact absurd H (by simp))
        ·(rw [if_neg c10] at H); (have c10b0 : decide (x3_2 < (l0_1.length : Int)) = false := decide_eq_false c10); clear c10; (obtain rfl := Option.some.inj H); (have hcz26_0 : wr.cell? ⟨gb103, 0, none⟩ = some (.string a0_0) := (qC BK103.out 0).trans rfl); (have hcz26_1 : wr.cell? ⟨gb103, 1, none⟩ = some (.slice A0_1 l0_1.length c0_1) := (qC BK103.out 1).trans rfl); (have hcz26_2 : wr.cell? ⟨gb103, 2, none⟩ = some (.string a0_2) := (qC BK103.out 2).trans rfl); (have hfz26_0 := qF BK103.out 0); (have hfz26_1 := qF BK103.out 1); (have hfz26_2 := qF BK103.out 2); (go_wp2); (go_ret); (exact ⟨by first | rfl | (simp [errW_none, errW_some] <;> rfl) | (simp [*, errW_none, errW_some] <;> rfl), by repeat (first | (with_reducible first | exact HB.out | apply lA | apply lN | apply lW | refine lS ?_ GE103.out) | exact HB.out)⟩)
def solsticekeep_TwinTexts.f (l0 : List ByteArray) : Option (List ByteArray) := if ([] : List ByteArray).length + l0.length < 8796093022208 then (some (([] : List ByteArray) ++ l0)) else (none)
set_option maxHeartbeats 8000000 in
set_option maxRecDepth 100000 in
theorem solsticekeep_TwinTexts.calls (A0 : Option Addr) (c0 : Nat) (l0 : List ByteArray) (r : List ByteArray) (w : World) (hr0 : Kd.C Kd.string w A0 l0.length l0) (hc0 : l0.length ≤ c0) (h : solsticekeep_TwinTexts.f l0 = some r) :
  Calls Try.prog 12 #[.slice A0 l0.length c0] w fun e w' => ∃ v0_ : Value, e = .returned (v0_) ∧ Kd.R Kd.string 9 w' w.heap.size (fun _ => True) v0_ r ∧ Below w.heap.size w w' := by
 (have HR0 := aM hr0); (have HC0 := aM hc0); clear hr0 hc0; (have HB := aM (Below.refl w.heap.size w)); (have H : (if ([] : List ByteArray).length + l0.length < 8796093022208 then (some (([] : List ByteArray) ++ l0)) else (none)) = some r := h); clear h; (by_cases c2 : ([] : List ByteArray).length + l0.length < 8796093022208)
 ·(rw [if_pos c2] at H); (have LMc2 := aM c2); clear c2; (obtain ⟨y109, hy109⟩ : ∃ y_ : List ByteArray, y_ = (([] : List ByteArray) ++ l0) := ⟨_, rfl⟩); (replace H : (some y109) = some r := by first | (rw [hy109]; with_reducible exact H) | (have H2_ := (Option.bind_some _ _).symm.trans H; rw [hy109]; with_reducible exact H2_) | (have H2_ := (Option.bind_some _ _).symm.trans H; with_reducible exact H2_) | with_reducible exact H | (rw [hy109]; exact H) | exact H); (have Ny109 := aM hy109); clear hy109; (obtain rfl := Option.some.inj H); (go_enter Try.func12, Try.ntmps12); (go_wp2_with (first | ((with_reducible refine gate_builtin (b := .append) (xs := #[.tmp 4, .tmp 5]) rfl ?_); at_builtin; refine Kd.R_append_rows Kd.string (w0 := w) w.heap.size rfl (.tmp 4) (.tmp 5) 22 9 (.string ⟨#[]⟩) 16 rfl Try.underlying22 info9 rfl (by decide) (by omega) (.slice none 0 0) ([] : List ByteArray) l0 _ _ _ (fun _ => True) (fun _ => False) rfl rfl ?aO ?aR (fun _ _ h => h) (fun _ h => h.elim) ?aF ?aB ?aS ?aL ?_; (case aR => repeat (first | exact HR0.out | (with_reducible refine Kd.C_alloc ?_ _) | (with_reducible refine Kd.C_drewN ?_ _) | (with_reducible refine Kd.C_drew ?_))); (case aB => exact (by repeat (first | (with_reducible first | exact HB.out | apply lA | apply lN | apply lW) | exact HB.out))); (case aF => exact (fun _ _ => trivial)); (case aO => exact ((Kd.R_nil _ _ _ _ (fun _ => True)))); (case aS => exact (below_size (by repeat (first | (with_reducible first | exact HB.out | apply lA | apply lN | apply lW) | exact HB.out)))); (case aL => have := LMc2.out; omega); intro v110 w3 ho hb hg hat; rw [← Ny109.out] at ho; have n0_ := aM (hb); have n1_ := aM (ho); clear HB; have HB := n0_; have HO111 := n1_; clear n0_ n1_; clear ho hb hg hat))); (go_ret); (exact ⟨_, by first | rfl | (simp [errW_none, errW_some] <;> rfl) | (simp [*, errW_none, errW_some] <;> rfl), by (with_reducible repeat (first | apply Kd.R_alloc | apply Kd.R_drewN | apply Kd.R_drew)); exact HO111.out, by repeat (first | (with_reducible first | exact HB.out | apply lA | apply lN | apply lW) | exact HB.out)⟩)
 ·(rw [if_neg c2] at H); (exact absurd H (by simp))
end Go.Proofs.Ytookjnpmbenheaa.PLin