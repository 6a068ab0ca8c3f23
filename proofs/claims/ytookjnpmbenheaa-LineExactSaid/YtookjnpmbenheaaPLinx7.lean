-- Printed by a program of this session's over the kit's printer; library functions by contracts off the shelf.
import Derived.Test.YtookjnpmbenheaaPLinx0
import Derived.Test.YtookjnpmbenheaaPLinx6
namespace Go.Proofs.Ytookjnpmbenheaa.PLin
open Go.RowKit Go.Proofs.YtookjnpmbenheaaW.PrintWords Go.Proofs.YtookjnpmbenheaaW.PrintLast Go.Proofs.YtookjnpmbenheaaW.PrintMore
attribute [local go_sem] max2_int min2_int max_two min_two max_three min_three max_four min_four   -- for this text's walks alone
set_option linter.unusedVariables false
set_option linter.unusedSimpArgs false
def line_Alike.l0 : Nat → ByteArray → ByteArray → Int → Int → Option (Bool)
 | 0, _, _, _, _ => none
 | k + 1, x0, x1, x12, x13 => if x13 < x12 then (if 0 ≤ x13 then (if x13 < (x0.size : Int) then ((line_small.f (bt x0 x13)).bind fun t195 => (if x13 < (x1.size : Int) then ((line_small.f (bt x1 x13)).bind fun t196 => (if t195 = t196 then (line_Alike.l0 k x0 x1 x12 (wrap64 (x13 + 1))) else (some false))) else (none))) else (none)) else (none)) else (some true)
def line_Alike.f (k : Nat) (a0 : ByteArray) (a1 : ByteArray) : Option (Bool) := if (a0.size : Int) = (a1.size : Int) then (line_Alike.l0 k a0 a1 (a0.size : Int) 0) else (some false)
theorem line_Alike.mono_l : ∀ k, (∀ y0 y1 y2 y3, LeO (line_Alike.l0 k y0 y1 y2 y3) (line_Alike.l0 (k + 1) y0 y1 y2 y3))
 | 0 => fun _ _ _ _ r h => by simp [line_Alike.l0] at h
 | k + 1 => by
  have ih0 := line_Alike.mono_l k
  ·intro y0 y1 y2 y3
   unfold line_Alike.l0
   repeat' first
   | (with_reducible exact ih0 _ _ _ _)
   | (with_reducible exact LeO.refl _)
   | (with_reducible exact LeO.none _)
   | (with_reducible refine LeO.ite ?_ ?_)
   | (with_reducible refine LeO.bind ?_ (fun _ => ?_))
   | exact ih0 _ _ _ _
   | exact LeO.none _
   | refine LeO.ite ?_ ?_
   | refine LeO.bind ?_ (fun _ => ?_)
theorem line_Alike.mono : ∀ a0 a1 k, LeO (line_Alike.f k a0 a1) (line_Alike.f (k + 1) a0 a1) := by
 (intro a0 a1 k); (have ih0 := line_Alike.mono_l k); (unfold line_Alike.f)
 repeat' first
   | (with_reducible exact ih0 _ _ _ _)
   | (with_reducible exact LeO.refl _)
   | (with_reducible exact LeO.none _)
   | (with_reducible refine LeO.ite ?_ ?_)
   | (with_reducible refine LeO.bind ?_ (fun _ => ?_))
   | exact ih0 _ _ _ _
   | exact LeO.none _
   | refine LeO.ite ?_ ?_
   | refine LeO.bind ?_ (fun _ => ?_)
set_option maxHeartbeats 8000000 in
set_option maxRecDepth 100000 in
theorem line_Alike.calls (k : Nat) (a0 : ByteArray) (a1 : ByteArray) (r : Bool) (w : World) (h : line_Alike.f k a0 a1 = some r) :
  Calls Try.prog 45 #[.string a0, .string a1] w fun e w' => e = .returned (.bool r) ∧ Drawn0 w w' := by
 (have H : (if (a0.size : Int) = (a1.size : Int) then (line_Alike.l0 k a0 a1 (a0.size : Int) 0) else (some false)) = some r := h); clear h; (by_cases c3 : (a0.size : Int) = (a1.size : Int))
 ·(rw [if_pos c3] at H); (have c3b0 : ((a0.size : Int) == (a1.size : Int)) = true := beq_iff_eq.mpr c3); (have c3b1 : ((a0.size : Int) != (a1.size : Int)) = false := bne_eq_false_iff_eq.mpr c3); (have c3b2 : (a0.size == a1.size) = true := by first | simpa using c3 | (simp at c3 ⊢; omega)); clear c3; (have H' := aM H); clear H; (go_enter Try.func45, Try.ntmps45); (go_wp2); (repeat (go_quiet (fail); try go_wp2)); (go_loopg [13] k (fun kq v13 w' => ∃ (x13_1 : Int), v13 = .int .i64 x13_1 ∧ Aside0 (line_Alike.l0 kq a0 a1 (a0.size : Int) x13_1 = some r) ∧ Aside0 (kq ≤ k) ∧ Drawn0 w w'))
  case atStart => exact ⟨(0), (by first | rfl | (simp; done) | (simp [*]; done)), H', ⟨Nat.le_refl _⟩, by repeat (first | exact Drawn0.refl _ | apply Drawn0.step)⟩
  case round =>
   clear H'; (try clear p2); (try clear c3); (try clear c3b0); (try clear c3b1); (try clear c3b2); (obtain ⟨x13_1, rfl, HA, HK1, ⟨m1, rfl⟩⟩ := hrel)
   cases gk with
   | zero => exact absurd HA.out (by simp [line_Alike.l0])
   | succ k1 =>
    (have H := HA.out); clear HA; (simp only [line_Alike.l0] at H); (by_cases c4 : x13_1 < (a0.size : Int))
    ·(rw [if_pos c4] at H); (have c4b0 : decide (x13_1 < (a0.size : Int)) = true := dE c4); clear c4; (by_cases c5 : 0 ≤ x13_1)
     ·(rw [if_pos c5] at H); (have c5b0 : decide (0 ≤ x13_1) = true := dE c5); clear c5; (by_cases c6 : x13_1 < (a0.size : Int))
      ·(rw [if_pos c6] at H); (have c6b0 : decide (x13_1 < (a0.size : Int)) = true := dE c6); clear c6; (replace H := Option.bind_eq_some_iff.mp H); (obtain ⟨t195, A80, H⟩ := H); (replace H : (if x13_1 < (a1.size : Int) then ((line_small.f (bt a1 x13_1)).bind fun t196 => (if t195 = t196 then (line_Alike.l0 k1 a0 a1 (a0.size : Int) (wrap64 (x13_1 + 1))) else (some false))) else (none)) = some r := H); (have A8 := aM A80); clear A80; (by_cases c9 : x13_1 < (a1.size : Int))
       ·(rw [if_pos c9] at H); (have c9b0 : decide (x13_1 < (a1.size : Int)) = true := dE c9); clear c9; (replace H := Option.bind_eq_some_iff.mp H); (obtain ⟨t196, A110, H⟩ := H); (replace H : (if t195 = t196 then (line_Alike.l0 k1 a0 a1 (a0.size : Int) (wrap64 (x13_1 + 1))) else (some false)) = some r := H); (have A11 := aM A110); clear A110; (by_cases c12 : t195 = t196)
        ·(rw [if_pos c12] at H); (have c12b0 : (t195 == t196) = true := beq_iff_eq.mpr c12); (have c12b1 : (t195 != t196) = false := bne_eq_false_iff_eq.mpr c12); clear c12; (have H' := aM H); clear H; (have p7 : 0 ≤ (x13_1 : Int) := oD (by first | (with_reducible assumption) | assumption)); (have q7 : x13_1 < (a0.size : Int) := oD (by first | (with_reducible assumption) | assumption)); (have hx7 := bt_at a0 x13_1); (replace p7 := eq_true p7); (replace q7 := eq_true q7); (go_wp2_with (first | (go_at_call 63; (with_reducible refine (line_small.calls (bt a0 x13_1) t195 _ A8.out).mono ?_); rintro e w' ⟨rfl, ⟨nd, rfl⟩⟩; (try first | exact ⟨rfl, _, World.drewN_drewN _ _ _⟩ | exact ⟨rfl, _, Eq.trans (World.drewN_drewN _ _ _) (congrArg (World.drewN _) (Nat.add_assoc _ _ _))⟩); have p10 : 0 ≤ (x13_1 : Int) := oD (by first | (with_reducible assumption) | assumption); have q10 : x13_1 < (a1.size : Int) := oD (by first | (with_reducible assumption) | assumption); have hx10 := bt_at a1 x13_1; replace p10 := eq_true p10; replace q10 := eq_true q10) | (go_at_call 63; (with_reducible refine (line_small.calls (bt a1 x13_1) t196 _ A11.out).mono ?_); rintro e w' ⟨rfl, ⟨nd, rfl⟩⟩; (try first | exact ⟨rfl, _, World.drewN_drewN _ _ _⟩ | exact ⟨rfl, _, Eq.trans (World.drewN_drewN _ _ _) (congrArg (World.drewN _) (Nat.add_assoc _ _ _))⟩)))); (repeat (go_quiet (first | (go_at_call 63; (with_reducible refine (line_small.calls (bt a0 x13_1) t195 _ A8.out).mono ?_); rintro e w' ⟨rfl, ⟨nd, rfl⟩⟩; (try first | exact ⟨rfl, _, World.drewN_drewN _ _ _⟩ | exact ⟨rfl, _, Eq.trans (World.drewN_drewN _ _ _) (congrArg (World.drewN _) (Nat.add_assoc _ _ _))⟩); have p10 : 0 ≤ (x13_1 : Int) := oD (by first | (with_reducible assumption) | assumption); have q10 : x13_1 < (a1.size : Int) := oD (by first | (with_reducible assumption) | assumption); have hx10 := bt_at a1 x13_1; replace p10 := eq_true p10; replace q10 := eq_true q10) | (go_at_call 63; (with_reducible refine (line_small.calls (bt a1 x13_1) t196 _ A11.out).mono ?_); rintro e w' ⟨rfl, ⟨nd, rfl⟩⟩; (try first | exact ⟨rfl, _, World.drewN_drewN _ _ _⟩ | exact ⟨rfl, _, Eq.trans (World.drewN_drewN _ _ _) (congrArg (World.drewN _) (Nat.add_assoc _ _ _))⟩))); try go_wp2_with (first | (go_at_call 63; (with_reducible refine (line_small.calls (bt a0 x13_1) t195 _ A8.out).mono ?_); rintro e w' ⟨rfl, ⟨nd, rfl⟩⟩; (try first | exact ⟨rfl, _, World.drewN_drewN _ _ _⟩ | exact ⟨rfl, _, Eq.trans (World.drewN_drewN _ _ _) (congrArg (World.drewN _) (Nat.add_assoc _ _ _))⟩); have p10 : 0 ≤ (x13_1 : Int) := oD (by first | (with_reducible assumption) | assumption); have q10 : x13_1 < (a1.size : Int) := oD (by first | (with_reducible assumption) | assumption); have hx10 := bt_at a1 x13_1; replace p10 := eq_true p10; replace q10 := eq_true q10) | (go_at_call 63; (with_reducible refine (line_small.calls (bt a1 x13_1) t196 _ A11.out).mono ?_); rintro e w' ⟨rfl, ⟨nd, rfl⟩⟩; (try first | exact ⟨rfl, _, World.drewN_drewN _ _ _⟩ | exact ⟨rfl, _, Eq.trans (World.drewN_drewN _ _ _) (congrArg (World.drewN _) (Nat.add_assoc _ _ _))⟩))))); (go_roundg k1)
         case measure => have := HK1.out; omega
         case rel => exact ⟨(wrap64 (x13_1 + 1)), (by first | rfl | (simp; done) | (simp [*]; done)), H', ⟨by have := HK1.out; omega⟩, by repeat (first | exact Drawn0.refl _ | apply Drawn0.step)⟩
        ·(rw [if_neg c12] at H); (have c12b0 : (t195 == t196) = false := beq_eq_false_iff_ne.mpr c12); (have c12b1 : (t195 != t196) = true := bne_iff_ne.mpr c12); (obtain rfl := Option.some.inj H); (have p7 : 0 ≤ (x13_1 : Int) := oD (by first | (with_reducible assumption) | assumption)); (have q7 : x13_1 < (a0.size : Int) := oD (by first | (with_reducible assumption) | assumption)); (have hx7 := bt_at a0 x13_1); (replace p7 := eq_true p7); (replace q7 := eq_true q7); (go_wp2_with (first | (go_at_call 63; (with_reducible refine (line_small.calls (bt a0 x13_1) t195 _ A8.out).mono ?_); rintro e w' ⟨rfl, ⟨nd, rfl⟩⟩; (try first | exact ⟨rfl, _, World.drewN_drewN _ _ _⟩ | exact ⟨rfl, _, Eq.trans (World.drewN_drewN _ _ _) (congrArg (World.drewN _) (Nat.add_assoc _ _ _))⟩); have p10 : 0 ≤ (x13_1 : Int) := oD (by first | (with_reducible assumption) | assumption); have q10 : x13_1 < (a1.size : Int) := oD (by first | (with_reducible assumption) | assumption); have hx10 := bt_at a1 x13_1; replace p10 := eq_true p10; replace q10 := eq_true q10) | (go_at_call 63; (with_reducible refine (line_small.calls (bt a1 x13_1) t196 _ A11.out).mono ?_); rintro e w' ⟨rfl, ⟨nd, rfl⟩⟩; (try first | exact ⟨rfl, _, World.drewN_drewN _ _ _⟩ | exact ⟨rfl, _, Eq.trans (World.drewN_drewN _ _ _) (congrArg (World.drewN _) (Nat.add_assoc _ _ _))⟩)))); (repeat (go_quiet (first | (go_at_call 63; (with_reducible refine (line_small.calls (bt a0 x13_1) t195 _ A8.out).mono ?_); rintro e w' ⟨rfl, ⟨nd, rfl⟩⟩; (try first | exact ⟨rfl, _, World.drewN_drewN _ _ _⟩ | exact ⟨rfl, _, Eq.trans (World.drewN_drewN _ _ _) (congrArg (World.drewN _) (Nat.add_assoc _ _ _))⟩); have p10 : 0 ≤ (x13_1 : Int) := oD (by first | (with_reducible assumption) | assumption); have q10 : x13_1 < (a1.size : Int) := oD (by first | (with_reducible assumption) | assumption); have hx10 := bt_at a1 x13_1; replace p10 := eq_true p10; replace q10 := eq_true q10) | (go_at_call 63; (with_reducible refine (line_small.calls (bt a1 x13_1) t196 _ A11.out).mono ?_); rintro e w' ⟨rfl, ⟨nd, rfl⟩⟩; (try first | exact ⟨rfl, _, World.drewN_drewN _ _ _⟩ | exact ⟨rfl, _, Eq.trans (World.drewN_drewN _ _ _) (congrArg (World.drewN _) (Nat.add_assoc _ _ _))⟩))); try go_wp2_with (first | (go_at_call 63; (with_reducible refine (line_small.calls (bt a0 x13_1) t195 _ A8.out).mono ?_); rintro e w' ⟨rfl, ⟨nd, rfl⟩⟩; (try first | exact ⟨rfl, _, World.drewN_drewN _ _ _⟩ | exact ⟨rfl, _, Eq.trans (World.drewN_drewN _ _ _) (congrArg (World.drewN _) (Nat.add_assoc _ _ _))⟩); have p10 : 0 ≤ (x13_1 : Int) := oD (by first | (with_reducible assumption) | assumption); have q10 : x13_1 < (a1.size : Int) := oD (by first | (with_reducible assumption) | assumption); have hx10 := bt_at a1 x13_1; replace p10 := eq_true p10; replace q10 := eq_true q10) | (go_at_call 63; (with_reducible refine (line_small.calls (bt a1 x13_1) t196 _ A11.out).mono ?_); rintro e w' ⟨rfl, ⟨nd, rfl⟩⟩; (try first | exact ⟨rfl, _, World.drewN_drewN _ _ _⟩ | exact ⟨rfl, _, Eq.trans (World.drewN_drewN _ _ _) (congrArg (World.drewN _) (Nat.add_assoc _ _ _))⟩))))); (go_ret); (exact ⟨by first | rfl | (simp; done) | (simp [*]; done), by repeat (first | exact Drawn0.refl _ | apply Drawn0.step)⟩)
       ·(rw [if_neg c9] at H); (exact absurd H (by simp))
      ·(rw [if_neg c6] at H); (exact absurd H (by simp))
     ·(rw [if_neg c5] at H); (exact absurd H (by simp))
    ·(rw [if_neg c4] at H); (have c4b0 : decide (x13_1 < (a0.size : Int)) = false := decide_eq_false c4); clear c4; (obtain rfl := Option.some.inj H); (go_wp2); (repeat (go_quiet (fail); try go_wp2)); (go_ret); (exact ⟨by first | rfl | (simp; done) | (simp [*]; done), by repeat (first | exact Drawn0.refl _ | apply Drawn0.step)⟩)
 ·(rw [if_neg c3] at H); (have c3b0 : ((a0.size : Int) == (a1.size : Int)) = false := beq_eq_false_iff_ne.mpr c3); (have c3b1 : ((a0.size : Int) != (a1.size : Int)) = true := bne_iff_ne.mpr c3); (have c3b2 : (a0.size == a1.size) = false := by first | simpa using c3 | (simp at c3 ⊢; omega)); (obtain rfl := Option.some.inj H); (go_enter Try.func45, Try.ntmps45); (go_wp2); (repeat (go_quiet (fail); try go_wp2)); (go_ret); (exact ⟨by first | rfl | (simp; done) | (simp [*]; done), by repeat (first | exact Drawn0.refl _ | apply Drawn0.step)⟩)
def line_Param_1.f (k : Nat) (a0_0 : ByteArray) (l0_1 : List ByteArray) (q : ByteArray) : Option (Bool) := line_Alike.f k a0_0 q
theorem line_Param_1.mono : ∀ a0 a1 q k, LeO (line_Param_1.f k a0 a1 q) (line_Param_1.f (k + 1) a0 a1 q) := fun a0 _ q k => line_Alike.mono a0 q k
set_option maxHeartbeats 8000000 in
set_option maxRecDepth 100000 in
theorem line_Param_1.calls (k : Nat) (a0_0 : ByteArray) (A0_1 : Option Addr) (c0_1 : Nat) (l0_1 : List ByteArray) (q : ByteArray) (g : Nat) (r : Bool) (w : World) (hr0_1 : Kd.C Kd.string w A0_1 l0_1.length l0_1) (hc0_1 : l0_1.length ≤ c0_1) (hq : Kd.C Kd.string w (some ⟨g, 0, none⟩) [q].length [q]) (h : line_Param_1.f k a0_0 l0_1 q = some r) :
  Calls Try.prog 44 #[.agg #[.string a0_0, .slice A0_1 l0_1.length c0_1], .pointer (some ⟨g, 0, none⟩)] w fun e w' => e = .returned (.bool r) ∧ Below w.heap.size w w' := by
 (have hu54 := Try.underlying54); (have HB := aM (Below.refl w.heap.size w)); (obtain ⟨adq, eq_, hcq0⟩ := Kd.at_string hq 0 (by decide) (by simp)); (obtain rfl := Option.some.inj eq_); (have HCQ : Aside0 (w.cell? ⟨g, 0, none⟩ = some (.string q)) := ⟨hcq0⟩); clear hcq0 hq hr0_1 hc0_1; (have A2 := aM (show line_Alike.f k a0_0 q = some r from h)); clear h; (go_enter Try.func44, Try.ntmps44); (go_wp2_with (first | ((with_reducible refine gate_dst (N := 2) rfl ?_); refine box_event ?hg (N := 2) ?hd (cs := #[.string a0_0, .slice A0_1 l0_1.length c0_1]) (t := 54) ?hr ?_; (case hd => rfl); (case hg => rfl); (case hr => first | (go_simp; done) | (go_simp; rfl)); intro gb110 hg w3 hbox hb; have n0_ := aM (below_step (by repeat (first | (with_reducible first | exact HB.out | apply lA | apply lN | apply lW) | exact HB.out)) hb); have n1_ := aM (hbox); clear HB; have HB := n0_; have BK110 := n1_; clear n0_ n1_; clear hb hbox hg; have hcz4_0 : w3.cell? ⟨gb110, 0, none⟩ = some (.string a0_0) := (qC BK110.out 0).trans rfl; have hcz4_1 : w3.cell? ⟨gb110, 1, none⟩ = some (.slice A0_1 l0_1.length c0_1) := (qC BK110.out 1).trans rfl; have hcz4_2 : w3.cell? ⟨g, 0, none⟩ = some (.string q) := (HB.out.cell (World.block_lt_of_cell? w _ HCQ.out)).trans HCQ.out) | (go_at_call 45; (with_reducible refine (line_Alike.calls k a0_0 q r _ A2.out).mono ?_); rintro e w' ⟨rfl, ⟨nd, rfl⟩⟩))); (go_ret); (exact ⟨by first | rfl | (simp; done) | (simp [*]; done), by repeat (first | (with_reducible first | exact HB.out | apply lA | apply lN | apply lW) | exact HB.out)⟩)
def api_Param_43c.l0 (q : ByteArray) : Nat → List (S54) → Int → Int → Option (Int)
 | 0, _, _, _ => none
 | k + 1, x0, x7, x8 => if x8 < x7 then (if 0 ≤ x8 then (if x8 < (x0.length : Int) then ((line_Param_1.f k ((rd_T54 x0 x8).f0) ((rd_T54 x0 x8).f1) q).bind fun t135 => (if t135 = true then (some x8) else (api_Param_43c.l0 q k x0 x7 (wrap64 (x8 + 1))))) else (none)) else (none)) else (some (-1))
def api_Param_43c.f (k : Nat) (l0 : List (S54)) (q : ByteArray) : Option (Int) := api_Param_43c.l0 q k l0 (l0.length : Int) 0
theorem api_Param_43c.mono_l (q : ByteArray) : ∀ k, (∀ y0 y1 y2, LeO (api_Param_43c.l0 q k y0 y1 y2) (api_Param_43c.l0 q (k + 1) y0 y1 y2))
 | 0 => fun _ _ _ r h => by simp [api_Param_43c.l0] at h
 | k + 1 => by
  have ih0 := api_Param_43c.mono_l q k
  ·intro y0 y1 y2
   unfold api_Param_43c.l0
   repeat' first
   | (with_reducible exact ih0 _ _ _)
   | (with_reducible exact line_Param_1.mono _ _ _ _)
   | (with_reducible exact LeO.refl _)
   | (with_reducible exact LeO.none _)
   | (with_reducible refine LeO.ite ?_ ?_)
   | (with_reducible refine LeO.bind ?_ (fun _ => ?_))
   | exact ih0 _ _ _
   | exact line_Param_1.mono _ _ _ _
   | exact LeO.none _
   | refine LeO.ite ?_ ?_
   | refine LeO.bind ?_ (fun _ => ?_)
theorem api_Param_43c.mono : ∀ a0 q k, LeO (api_Param_43c.f k a0 q) (api_Param_43c.f (k + 1) a0 q) := by
 (intro a0 q k); (have ih0 := api_Param_43c.mono_l q k); (unfold api_Param_43c.f)
 repeat' first
   | (with_reducible exact ih0 _ _ _)
   | (with_reducible exact line_Param_1.mono _ _ _ _)
   | (with_reducible exact LeO.refl _)
   | (with_reducible exact LeO.none _)
   | (with_reducible refine LeO.ite ?_ ?_)
   | (with_reducible refine LeO.bind ?_ (fun _ => ?_))
   | exact ih0 _ _ _
   | exact line_Param_1.mono _ _ _ _
   | exact LeO.none _
   | refine LeO.ite ?_ ?_
   | refine LeO.bind ?_ (fun _ => ?_)
set_option maxHeartbeats 8000000 in
set_option maxRecDepth 100000 in
theorem api_Param_43c.calls (k : Nat) (A0 : Option Addr) (c0 : Nat) (l0 : List (S54)) (q : ByteArray) (g : Nat) (r : Int) (w : World) (hr0 : Kd.C k54 w A0 l0.length l0) (hc0 : l0.length ≤ c0) (hq : Kd.C Kd.string w (some ⟨g, 0, none⟩) [q].length [q]) (h : api_Param_43c.f k l0 q = some r) :
  Calls Try.prog 43 #[.slice A0 l0.length c0, .func (.func 44) #[] #[.pointer (some ⟨g, 0, none⟩)]] w fun e w' => e = .returned (.int .i64 r) ∧ Below w.heap.size w w' := by
 (have hu54 := Try.underlying54); (have HR0 := aM hr0); (have HC0 := aM hc0); (have HQ := aM hq); clear hr0 hc0 hq; (have HB := aM (Below.refl w.heap.size w)); (have H : (api_Param_43c.l0 q k l0 (l0.length : Int) 0) = some r := h); clear h; (have H' := aM H); clear H; (go_enter Try.func43, Try.ntmps43); (go_wp2); (go_loopg [8] k (fun kq v8 w' => ∃ (x8_1 : Int), v8 = .int .i64 x8_1 ∧ Aside0 (api_Param_43c.l0 q kq l0 (l0.length : Int) x8_1 = some r) ∧ Aside0 (kq ≤ k) ∧ Aside0 (Below w.heap.size w w')))
 case atStart => exact ⟨(0), (by first | rfl | (simp; done) | (simp [*]; done)), H', ⟨Nat.le_refl _⟩, ⟨by repeat (first | (with_reducible first | exact HB.out | apply lA | apply lN | apply lW) | exact HB.out)⟩⟩
 case round =>
  clear H'; (try clear p2); (obtain ⟨x8_1, rfl, HA, HK1, HB⟩ := hrel)
  cases gk with
  | zero => exact absurd HA.out (by simp [api_Param_43c.l0])
  | succ k1 =>
   (have H := HA.out); clear HA; (simp only [api_Param_43c.l0] at H); (by_cases c3 : x8_1 < (l0.length : Int))
   ·(rw [if_pos c3] at H); (have c3b0 : decide (x8_1 < (l0.length : Int)) = true := dE c3); clear c3; (by_cases c4 : 0 ≤ x8_1)
    ·(rw [if_pos c4] at H); (have c4b0 : decide (0 ≤ x8_1) = true := dE c4); clear c4; (by_cases c5 : x8_1 < (l0.length : Int))
     ·(rw [if_pos c5] at H); (have c5b0 : decide (x8_1 < (l0.length : Int)) = true := dE c5); clear c5; (replace H := Option.bind_eq_some_iff.mp H); (obtain ⟨t135, A60, H⟩ := H); (replace H : (if t135 = true then (some x8_1) else (api_Param_43c.l0 q k1 l0 (l0.length : Int) (wrap64 (x8_1 + 1)))) = some r := H); (have A6 := aM A60); clear A60; (by_cases c7 : t135 = true)
      ·subst c7; (have H1 : (some x8_1) = some r := by rw [if_pos rfl] at H; exact H); clear H; (have H := H1); clear H1; (obtain rfl := Option.some.inj H); (have p134 : 0 ≤ (x8_1 : Int) := oD (by first | (with_reducible assumption) | assumption)); (have q134 : x8_1 < (l0.length : Int) := oD (by first | (with_reducible assumption) | assumption)); (obtain ⟨ad134, A134_1, c134_1, e134, hx134_0, hx134_1, hl134_1, hi134_1⟩ := at_T54 HR0.out x8_1 p134 q134)
       cases e134
       (replace hx134_0 := (HB.out.cell (World.block_lt_of_cell? w _ hx134_0)).trans hx134_0); (replace hx134_1 := (HB.out.cell (World.block_lt_of_cell? w _ hx134_1)).trans hx134_1); (have HR134_1 := aM hi134_1); (have HC134_1 := aM hl134_1); clear hi134_1 hl134_1; (replace p134 := eq_true p134); (replace q134 := eq_true q134); (go_wp2_with (first | (go_at_call 44; (with_reducible refine (line_Param_1.calls k1 ((rd_T54 l0 x8_1).f0) _ _ ((rd_T54 l0 x8_1).f1) q g true _ ?side1 ?side2 ?side3 A6.out).mono ?_); (case side1 => repeat (first | exact (Kd.C_below HR134_1.out HB.out) | (with_reducible refine Kd.C_alloc ?_ _) | (with_reducible refine Kd.C_drewN ?_ _) | (with_reducible refine Kd.C_drew ?_))); (case side3 => repeat (first | exact (Kd.C_below HQ.out HB.out) | (with_reducible refine Kd.C_alloc ?_ _) | (with_reducible refine Kd.C_drewN ?_ _) | (with_reducible refine Kd.C_drew ?_))); (case side2 => exact HC134_1.out); rintro e w8 ⟨rfl, hb⟩; have n0_ := aM (below_step (by repeat (first | (with_reducible first | exact HB.out | apply lA | apply lN | apply lW) | exact HB.out)) hb); clear HB; have HB := n0_; clear n0_; (try clear hb); (try clear hb2); (try clear hk); (try clear hi)))); (go_ret); (exact ⟨by first | rfl | (simp [errW_none, errW_some] <;> rfl) | (simp [*, errW_none, errW_some] <;> rfl), by repeat (first | (with_reducible first | exact HB.out | apply lA | apply lN | apply lW) | exact HB.out)⟩)
      ·(replace c7 := Bool.eq_false_iff.mpr c7); subst c7; (have H1 : (api_Param_43c.l0 q k1 l0 (l0.length : Int) (wrap64 (x8_1 + 1))) = some r := by rw [if_neg (show ¬ (false = true) by decide)] at H; exact H); clear H; (have H := H1); clear H1; (have H' := aM H); clear H; (have p134 : 0 ≤ (x8_1 : Int) := oD (by first | (with_reducible assumption) | assumption)); (have q134 : x8_1 < (l0.length : Int) := oD (by first | (with_reducible assumption) | assumption)); (obtain ⟨ad134, A134_1, c134_1, e134, hx134_0, hx134_1, hl134_1, hi134_1⟩ := at_T54 HR0.out x8_1 p134 q134)
       cases e134
       (replace hx134_0 := (HB.out.cell (World.block_lt_of_cell? w _ hx134_0)).trans hx134_0); (replace hx134_1 := (HB.out.cell (World.block_lt_of_cell? w _ hx134_1)).trans hx134_1); (have HR134_1 := aM hi134_1); (have HC134_1 := aM hl134_1); clear hi134_1 hl134_1; (replace p134 := eq_true p134); (replace q134 := eq_true q134); (go_wp2_with (first | (go_at_call 44; (with_reducible refine (line_Param_1.calls k1 ((rd_T54 l0 x8_1).f0) _ _ ((rd_T54 l0 x8_1).f1) q g false _ ?side1 ?side2 ?side3 A6.out).mono ?_); (case side1 => repeat (first | exact (Kd.C_below HR134_1.out HB.out) | (with_reducible refine Kd.C_alloc ?_ _) | (with_reducible refine Kd.C_drewN ?_ _) | (with_reducible refine Kd.C_drew ?_))); (case side3 => repeat (first | exact (Kd.C_below HQ.out HB.out) | (with_reducible refine Kd.C_alloc ?_ _) | (with_reducible refine Kd.C_drewN ?_ _) | (with_reducible refine Kd.C_drew ?_))); (case side2 => exact HC134_1.out); rintro e w9 ⟨rfl, hb⟩; have n0_ := aM (below_step (by repeat (first | (with_reducible first | exact HB.out | apply lA | apply lN | apply lW) | exact HB.out)) hb); clear HB; have HB := n0_; clear n0_; (try clear hb); (try clear hb2); (try clear hk); (try clear hi)))); (go_roundg k1)
       case measure => have := HK1.out; omega
       case rel => exact ⟨(wrap64 (x8_1 + 1)), (by first | rfl | (simp; done) | (simp [*]; done)), H', ⟨by have := HK1.out; omega⟩, ⟨by repeat (first | (with_reducible first | exact HB.out | apply lA | apply lN | apply lW) | exact HB.out)⟩⟩
     ·(rw [if_neg c5] at H); (exact absurd H (by simp))
    ·(rw [if_neg c4] at H); (exact absurd H (by simp))
   ·(rw [if_neg c3] at H); (have c3b0 : decide (x8_1 < (l0.length : Int)) = false := decide_eq_false c3); clear c3; (obtain rfl := Option.some.inj H); (go_wp2); (go_ret); (exact ⟨by first | rfl | (simp [errW_none, errW_some] <;> rfl) | (simp [*, errW_none, errW_some] <;> rfl), by repeat (first | (with_reducible first | exact HB.out | apply lA | apply lN | apply lW) | exact HB.out)⟩)
def line_Param.f (k : Nat) (a0_0 : ByteArray) (l0_1 : List (S54)) (a0_2 : ByteArray) (a1 : ByteArray) : Option (List ByteArray × Bool) := (api_Param_43c.f k l0_1 a1).bind fun t => if t < 0 then some (([] : List ByteArray), false) else if t < (l0_1.length : Int) then (if ((rd_T54 l0_1 t).f1).length * 16 ≤ 140737488355328 then some ((rd_T54 l0_1 t).f1, true) else none) else none
theorem line_Param.mono : ∀ a0 a1 a2 a3 k, LeO (line_Param.f k a0 a1 a2 a3) (line_Param.f (k + 1) a0 a1 a2 a3) := by
 (intro a0 a1 a2 a3 k); (unfold line_Param.f); (exact LeO.bind (api_Param_43c.mono _ _ _) (fun _ => LeO.refl _))
theorem C_one {w : World} {g : Nat} {q : ByteArray} (h : w.cell? ⟨g, 0, none⟩ = some (.string q)) : Kd.C Kd.string w (some ⟨g, 0, none⟩) [q].length [q] :=
 ⟨rfl, by simp, fun _ => ⟨_, rfl, fun j p hj => by
  have hj0 : j = 0 := by
   have := (List.getElem?_eq_some_iff.1 hj).1
   simp at this
   omega
  subst hj0
  obtain rfl : q = p := by simpa using hj
  refine ⟨[.string q], rfl, rfl, fun i u hu => ?_⟩
  have hi0 : i = 0 := by
   have := (List.getElem?_eq_some_iff.1 hu).1
   simp at this
   omega
  subst hi0
  obtain rfl : Value.string q = u := by simpa using hu
  exact h⟩⟩
theorem clone_calls (A0 : Option Addr) (c0 : Nat) (l : List ByteArray) (w : World) (hr0 : Kd.C Kd.string w A0 l.length l) (hb : l.length * 16 ≤ 140737488355328) :
  Calls Try.prog 46 #[.slice A0 l.length c0] w fun e w' => ∃ v' : Value, e = .returned v' ∧ Kd.R Kd.string 9 w' w.heap.size (fun _ => True) v' l ∧ Below w.heap.size w w' := by
 rcases Nat.eq_zero_or_pos l.length with h0 | h0
 ·obtain rfl := List.eq_nil_of_length_eq_zero h0
  rcases A0 with _ | a
  ·exact (Try.slices_Clone_string_nil 0 c0 w).mono fun e w' ⟨he, hw⟩ => ⟨_, he, Kd.R_nil _ _ _ _ _, hw ▸ Below.refl _ _⟩
  ·exact (Try.slices_Clone_string_zero a c0 w).mono fun e w' ⟨v', he, ho, _, hw⟩ => ⟨v', he, Kd.R_of_own (xs := ([] : List ByteArray)) ho (fun _ _ => trivial), hw⟩
 ·(obtain ⟨⟨bk, o, sp⟩, hA, hcell⟩ := Kd.at_string hr0 0 (by omega) (by omega)); (have hcell' : w.cell? ⟨bk, o, sp⟩ = some (.string (rdOf ByteArray.empty l 0)) := hcell)
  obtain rfl : sp = none := by
   (unfold World.cell? at hcell'); (split at hcell')
   ·rcases sp with _ | sp
    ·rfl
    ·simp at hcell'
   ·cases hcell'
  subst hA; (refine (Try.slices_Clone_string bk o l.length c0 l w (Nat.le_refl _) hb (fun j hj => ?_)).mono fun e w' ⟨v', he, ho, _, hw⟩ => ⟨v', he, Kd.R_of_own (by rw [List.take_length] at ho; exact ho) (fun _ _ => trivial), hw⟩); (obtain ⟨ad, hA, hc⟩ := Kd.at_string hr0 (j : Int) (by omega) (by omega)); (obtain rfl := Option.some.inj hA); (have e1 : (⟨bk, o, none⟩ : Addr).add j = ⟨bk, o + j, none⟩ := by unfold Addr.add; split <;> simp_all); (rw [Int.toNat_natCast, e1] at hc); (exact hc)
set_option maxHeartbeats 8000000 in
set_option maxRecDepth 100000 in
theorem line_Param.calls (k : Nat) (a0_0 : ByteArray) (A0_1 : Option Addr) (c0_1 : Nat) (l0_1 : List (S54)) (a0_2 : ByteArray) (a1 : ByteArray) (r1 : List ByteArray) (r2 : Bool) (w : World) (hr0_1 : Kd.C k54 w A0_1 l0_1.length l0_1) (hc0_1 : l0_1.length ≤ c0_1) (h : line_Param.f k a0_0 l0_1 a0_2 a1 = some (r1, r2)) :
  Calls Try.prog 26 #[.agg #[.string a0_0, .slice A0_1 l0_1.length c0_1, .string a0_2], .string a1] w fun e w' => ∃ v0_ : Value, e = .returned (.tuple #[v0_, .bool r2]) ∧ Kd.R Kd.string 9 w' w.heap.size (fun _ => True) v0_ r1 ∧ Below w.heap.size w w' := by
 (have hu38 := Try.underlying38); (have hu54 := Try.underlying54); (have HR := aM hr0_1); (have HC := aM hc0_1); clear hr0_1 hc0_1; (have HB := aM (Below.refl w.heap.size w)); (unfold line_Param.f at h); (obtain ⟨t, ht, h⟩ := Option.bind_eq_some_iff.1 h); (have HT := aM ht); clear ht; (by_cases h0 : t < 0)
 ·(rw [if_pos h0] at h); (have c0 : decide (t < 0) = true := dE h0); clear h0; (obtain ⟨rfl, rfl⟩ := Prod.mk.inj (Option.some.inj h)); clear h; (go_enter Try.func26, Try.ntmps26)
  go_wp2_with (first
   | ((with_reducible refine gate_dst (N := 2) rfl ?_); refine box_event ?hg (N := 2) ?hd (cs := #[.string a0_0, .slice A0_1 l0_1.length c0_1, .string a0_2]) (t := 38) ?hr ?_; (case hd => rfl); (case hg => rfl); (case hr => first | (go_simp; done) | (go_simp; rfl)); intro gb1 hg w3 hbox hb; have n0_ := aM (below_step (by repeat (first | (with_reducible first | exact HB.out | apply lA | apply lN | apply lW) | exact HB.out)) hb); have n1_ := aM (hbox); clear HB; have HB := n0_; have BK1 := n1_; clear n0_ n1_; clear hb hbox hg; have hcz1 : w3.cell? ⟨gb1, 1, none⟩ = some (.slice A0_1 l0_1.length c0_1) := (qC BK1.out 1).trans rfl)
   | ((with_reducible refine gate_dst (N := 3) rfl ?_); refine box_event ?hg (N := 3) ?hd (cs := #[.string a1]) (t := 9) ?hr ?_; (case hd => rfl); (case hg => rfl); (case hr => first | (go_simp; done) | (go_simp; rfl)); intro gb2 hg w4 hbox hb; have n0_ := aM (below_step (by repeat (first | (with_reducible first | exact HB.out | apply lA | apply lN | apply lW) | exact HB.out)) hb); have n1_ := aM (hbox); replace hcz1 := (hb.cell (World.block_lt_of_cell? _ _ hcz1)).trans hcz1; clear HB; have HB := n0_; have BK2 := n1_; clear n0_ n1_; clear hb hbox hg; have HQ := aM (C_one ((qC BK2.out 0).trans rfl)))
   | (go_at_call 43; (with_reducible refine (api_Param_43c.calls k _ _ l0_1 a1 gb2 t _ ?side1 ?side2 ?side3 HT.out).mono ?_); (case side1 => repeat (first | exact (Kd.C_below HR.out HB.out) | (with_reducible refine Kd.C_alloc ?_ _) | (with_reducible refine Kd.C_drewN ?_ _) | (with_reducible refine Kd.C_drew ?_))); (case side2 => exact HC.out); (case side3 => repeat (first | exact HQ.out | (with_reducible refine Kd.C_alloc ?_ _) | (with_reducible refine Kd.C_drewN ?_ _) | (with_reducible refine Kd.C_drew ?_))); rintro e w8 ⟨rfl, hb⟩; have n0_ := aM (below_step (by repeat (first | (with_reducible first | exact HB.out | apply lA | apply lN | apply lW) | exact HB.out)) hb); clear HB; have HB := n0_; clear n0_ hb))
  (go_ret2); (exact ⟨_, rfl, Kd.R_nil _ _ _ _ _, by repeat (first | (with_reducible first | exact HB.out | apply lA | apply lN | apply lW) | exact HB.out)⟩)
 ·(rw [if_neg h0] at h); (have c0 : decide (t < 0) = false := decide_eq_false h0); (by_cases h1 : t < (l0_1.length : Int))
  ·(rw [if_pos h1] at h); (split at h)
   ·(rename_i hbig); (have HBIG := aM hbig); clear hbig; (obtain ⟨rfl, rfl⟩ := Prod.mk.inj (Option.some.inj h)); clear h; (obtain ⟨ad, A1, c1, e1, hx0, hx1, hl1, hi1⟩ := at_T54 HR.out t (by omega) h1)
    cases e1
    (have HR1 := aM hi1); (have HC1 := aM hl1); clear hi1 hl1; (have p1 : (0 ≤ t) = True := eq_true (by omega)); (have p1b : decide (0 ≤ t) = true := dE (by omega)); (have p2 : (t < (l0_1.length : Int)) = True := eq_true h1); (have p2b : decide (t < (l0_1.length : Int)) = true := dE h1); clear h0 h1; (go_enter Try.func26, Try.ntmps26)
    go_wp2_with (first
   | ((with_reducible refine gate_dst (N := 2) rfl ?_); refine box_event ?hg (N := 2) ?hd (cs := #[.string a0_0, .slice (some ad) l0_1.length c0_1, .string a0_2]) (t := 38) ?hr ?_; (case hd => rfl); (case hg => rfl); (case hr => first | (go_simp; done) | (go_simp; rfl)); intro gb1 hg w3 hbox hb; have n0_ := aM (below_step (by repeat (first | (with_reducible first | exact HB.out | apply lA | apply lN | apply lW) | exact HB.out)) hb); have n1_ := aM (hbox); clear HB; have HB := n0_; have BK1 := n1_; clear n0_ n1_; clear hb hbox hg; have hcz1 : w3.cell? ⟨gb1, 1, none⟩ = some (.slice (some ad) l0_1.length c0_1) := (qC BK1.out 1).trans rfl)
   | ((with_reducible refine gate_dst (N := 3) rfl ?_); refine box_event ?hg (N := 3) ?hd (cs := #[.string a1]) (t := 9) ?hr ?_; (case hd => rfl); (case hg => rfl); (case hr => first | (go_simp; done) | (go_simp; rfl)); intro gb2 hg w4 hbox hb; have n0_ := aM (below_step (by repeat (first | (with_reducible first | exact HB.out | apply lA | apply lN | apply lW) | exact HB.out)) hb); have n1_ := aM (hbox); replace hcz1 := (hb.cell (World.block_lt_of_cell? _ _ hcz1)).trans hcz1; clear HB; have HB := n0_; have BK2 := n1_; clear n0_ n1_; clear hb hbox hg; have HQ := aM (C_one ((qC BK2.out 0).trans rfl)))
   | (go_at_call 43; (with_reducible refine (api_Param_43c.calls k _ _ l0_1 a1 gb2 t _ ?side1 ?side2 ?side3 HT.out).mono ?_); (case side1 => repeat (first | exact (Kd.C_below HR.out HB.out) | (with_reducible refine Kd.C_alloc ?_ _) | (with_reducible refine Kd.C_drewN ?_ _) | (with_reducible refine Kd.C_drew ?_))); (case side2 => exact HC.out); (case side3 => repeat (first | exact HQ.out | (with_reducible refine Kd.C_alloc ?_ _) | (with_reducible refine Kd.C_drewN ?_ _) | (with_reducible refine Kd.C_drew ?_))); rintro e w8 ⟨rfl, hb⟩; have n0_ := aM (below_step (by repeat (first | (with_reducible first | exact HB.out | apply lA | apply lN | apply lW) | exact HB.out)) hb); replace hcz1 := (hb.cell (World.block_lt_of_cell? _ _ hcz1)).trans hcz1; clear HB; have HB := n0_; clear n0_ hb; replace hx1 := (HB.out.cell (World.block_lt_of_cell? _ _ hx1)).trans hx1)
   | (go_at_call 46; refine (clone_calls _ _ _ _ ?side1 HBIG.out).mono ?_; (case side1 => repeat (first | exact (Kd.C_below HR1.out HB.out) | (with_reducible refine Kd.C_alloc ?_ _) | (with_reducible refine Kd.C_drewN ?_ _) | (with_reducible refine Kd.C_drew ?_))); rintro e w9 ⟨vr, rfl, hown, hb⟩; have n0_ := aM (below_step (by repeat (first | (with_reducible first | exact HB.out | apply lA | apply lN | apply lW) | exact HB.out)) hb); have HO := aM (Kd.R_lower hown (HB.out.size)); clear HB hown; have HB := n0_; clear n0_ hb))
    (go_ret2); (exact ⟨_, rfl, by (with_reducible repeat (first | apply Kd.R_alloc | apply Kd.R_drewN | apply Kd.R_drew)); exact HO.out, by repeat (first | (with_reducible first | exact HB.out | apply lA | apply lN | apply lW) | exact HB.out)⟩)
   ·cases h
  ·rw [if_neg h1] at h
   cases h
def solsticeref16_in.f (a0 : Int) (a1 : Int) (a2 : Int) : Option (Bool) := if a0 ≥ a1 then (some (decide (a0 ≤ a2))) else (some false)
set_option maxHeartbeats 8000000 in
set_option maxRecDepth 100000 in
theorem solsticeref16_in.calls (a0 : Int) (a1 : Int) (a2 : Int) (r : Bool) (w : World) (h : solsticeref16_in.f a0 a1 a2 = some r) :
  Calls Try.prog 65 #[.int .i64 a0, .int .i64 a1, .int .i64 a2] w fun e w' => e = .returned (.bool r) ∧ Drawn0 w w' := by
 (have H : (if a0 ≥ a1 then (some (decide (a0 ≤ a2))) else (some false)) = some r := h); clear h; (by_cases c4 : a0 ≥ a1)
 ·(rw [if_pos c4] at H); (have c4b0 : decide (a1 ≤ a0) = true := dE c4); clear c4; (obtain rfl := Option.some.inj H); (go_enter Try.func65, Try.ntmps65); (go_wp2); (go_ret); (exact ⟨by first | rfl | (simp; done) | (simp [*]; done), by repeat (first | exact Drawn0.refl _ | apply Drawn0.step)⟩)
 ·(rw [if_neg c4] at H); (have c4b0 : decide (a1 ≤ a0) = false := decide_eq_false c4); clear c4; (obtain rfl := Option.some.inj H); (go_enter Try.func65, Try.ntmps65); (go_wp2); (go_ret); (exact ⟨by first | rfl | (simp; done) | (simp [*]; done), by repeat (first | exact Drawn0.refl _ | apply Drawn0.step)⟩)
end Go.Proofs.Ytookjnpmbenheaa.PLin