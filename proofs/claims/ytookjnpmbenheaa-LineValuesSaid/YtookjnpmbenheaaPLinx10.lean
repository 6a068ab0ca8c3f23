-- Printed by a program of this session's over the kit's printer; library functions by contracts off the shelf.
import Derived.Test.YtookjnpmbenheaaPLinx0
import Derived.Test.YtookjnpmbenheaaPLinx3
import Derived.Test.YtookjnpmbenheaaPLinx5
import Derived.Test.YtookjnpmbenheaaPLinx9
namespace Go.Proofs.Ytookjnpmbenheaa.PLin
open Go.RowKit Go.Proofs.YtookjnpmbenheaaW.PrintWords Go.Proofs.YtookjnpmbenheaaW.PrintLast Go.Proofs.YtookjnpmbenheaaW.PrintMore
attribute [local go_sem] max2_int min2_int max_two min_two max_three min_three max_four min_four   -- for this text's walks alone
set_option linter.unusedVariables false
set_option linter.unusedSimpArgs false
def line_Param_1.f (k : Nat) (a0_0 : ByteArray) (l0_1 : List ByteArray) (q : ByteArray) : Option (Bool) := line_Alike.f k a0_0 q
theorem line_Param_1.mono : ∀ a0 a1 q k, LeO (line_Param_1.f k a0 a1 q) (line_Param_1.f (k + 1) a0 a1 q) := fun a0 _ q k => line_Alike.mono a0 q k
set_option maxHeartbeats 8000000 in
set_option maxRecDepth 100000 in
theorem line_Param_1.calls (k : Nat) (a0_0 : ByteArray) (A0_1 : Option Addr) (c0_1 : Nat) (l0_1 : List ByteArray) (q : ByteArray) (g : Nat) (r : Bool) (w : World) (hr0_1 : Kd.C Kd.string w A0_1 l0_1.length l0_1) (hc0_1 : l0_1.length ≤ c0_1) (hq : Kd.C Kd.string w (some ⟨g, 0, none⟩) [q].length [q]) (h : line_Param_1.f k a0_0 l0_1 q = some r) :
  Calls Try.prog 44 #[.agg #[.string a0_0, .slice A0_1 l0_1.length c0_1], .pointer (some ⟨g, 0, none⟩)] w fun e w' => e = .returned (.bool r) ∧ Below w.heap.size w w' := by
 have hu54 := Try.underlying54
 have HB := Aside0.mk (Below.refl w.heap.size w)
 obtain ⟨adq, eq_, hcq0⟩ := Kd.at_string hq 0 (by decide) (by simp)
 obtain rfl := Option.some.inj eq_
 have HCQ : Aside0 (w.cell? ⟨g, 0, none⟩ = some (.string q)) := ⟨hcq0⟩
 clear hcq0 hq hr0_1 hc0_1
 have A2 := Aside0.mk (show line_Alike.f k a0_0 q = some r from h)
 clear h
 go_enter Try.func44, Try.ntmps44
 go_wp2_with (first | ((with_reducible refine gate_dst (N := 2) rfl ?_); refine box_event ?hg (N := 2) ?hd (cs := #[.string a0_0, .slice A0_1 l0_1.length c0_1]) (t := 54) ?hr ?_; (case hd => rfl); (case hg => rfl); (case hr => first | (go_simp; done) | (go_simp; rfl)); intro gb110 hg w3 hbox hb; have n0_ := Aside0.mk (below_step (by repeat (first | (with_reducible first | exact HB.out | apply below_alloc | apply pw_below_drewN | apply below_drew1) | exact HB.out)) hb); have n1_ := Aside0.mk (hbox); clear HB; have HB := n0_; have BK110 := n1_; clear n0_ n1_; clear hb hbox hg; have hcz4_0 : w3.cell? ⟨gb110, 0, none⟩ = some (.string a0_0) := (blk_cell BK110.out 0).trans rfl; have hcz4_1 : w3.cell? ⟨gb110, 1, none⟩ = some (.slice A0_1 l0_1.length c0_1) := (blk_cell BK110.out 1).trans rfl; have hcz4_2 : w3.cell? ⟨g, 0, none⟩ = some (.string q) := (HB.out.cell (World.block_lt_of_cell? w _ HCQ.out)).trans HCQ.out) | (go_at_call 45; (with_reducible refine (line_Alike.calls k a0_0 q r _ A2.out).mono ?_); rintro e w' ⟨rfl, ⟨nd, rfl⟩⟩))
 go_ret
 exact ⟨by first | rfl | (simp; done) | (simp [*]; done), by repeat (first | (with_reducible first | exact HB.out | apply below_alloc | apply pw_below_drewN | apply below_drew1) | exact HB.out)⟩
def api_Param_43c.l0 (q : ByteArray) : Nat → List (S54) → Int → Int → Option (Int)
 | 0, _, _, _ => none
 | k + 1, x0, x7, x8 => if x8 < x7 then (if 0 ≤ x8 then (if x8 < (x0.length : Int) then ((line_Param_1.f k ((rd_T54 x0 x8).f0) ((rd_T54 x0 x8).f1) q).bind fun t119 => (if t119 = true then (some x8) else (api_Param_43c.l0 q k x0 x7 (wrap64 (x8 + 1))))) else (none)) else (none)) else (some (-1))
def api_Param_43c.f (k : Nat) (l0 : List (S54)) (q : ByteArray) : Option (Int) := api_Param_43c.l0 q k l0 (l0.length : Int) 0
theorem api_Param_43c.mono_l (q : ByteArray) : ∀ k, (∀ y0 y1 y2, LeO (api_Param_43c.l0 q k y0 y1 y2) (api_Param_43c.l0 q (k + 1) y0 y1 y2))
 | 0 => fun _ _ _ r h => by simp [api_Param_43c.l0] at h
 | k + 1 => by
  have ih0 := api_Param_43c.mono_l q k
  ·intro y0 y1 y2
   unfold api_Param_43c.l0
   repeat' first
   | (with_reducible exact ih0 _ _ _)
   | (with_reducible exact line_Param_1.mono _ _ _ _)
   | (with_reducible exact LeO.refl _)
   | (with_reducible exact LeO.none _)
   | (with_reducible refine LeO.ite ?_ ?_)
   | (with_reducible refine LeO.bind ?_ (fun _ => ?_))
   | exact ih0 _ _ _
   | exact line_Param_1.mono _ _ _ _
   | exact LeO.none _
   | refine LeO.ite ?_ ?_
   | refine LeO.bind ?_ (fun _ => ?_)
theorem api_Param_43c.mono : ∀ a0 q k, LeO (api_Param_43c.f k a0 q) (api_Param_43c.f (k + 1) a0 q) := by
 intro a0 q k
 have ih0 := api_Param_43c.mono_l q k
 unfold api_Param_43c.f
 repeat' first
   | (with_reducible exact ih0 _ _ _)
   | (with_reducible exact line_Param_1.mono _ _ _ _)
   | (with_reducible exact LeO.refl _)
   | (with_reducible exact LeO.none _)
   | (with_reducible refine LeO.ite ?_ ?_)
   | (with_reducible refine LeO.bind ?_ (fun _ => ?_))
   | exact ih0 _ _ _
   | exact line_Param_1.mono _ _ _ _
   | exact LeO.none _
   | refine LeO.ite ?_ ?_
   | refine LeO.bind ?_ (fun _ => ?_)
set_option maxHeartbeats 8000000 in
set_option maxRecDepth 100000 in
theorem api_Param_43c.calls (k : Nat) (A0 : Option Addr) (c0 : Nat) (l0 : List (S54)) (q : ByteArray) (g : Nat) (r : Int) (w : World) (hr0 : Kd.C k54 w A0 l0.length l0) (hc0 : l0.length ≤ c0) (hq : Kd.C Kd.string w (some ⟨g, 0, none⟩) [q].length [q]) (h : api_Param_43c.f k l0 q = some r) :
  Calls Try.prog 43 #[.slice A0 l0.length c0, .func (.func 44) #[] #[.pointer (some ⟨g, 0, none⟩)]] w fun e w' => e = .returned (.int .i64 r) ∧ Below w.heap.size w w' := by
 have hu54 := Try.underlying54
 have HR0 := Aside0.mk hr0
 have HC0 := Aside0.mk hc0
 have HQ := Aside0.mk hq
 clear hr0 hc0 hq
 have HB := Aside0.mk (Below.refl w.heap.size w)
 have H : (api_Param_43c.l0 q k l0 (l0.length : Int) 0) = some r := h
 clear h
 have H' := Aside0.mk H
 clear H
 go_enter Try.func43, Try.ntmps43
 go_wp2
 go_loopg [8] k (fun kq v8 w' => ∃ (x8_1 : Int), v8 = .int .i64 x8_1 ∧ Aside0 (api_Param_43c.l0 q kq l0 (l0.length : Int) x8_1 = some r) ∧ Aside0 (kq ≤ k) ∧ Aside0 (Below w.heap.size w w'))
 case atStart => exact ⟨(0), (by first | rfl | (simp; done) | (simp [*]; done)), H', ⟨Nat.le_refl _⟩, ⟨by repeat (first | (with_reducible first | exact HB.out | apply below_alloc | apply pw_below_drewN | apply below_drew1) | exact HB.out)⟩⟩
 case round =>
  clear H'
  try clear p2
  obtain ⟨x8_1, rfl, HA, HK1, HB⟩ := hrel
  cases gk with
  | zero => exact absurd HA.out (by simp [api_Param_43c.l0])
  | succ k1 =>
   have H := HA.out
   clear HA
   simp only [api_Param_43c.l0] at H
   by_cases c3 : x8_1 < (l0.length : Int)
   ·rw [if_pos c3] at H
    have c3b0 : decide (x8_1 < (l0.length : Int)) = true := decide_eq_true c3
    clear c3
    by_cases c4 : 0 ≤ x8_1
    ·rw [if_pos c4] at H
     have c4b0 : decide (0 ≤ x8_1) = true := decide_eq_true c4
     clear c4
     by_cases c5 : x8_1 < (l0.length : Int)
     ·rw [if_pos c5] at H
      have c5b0 : decide (x8_1 < (l0.length : Int)) = true := decide_eq_true c5
      clear c5
      replace H := Option.bind_eq_some_iff.mp H
      obtain ⟨t119, A60, H⟩ := H
      replace H : (if t119 = true then (some x8_1) else (api_Param_43c.l0 q k1 l0 (l0.length : Int) (wrap64 (x8_1 + 1)))) = some r := H
      have A6 := Aside0.mk A60
      clear A60
      by_cases c7 : t119 = true
      ·subst c7
       have H1 : (some x8_1) = some r := by rw [if_pos rfl] at H; exact H
       clear H
       have H := H1
       clear H1
       obtain rfl := Option.some.inj H
       have p118 : 0 ≤ (x8_1 : Int) := of_decide_eq_true (by first | (with_reducible assumption) | assumption)
       have q118 : x8_1 < (l0.length : Int) := of_decide_eq_true (by first | (with_reducible assumption) | assumption)
       obtain ⟨ad118, A118_1, c118_1, e118, hx118_0, hx118_1, hl118_1, hi118_1⟩ := at_T54 HR0.out x8_1 p118 q118
       cases e118
       replace hx118_0 := (HB.out.cell (World.block_lt_of_cell? w _ hx118_0)).trans hx118_0
       replace hx118_1 := (HB.out.cell (World.block_lt_of_cell? w _ hx118_1)).trans hx118_1
       have HR118_1 := Aside0.mk hi118_1
       have HC118_1 := Aside0.mk hl118_1
       clear hi118_1 hl118_1
       replace p118 := eq_true p118
       replace q118 := eq_true q118
       go_wp2_with (first | (go_at_call 44; (with_reducible refine (line_Param_1.calls k1 ((rd_T54 l0 x8_1).f0) _ _ ((rd_T54 l0 x8_1).f1) q g true _ ?side1 ?side2 ?side3 A6.out).mono ?_); (case side1 => repeat (first | exact (Kd.C_below HR118_1.out HB.out) | (with_reducible refine Kd.C_alloc ?_ _) | (with_reducible refine Kd.C_drewN ?_ _) | (with_reducible refine Kd.C_drew ?_))); (case side3 => repeat (first | exact (Kd.C_below HQ.out HB.out) | (with_reducible refine Kd.C_alloc ?_ _) | (with_reducible refine Kd.C_drewN ?_ _) | (with_reducible refine Kd.C_drew ?_))); (case side2 => exact HC118_1.out); rintro e w8 ⟨rfl, hb⟩; have n0_ := Aside0.mk (below_step (by repeat (first | (with_reducible first | exact HB.out | apply below_alloc | apply pw_below_drewN | apply below_drew1) | exact HB.out)) hb); clear HB; have HB := n0_; clear n0_; (try clear hb); (try clear hb2); (try clear hk); (try clear hi)))
       go_ret
       exact ⟨by first | rfl | (simp [errW_none, errW_some] <;> rfl) | (simp [*, errW_none, errW_some] <;> rfl), by repeat (first | (with_reducible first | exact HB.out | apply below_alloc | apply pw_below_drewN | apply below_drew1) | exact HB.out)⟩
      ·replace c7 := Bool.eq_false_iff.mpr c7
       subst c7
       have H1 : (api_Param_43c.l0 q k1 l0 (l0.length : Int) (wrap64 (x8_1 + 1))) = some r := by rw [if_neg (show ¬ (false = true) by decide)] at H; exact H
       clear H
       have H := H1
       clear H1
       have H' := Aside0.mk H
       clear H
       have p118 : 0 ≤ (x8_1 : Int) := of_decide_eq_true (by first | (with_reducible assumption) | assumption)
       have q118 : x8_1 < (l0.length : Int) := of_decide_eq_true (by first | (with_reducible assumption) | assumption)
       obtain ⟨ad118, A118_1, c118_1, e118, hx118_0, hx118_1, hl118_1, hi118_1⟩ := at_T54 HR0.out x8_1 p118 q118
       cases e118
       replace hx118_0 := (HB.out.cell (World.block_lt_of_cell? w _ hx118_0)).trans hx118_0
       replace hx118_1 := (HB.out.cell (World.block_lt_of_cell? w _ hx118_1)).trans hx118_1
       have HR118_1 := Aside0.mk hi118_1
       have HC118_1 := Aside0.mk hl118_1
       clear hi118_1 hl118_1
       replace p118 := eq_true p118
       replace q118 := eq_true q118
       go_wp2_with (first | (go_at_call 44; (with_reducible refine (line_Param_1.calls k1 ((rd_T54 l0 x8_1).f0) _ _ ((rd_T54 l0 x8_1).f1) q g false _ ?side1 ?side2 ?side3 A6.out).mono ?_); (case side1 => repeat (first | exact (Kd.C_below HR118_1.out HB.out) | (with_reducible refine Kd.C_alloc ?_ _) | (with_reducible refine Kd.C_drewN ?_ _) | (with_reducible refine Kd.C_drew ?_))); (case side3 => repeat (first | exact (Kd.C_below HQ.out HB.out) | (with_reducible refine Kd.C_alloc ?_ _) | (with_reducible refine Kd.C_drewN ?_ _) | (with_reducible refine Kd.C_drew ?_))); (case side2 => exact HC118_1.out); rintro e w9 ⟨rfl, hb⟩; have n0_ := Aside0.mk (below_step (by repeat (first | (with_reducible first | exact HB.out | apply below_alloc | apply pw_below_drewN | apply below_drew1) | exact HB.out)) hb); clear HB; have HB := n0_; clear n0_; (try clear hb); (try clear hb2); (try clear hk); (try clear hi)))
       go_roundg k1
       case measure => have := HK1.out; omega
       case rel => exact ⟨(wrap64 (x8_1 + 1)), (by first | rfl | (simp; done) | (simp [*]; done)), H', ⟨by have := HK1.out; omega⟩, ⟨by repeat (first | (with_reducible first | exact HB.out | apply below_alloc | apply pw_below_drewN | apply below_drew1) | exact HB.out)⟩⟩
     ·rw [if_neg c5] at H
      exact absurd H (by simp)
    ·rw [if_neg c4] at H
     exact absurd H (by simp)
   ·rw [if_neg c3] at H
    have c3b0 : decide (x8_1 < (l0.length : Int)) = false := decide_eq_false c3
    clear c3
    obtain rfl := Option.some.inj H
    go_wp2
    go_ret
    exact ⟨by first | rfl | (simp [errW_none, errW_some] <;> rfl) | (simp [*, errW_none, errW_some] <;> rfl), by repeat (first | (with_reducible first | exact HB.out | apply below_alloc | apply pw_below_drewN | apply below_drew1) | exact HB.out)⟩
def line_Param.f (k : Nat) (a0_0 : ByteArray) (l0_1 : List (S54)) (a0_2 : ByteArray) (a1 : ByteArray) : Option (List ByteArray × Bool) := (api_Param_43c.f k l0_1 a1).bind fun t => if t < 0 then some (([] : List ByteArray), false) else if t < (l0_1.length : Int) then (if ((rd_T54 l0_1 t).f1).length * 16 ≤ 140737488355328 then some ((rd_T54 l0_1 t).f1, true) else none) else none
theorem line_Param.mono : ∀ a0 a1 a2 a3 k, LeO (line_Param.f k a0 a1 a2 a3) (line_Param.f (k + 1) a0 a1 a2 a3) := by
 intro a0 a1 a2 a3 k
 unfold line_Param.f
 exact LeO.bind (api_Param_43c.mono _ _ _) (fun _ => LeO.refl _)
theorem C_one {w : World} {g : Nat} {q : ByteArray} (h : w.cell? ⟨g, 0, none⟩ = some (.string q)) : Kd.C Kd.string w (some ⟨g, 0, none⟩) [q].length [q] :=
 ⟨rfl, by simp, fun _ => ⟨_, rfl, fun j p hj => by
  have hj0 : j = 0 := by
   have := (List.getElem?_eq_some_iff.1 hj).1
   simp at this
   omega
  subst hj0
  obtain rfl : q = p := by simpa using hj
  refine ⟨[.string q], rfl, rfl, fun i u hu => ?_⟩
  have hi0 : i = 0 := by
   have := (List.getElem?_eq_some_iff.1 hu).1
   simp at this
   omega
  subst hi0
  obtain rfl : Value.string q = u := by simpa using hu
  exact h⟩⟩
theorem clone_calls (A0 : Option Addr) (c0 : Nat) (l : List ByteArray) (w : World) (hr0 : Kd.C Kd.string w A0 l.length l) (hb : l.length * 16 ≤ 140737488355328) :
  Calls Try.prog 46 #[.slice A0 l.length c0] w fun e w' => ∃ v' : Value, e = .returned v' ∧ Kd.R Kd.string 9 w' w.heap.size (fun _ => True) v' l ∧ Below w.heap.size w w' := by
 rcases Nat.eq_zero_or_pos l.length with h0 | h0
 ·obtain rfl := List.eq_nil_of_length_eq_zero h0
  rcases A0 with _ | a
  ·exact (Try.slices_Clone_string_nil 0 c0 w).mono fun e w' ⟨he, hw⟩ => ⟨_, he, Kd.R_nil _ _ _ _ _, hw ▸ Below.refl _ _⟩
  ·exact (Try.slices_Clone_string_zero a c0 w).mono fun e w' ⟨v', he, ho, _, hw⟩ => ⟨v', he, Kd.R_of_own (xs := ([] : List ByteArray)) ho (fun _ _ => trivial), hw⟩
 ·obtain ⟨⟨bk, o, sp⟩, hA, hcell⟩ := Kd.at_string hr0 0 (by omega) (by omega)
  have hcell' : w.cell? ⟨bk, o, sp⟩ = some (.string (rdOf ByteArray.empty l 0)) := hcell
  obtain rfl : sp = none := by
   unfold World.cell? at hcell'
   split at hcell'
   ·rcases sp with _ | sp
    ·rfl
    ·simp at hcell'
   ·cases hcell'
  subst hA
  refine (Try.slices_Clone_string bk o l.length c0 l w (Nat.le_refl _) hb (fun j hj => ?_)).mono fun e w' ⟨v', he, ho, _, hw⟩ => ⟨v', he, Kd.R_of_own (by rw [List.take_length] at ho; exact ho) (fun _ _ => trivial), hw⟩
  obtain ⟨ad, hA, hc⟩ := Kd.at_string hr0 (j : Int) (by omega) (by omega)
  obtain rfl := Option.some.inj hA
  have e1 : (⟨bk, o, none⟩ : Addr).add j = ⟨bk, o + j, none⟩ := by unfold Addr.add; split <;> simp_all
  rw [Int.toNat_natCast, e1] at hc
  exact hc
set_option maxHeartbeats 8000000 in
set_option maxRecDepth 100000 in
theorem line_Param.calls (k : Nat) (a0_0 : ByteArray) (A0_1 : Option Addr) (c0_1 : Nat) (l0_1 : List (S54)) (a0_2 : ByteArray) (a1 : ByteArray) (r1 : List ByteArray) (r2 : Bool) (w : World) (hr0_1 : Kd.C k54 w A0_1 l0_1.length l0_1) (hc0_1 : l0_1.length ≤ c0_1) (h : line_Param.f k a0_0 l0_1 a0_2 a1 = some (r1, r2)) :
  Calls Try.prog 26 #[.agg #[.string a0_0, .slice A0_1 l0_1.length c0_1, .string a0_2], .string a1] w fun e w' => ∃ v0_ : Value, e = .returned (.tuple #[v0_, .bool r2]) ∧ Kd.R Kd.string 9 w' w.heap.size (fun _ => True) v0_ r1 ∧ Below w.heap.size w w' := by
 have hu38 := Try.underlying38
 have hu54 := Try.underlying54
 have HR := Aside0.mk hr0_1
 have HC := Aside0.mk hc0_1
 clear hr0_1 hc0_1
 have HB := Aside0.mk (Below.refl w.heap.size w)
 unfold line_Param.f at h
 obtain ⟨t, ht, h⟩ := Option.bind_eq_some_iff.1 h
 have HT := Aside0.mk ht
 clear ht
 by_cases h0 : t < 0
 ·rw [if_pos h0] at h
  have c0 : decide (t < 0) = true := decide_eq_true h0
  clear h0
  obtain ⟨rfl, rfl⟩ := Prod.mk.inj (Option.some.inj h)
  clear h
  go_enter Try.func26, Try.ntmps26
  go_wp2_with (first
   | ((with_reducible refine gate_dst (N := 2) rfl ?_); refine box_event ?hg (N := 2) ?hd (cs := #[.string a0_0, .slice A0_1 l0_1.length c0_1, .string a0_2]) (t := 38) ?hr ?_; (case hd => rfl); (case hg => rfl); (case hr => first | (go_simp; done) | (go_simp; rfl)); intro gb1 hg w3 hbox hb; have n0_ := Aside0.mk (below_step (by repeat (first | (with_reducible first | exact HB.out | apply below_alloc | apply pw_below_drewN | apply below_drew1) | exact HB.out)) hb); have n1_ := Aside0.mk (hbox); clear HB; have HB := n0_; have BK1 := n1_; clear n0_ n1_; clear hb hbox hg; have hcz1 : w3.cell? ⟨gb1, 1, none⟩ = some (.slice A0_1 l0_1.length c0_1) := (blk_cell BK1.out 1).trans rfl)
   | ((with_reducible refine gate_dst (N := 3) rfl ?_); refine box_event ?hg (N := 3) ?hd (cs := #[.string a1]) (t := 9) ?hr ?_; (case hd => rfl); (case hg => rfl); (case hr => first | (go_simp; done) | (go_simp; rfl)); intro gb2 hg w4 hbox hb; have n0_ := Aside0.mk (below_step (by repeat (first | (with_reducible first | exact HB.out | apply below_alloc | apply pw_below_drewN | apply below_drew1) | exact HB.out)) hb); have n1_ := Aside0.mk (hbox); replace hcz1 := (hb.cell (World.block_lt_of_cell? _ _ hcz1)).trans hcz1; clear HB; have HB := n0_; have BK2 := n1_; clear n0_ n1_; clear hb hbox hg; have HQ := Aside0.mk (C_one ((blk_cell BK2.out 0).trans rfl)))
   | (go_at_call 43; (with_reducible refine (api_Param_43c.calls k _ _ l0_1 a1 gb2 t _ ?side1 ?side2 ?side3 HT.out).mono ?_); (case side1 => repeat (first | exact (Kd.C_below HR.out HB.out) | (with_reducible refine Kd.C_alloc ?_ _) | (with_reducible refine Kd.C_drewN ?_ _) | (with_reducible refine Kd.C_drew ?_))); (case side2 => exact HC.out); (case side3 => repeat (first | exact HQ.out | (with_reducible refine Kd.C_alloc ?_ _) | (with_reducible refine Kd.C_drewN ?_ _) | (with_reducible refine Kd.C_drew ?_))); rintro e w8 ⟨rfl, hb⟩; have n0_ := Aside0.mk (below_step (by repeat (first | (with_reducible first | exact HB.out | apply below_alloc | apply pw_below_drewN | apply below_drew1) | exact HB.out)) hb); clear HB; have HB := n0_; clear n0_ hb))
  go_ret2
  exact ⟨_, rfl, Kd.R_nil _ _ _ _ _, by repeat (first | (with_reducible first | exact HB.out | apply below_alloc | apply pw_below_drewN | apply below_drew1) | exact HB.out)⟩
 ·rw [if_neg h0] at h
  have c0 : decide (t < 0) = false := decide_eq_false h0
  by_cases h1 : t < (l0_1.length : Int)
  ·rw [if_pos h1] at h
   split at h
   ·rename_i hbig
    have HBIG := Aside0.mk hbig
    clear hbig
    obtain ⟨rfl, rfl⟩ := Prod.mk.inj (Option.some.inj h)
    clear h
    obtain ⟨ad, A1, c1, e1, hx0, hx1, hl1, hi1⟩ := at_T54 HR.out t (by omega) h1
    cases e1
    have HR1 := Aside0.mk hi1
    have HC1 := Aside0.mk hl1
    clear hi1 hl1
    have p1 : (0 ≤ t) = True := eq_true (by omega)
    have p1b : decide (0 ≤ t) = true := decide_eq_true (by omega)
    have p2 : (t < (l0_1.length : Int)) = True := eq_true h1
    have p2b : decide (t < (l0_1.length : Int)) = true := decide_eq_true h1
    clear h0 h1
    go_enter Try.func26, Try.ntmps26
    go_wp2_with (first
   | ((with_reducible refine gate_dst (N := 2) rfl ?_); refine box_event ?hg (N := 2) ?hd (cs := #[.string a0_0, .slice (some ad) l0_1.length c0_1, .string a0_2]) (t := 38) ?hr ?_; (case hd => rfl); (case hg => rfl); (case hr => first | (go_simp; done) | (go_simp; rfl)); intro gb1 hg w3 hbox hb; have n0_ := Aside0.mk (below_step (by repeat (first | (with_reducible first | exact HB.out | apply below_alloc | apply pw_below_drewN | apply below_drew1) | exact HB.out)) hb); have n1_ := Aside0.mk (hbox); clear HB; have HB := n0_; have BK1 := n1_; clear n0_ n1_; clear hb hbox hg; have hcz1 : w3.cell? ⟨gb1, 1, none⟩ = some (.slice (some ad) l0_1.length c0_1) := (blk_cell BK1.out 1).trans rfl)
   | ((with_reducible refine gate_dst (N := 3) rfl ?_); refine box_event ?hg (N := 3) ?hd (cs := #[.string a1]) (t := 9) ?hr ?_; (case hd => rfl); (case hg => rfl); (case hr => first | (go_simp; done) | (go_simp; rfl)); intro gb2 hg w4 hbox hb; have n0_ := Aside0.mk (below_step (by repeat (first | (with_reducible first | exact HB.out | apply below_alloc | apply pw_below_drewN | apply below_drew1) | exact HB.out)) hb); have n1_ := Aside0.mk (hbox); replace hcz1 := (hb.cell (World.block_lt_of_cell? _ _ hcz1)).trans hcz1; clear HB; have HB := n0_; have BK2 := n1_; clear n0_ n1_; clear hb hbox hg; have HQ := Aside0.mk (C_one ((blk_cell BK2.out 0).trans rfl)))
   | (go_at_call 43; (with_reducible refine (api_Param_43c.calls k _ _ l0_1 a1 gb2 t _ ?side1 ?side2 ?side3 HT.out).mono ?_); (case side1 => repeat (first | exact (Kd.C_below HR.out HB.out) | (with_reducible refine Kd.C_alloc ?_ _) | (with_reducible refine Kd.C_drewN ?_ _) | (with_reducible refine Kd.C_drew ?_))); (case side2 => exact HC.out); (case side3 => repeat (first | exact HQ.out | (with_reducible refine Kd.C_alloc ?_ _) | (with_reducible refine Kd.C_drewN ?_ _) | (with_reducible refine Kd.C_drew ?_))); rintro e w8 ⟨rfl, hb⟩; have n0_ := Aside0.mk (below_step (by repeat (first | (with_reducible first | exact HB.out | apply below_alloc | apply pw_below_drewN | apply below_drew1) | exact HB.out)) hb); replace hcz1 := (hb.cell (World.block_lt_of_cell? _ _ hcz1)).trans hcz1; clear HB; have HB := n0_; clear n0_ hb; replace hx1 := (HB.out.cell (World.block_lt_of_cell? _ _ hx1)).trans hx1)
   | (go_at_call 46; refine (clone_calls _ _ _ _ ?side1 HBIG.out).mono ?_; (case side1 => repeat (first | exact (Kd.C_below HR1.out HB.out) | (with_reducible refine Kd.C_alloc ?_ _) | (with_reducible refine Kd.C_drewN ?_ _) | (with_reducible refine Kd.C_drew ?_))); rintro e w9 ⟨vr, rfl, hown, hb⟩; have n0_ := Aside0.mk (below_step (by repeat (first | (with_reducible first | exact HB.out | apply below_alloc | apply pw_below_drewN | apply below_drew1) | exact HB.out)) hb); have HO := Aside0.mk (Kd.R_lower hown (HB.out.size)); clear HB hown; have HB := n0_; clear n0_ hb))
    go_ret2
    exact ⟨_, rfl, by (with_reducible repeat (first | apply Kd.R_alloc | apply Kd.R_drewN | apply Kd.R_drew)); exact HO.out, by repeat (first | (with_reducible first | exact HB.out | apply below_alloc | apply pw_below_drewN | apply below_drew1) | exact HB.out)⟩
   ·cases h
  ·rw [if_neg h1] at h
   cases h
def solsticelaw18_wakes.f (k : Nat)  : Option (Bool) := (line_Parse.f k (⟨#[82, 68, 65, 84, 69, 59, 84, 90, 73, 68, 61, 34, 97, 58, 98, 34, 44, 99, 58, 120, 58, 121]⟩ : ByteArray)).bind fun bt200 => ((line_Text.f k bt200.1 bt200.2.1 bt200.2.2.1).bind fun bt207 => ((line_Param.f k bt200.1 bt200.2.1 bt200.2.2.1 (⟨#[116, 122, 105, 100]⟩ : ByteArray)).bind fun bt209 => ((line_Parse.f k (⟨#[82, 68, 65, 84, 69]⟩ : ByteArray)).bind fun bt213 => (if bt200.2.2.2 = 0 then (if bt200.1.toList = ([82, 68, 65, 84, 69] : List UInt8) then (if bt200.2.2.1.toList = ([120, 58, 121] : List UInt8) then (if bt207.2 = 0 then (if bt207.1.toList = ([82, 68, 65, 84, 69, 59, 84, 90, 73, 68, 61, 34, 97, 58, 98, 34, 44, 99, 58, 120, 58, 121] : List UInt8) then (if bt209.2 = true then ((solsticekeep_Texts.f k bt209.1 (([(⟨#[97, 58, 98]⟩ : ByteArray), (⟨#[99]⟩ : ByteArray)] : List ByteArray))).bind fun t223 => (if t223 = true then (if bt213.2.2.2 = 18 then ((line_Check.f k (⟨#[]⟩ : ByteArray) ([] : List (S54)) (⟨#[]⟩ : ByteArray)).bind fun t224 => (some (t224 == 18))) else (some false)) else (some false))) else (some false)) else (some false)) else (some false)) else (some false)) else (some false)) else (some false)))))
theorem solsticelaw18_wakes.mono : ∀ k, LeO (solsticelaw18_wakes.f k ) (solsticelaw18_wakes.f (k + 1) ) := by
 intro  k
 unfold solsticelaw18_wakes.f
 repeat' first
   | (with_reducible exact line_Check.mono _ _ _ _)
   | (with_reducible exact line_Param.mono _ _ _ _ _)
   | (with_reducible exact line_Parse.mono _ _)
   | (with_reducible exact line_Text.mono _ _ _ _)
   | (with_reducible exact solsticekeep_Texts.mono _ _ _)
   | (with_reducible exact LeO.refl _)
   | (with_reducible exact LeO.none _)
   | (with_reducible refine LeO.ite ?_ ?_)
   | (with_reducible refine LeO.bind ?_ (fun _ => ?_))
   | exact line_Check.mono _ _ _ _
   | exact line_Param.mono _ _ _ _ _
   | exact line_Parse.mono _ _
   | exact line_Text.mono _ _ _ _
   | exact solsticekeep_Texts.mono _ _ _
   | exact LeO.none _
   | refine LeO.ite ?_ ?_
   | refine LeO.bind ?_ (fun _ => ?_)
set_option maxHeartbeats 8000000 in
set_option maxRecDepth 100000 in
theorem solsticelaw18_wakes.calls (k : Nat)  (r : Bool) (htrue : r = true) (w : World) (h : solsticelaw18_wakes.f k  = some r) :
  Calls Try.prog 32 #[] w fun e w' => e = .returned (.bool r) ∧ Below w.heap.size w w' := by
 have hu38 := Try.underlying38
 have HB := Aside0.mk (Below.refl w.heap.size w)
 have H : ((line_Parse.f k (⟨#[82, 68, 65, 84, 69, 59, 84, 90, 73, 68, 61, 34, 97, 58, 98, 34, 44, 99, 58, 120, 58, 121]⟩ : ByteArray)).bind fun bt200 => ((line_Text.f k bt200.1 bt200.2.1 bt200.2.2.1).bind fun bt207 => ((line_Param.f k bt200.1 bt200.2.1 bt200.2.2.1 (⟨#[116, 122, 105, 100]⟩ : ByteArray)).bind fun bt209 => ((line_Parse.f k (⟨#[82, 68, 65, 84, 69]⟩ : ByteArray)).bind fun bt213 => (if bt200.2.2.2 = 0 then (if bt200.1.toList = ([82, 68, 65, 84, 69] : List UInt8) then (if bt200.2.2.1.toList = ([120, 58, 121] : List UInt8) then (if bt207.2 = 0 then (if bt207.1.toList = ([82, 68, 65, 84, 69, 59, 84, 90, 73, 68, 61, 34, 97, 58, 98, 34, 44, 99, 58, 120, 58, 121] : List UInt8) then (if bt209.2 = true then ((solsticekeep_Texts.f k bt209.1 (([(⟨#[97, 58, 98]⟩ : ByteArray), (⟨#[99]⟩ : ByteArray)] : List ByteArray))).bind fun t223 => (if t223 = true then (if bt213.2.2.2 = 18 then ((line_Check.f k (⟨#[]⟩ : ByteArray) ([] : List (S54)) (⟨#[]⟩ : ByteArray)).bind fun t224 => (some (t224 == 18))) else (some false)) else (some false))) else (some false)) else (some false)) else (some false)) else (some false)) else (some false)) else (some false)))))) = some r := h
 clear h
 replace H := Option.bind_eq_some_iff.mp H
 obtain ⟨⟨t200, t201, t204, t205⟩, A10, H⟩ := H
 replace H : ((line_Text.f k t200 t201 t204).bind fun bt207 => ((line_Param.f k t200 t201 t204 (⟨#[116, 122, 105, 100]⟩ : ByteArray)).bind fun bt209 => ((line_Parse.f k (⟨#[82, 68, 65, 84, 69]⟩ : ByteArray)).bind fun bt213 => (if t205 = 0 then (if t200.toList = ([82, 68, 65, 84, 69] : List UInt8) then (if t204.toList = ([120, 58, 121] : List UInt8) then (if bt207.2 = 0 then (if bt207.1.toList = ([82, 68, 65, 84, 69, 59, 84, 90, 73, 68, 61, 34, 97, 58, 98, 34, 44, 99, 58, 120, 58, 121] : List UInt8) then (if bt209.2 = true then ((solsticekeep_Texts.f k bt209.1 (([(⟨#[97, 58, 98]⟩ : ByteArray), (⟨#[99]⟩ : ByteArray)] : List ByteArray))).bind fun t223 => (if t223 = true then (if bt213.2.2.2 = 18 then ((line_Check.f k (⟨#[]⟩ : ByteArray) ([] : List (S54)) (⟨#[]⟩ : ByteArray)).bind fun t224 => (some (t224 == 18))) else (some false)) else (some false))) else (some false)) else (some false)) else (some false)) else (some false)) else (some false)) else (some false))))) = some r := H
 have A1 := Aside0.mk A10
 clear A10
 replace H := Option.bind_eq_some_iff.mp H
 obtain ⟨⟨t207, t208⟩, A20, H⟩ := H
 replace H : ((line_Param.f k t200 t201 t204 (⟨#[116, 122, 105, 100]⟩ : ByteArray)).bind fun bt209 => ((line_Parse.f k (⟨#[82, 68, 65, 84, 69]⟩ : ByteArray)).bind fun bt213 => (if t205 = 0 then (if t200.toList = ([82, 68, 65, 84, 69] : List UInt8) then (if t204.toList = ([120, 58, 121] : List UInt8) then (if t208 = 0 then (if t207.toList = ([82, 68, 65, 84, 69, 59, 84, 90, 73, 68, 61, 34, 97, 58, 98, 34, 44, 99, 58, 120, 58, 121] : List UInt8) then (if bt209.2 = true then ((solsticekeep_Texts.f k bt209.1 (([(⟨#[97, 58, 98]⟩ : ByteArray), (⟨#[99]⟩ : ByteArray)] : List ByteArray))).bind fun t223 => (if t223 = true then (if bt213.2.2.2 = 18 then ((line_Check.f k (⟨#[]⟩ : ByteArray) ([] : List (S54)) (⟨#[]⟩ : ByteArray)).bind fun t224 => (some (t224 == 18))) else (some false)) else (some false))) else (some false)) else (some false)) else (some false)) else (some false)) else (some false)) else (some false)))) = some r := H
 have A2 := Aside0.mk A20
 clear A20
 replace H := Option.bind_eq_some_iff.mp H
 obtain ⟨⟨t209, t212⟩, A30, H⟩ := H
 replace H : ((line_Parse.f k (⟨#[82, 68, 65, 84, 69]⟩ : ByteArray)).bind fun bt213 => (if t205 = 0 then (if t200.toList = ([82, 68, 65, 84, 69] : List UInt8) then (if t204.toList = ([120, 58, 121] : List UInt8) then (if t208 = 0 then (if t207.toList = ([82, 68, 65, 84, 69, 59, 84, 90, 73, 68, 61, 34, 97, 58, 98, 34, 44, 99, 58, 120, 58, 121] : List UInt8) then (if t212 = true then ((solsticekeep_Texts.f k t209 (([(⟨#[97, 58, 98]⟩ : ByteArray), (⟨#[99]⟩ : ByteArray)] : List ByteArray))).bind fun t223 => (if t223 = true then (if bt213.2.2.2 = 18 then ((line_Check.f k (⟨#[]⟩ : ByteArray) ([] : List (S54)) (⟨#[]⟩ : ByteArray)).bind fun t224 => (some (t224 == 18))) else (some false)) else (some false))) else (some false)) else (some false)) else (some false)) else (some false)) else (some false)) else (some false))) = some r := H
 have A3 := Aside0.mk A30
 clear A30
 replace H := Option.bind_eq_some_iff.mp H
 obtain ⟨⟨t213, t214, t217, t218⟩, A40, H⟩ := H
 replace H : (if t205 = 0 then (if t200.toList = ([82, 68, 65, 84, 69] : List UInt8) then (if t204.toList = ([120, 58, 121] : List UInt8) then (if t208 = 0 then (if t207.toList = ([82, 68, 65, 84, 69, 59, 84, 90, 73, 68, 61, 34, 97, 58, 98, 34, 44, 99, 58, 120, 58, 121] : List UInt8) then (if t212 = true then ((solsticekeep_Texts.f k t209 (([(⟨#[97, 58, 98]⟩ : ByteArray), (⟨#[99]⟩ : ByteArray)] : List ByteArray))).bind fun t223 => (if t223 = true then (if t218 = 18 then ((line_Check.f k (⟨#[]⟩ : ByteArray) ([] : List (S54)) (⟨#[]⟩ : ByteArray)).bind fun t224 => (some (t224 == 18))) else (some false)) else (some false))) else (some false)) else (some false)) else (some false)) else (some false)) else (some false)) else (some false)) = some r := H
 have A4 := Aside0.mk A40
 clear A40
 by_cases c5 : t205 = 0
 ·rw [if_pos c5] at H
  have c5b0 : (t205 == 0) = true := beq_iff_eq.mpr c5
  have c5b1 : (t205 != 0) = false := bne_eq_false_iff_eq.mpr c5
  clear c5
  by_cases c6 : t200.toList = ([82, 68, 65, 84, 69] : List UInt8)
  ·rw [if_pos c6] at H
   have c6b0 : (t200.toList == ([82, 68, 65, 84, 69] : List UInt8)) = true := beq_iff_eq.mpr c6
   have c6b1 : (t200.toList != ([82, 68, 65, 84, 69] : List UInt8)) = false := bne_eq_false_iff_eq.mpr c6
   clear c6
   by_cases c7 : t204.toList = ([120, 58, 121] : List UInt8)
   ·rw [if_pos c7] at H
    have c7b0 : (t204.toList == ([120, 58, 121] : List UInt8)) = true := beq_iff_eq.mpr c7
    have c7b1 : (t204.toList != ([120, 58, 121] : List UInt8)) = false := bne_eq_false_iff_eq.mpr c7
    clear c7
    by_cases c8 : t208 = 0
    ·rw [if_pos c8] at H
     have c8b0 : (t208 == 0) = true := beq_iff_eq.mpr c8
     have c8b1 : (t208 != 0) = false := bne_eq_false_iff_eq.mpr c8
     clear c8
     by_cases c9 : t207.toList = ([82, 68, 65, 84, 69, 59, 84, 90, 73, 68, 61, 34, 97, 58, 98, 34, 44, 99, 58, 120, 58, 121] : List UInt8)
     ·rw [if_pos c9] at H
      have c9b0 : (t207.toList == ([82, 68, 65, 84, 69, 59, 84, 90, 73, 68, 61, 34, 97, 58, 98, 34, 44, 99, 58, 120, 58, 121] : List UInt8)) = true := beq_iff_eq.mpr c9
      have c9b1 : (t207.toList != ([82, 68, 65, 84, 69, 59, 84, 90, 73, 68, 61, 34, 97, 58, 98, 34, 44, 99, 58, 120, 58, 121] : List UInt8)) = false := bne_eq_false_iff_eq.mpr c9
      clear c9
      by_cases c10 : t212 = true
      ·subst c10
       have H1 : ((solsticekeep_Texts.f k t209 (([(⟨#[97, 58, 98]⟩ : ByteArray), (⟨#[99]⟩ : ByteArray)] : List ByteArray))).bind fun t223 => (if t223 = true then (if t218 = 18 then ((line_Check.f k (⟨#[]⟩ : ByteArray) ([] : List (S54)) (⟨#[]⟩ : ByteArray)).bind fun t224 => (some (t224 == 18))) else (some false)) else (some false))) = some r := by rw [if_pos rfl] at H; exact H
       clear H
       have H := H1
       clear H1
       obtain ⟨y220, hy220⟩ : ∃ y_ : List ByteArray, y_ = (([(⟨#[97, 58, 98]⟩ : ByteArray), (⟨#[99]⟩ : ByteArray)] : List ByteArray)) := ⟨_, rfl⟩
       replace H : ((solsticekeep_Texts.f k t209 y220).bind fun t223 => (if t223 = true then (if t218 = 18 then ((line_Check.f k (⟨#[]⟩ : ByteArray) ([] : List (S54)) (⟨#[]⟩ : ByteArray)).bind fun t224 => (some (t224 == 18))) else (some false)) else (some false))) = some r := by first | (rw [hy220]; with_reducible exact H) | (have H2_ := (Option.bind_some _ _).symm.trans H; rw [hy220]; with_reducible exact H2_) | (have H2_ := (Option.bind_some _ _).symm.trans H; with_reducible exact H2_) | with_reducible exact H | (rw [hy220]; exact H) | exact H
       have Ny220 := Aside0.mk hy220
       clear hy220
       replace H := Option.bind_eq_some_iff.mp H
       obtain ⟨t223, A110, H⟩ := H
       replace H : (if t223 = true then (if t218 = 18 then ((line_Check.f k (⟨#[]⟩ : ByteArray) ([] : List (S54)) (⟨#[]⟩ : ByteArray)).bind fun t224 => (some (t224 == 18))) else (some false)) else (some false)) = some r := H
       have A11 := Aside0.mk A110
       clear A110
       by_cases c12 : t223 = true
       ·subst c12
        have H1 : (if t218 = 18 then ((line_Check.f k (⟨#[]⟩ : ByteArray) ([] : List (S54)) (⟨#[]⟩ : ByteArray)).bind fun t224 => (some (t224 == 18))) else (some false)) = some r := by rw [if_pos rfl] at H; exact H
        clear H
        have H := H1
        clear H1
        by_cases c13 : t218 = 18
        ·rw [if_pos c13] at H
         have c13b0 : (t218 == 18) = true := beq_iff_eq.mpr c13
         have c13b1 : (t218 != 18) = false := bne_eq_false_iff_eq.mpr c13
         clear c13
         replace H := Option.bind_eq_some_iff.mp H
         obtain ⟨t224, A140, H⟩ := H
         replace H : (some (t224 == 18)) = some r := H
         have A14 := Aside0.mk A140
         clear A140
         obtain rfl := Option.some.inj H
         go_enter Try.func32, Try.ntmps32
         go_wp2_with (first | ((with_reducible refine gate_callee (f := 25) rfl ?_); refine goesL_ (some 10) rfl rfl Try.func25 (by kernel_rfl) rfl #[.string (⟨#[82, 68, 65, 84, 69, 59, 84, 90, 73, 68, 61, 34, 97, 58, 98, 34, 44, 99, 58, 120, 58, 121]⟩ : ByteArray)] rfl (by (try simp only [List.map_toArray, List.map_cons, List.map_nil]); first | done | rfl | (simp only [List.length_drop, List.length_take]; rfl)) ?_; (with_reducible refine (line_Parse.calls k (⟨#[82, 68, 65, 84, 69, 59, 84, 90, 73, 68, 61, 34, 97, 58, 98, 34, 44, 99, 58, 120, 58, 121]⟩ : ByteArray) t200 t201 t204 t205 _ A1.out).mono ?_); rintro e w15 ⟨v202, rfl, ho0, hb⟩; refine ⟨_, rfl, ?_⟩; have n0_ := Aside0.mk (Kd.S_lower ho0 (below_size (by repeat (first | (with_reducible first | exact HB.out | apply below_alloc | apply pw_below_drewN | apply below_drew1) | exact HB.out)))); have n1_ := Aside0.mk (below_step (by repeat (first | (with_reducible first | exact HB.out | apply below_alloc | apply pw_below_drewN | apply below_drew1) | exact HB.out)) hb); clear HB; have HO203 := n0_; have HB := n1_; clear n0_ n1_; (try clear hb); (try clear hb2); (try clear hk); (try clear hi); (try clear ho0)) | ((with_reducible refine gate_dst (N := 1) rfl ?_); (try (refine gate_guard (by rfl) ?_; dsimp only)); refine box_event ?hg (N := 1) ?hd (cs := #[.string (⟨#[]⟩ : ByteArray), .slice none 0 0, .string (⟨#[]⟩ : ByteArray)]) (t := 38) ?hr ?_; (case hd => rfl); (case hg => rfl); (case hr => first | (go_simp; done) | (go_simp; rfl)); intro gb206 hg w16 hbox hb; have n0_ := Aside0.mk (Kd.S_below (by (with_reducible repeat (first | apply Kd.S_alloc | apply Kd.S_drewN | apply Kd.S_drew)); exact HO203.out) hb); have n1_ := Aside0.mk (below_step (by repeat (first | (with_reducible first | exact HB.out | apply below_alloc | apply pw_below_drewN | apply below_drew1) | exact HB.out)) hb); have n2_ := Aside0.mk (hbox); have n3_ := Aside0.mk ((by rw [hg]; exact (below_size (by repeat (first | (with_reducible first | exact HB.out | apply below_alloc | apply pw_below_drewN | apply below_drew1) | exact HB.out))) : w.heap.size ≤ gb206)); have n4_ := Aside0.mk ((by rw [hg]; exact (below_size (by repeat (first | (with_reducible first | exact HB.out | apply below_alloc | apply pw_below_drewN | apply below_drew1) | exact HB.out))) : w.heap.size ≤ gb206)); clear HO203; clear HB; have HO203 := n0_; have HB := n1_; have BK206 := n2_; have GW206 := n3_; have GE206 := n4_; clear n0_ n1_ n2_ n3_ n4_; clear hb hbox hg; have hcz17_0 : w16.cell? ⟨gb206, 0, none⟩ = some (.string (⟨#[]⟩ : ByteArray)) := (blk_cell BK206.out 0).trans rfl; have hcz17_1 : w16.cell? ⟨gb206, 1, none⟩ = some (.slice none 0 0) := (blk_cell BK206.out 1).trans rfl; have hcz17_2 : w16.cell? ⟨gb206, 2, none⟩ = some (.string (⟨#[]⟩ : ByteArray)) := (blk_cell BK206.out 2).trans rfl; have hfz17_0 := blk_frozen BK206.out 0; have hfz17_1 := blk_frozen BK206.out 1; have hfz17_2 := blk_frozen BK206.out 2; obtain ⟨Ao18, co18, eo18⟩ := Kd.S_slice HO203.out; subst eo18) | ((with_reducible refine gate_callee (f := 24) rfl ?_); refine goesL_ (some 15) rfl rfl Try.func24 (by kernel_rfl) rfl #[.agg #[.string t200, .slice Ao18 t201.length co18, .string t204]] rfl (by (try simp only [List.map_toArray, List.map_cons, List.map_nil]); first | done | rfl | (simp only [List.length_drop, List.length_take]; rfl)) ?_; (with_reducible refine (line_Text.calls k t200 _ _ t201 t204 t207 t208 _ ?side1 ?side2 A2.out).mono ?_); (case side1 => refine (Kd.S_reads' (e := 54) (base := w.heap.size) (ok := fun k_ => True) (n := t201.length) (c := co18) ?_).2.2; exact (by (with_reducible repeat (first | apply Kd.S_alloc | apply Kd.S_drewN | apply Kd.S_drew)); exact (Kd.S_mono (Kd.S_far (p := ⟨gb206, 2, none⟩) (Kd.S_far (p := ⟨gb206, 1, none⟩) (Kd.S_far (p := ⟨gb206, 0, none⟩) (Kd.S_types HO203.out BK206.out (by decide)) (fun _ hk => hk.2) (.string t200)) (fun _ hk => hk.2) (.slice Ao18 t201.length co18)) (fun _ hk => hk.2) (.string t204)) (fun _ h_ => h_.1)))); (case side2 => exact (Kd.S_reads' HO203.out).2.1); rintro e w19 ⟨rfl, hb⟩; refine ⟨_, rfl, ?_⟩; have n0_ := Aside0.mk (Kd.S_below (by (with_reducible repeat (first | apply Kd.S_alloc | apply Kd.S_drewN | apply Kd.S_drew)); exact (Kd.S_mono (Kd.S_far (p := ⟨gb206, 2, none⟩) (Kd.S_far (p := ⟨gb206, 1, none⟩) (Kd.S_far (p := ⟨gb206, 0, none⟩) (Kd.S_types HO203.out BK206.out (by decide)) (fun _ hk => hk.2) (.string t200)) (fun _ hk => hk.2) (.slice Ao18 t201.length co18)) (fun _ hk => hk.2) (.string t204)) (fun _ h_ => h_.1))) hb); have n1_ := Aside0.mk (blk_below (g := gb206) (o := .cells #[.string t200, .slice Ao18 t201.length co18, .string t204] 38 (0, 0)) (by (with_reducible repeat (first | refine blk_drewN ?_ _ | refine blk_drew ?_ | refine blk_alloc ?_ _)); refine blk_put (cs := #[.string t200, .slice Ao18 t201.length co18, .string (⟨#[]⟩ : ByteArray)]) ?_ 2 _ rfl; (with_reducible repeat (first | refine blk_drewN ?_ _ | refine blk_drew ?_ | refine blk_alloc ?_ _)); refine blk_put (cs := #[.string t200, .slice none 0 0, .string (⟨#[]⟩ : ByteArray)]) ?_ 1 _ rfl; (with_reducible repeat (first | refine blk_drewN ?_ _ | refine blk_drew ?_ | refine blk_alloc ?_ _)); refine blk_put (cs := #[.string (⟨#[]⟩ : ByteArray), .slice none 0 0, .string (⟨#[]⟩ : ByteArray)]) ?_ 0 _ rfl; (with_reducible repeat (first | refine blk_drewN ?_ _ | refine blk_drew ?_ | refine blk_alloc ?_ _)); exact BK206.out) hb); have n2_ := Aside0.mk (below_step (by repeat (first | (with_reducible first | exact HB.out | apply below_alloc | apply pw_below_drewN | apply below_drew1 | refine below_set ?_ GE206.out) | exact HB.out)) hb); clear HO203; clear BK206; clear HB; have HO203 := n0_; have BK206 := n1_; have HB := n2_; clear n0_ n1_ n2_; (try clear hb); (try clear hb2); (try clear hk); (try clear hi); have hcz20_0 : w19.cell? ⟨gb206, 0, none⟩ = some (.string t200) := (blk_cell BK206.out 0).trans rfl; have hcz20_1 : w19.cell? ⟨gb206, 1, none⟩ = some (.slice Ao18 t201.length co18) := (blk_cell BK206.out 1).trans rfl; have hcz20_2 : w19.cell? ⟨gb206, 2, none⟩ = some (.string t204) := (blk_cell BK206.out 2).trans rfl; have hfz20_0 := blk_frozen BK206.out 0; have hfz20_1 := blk_frozen BK206.out 1; have hfz20_2 := blk_frozen BK206.out 2) | ((with_reducible refine gate_callee (f := 26) rfl ?_); refine goesL_ (some 20) rfl rfl Try.func26 (by kernel_rfl) rfl #[.agg #[.string t200, .slice Ao18 t201.length co18, .string t204], .string (⟨#[116, 122, 105, 100]⟩ : ByteArray)] rfl (by (try simp only [List.map_toArray, List.map_cons, List.map_nil]); first | done | rfl | (simp only [List.length_drop, List.length_take]; rfl)) ?_; (with_reducible refine (line_Param.calls k t200 _ _ t201 t204 (⟨#[116, 122, 105, 100]⟩ : ByteArray) t209 true _ ?side1 ?side2 A3.out).mono ?_); (case side1 => repeat (first | exact (Kd.S_reads' HO203.out).2.2 | (with_reducible refine Kd.C_alloc ?_ _) | (with_reducible refine Kd.C_drewN ?_ _) | (with_reducible refine Kd.C_drew ?_))); (case side2 => exact (Kd.S_reads' HO203.out).2.1); rintro e w21 ⟨v210, rfl, ho0, hb⟩; refine ⟨_, rfl, ?_⟩; have n0_ := Aside0.mk (Kd.S_elder' (by (with_reducible repeat (first | apply Kd.S_alloc | apply Kd.S_drewN | apply Kd.S_drew)); exact HO203.out) (Kd.R_base ho0) hb); have n1_ := Aside0.mk (Kd.R_lower ho0 (below_size (by repeat (first | (with_reducible first | exact HB.out | apply below_alloc | apply pw_below_drewN | apply below_drew1 | refine below_set ?_ GE206.out) | exact HB.out)))); have n2_ := Aside0.mk (blk_below (g := gb206) (o := .cells #[.string t200, .slice Ao18 t201.length co18, .string t204] 38 (0, 0)) (by (with_reducible repeat (first | refine blk_drewN ?_ _ | refine blk_drew ?_ | refine blk_alloc ?_ _)); exact BK206.out) hb); have n3_ := Aside0.mk (below_step (by repeat (first | (with_reducible first | exact HB.out | apply below_alloc | apply pw_below_drewN | apply below_drew1 | refine below_set ?_ GE206.out) | exact HB.out)) hb); clear HO203; clear BK206; clear HB; have HO203 := n0_; have HO211 := n1_; have BK206 := n2_; have HB := n3_; clear n0_ n1_ n2_ n3_; (try clear hb); (try clear hb2); (try clear hk); (try clear hi); (try clear ho0)) | ((with_reducible refine gate_callee (f := 25) rfl ?_); refine goesL_ (some 24) rfl rfl Try.func25 (by kernel_rfl) rfl #[.string (⟨#[82, 68, 65, 84, 69]⟩ : ByteArray)] rfl (by (try simp only [List.map_toArray, List.map_cons, List.map_nil]); first | done | rfl | (simp only [List.length_drop, List.length_take]; rfl)) ?_; (with_reducible refine (line_Parse.calls k (⟨#[82, 68, 65, 84, 69]⟩ : ByteArray) t213 t214 t217 t218 _ A4.out).mono ?_); rintro e w22 ⟨v215, rfl, ho0, hb⟩; refine ⟨_, rfl, ?_⟩; have n0_ := Aside0.mk (Kd.S_elder' (by (with_reducible repeat (first | apply Kd.S_alloc | apply Kd.S_drewN | apply Kd.S_drew)); exact HO203.out) (Kd.S_base ho0) hb); have n1_ := Aside0.mk (Kd.R_below (by (with_reducible repeat (first | apply Kd.R_alloc | apply Kd.R_drewN | apply Kd.R_drew)); exact HO211.out) hb); have n2_ := Aside0.mk (Kd.S_lower (Kd.S_new' (Kd.S_new' ho0 (Kd.S_lt (by (with_reducible repeat (first | apply Kd.S_alloc | apply Kd.S_drewN | apply Kd.S_drew)); exact HO203.out))) (Kd.R_lt (by (with_reducible repeat (first | apply Kd.R_alloc | apply Kd.R_drewN | apply Kd.R_drew)); exact HO211.out))) (below_size (by repeat (first | (with_reducible first | exact HB.out | apply below_alloc | apply pw_below_drewN | apply below_drew1 | refine below_set ?_ GE206.out) | exact HB.out)))); have n3_ := Aside0.mk (blk_below (g := gb206) (o := .cells #[.string t200, .slice Ao18 t201.length co18, .string t204] 38 (0, 0)) (by (with_reducible repeat (first | refine blk_drewN ?_ _ | refine blk_drew ?_ | refine blk_alloc ?_ _)); exact BK206.out) hb); have n4_ := Aside0.mk (below_step (by repeat (first | (with_reducible first | exact HB.out | apply below_alloc | apply pw_below_drewN | apply below_drew1 | refine below_set ?_ GE206.out) | exact HB.out)) hb); clear HO203; clear HO211; clear BK206; clear HB; have HO203 := n0_; have HO211 := n1_; have HO216 := n2_; have BK206 := n3_; have HB := n4_; clear n0_ n1_ n2_ n3_ n4_; (try clear hb); (try clear hb2); (try clear hk); (try clear hi); (try clear ho0)) | ((with_reducible refine gate_dst (N := 7) rfl ?_); (try (refine gate_guard (by rfl) ?_; dsimp only)); refine box_event ?hg (N := 7) ?hd (cs := #[.string (⟨#[]⟩ : ByteArray), .slice none 0 0, .string (⟨#[]⟩ : ByteArray)]) (t := 38) ?hr ?_; (case hd => rfl); (case hg => rfl); (case hr => first | (go_simp; done) | (go_simp; rfl)); intro gb219 hg w23 hbox hb; have n0_ := Aside0.mk (Kd.S_below (by (with_reducible repeat (first | apply Kd.S_alloc | apply Kd.S_drewN | apply Kd.S_drew)); exact HO203.out) hb); have n1_ := Aside0.mk (Kd.R_below (by (with_reducible repeat (first | apply Kd.R_alloc | apply Kd.R_drewN | apply Kd.R_drew)); exact HO211.out) hb); have n2_ := Aside0.mk (Kd.S_below (by (with_reducible repeat (first | apply Kd.S_alloc | apply Kd.S_drewN | apply Kd.S_drew)); exact HO216.out) hb); have n3_ := Aside0.mk (blk_below (g := gb206) (o := .cells #[.string t200, .slice Ao18 t201.length co18, .string t204] 38 (0, 0)) (by (with_reducible repeat (first | refine blk_drewN ?_ _ | refine blk_drew ?_ | refine blk_alloc ?_ _)); exact BK206.out) hb); have n4_ := Aside0.mk (below_step (by repeat (first | (with_reducible first | exact HB.out | apply below_alloc | apply pw_below_drewN | apply below_drew1 | refine below_set ?_ GE206.out) | exact HB.out)) hb); have n5_ := Aside0.mk (hbox); have n6_ := Aside0.mk ((by rw [hg]; exact (below_size (by repeat (first | (with_reducible first | exact HB.out | apply below_alloc | apply pw_below_drewN | apply below_drew1 | refine below_set ?_ GE206.out) | exact HB.out))) : w.heap.size ≤ gb219)); have n7_ := Aside0.mk ((by rw [hg]; exact (below_size (by repeat (first | (with_reducible first | exact HB.out | apply below_alloc | apply pw_below_drewN | apply below_drew1 | refine below_set ?_ GE206.out) | exact HB.out))) : w.heap.size ≤ gb219)); have n8_ := Aside0.mk ((by rw [hg]; exact Nat.ne_of_lt (blk_lt (g := gb206) (o := .cells #[.string t200, .slice Ao18 t201.length co18, .string t204] 38 (0, 0)) (by (with_reducible repeat (first | refine blk_drewN ?_ _ | refine blk_drew ?_ | refine blk_alloc ?_ _)); exact BK206.out)) : gb206 ≠ gb219)); have n9_ := Aside0.mk ((by rw [hg]; exact Nat.ne_of_gt (blk_lt (g := gb206) (o := .cells #[.string t200, .slice Ao18 t201.length co18, .string t204] 38 (0, 0)) (by (with_reducible repeat (first | refine blk_drewN ?_ _ | refine blk_drew ?_ | refine blk_alloc ?_ _)); exact BK206.out)) : gb219 ≠ gb206)); clear HO203; clear HO211; clear HO216; clear BK206; clear HB; have HO203 := n0_; have HO211 := n1_; have HO216 := n2_; have BK206 := n3_; have HB := n4_; have BK219 := n5_; have GW219 := n6_; have GE219 := n7_; have NB206_219 := n8_; have NB219_206 := n9_; clear n0_ n1_ n2_ n3_ n4_ n5_ n6_ n7_ n8_ n9_; clear hb hbox hg; have hnb24 := NB219_206.out; have hnc24 := NB206_219.out; have hcz25_0 : w23.cell? ⟨gb219, 0, none⟩ = some (.string (⟨#[]⟩ : ByteArray)) := (blk_cell BK219.out 0).trans rfl; have hcz25_1 : w23.cell? ⟨gb219, 1, none⟩ = some (.slice none 0 0) := (blk_cell BK219.out 1).trans rfl; have hcz25_2 : w23.cell? ⟨gb219, 2, none⟩ = some (.string (⟨#[]⟩ : ByteArray)) := (blk_cell BK219.out 2).trans rfl; have hfz25_0 := blk_frozen BK219.out 0; have hfz25_1 := blk_frozen BK219.out 1; have hfz25_2 := blk_frozen BK219.out 2; obtain ⟨Ao26, co26, eo26⟩ := Kd.S_slice HO216.out; subst eo26; have hcz27_0 : w23.cell? ⟨gb206, 0, none⟩ = some (.string t200) := (blk_cell BK206.out 0).trans rfl; have hcz27_1 : w23.cell? ⟨gb206, 1, none⟩ = some (.slice Ao18 t201.length co18) := (blk_cell BK206.out 1).trans rfl; have hcz27_2 : w23.cell? ⟨gb206, 2, none⟩ = some (.string t204) := (blk_cell BK206.out 2).trans rfl; have hfz27_0 := blk_frozen BK206.out 0; have hfz27_1 := blk_frozen BK206.out 1; have hfz27_2 := blk_frozen BK206.out 2) | ((with_reducible refine gate_dst (N := 52) rfl ?_); (try (refine gate_guard (by rfl) ?_; dsimp only)); refine Kd.R_lit Kd.string _ 9 ?hg (N := 52) ?hd (xs := ([(⟨#[97, 58, 98]⟩ : ByteArray), (⟨#[99]⟩ : ByteArray)] : List ByteArray)) (inner := [.string (⟨#[97, 58, 98]⟩ : ByteArray), .string (⟨#[99]⟩ : ByteArray)]) (ok := fun _ => True) (okp := fun _ => True) ?hr ?hp (fun _ hk => hk) trivial (Below.refl _ _) (Nat.le_refl _) (by simp) ?_; (case hd => rfl); (case hg => rfl); (case hr => first | (go_simp; done) | (go_simp; rfl)); (case hp => exact (Reps.one (show Kd.M Kd.string _ _ _ (⟨#[97, 58, 98]⟩ : ByteArray) [.string (⟨#[97, 58, 98]⟩ : ByteArray)] from rfl) (Reps.one (show Kd.M Kd.string _ _ _ (⟨#[99]⟩ : ByteArray) [.string (⟨#[99]⟩ : ByteArray)] from rfl) (Reps.none _ _)))); intro v221 w28 ho29 hb hg_ hnew_; clear hg_ hnew_; (first | rw [← Ny220.out] at ho29 | (simp only [Int.reduceToNat] at ho29; rw [← Ny220.out] at ho29)); have n0_ := Aside0.mk (Kd.S_elder' (by (with_reducible repeat (first | apply Kd.S_alloc | apply Kd.S_drewN | apply Kd.S_drew)); exact (Kd.S_mono (Kd.S_far (p := ⟨gb219, 2, none⟩) (Kd.S_far (p := ⟨gb219, 1, none⟩) (Kd.S_far (p := ⟨gb219, 0, none⟩) (Kd.S_types HO203.out BK219.out (by decide)) (fun _ hk => hk.2) (.string t213)) (fun _ hk => hk.2) (.slice Ao26 t214.length co26)) (fun _ hk => hk.2) (.string t217)) (fun _ h_ => h_.1))) (Kd.R_base ho29) hb); have n1_ := Aside0.mk (Kd.R_elder' (by (with_reducible repeat (first | apply Kd.R_alloc | apply Kd.R_drewN | apply Kd.R_drew)); exact (Kd.R_mono (Kd.R_far (p := ⟨gb219, 2, none⟩) (Kd.R_far (p := ⟨gb219, 1, none⟩) (Kd.R_far (p := ⟨gb219, 0, none⟩) (Kd.R_types HO211.out BK219.out (by decide)) (fun _ hk => hk.2) (.string t213)) (fun _ hk => hk.2) (.slice Ao26 t214.length co26)) (fun _ hk => hk.2) (.string t217)) (fun _ h_ => h_.1))) (Kd.R_base ho29) hb); have n2_ := Aside0.mk (Kd.S_elder' (by (with_reducible repeat (first | apply Kd.S_alloc | apply Kd.S_drewN | apply Kd.S_drew)); exact (Kd.S_mono (Kd.S_far (p := ⟨gb219, 2, none⟩) (Kd.S_far (p := ⟨gb219, 1, none⟩) (Kd.S_far (p := ⟨gb219, 0, none⟩) (Kd.S_types HO216.out BK219.out (by decide)) (fun _ hk => hk.2) (.string t213)) (fun _ hk => hk.2) (.slice Ao26 t214.length co26)) (fun _ hk => hk.2) (.string t217)) (fun _ h_ => h_.1))) (Kd.R_base ho29) hb); have n3_ := Aside0.mk (Kd.R_lower (Kd.R_new' ho29 (Kd.R_lt (by (with_reducible repeat (first | apply Kd.R_alloc | apply Kd.R_drewN | apply Kd.R_drew)); exact (Kd.R_mono (Kd.R_far (p := ⟨gb219, 2, none⟩) (Kd.R_far (p := ⟨gb219, 1, none⟩) (Kd.R_far (p := ⟨gb219, 0, none⟩) (Kd.R_types HO211.out BK219.out (by decide)) (fun _ hk => hk.2) (.string t213)) (fun _ hk => hk.2) (.slice Ao26 t214.length co26)) (fun _ hk => hk.2) (.string t217)) (fun _ h_ => h_.1))))) (below_size (by repeat (first | (with_reducible first | exact HB.out | apply below_alloc | apply pw_below_drewN | apply below_drew1 | refine below_set ?_ GE206.out | refine below_set ?_ GE219.out) | exact HB.out)))); have n4_ := Aside0.mk (blk_below (g := gb206) (o := .cells #[.string t200, .slice Ao18 t201.length co18, .string t204] 38 (0, 0)) (by (with_reducible repeat (first | refine blk_drewN ?_ _ | refine blk_drew ?_ | refine blk_alloc ?_ _)); refine blk_far ?_ NB206_219.out _; (with_reducible repeat (first | refine blk_drewN ?_ _ | refine blk_drew ?_ | refine blk_alloc ?_ _)); refine blk_far ?_ NB206_219.out _; (with_reducible repeat (first | refine blk_drewN ?_ _ | refine blk_drew ?_ | refine blk_alloc ?_ _)); refine blk_far ?_ NB206_219.out _; (with_reducible repeat (first | refine blk_drewN ?_ _ | refine blk_drew ?_ | refine blk_alloc ?_ _)); exact BK206.out) hb); have n5_ := Aside0.mk (blk_below (g := gb219) (o := .cells #[.string t213, .slice Ao26 t214.length co26, .string t217] 38 (0, 0)) (by (with_reducible repeat (first | refine blk_drewN ?_ _ | refine blk_drew ?_ | refine blk_alloc ?_ _)); refine blk_put (cs := #[.string t213, .slice Ao26 t214.length co26, .string (⟨#[]⟩ : ByteArray)]) ?_ 2 _ rfl; (with_reducible repeat (first | refine blk_drewN ?_ _ | refine blk_drew ?_ | refine blk_alloc ?_ _)); refine blk_put (cs := #[.string t213, .slice none 0 0, .string (⟨#[]⟩ : ByteArray)]) ?_ 1 _ rfl; (with_reducible repeat (first | refine blk_drewN ?_ _ | refine blk_drew ?_ | refine blk_alloc ?_ _)); refine blk_put (cs := #[.string (⟨#[]⟩ : ByteArray), .slice none 0 0, .string (⟨#[]⟩ : ByteArray)]) ?_ 0 _ rfl; (with_reducible repeat (first | refine blk_drewN ?_ _ | refine blk_drew ?_ | refine blk_alloc ?_ _)); exact BK219.out) hb); have n6_ := Aside0.mk (below_step (by repeat (first | (with_reducible first | exact HB.out | apply below_alloc | apply pw_below_drewN | apply below_drew1 | refine below_set ?_ GE206.out | refine below_set ?_ GE219.out) | exact HB.out)) hb); clear HO203; clear HO211; clear HO216; clear BK206; clear BK219; clear HB; have HO203 := n0_; have HO211 := n1_; have HO216 := n2_; have HO222 := n3_; have BK206 := n4_; have BK219 := n5_; have HB := n6_; clear n0_ n1_ n2_ n3_ n4_ n5_ n6_; clear hb ho29; obtain ⟨Ao30, co30, eo30⟩ := Kd.R_slice HO211.out; subst eo30; obtain ⟨Ao31, co31, eo31⟩ := Kd.R_slice HO222.out; subst eo31) | (go_at_call 19; (with_reducible refine (solsticekeep_Texts.calls k _ _ t209 _ _ y220 true _ ?side1 ?side2 ?side3 ?side4 A11.out).mono ?_); (case side1 => repeat (first | exact (Kd.R_reads' HO211.out).2.2 | (with_reducible refine Kd.C_alloc ?_ _) | (with_reducible refine Kd.C_drewN ?_ _) | (with_reducible refine Kd.C_drew ?_))); (case side2 => exact (Kd.R_reads' HO211.out).2.1); (case side3 => repeat (first | exact (Kd.R_reads' HO222.out).2.2 | (with_reducible refine Kd.C_alloc ?_ _) | (with_reducible refine Kd.C_drewN ?_ _) | (with_reducible refine Kd.C_drew ?_))); (case side4 => exact (Kd.R_reads' HO222.out).2.1); rintro e w' ⟨rfl, ⟨nd, rfl⟩⟩) | (go_at_call 31; (refine (line_Check.calls k (⟨#[]⟩ : ByteArray) _ _ ([] : List (S54)) (⟨#[]⟩ : ByteArray) t224 _ ?side1 ?side2 A14.out).mono ?_); (case side1 => exact Kd.C_nil _ _); (case side2 => exact Nat.le_refl _); rintro e w32 ⟨rfl, hb⟩; have n0_ := Aside0.mk (Kd.S_below (by (with_reducible repeat (first | apply Kd.S_alloc | apply Kd.S_drewN | apply Kd.S_drew)); exact HO203.out) hb); have n1_ := Aside0.mk (Kd.R_below (by (with_reducible repeat (first | apply Kd.R_alloc | apply Kd.R_drewN | apply Kd.R_drew)); exact HO211.out) hb); have n2_ := Aside0.mk (Kd.S_below (by (with_reducible repeat (first | apply Kd.S_alloc | apply Kd.S_drewN | apply Kd.S_drew)); exact HO216.out) hb); have n3_ := Aside0.mk (Kd.R_below (by (with_reducible repeat (first | apply Kd.R_alloc | apply Kd.R_drewN | apply Kd.R_drew)); exact HO222.out) hb); have n4_ := Aside0.mk (blk_below (g := gb206) (o := .cells #[.string t200, .slice Ao18 t201.length co18, .string t204] 38 (0, 0)) (by (with_reducible repeat (first | refine blk_drewN ?_ _ | refine blk_drew ?_ | refine blk_alloc ?_ _)); exact BK206.out) hb); have n5_ := Aside0.mk (blk_below (g := gb219) (o := .cells #[.string t213, .slice Ao26 t214.length co26, .string t217] 38 (0, 0)) (by (with_reducible repeat (first | refine blk_drewN ?_ _ | refine blk_drew ?_ | refine blk_alloc ?_ _)); exact BK219.out) hb); have n6_ := Aside0.mk (below_step (by repeat (first | (with_reducible first | exact HB.out | apply below_alloc | apply pw_below_drewN | apply below_drew1 | refine below_set ?_ GE206.out | refine below_set ?_ GE219.out) | exact HB.out)) hb); clear HO203; clear HO211; clear HO216; clear HO222; clear BK206; clear BK219; clear HB; have HO203 := n0_; have HO211 := n1_; have HO216 := n2_; have HO222 := n3_; have BK206 := n4_; have BK219 := n5_; have HB := n6_; clear n0_ n1_ n2_ n3_ n4_ n5_ n6_; (try clear hb); (try clear hb2); (try clear hk); (try clear hi)))
         go_ret
         exact ⟨by first | rfl | (simp [errW_none, errW_some] <;> rfl) | (simp [*, errW_none, errW_some] <;> rfl), by repeat (first | (with_reducible first | exact HB.out | apply below_alloc | apply pw_below_drewN | apply below_drew1 | refine below_set ?_ GE206.out | refine below_set ?_ GE219.out) | exact HB.out)⟩
        ·rw [if_neg c13] at H
         have c13b0 : (t218 == 18) = false := beq_eq_false_iff_ne.mpr c13
         have c13b1 : (t218 != 18) = true := bne_iff_ne.mpr c13
         obtain rfl := Option.some.inj H
         cases htrue
       ·replace c12 := Bool.eq_false_iff.mpr c12
        subst c12
        have H1 : (some false) = some r := by rw [if_neg (show ¬ (false = true) by decide)] at H; exact H
        clear H
        have H := H1
        clear H1
        obtain rfl := Option.some.inj H
        cases htrue
      ·replace c10 := Bool.eq_false_iff.mpr c10
       subst c10
       have H1 : (some false) = some r := by rw [if_neg (show ¬ (false = true) by decide)] at H; exact H
       clear H
       have H := H1
       clear H1
       obtain rfl := Option.some.inj H
       cases htrue
     ·rw [if_neg c9] at H
      have c9b0 : (t207.toList == ([82, 68, 65, 84, 69, 59, 84, 90, 73, 68, 61, 34, 97, 58, 98, 34, 44, 99, 58, 120, 58, 121] : List UInt8)) = false := beq_eq_false_iff_ne.mpr c9
      have c9b1 : (t207.toList != ([82, 68, 65, 84, 69, 59, 84, 90, 73, 68, 61, 34, 97, 58, 98, 34, 44, 99, 58, 120, 58, 121] : List UInt8)) = true := bne_iff_ne.mpr c9
      obtain rfl := Option.some.inj H
      cases htrue
    ·rw [if_neg c8] at H
     have c8b0 : (t208 == 0) = false := beq_eq_false_iff_ne.mpr c8
     have c8b1 : (t208 != 0) = true := bne_iff_ne.mpr c8
     obtain rfl := Option.some.inj H
     cases htrue
   ·rw [if_neg c7] at H
    have c7b0 : (t204.toList == ([120, 58, 121] : List UInt8)) = false := beq_eq_false_iff_ne.mpr c7
    have c7b1 : (t204.toList != ([120, 58, 121] : List UInt8)) = true := bne_iff_ne.mpr c7
    obtain rfl := Option.some.inj H
    cases htrue
  ·rw [if_neg c6] at H
   have c6b0 : (t200.toList == ([82, 68, 65, 84, 69] : List UInt8)) = false := beq_eq_false_iff_ne.mpr c6
   have c6b1 : (t200.toList != ([82, 68, 65, 84, 69] : List UInt8)) = true := bne_iff_ne.mpr c6
   obtain rfl := Option.some.inj H
   cases htrue
 ·rw [if_neg c5] at H
  have c5b0 : (t205 == 0) = false := beq_eq_false_iff_ne.mpr c5
  have c5b1 : (t205 != 0) = true := bne_iff_ne.mpr c5
  obtain rfl := Option.some.inj H
  cases htrue
end Go.Proofs.Ytookjnpmbenheaa.PLin