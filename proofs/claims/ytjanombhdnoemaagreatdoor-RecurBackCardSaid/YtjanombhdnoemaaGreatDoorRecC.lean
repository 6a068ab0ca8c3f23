-- A text of the kit's tools for this claim, its remarks left out.
import Derived.Test.YtjanombhdnoemaaGreatDoorRecB
import Derived.Test.YtjanombhdnoemaaGreatDoorRecBs
namespace Go.Proofs.YtjanombhdnoemaaGreatDoor.PRec
open Go.RowKit Go.Proofs.YtjanombhdnoemaaGreatDoorW.PrintWords Go.Proofs.YtjanombhdnoemaaGreatDoorW.PrintLast Go.Proofs.YtjanombhdnoemaaGreatDoorW.PrintMore Go.Proofs.YtjanombhdnoemaaGreatDoor.Base
attribute [local go_sem] max2_int min2_int max_two min_two max_three min_three max_four min_four
set_option linter.unusedVariables false
set_option linter.unusedSimpArgs false
def recur_days.f (k : Nat) (a0 : Int) (l12 : List Int) (l9 : List (S38)) : Option (Bool) := if l9.any (wrD ((a0 == 6 || a0 == 7) && ((l12.length : Int) == 0))) = true then (some false) else ((recur_twiceD.f k l9).bind fun t1 => (some (!t1)))
theorem recur_days.mono : ∀ a0 a1 a2 k, LeO (recur_days.f k a0 a1 a2) (recur_days.f (k + 1) a0 a1 a2) := by
 intro a0 a1 a2 k
 unfold recur_days.f
 exact LeO.ite (LeO.refl _) (LeO.bind (recur_twiceD.mono _ _) (fun _ => LeO.refl _))
set_option maxHeartbeats 8000000 in
set_option maxRecDepth 100000 in
theorem recur_days.calls (k : Nat) (a0 a1 a2 : Int) (a3 : Bool) (a4 : Int) (a5 : Bool) (A6 : Option Addr) (c6 : Nat) (l6 : List Int) (A7 : Option Addr) (c7 : Nat) (l7 : List Int) (A8 : Option Addr) (c8 : Nat) (l8 : List Int) (A9 : Option Addr) (c9 : Nat) (l9 : List S38) (A10 : Option Addr) (c10 : Nat) (l10 : List Int) (A11 : Option Addr) (c11 : Nat) (l11 : List Int) (A12 : Option Addr) (c12 : Nat) (l12 : List Int) (A13 : Option Addr) (c13 : Nat) (l13 : List Int) (A14 : Option Addr) (c14 : Nat) (l14 : List Int) (a15 : Int) (r : Bool) (w : World) (hr9 : Kd.C k38 w A9 l9.length l9) (hc9 : l9.length ≤ c9) (h : recur_days.f k a0 l12 l9 = some r) :
 Calls Tryz.prog 50 #[.agg #[Value.int .i64 a0, Value.int .i64 a1, Value.int .i64 a2, Value.bool a3, Value.int .i64 a4, Value.bool a5, Value.slice A6 l6.length c6, Value.slice A7 l7.length c7, Value.slice A8 l8.length c8, Value.slice A9 l9.length c9, Value.slice A10 l10.length c10, Value.slice A11 l11.length c11, Value.slice A12 l12.length c12, Value.slice A13 l13.length c13, Value.slice A14 l14.length c14, Value.int .i64 a15]] w fun e w' => e = .returned (.bool r) ∧ Below w.heap.size w w' := by
 have HR0 := Aside0.mk hr9
 have HC0 := Aside0.mk hc9
 have hu25 := Tryz.underlying25
 clear hr9 hc9
 unfold recur_days.f at h
 generalize e1 : (a0 == 6) = b1 at h
 generalize e2 : (a0 == 7) = b2 at h
 generalize e3 : ((l12.length : Int) == 0) = b3 at h
 generalize hnb : ((b1 || b2) && b3) = nb at h
 by_cases hc : l9.any (wrD nb) = true
 ·rw [if_pos hc] at h
  obtain rfl := Option.some.inj h
  have HC := Aside0.mk hc
  clear h hc
  have e3' : (l12.length == 0) = b3 := by rw [← e3, Bool.eq_iff_iff, beq_iff_eq, beq_iff_eq]; omega
  go_enter Tryz.func50, Tryz.ntmps50
  cases b1 <;> cases b2 <;> cases b3 <;> (subst hnb) <;> (simp only [Bool.or_false, Bool.false_or, Bool.or_true, Bool.true_or, Bool.and_true, Bool.and_false, Bool.or_self, Bool.and_self] at HC)
  all_goals
   go_wp2_with (first | ((with_reducible refine gate_dst (N := 1) rfl ?_); refine box_event ?hg (N := 1) ?hd (cs := #[Value.int .i64 a0, Value.int .i64 a1, Value.int .i64 a2, Value.bool a3, Value.int .i64 a4, Value.bool a5, Value.slice A6 l6.length c6, Value.slice A7 l7.length c7, Value.slice A8 l8.length c8, Value.slice A9 l9.length c9, Value.slice A10 l10.length c10, Value.slice A11 l11.length c11, Value.slice A12 l12.length c12, Value.slice A13 l13.length c13, Value.slice A14 l14.length c14, Value.int .i64 a15]) (t := 25) ?hr ?_; (case hd => rfl); (case hg => rfl); (case hr => first | (go_simp; done) | (go_simp; rfl)); intro gb hg w3 hbox hb; have HB := Aside0.mk hb; have Z0 : w3.cell? ⟨gb, 0, none⟩ = some (Value.int .i64 a0) := (blk_cell hbox 0).trans rfl; have Z9 : w3.cell? ⟨gb, 9, none⟩ = some (Value.slice A9 l9.length c9) := (blk_cell hbox 9).trans rfl; have Z12 : w3.cell? ⟨gb, 12, none⟩ = some (Value.slice A12 l12.length c12) := (blk_cell hbox 12).trans rfl; have Lg := eq_true (blk_lt hbox); have Y9 : ∀ ob, (w3.alloc ob).cell? ⟨gb, 9, none⟩ = some (Value.slice A9 l9.length c9) := (fun ob => (World.cell?_alloc_past _ _ _ (blk_lt hbox)).trans Z9); clear hb hbox hg) | (go_at_call 87; (with_reducible refine (recur_dhas.calls _ _ _ l9 _ _ (Kd.C_below HR0.out (below_alloc HB.out _)) HC0.out ((World.cell?_alloc_new _ _ _ 0).trans rfl)).mono ?_); rintro e w2 ⟨rfl, hb2⟩; rw [HC.out]; have HB2 := Aside0.mk (below_then (below_alloc HB.out _) (below_alloc HB.out _).size hb2); clear hb2))
   go_ret
   exact ⟨by rfl, HB2.out⟩
 ·rw [if_neg hc] at h
  replace hc := Bool.eq_false_iff.mpr hc
  obtain ⟨t, ht, h⟩ := Option.bind_eq_some_iff.1 h
  obtain rfl := Option.some.inj h
  have HC := Aside0.mk hc
  have HT := Aside0.mk ht
  clear h hc ht
  have e3' : (l12.length == 0) = b3 := by rw [← e3, Bool.eq_iff_iff, beq_iff_eq, beq_iff_eq]; omega
  go_enter Tryz.func50, Tryz.ntmps50
  cases b1 <;> cases b2 <;> cases b3 <;> (subst hnb) <;> (simp only [Bool.or_false, Bool.false_or, Bool.or_true, Bool.true_or, Bool.and_true, Bool.and_false, Bool.or_self, Bool.and_self] at HC)
  all_goals
   go_wp2_with (first | ((with_reducible refine gate_dst (N := 1) rfl ?_); refine box_event ?hg (N := 1) ?hd (cs := #[Value.int .i64 a0, Value.int .i64 a1, Value.int .i64 a2, Value.bool a3, Value.int .i64 a4, Value.bool a5, Value.slice A6 l6.length c6, Value.slice A7 l7.length c7, Value.slice A8 l8.length c8, Value.slice A9 l9.length c9, Value.slice A10 l10.length c10, Value.slice A11 l11.length c11, Value.slice A12 l12.length c12, Value.slice A13 l13.length c13, Value.slice A14 l14.length c14, Value.int .i64 a15]) (t := 25) ?hr ?_; (case hd => rfl); (case hg => rfl); (case hr => first | (go_simp; done) | (go_simp; rfl)); intro gb hg w3 hbox hb; have HB := Aside0.mk hb; have Z0 : w3.cell? ⟨gb, 0, none⟩ = some (Value.int .i64 a0) := (blk_cell hbox 0).trans rfl; have Z9 : w3.cell? ⟨gb, 9, none⟩ = some (Value.slice A9 l9.length c9) := (blk_cell hbox 9).trans rfl; have Z12 : w3.cell? ⟨gb, 12, none⟩ = some (Value.slice A12 l12.length c12) := (blk_cell hbox 12).trans rfl; have Lg := eq_true (blk_lt hbox); have Y9 : ∀ ob, (w3.alloc ob).cell? ⟨gb, 9, none⟩ = some (Value.slice A9 l9.length c9) := (fun ob => (World.cell?_alloc_past _ _ _ (blk_lt hbox)).trans Z9); clear hb hbox hg) | (go_at_call 87; (with_reducible refine (recur_dhas.calls _ _ _ l9 _ _ (Kd.C_below HR0.out (below_alloc HB.out _)) HC0.out ((World.cell?_alloc_new _ _ _ 0).trans rfl)).mono ?_); rintro e w2 ⟨rfl, hb2⟩; rw [HC.out]; have HB2 := Aside0.mk (below_then (below_alloc HB.out _) (below_alloc HB.out _).size hb2); have X9 := (hb2.cell (World.block_lt_of_cell? _ _ (Y9 _))).trans (Y9 _); clear hb2) | (go_at_call 88; (with_reducible refine (recur_twiceD.calls k _ _ l9 t _ (Kd.C_below HR0.out HB2.out) HC0.out HT.out).mono ?_); rintro e w5 ⟨rfl, hb5⟩; have HB5 := Aside0.mk (below_then HB2.out HB2.out.size hb5); clear hb5))
   go_ret
   exact ⟨by rfl, HB5.out⟩
def wrI (lo hi : Int) (ng : Bool) (n : Int) : Bool := (decide (n < lo) || decide (hi < n)) && ((!ng || decide (wrap64 (-lo) < n)) || decide (n < wrap64 (-hi)))
set_option maxHeartbeats 8000000 in
set_option maxRecDepth 100000 in
theorem recur_right1.calls (lo hi : Int) (ng : Bool) (n : Int) (g : Nat) (w : World) (h2 : w.cell? ⟨g, 2, none⟩ = some (.int .i64 lo)) (h3 : w.cell? ⟨g, 3, none⟩ = some (.int .i64 hi)) (h4 : w.cell? ⟨g, 4, none⟩ = some (.bool ng)) :
 Calls Tryz.prog 81 #[.int .i64 n, .pointer (some ⟨g, 0, none⟩)] w fun e w' => e = .returned (.bool (wrI lo hi ng n)) ∧ Below w.heap.size w w' := by
 have hu84 := Tryz.underlying84
 unfold wrI
 generalize e1 : decide (n < lo) = b1
 generalize e2 : decide (hi < n) = b2
 generalize e3 : decide (wrap64 (-lo) < n) = b3
 generalize e4 : decide (n < wrap64 (-hi)) = b4
 go_enter Tryz.func81, Tryz.ntmps81
 cases b1
 ·cases b2
  ·go_wp2
   go_ret
   exact ⟨by rfl, Below.refl _ _⟩
  ·cases ng <;> cases b3 <;> cases b4
   all_goals
    go_wp2
    go_ret
    exact ⟨by rfl, Below.refl _ _⟩
 ·cases ng <;> cases b3 <;> cases b4
  all_goals
   go_wp2
   go_ret
   exact ⟨by rfl, Below.refl _ _⟩
set_option maxHeartbeats 8000000 in
set_option maxRecDepth 100000 in
theorem recur_iidx.calls (lo hi : Int) (ng : Bool) (g : Nat) (A0 : Option Addr) (c0 : Nat) (l0 : List Int) (w : World) (hr0 : Kd.C (Kd.int .i64) w A0 l0.length l0) (hc0 : l0.length ≤ c0) (h2 : w.cell? ⟨g, 2, none⟩ = some (.int .i64 lo)) (h3 : w.cell? ⟨g, 3, none⟩ = some (.int .i64 hi)) (h4 : w.cell? ⟨g, 4, none⟩ = some (.bool ng)) :
 Calls Tryz.prog 114 #[.slice A0 l0.length c0, .func (.func 81) #[] #[.pointer (some ⟨g, 0, none⟩)]] w fun e w' => ∃ r : Int, e = .returned (.int .i64 r) ∧ decide (0 ≤ r) = l0.any (wrI lo hi ng) ∧ Below w.heap.size w w' := by
 have HR0 := Aside0.mk hr0
 have HC0 := Aside0.mk hc0
 have H2 := Aside0.mk h2; have H3 := Aside0.mk h3; have H4 := Aside0.mk h4; clear h2 h3 h4
 have hmx := Aside0.mk (Kd.C_max hr0)
 clear hr0 hc0
 go_enter Tryz.func114, Tryz.ntmps114
 go_wp2
 go_loopg [8] (l0.length + 1) (fun kq v8 w' => ∃ (i : Int), v8 = .int .i64 i ∧ Aside0 (0 ≤ i ∧ i + kq = l0.length + 1) ∧ Aside0 ((l0.take i.toNat).any (wrI lo hi ng) = false) ∧ Aside0 (Below w.heap.size w w'))
 case atStart => exact ⟨0, by rfl, ⟨by omega⟩, ⟨by simp⟩, ⟨Below.refl _ _⟩⟩
 case round =>
  obtain ⟨i, rfl, HA, HF, HB⟩ := hrel
  have hA := HA.out
  by_cases c4 : i.toNat < l0.length
  rotate_left
  ·have c4b0 : decide (i < (l0.length : Int)) = false := decide_eq_false (by omega)
   have hall : l0.any (wrI lo hi ng) = false := by have := HF.out; rwa [List.take_of_length_le (by omega)] at this
   clear c4 hA
   go_wp2
   go_ret
   exact ⟨-1, by rfl, by rw [hall]; rfl, HB.out⟩
  ·have c4b0 : decide (i < (l0.length : Int)) = true := decide_eq_true (by omega)
   have c5b1 : (0 ≤ i) = True := eq_true (by omega)
   have c4b1 : (i < (l0.length : Int)) = True := eq_true (by omega)
   obtain ⟨ad, e0, hx0⟩ := Kd.at_int HR0.out i (by omega) (by omega)
   cases e0
   replace hx0 := (HB.out.cell (World.block_lt_of_cell? w _ hx0)).trans hx0; have G2 := Aside0.mk ((HB.out.cell (World.block_lt_of_cell? w _ H2.out)).trans H2.out); have G3 := Aside0.mk ((HB.out.cell (World.block_lt_of_cell? w _ H3.out)).trans H3.out); have G4 := Aside0.mk ((HB.out.cell (World.block_lt_of_cell? w _ H4.out)).trans H4.out)
   have e1 : rd l0 i = l0[i.toNat] := by first | (unfold rd; rw [List.getD_eq_getElem?_getD, List.getElem?_eq_getElem c4]; rfl) | (unfold rd_L; rw [List.getD_eq_getElem?_getD, List.getElem?_eq_getElem c4]; rfl)
   have C4 := Aside0.mk c4
   by_cases c6 : wrI lo hi ng (rd l0 i) = true
   ·have hany : l0.any (wrI lo hi ng) = true := List.any_eq_true.2 ⟨l0[i.toNat], List.getElem_mem c4, by rw [← e1]; exact c6⟩
    have HY := Aside0.mk hany
    have C6 := Aside0.mk (show wrI lo hi ng (rd l0 i) = true from c6)
    clear c4 e1 hany c6 hA
    go_wp2_with (first | (go_at_call 81; (with_reducible refine (recur_right1.calls lo hi ng (rd l0 i) g _ G2.out G3.out G4.out).mono ?_); rintro e w2 ⟨rfl, hb2⟩; rw [C6.out]; have HB2 := Aside0.mk (below_then HB.out HB.out.size hb2); clear hb2))
    go_ret
    exact ⟨i, by rfl, by rw [HY.out]; exact decide_eq_true (by have := HA.out; omega), HB2.out⟩
   ·replace c6 := Bool.eq_false_iff.mpr c6
    have hstep : (l0.take (i + 1).toNat).any (wrI lo hi ng) = false := by
     rw [show (i + 1).toNat = i.toNat + 1 by omega, List.take_add_one, List.getElem?_eq_getElem c4, List.any_append, HF.out, Bool.false_or]
     simpa [← e1] using c6
    have HY := Aside0.mk hstep
    have C6 := Aside0.mk (show wrI lo hi ng (rd l0 i) = false from c6)
    clear c4 e1 hstep c6 hA
    go_wp2_with (first | (go_at_call 81; (with_reducible refine (recur_right1.calls lo hi ng (rd l0 i) g _ G2.out G3.out G4.out).mono ?_); rintro e w2 ⟨rfl, hb2⟩; rw [C6.out]; have HB2 := Aside0.mk (below_then HB.out HB.out.size hb2); clear hb2))
    go_roundg (gk - 1)
    case measure => have := HA.out; have := C4.out; omega
    case rel => exact ⟨i + 1, by rw [show wrap64 (i + 1) = i + 1 by have := HA.out; have := C4.out; have := hmx.out; unfold wrap64; omega], ⟨by have := HA.out; have := C4.out; omega⟩, HY, HB2⟩
set_option maxHeartbeats 8000000 in
set_option maxRecDepth 100000 in
theorem recur_ihas.calls (lo hi : Int) (ng : Bool) (g : Nat) (A0 : Option Addr) (c0 : Nat) (l0 : List Int) (w : World) (hr0 : Kd.C (Kd.int .i64) w A0 l0.length l0) (hc0 : l0.length ≤ c0) (h2 : w.cell? ⟨g, 2, none⟩ = some (.int .i64 lo)) (h3 : w.cell? ⟨g, 3, none⟩ = some (.int .i64 hi)) (h4 : w.cell? ⟨g, 4, none⟩ = some (.bool ng)) :
 Calls Tryz.prog 82 #[.slice A0 l0.length c0, .func (.func 81) #[] #[.pointer (some ⟨g, 0, none⟩)]] w fun e w' => e = .returned (.bool (l0.any (wrI lo hi ng))) ∧ Below w.heap.size w w' := by
 have HR0 := Aside0.mk hr0
 have HC0 := Aside0.mk hc0
 have H2 := Aside0.mk h2; have H3 := Aside0.mk h3; have H4 := Aside0.mk h4
 clear hr0 hc0 h2 h3 h4
 go_enter Tryz.func82, Tryz.ntmps82
 go_wp2_with (first | (go_at_call 114; (with_reducible refine (recur_iidx.calls lo hi ng g _ _ l0 _ HR0.out HC0.out H2.out H3.out H4.out).mono ?_); rintro e w2 ⟨r, rfl, hr, hb2⟩; have HR := Aside0.mk hr; have HB2 := Aside0.mk hb2; clear hb2 hr))
 go_ret
 exact ⟨by rw [← HR.out]; rfl, HB2.out⟩
def recur_right.f (k : Nat) (lo hi : Int) (ng : Bool) (l0 : List Int) : Option (Bool) := if l0.any (wrI lo hi ng) = true then (some false) else ((recur_twice_int.f k l0).bind fun t1 => (some (!t1)))
theorem recur_right.mono : ∀ a0 a1 a2 a3 k, LeO (recur_right.f k a0 a1 a2 a3) (recur_right.f (k + 1) a0 a1 a2 a3) := by
 intro a0 a1 a2 a3 k
 unfold recur_right.f
 exact LeO.ite (LeO.refl _) (LeO.bind (recur_twice_int.mono _ _) (fun _ => LeO.refl _))
set_option maxHeartbeats 8000000 in
set_option maxRecDepth 100000 in
theorem recur_right.calls (k : Nat) (nm : ByteArray) (p : Addr) (lo hi : Int) (ng : Bool) (A0 : Option Addr) (c0 : Nat) (l0 : List Int) (r : Bool) (w : World) (hp : w.cell? p = some (.slice A0 l0.length c0)) (hr0 : Kd.C (Kd.int .i64) w A0 l0.length l0) (hc0 : l0.length ≤ c0) (h : recur_right.f k lo hi ng l0 = some r) :
 Calls Tryz.prog 47 #[.agg #[.string nm, .pointer (some p), .int .i64 lo, .int .i64 hi, .bool ng]] w fun e w' => e = .returned (.bool r) ∧ Below w.heap.size w w' := by
 have HP := Aside0.mk hp
 have HR0 := Aside0.mk hr0
 have HC0 := Aside0.mk hc0
 have hu84 := Tryz.underlying84
 clear hp hr0 hc0
 unfold recur_right.f at h
 by_cases hc : l0.any (wrI lo hi ng) = true
 ·rw [if_pos hc] at h
  obtain rfl := Option.some.inj h
  have HC := Aside0.mk hc
  clear h hc
  go_enter Tryz.func47, Tryz.ntmps47
  go_wp2_with (first | ((with_reducible refine gate_dst (N := 1) rfl ?_); refine box_event ?hg (N := 1) ?hd (cs := #[Value.string nm, Value.pointer (some p), Value.int .i64 lo, Value.int .i64 hi, Value.bool ng]) (t := 84) ?hr ?_; (case hd => rfl); (case hg => rfl); (case hr => first | (go_simp; done) | (go_simp; rfl)); intro gb hg w3 hbox hb; have HB := Aside0.mk hb; have Z0 : w3.cell? ⟨gb, 0, none⟩ = some (Value.string nm) := (blk_cell hbox 0).trans rfl; have Z1 : w3.cell? ⟨gb, 1, none⟩ = some (Value.pointer (some p)) := (blk_cell hbox 1).trans rfl; have Z2 : w3.cell? ⟨gb, 2, none⟩ = some (Value.int .i64 lo) := (blk_cell hbox 2).trans rfl; have Z3 : w3.cell? ⟨gb, 3, none⟩ = some (Value.int .i64 hi) := (blk_cell hbox 3).trans rfl; have Z4 : w3.cell? ⟨gb, 4, none⟩ = some (Value.bool ng) := (blk_cell hbox 4).trans rfl; have ZP := (hb.cell (World.block_lt_of_cell? w _ HP.out)).trans HP.out; clear hb hbox hg) | (go_at_call 82; (with_reducible refine (recur_ihas.calls lo hi ng gb _ _ l0 _ (Kd.C_below HR0.out HB.out) HC0.out Z2 Z3 Z4).mono ?_); rintro e w2 ⟨rfl, hb2⟩; rw [HC.out]; have HB2 := Aside0.mk (below_then HB.out HB.out.size hb2); have X1 := (hb2.cell (World.block_lt_of_cell? _ _ Z1)).trans Z1; have XP := (hb2.cell (World.block_lt_of_cell? _ _ ZP)).trans ZP; clear hb2))
  go_ret
  exact ⟨by rfl, HB2.out⟩
 ·rw [if_neg hc] at h
  replace hc := Bool.eq_false_iff.mpr hc
  obtain ⟨t, ht, h⟩ := Option.bind_eq_some_iff.1 h
  obtain rfl := Option.some.inj h
  have HC := Aside0.mk hc
  have HT := Aside0.mk ht
  clear h hc ht
  go_enter Tryz.func47, Tryz.ntmps47
  go_wp2_with (first | ((with_reducible refine gate_dst (N := 1) rfl ?_); refine box_event ?hg (N := 1) ?hd (cs := #[Value.string nm, Value.pointer (some p), Value.int .i64 lo, Value.int .i64 hi, Value.bool ng]) (t := 84) ?hr ?_; (case hd => rfl); (case hg => rfl); (case hr => first | (go_simp; done) | (go_simp; rfl)); intro gb hg w3 hbox hb; have HB := Aside0.mk hb; have Z0 : w3.cell? ⟨gb, 0, none⟩ = some (Value.string nm) := (blk_cell hbox 0).trans rfl; have Z1 : w3.cell? ⟨gb, 1, none⟩ = some (Value.pointer (some p)) := (blk_cell hbox 1).trans rfl; have Z2 : w3.cell? ⟨gb, 2, none⟩ = some (Value.int .i64 lo) := (blk_cell hbox 2).trans rfl; have Z3 : w3.cell? ⟨gb, 3, none⟩ = some (Value.int .i64 hi) := (blk_cell hbox 3).trans rfl; have Z4 : w3.cell? ⟨gb, 4, none⟩ = some (Value.bool ng) := (blk_cell hbox 4).trans rfl; have ZP := (hb.cell (World.block_lt_of_cell? w _ HP.out)).trans HP.out; clear hb hbox hg) | (go_at_call 82; (with_reducible refine (recur_ihas.calls lo hi ng gb _ _ l0 _ (Kd.C_below HR0.out HB.out) HC0.out Z2 Z3 Z4).mono ?_); rintro e w2 ⟨rfl, hb2⟩; rw [HC.out]; have HB2 := Aside0.mk (below_then HB.out HB.out.size hb2); have X1 := (hb2.cell (World.block_lt_of_cell? _ _ Z1)).trans Z1; have XP := (hb2.cell (World.block_lt_of_cell? _ _ ZP)).trans ZP; clear hb2) | (go_at_call 83; (with_reducible refine (recur_twice_int.calls k _ _ l0 t _ (Kd.C_below HR0.out HB2.out) HC0.out HT.out).mono ?_); rintro e w5 ⟨rfl, hb5⟩; have HB5 := Aside0.mk (below_then HB2.out HB2.out.size hb5); clear hb5))
  go_ret
  exact ⟨by rfl, HB5.out⟩
set_option maxHeartbeats 8000000 in
set_option maxRecDepth 100000 in
theorem recur_chk1.calls (k : Nat) (nm : ByteArray) (p : Addr) (lo hi : Int) (ng : Bool) (A0 : Option Addr) (c0 : Nat) (l0 : List Int) (r : Bool) (w : World) (hp : w.cell? p = some (.slice A0 l0.length c0)) (hr0 : Kd.C (Kd.int .i64) w A0 l0.length l0) (hc0 : l0.length ≤ c0) (h : recur_right.f k lo hi ng l0 = some r) :
 Calls Tryz.prog 46 #[.agg #[.string nm, .pointer (some p), .int .i64 lo, .int .i64 hi, .bool ng]] w fun e w' => e = .returned (.bool (!r)) ∧ Below w.heap.size w w' := by
 have HP := Aside0.mk hp
 have HR0 := Aside0.mk hr0
 have HC0 := Aside0.mk hc0
 have HT := Aside0.mk h
 have hu84 := Tryz.underlying84
 clear hp hr0 hc0 h
 go_enter Tryz.func46, Tryz.ntmps46
 go_wp2_with (first | ((with_reducible refine gate_dst (N := 1) rfl ?_); refine box_event ?hg (N := 1) ?hd (cs := #[Value.string nm, Value.pointer (some p), Value.int .i64 lo, Value.int .i64 hi, Value.bool ng]) (t := 84) ?hr ?_; (case hd => rfl); (case hg => rfl); (case hr => first | (go_simp; done) | (go_simp; rfl)); intro gb hg w3 hbox hb; have HB := Aside0.mk hb; have Z0 : w3.cell? ⟨gb, 0, none⟩ = some (Value.string nm) := (blk_cell hbox 0).trans rfl; have Z1 : w3.cell? ⟨gb, 1, none⟩ = some (Value.pointer (some p)) := (blk_cell hbox 1).trans rfl; have Z2 : w3.cell? ⟨gb, 2, none⟩ = some (Value.int .i64 lo) := (blk_cell hbox 2).trans rfl; have Z3 : w3.cell? ⟨gb, 3, none⟩ = some (Value.int .i64 hi) := (blk_cell hbox 3).trans rfl; have Z4 : w3.cell? ⟨gb, 4, none⟩ = some (Value.bool ng) := (blk_cell hbox 4).trans rfl; have ZP := (hb.cell (World.block_lt_of_cell? w _ HP.out)).trans HP.out; clear hb hbox hg) | (go_at_call 47; (with_reducible refine (recur_right.calls k nm p lo hi ng _ _ l0 r _ ((HB.out.cell (World.block_lt_of_cell? w _ HP.out)).trans HP.out) (Kd.C_below HR0.out HB.out) HC0.out HT.out).mono ?_); rintro e w5 ⟨rfl, hb5⟩; have HB5 := Aside0.mk (below_then HB.out HB.out.size hb5); clear hb5))
 go_ret
 exact ⟨by rfl, HB5.out⟩
end Go.Proofs.YtjanombhdnoemaaGreatDoor.PRec
