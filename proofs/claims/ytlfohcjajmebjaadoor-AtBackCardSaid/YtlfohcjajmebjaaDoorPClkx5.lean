-- Printed by a program of this session's over the kit's printer; library functions by contracts off the shelf.
import Derived.Test.YtlfohcjajmebjaaDoorGP
import Derived.Test.YtlfohcjajmebjaaDoorPClkx0
import Derived.Test.YtlfohcjajmebjaaDoorPClkx1
import Derived.Test.YtlfohcjajmebjaaDoorPClkx3
import Derived.Test.YtlfohcjajmebjaaDoorPClkx4
namespace Go.Proofs.YtlfohcjajmebjaaDoor.PClk
open Go.RowKit Go.Proofs.YtlfohcjajmebjaaDoorW.PrintWords Go.Proofs.YtlfohcjajmebjaaDoorW.PrintLast Go.Proofs.YtlfohcjajmebjaaDoorW.PrintMore Go.Proofs.YtlfohcjajmebjaaDoor.Base
attribute [local go_sem] max2_int min2_int max_two min_two max_three min_three max_four min_four   -- for this text's walks alone
set_option linter.unusedVariables false
set_option linter.unusedSimpArgs false
attribute [local go_sem high] eqA57
set_option maxHeartbeats 4000000 in
set_option maxRecDepth 100000 in
theorem lit5_0_ {ev : Operand → Value} (hev : ∀ v, ev (.const v) = v) {d : Option Tmp} {ty : TypeId} {ps : String} {af : Array _} {gd : Option _} (W : World) : (execOp ev { dst := d, op := Op.buildSlice 29 11 #[(0, Operand.const (Value.string (⟨#[]⟩ : ByteArray))), (1, Operand.const (Value.string (⟨#[119]⟩ : ByteArray))), (2, Operand.const (Value.string (⟨#[87]⟩ : ByteArray))), (3, Operand.const (Value.string (⟨#[115]⟩ : ByteArray))), (4, Operand.const (Value.string (⟨#[83]⟩ : ByteArray))), (5, Operand.const (Value.string (⟨#[117]⟩ : ByteArray))), (6, Operand.const (Value.string (⟨#[85]⟩ : ByteArray))), (7, Operand.const (Value.string (⟨#[103]⟩ : ByteArray))), (8, Operand.const (Value.string (⟨#[71]⟩ : ByteArray))), (9, Operand.const (Value.string (⟨#[122]⟩ : ByteArray))), (10, Operand.const (Value.string (⟨#[90]⟩ : ByteArray)))], type := ty, pos := ps, after := af, guard := gd }).run Tryd.prog W = .ok (.value (.slice (some ⟨W.heap.size, 0, none⟩) 11 11)) (W.alloc (.cells #[.string (⟨#[]⟩ : ByteArray), .string (⟨#[119]⟩ : ByteArray), .string (⟨#[87]⟩ : ByteArray), .string (⟨#[115]⟩ : ByteArray), .string (⟨#[83]⟩ : ByteArray), .string (⟨#[117]⟩ : ByteArray), .string (⟨#[85]⟩ : ByteArray), .string (⟨#[103]⟩ : ByteArray), .string (⟨#[71]⟩ : ByteArray), .string (⟨#[122]⟩ : ByteArray), .string (⟨#[90]⟩ : ByteArray)] 9)) := by
  go_simp
  first | done | rfl
def solsticelaw08_AtBack.j0 : Nat → Int → Bool → Int → Int → Option (Bool)
 | 0, _, _, _, _ => none
 | k + 1, x2, x47, x145000, x145001 => if x47 = true then (some false) else ((atform_Text.f k x145000 1).bind fun bt151 => ((some (([(⟨#[]⟩ : ByteArray), (⟨#[119]⟩ : ByteArray), (⟨#[87]⟩ : ByteArray), (⟨#[115]⟩ : ByteArray), (⟨#[83]⟩ : ByteArray), (⟨#[117]⟩ : ByteArray), (⟨#[85]⟩ : ByteArray), (⟨#[103]⟩ : ByteArray), (⟨#[71]⟩ : ByteArray), (⟨#[122]⟩ : ByteArray), (⟨#[90]⟩ : ByteArray)] : List ByteArray) : List ByteArray)).bind fun y153 => (if 0 ≤ (wrap64 (Int.tmod (IntKind.u64.wrap (x2)) 11)) then (if (wrap64 (Int.tmod (IntKind.u64.wrap (x2)) 11)) < (y153.length : Int) then (if bt151.1.size + (rdOf ByteArray.empty y153 (wrap64 (Int.tmod (IntKind.u64.wrap (x2)) 11))).size ≤ 9223372036854775807 then ((atform_Parse.f k (bt151.1 ++ (rdOf ByteArray.empty y153 (wrap64 (Int.tmod (IntKind.u64.wrap (x2)) 11))))).bind fun bt157 => (if (wrap64 (Int.tmod (IntKind.u64.wrap (x2)) 11)) > 2 then (if (wrap64 (Int.tmod (IntKind.u64.wrap (x2)) 11)) > 4 then (if bt151.2 = 0 then (if bt157.2.2 = 0 then (if bt157.1 = x145000 then (if bt157.2.1 = 3 then ((solsticelaw08_wakes.f k).bind fun t161 => (some t161)) else (some false)) else (some false)) else (some false)) else (some false)) else (if bt151.2 = 0 then (if bt157.2.2 = 0 then (if bt157.1 = x145000 then (if bt157.2.1 = 2 then ((solsticelaw08_wakes.f k).bind fun t162 => (some t162)) else (some false)) else (some false)) else (some false)) else (some false))) else (if (wrap64 (Int.tmod (IntKind.u64.wrap (x2)) 11)) > 4 then (if bt151.2 = 0 then (if bt157.2.2 = 0 then (if bt157.1 = x145000 then (if bt157.2.1 = 3 then ((solsticelaw08_wakes.f k).bind fun t163 => (some t163)) else (some false)) else (some false)) else (some false)) else (some false)) else (if bt151.2 = 0 then (if bt157.2.2 = 0 then (if bt157.1 = x145000 then (if bt157.2.1 = 1 then ((solsticelaw08_wakes.f k).bind fun t164 => (some t164)) else (some false)) else (some false)) else (some false)) else (some false))))) else (none)) else (none)) else (none))))
def solsticelaw08_AtBack.f (k : Nat) (a0 : Int) (a1 : Int) (a2 : Int) : Option (Bool) := (atform_Text.f k (Int.tmod a0 345601) (wrap64 (1 + (wrap64 (Int.tmod (IntKind.u64.wrap (a1)) 3))))).bind fun bt145 => ((atform_Parse.f k bt145.1).bind fun bt147 => (if bt145.2 = 0 then (if bt147.2.2 = 0 then (solsticelaw08_AtBack.j0 k a2 (!(bt147.1 == (Int.tmod a0 345601)) || (!(bt147.2.1 == (wrap64 (1 + (wrap64 (Int.tmod (IntKind.u64.wrap (a1)) 3))))))) (Int.tmod a0 345601) (wrap64 (1 + (wrap64 (Int.tmod (IntKind.u64.wrap (a1)) 3))))) else (solsticelaw08_AtBack.j0 k a2 true (Int.tmod a0 345601) (wrap64 (1 + (wrap64 (Int.tmod (IntKind.u64.wrap (a1)) 3)))))) else (solsticelaw08_AtBack.j0 k a2 true (Int.tmod a0 345601) (wrap64 (1 + (wrap64 (Int.tmod (IntKind.u64.wrap (a1)) 3)))))))
theorem solsticelaw08_AtBack.mono_l : ∀ k, (∀ y0 y1 y2 y3, LeO (solsticelaw08_AtBack.j0 k y0 y1 y2 y3) (solsticelaw08_AtBack.j0 (k + 1) y0 y1 y2 y3))
 | 0 => fun _ _ _ _ r h => by simp [solsticelaw08_AtBack.j0] at h
 | k + 1 => by
  have ih0 := solsticelaw08_AtBack.mono_l k
  ·intro y0 y1 y2 y3
   unfold solsticelaw08_AtBack.j0
   repeat' first
   | (with_reducible exact ih0 _ _ _ _)
   | (with_reducible exact atform_Parse.mono _ _)
   | (with_reducible exact atform_Text.mono _ _ _)
   | (with_reducible exact solsticelaw08_wakes.mono _)
   | (with_reducible exact LeO.refl _)
   | (with_reducible exact LeO.none _)
   | (with_reducible refine LeO.ite ?_ ?_)
   | (with_reducible refine LeO.bind ?_ (fun _ => ?_))
   | exact ih0 _ _ _ _
   | exact atform_Parse.mono _ _
   | exact atform_Text.mono _ _ _
   | exact solsticelaw08_wakes.mono _
   | exact LeO.none _
   | refine LeO.ite ?_ ?_
   | refine LeO.bind ?_ (fun _ => ?_)
theorem solsticelaw08_AtBack.mono : ∀ a0 a1 a2 k, LeO (solsticelaw08_AtBack.f k a0 a1 a2) (solsticelaw08_AtBack.f (k + 1) a0 a1 a2) := by
 intro a0 a1 a2 k
 have ih0 := solsticelaw08_AtBack.mono_l k
 unfold solsticelaw08_AtBack.f
 repeat' first
   | (with_reducible exact ih0 _ _ _ _)
   | (with_reducible exact atform_Parse.mono _ _)
   | (with_reducible exact atform_Text.mono _ _ _)
   | (with_reducible exact solsticelaw08_wakes.mono _)
   | (with_reducible exact LeO.refl _)
   | (with_reducible exact LeO.none _)
   | (with_reducible refine LeO.ite ?_ ?_)
   | (with_reducible refine LeO.bind ?_ (fun _ => ?_))
   | exact ih0 _ _ _ _
   | exact atform_Parse.mono _ _
   | exact atform_Text.mono _ _ _
   | exact solsticelaw08_wakes.mono _
   | exact LeO.none _
   | refine LeO.ite ?_ ?_
   | refine LeO.bind ?_ (fun _ => ?_)
set_option maxHeartbeats 8000000 in
set_option maxRecDepth 100000 in
theorem solsticelaw08_AtBack.calls (k : Nat) (a0 : Int) (a1 : Int) (a2 : Int) (r : Bool) (htrue : r = true) (w : World) (hG : GP w) (h : solsticelaw08_AtBack.f k a0 a1 a2 = some r) :
  Calls Tryd.prog 13 #[.int .i64 a0, .int .i64 a1, .int .i64 a2] w fun e w' => e = .returned (.bool r) ∧ Below w.heap.size w w' := by
 have HG := Aside0.mk hG
 clear hG
 have hu57 := Tryd.underlying57
 have HB := Aside0.mk (Below.refl w.heap.size w)
 have H : ((atform_Text.f k (Int.tmod a0 345601) (wrap64 (1 + (wrap64 (Int.tmod (IntKind.u64.wrap (a1)) 3))))).bind fun bt145 => ((atform_Parse.f k bt145.1).bind fun bt147 => (if bt145.2 = 0 then (if bt147.2.2 = 0 then (solsticelaw08_AtBack.j0 k a2 (!(bt147.1 == (Int.tmod a0 345601)) || (!(bt147.2.1 == (wrap64 (1 + (wrap64 (Int.tmod (IntKind.u64.wrap (a1)) 3))))))) (Int.tmod a0 345601) (wrap64 (1 + (wrap64 (Int.tmod (IntKind.u64.wrap (a1)) 3))))) else (solsticelaw08_AtBack.j0 k a2 true (Int.tmod a0 345601) (wrap64 (1 + (wrap64 (Int.tmod (IntKind.u64.wrap (a1)) 3)))))) else (solsticelaw08_AtBack.j0 k a2 true (Int.tmod a0 345601) (wrap64 (1 + (wrap64 (Int.tmod (IntKind.u64.wrap (a1)) 3)))))))) = some r := h
 clear h
 replace H := Option.bind_eq_some_iff.mp H
 obtain ⟨⟨t145, t146⟩, A40, H⟩ := H
 replace H : ((atform_Parse.f k t145).bind fun bt147 => (if t146 = 0 then (if bt147.2.2 = 0 then (solsticelaw08_AtBack.j0 k a2 (!(bt147.1 == (Int.tmod a0 345601)) || (!(bt147.2.1 == (wrap64 (1 + (wrap64 (Int.tmod (IntKind.u64.wrap (a1)) 3))))))) (Int.tmod a0 345601) (wrap64 (1 + (wrap64 (Int.tmod (IntKind.u64.wrap (a1)) 3))))) else (solsticelaw08_AtBack.j0 k a2 true (Int.tmod a0 345601) (wrap64 (1 + (wrap64 (Int.tmod (IntKind.u64.wrap (a1)) 3)))))) else (solsticelaw08_AtBack.j0 k a2 true (Int.tmod a0 345601) (wrap64 (1 + (wrap64 (Int.tmod (IntKind.u64.wrap (a1)) 3))))))) = some r := H
 have A4 := Aside0.mk A40
 clear A40
 replace H := Option.bind_eq_some_iff.mp H
 obtain ⟨⟨t147, t148, t149⟩, A50, H⟩ := H
 replace H : (if t146 = 0 then (if t149 = 0 then (solsticelaw08_AtBack.j0 k a2 (!(t147 == (Int.tmod a0 345601)) || (!(t148 == (wrap64 (1 + (wrap64 (Int.tmod (IntKind.u64.wrap (a1)) 3))))))) (Int.tmod a0 345601) (wrap64 (1 + (wrap64 (Int.tmod (IntKind.u64.wrap (a1)) 3))))) else (solsticelaw08_AtBack.j0 k a2 true (Int.tmod a0 345601) (wrap64 (1 + (wrap64 (Int.tmod (IntKind.u64.wrap (a1)) 3)))))) else (solsticelaw08_AtBack.j0 k a2 true (Int.tmod a0 345601) (wrap64 (1 + (wrap64 (Int.tmod (IntKind.u64.wrap (a1)) 3)))))) = some r := H
 have A5 := Aside0.mk A50
 clear A50
 have HC6 := Aside0.mk H
 clear H
 go_enter Tryd.func13, Tryd.ntmps13
 go_upto_region 4 with (first | ((with_reducible refine gate_dst (N := 7) rfl ?_); refine box_event ?hg (N := 7) ?hd (cs := #[.int .i64 0, .int .i64 0]) (t := 57) ?hr ?_; (case hd => rfl); (case hg => rfl); (case hr => first | (go_simp; done) | (go_simp; rfl)); intro gb144 hg w7 hbox hb; have n0_ := Aside0.mk (below_step (by repeat (first | (with_reducible first | exact HB.out | apply below_alloc | apply pw_below_drewN | apply below_drew1) | exact HB.out)) hb); have n1_ := Aside0.mk (hbox); have n2_ := Aside0.mk ((by rw [hg]; exact (below_size (by repeat (first | (with_reducible first | exact HB.out | apply below_alloc | apply pw_below_drewN | apply below_drew1) | exact HB.out))) : w.heap.size ≤ gb144)); have n3_ := Aside0.mk ((by rw [hg]; exact (below_size (by repeat (first | (with_reducible first | exact HB.out | apply below_alloc | apply pw_below_drewN | apply below_drew1) | exact HB.out))) : w.heap.size ≤ gb144)); clear HB; have HB := n0_; have BK144 := n1_; have GW144 := n2_; have GE144 := n3_; clear n0_ n1_ n2_ n3_; clear hb hbox hg; have hcz8_0 : w7.cell? ⟨gb144, 0, none⟩ = some (.int .i64 0) := (blk_cell BK144.out 0).trans rfl; have hcz8_1 : w7.cell? ⟨gb144, 1, none⟩ = some (.int .i64 0) := (blk_cell BK144.out 1).trans rfl; have hfz8_0 := blk_frozen BK144.out 0; have hfz8_1 := blk_frozen BK144.out 1) | ((with_reducible refine gate_callee (f := 42) rfl ?_); refine goesL_ (some 29) rfl rfl Tryd.func42 (by kernel_rfl) rfl #[.agg #[.int .i64 (Int.tmod a0 345601), .int .i64 (wrap64 (1 + (wrap64 (Int.tmod (IntKind.u64.wrap (a1)) 3))))]] rfl (by (try simp only [List.map_toArray, List.map_cons, List.map_nil]); first | done | rfl | (simp only [List.length_drop, List.length_take]; rfl)) ?_; (with_reducible refine (atform_Text.calls k (Int.tmod a0 345601) (wrap64 (1 + (wrap64 (Int.tmod (IntKind.u64.wrap (a1)) 3)))) t145 t146 _ ?sideG A4.out).mono ?_); (case sideG => first | exact GP_below HG.out (by repeat (first | (with_reducible first | exact HB.out | apply below_alloc | apply pw_below_drewN | apply below_drew1 | refine below_set ?_ GE144.out | refine below_set ?_ GE150.out | refine below_set ?_ GE160.out) | exact HB.out)) | repeat (first | exact HG.out | refine GP_alloc ?_ _ | refine GP_drewN ?_ _ | refine GP_drew ?_)); rintro e w9 ⟨rfl, hb⟩; refine ⟨_, rfl, ?_⟩; have n0_ := Aside0.mk (blk_below (g := gb144) (o := .cells #[.int .i64 (Int.tmod a0 345601), .int .i64 (wrap64 (1 + (wrap64 (Int.tmod (IntKind.u64.wrap (a1)) 3))))] 57 (0, 0)) (by (with_reducible repeat (first | refine blk_drewN ?_ _ | refine blk_drew ?_ | refine blk_alloc ?_ _)); refine blk_put (cs := #[.int .i64 (Int.tmod a0 345601), .int .i64 0]) ?_ 1 _ rfl; (with_reducible repeat (first | refine blk_drewN ?_ _ | refine blk_drew ?_ | refine blk_alloc ?_ _)); refine blk_put (cs := #[.int .i64 0, .int .i64 0]) ?_ 0 _ rfl; (with_reducible repeat (first | refine blk_drewN ?_ _ | refine blk_drew ?_ | refine blk_alloc ?_ _)); exact BK144.out) hb); have n1_ := Aside0.mk (below_step (by repeat (first | (with_reducible first | exact HB.out | apply below_alloc | apply pw_below_drewN | apply below_drew1 | refine below_set ?_ GE144.out) | exact HB.out)) hb); clear BK144; clear HB; have BK144 := n0_; have HB := n1_; clear n0_ n1_; (try clear hb); (try clear hb2); (try clear hk); (try clear hi)) | ((with_reducible refine gate_callee (f := 41) rfl ?_); refine goesL_ (some 34) rfl rfl Tryd.func41 (by kernel_rfl) rfl #[.string t145] rfl (by (try simp only [List.map_toArray, List.map_cons, List.map_nil]); first | done | rfl | (simp only [List.length_drop, List.length_take]; rfl)) ?_; (with_reducible refine (atform_Parse.calls k t145 t147 t148 t149 _ ?sideG A5.out).mono ?_); (case sideG => first | exact GP_below HG.out (by repeat (first | (with_reducible first | exact HB.out | apply below_alloc | apply pw_below_drewN | apply below_drew1 | refine below_set ?_ GE144.out | refine below_set ?_ GE150.out | refine below_set ?_ GE160.out) | exact HB.out)) | repeat (first | exact HG.out | refine GP_alloc ?_ _ | refine GP_drewN ?_ _ | refine GP_drew ?_)); rintro e w10 ⟨rfl, hb⟩; refine ⟨_, rfl, ?_⟩; have n0_ := Aside0.mk (blk_below (g := gb144) (o := .cells #[.int .i64 (Int.tmod a0 345601), .int .i64 (wrap64 (1 + (wrap64 (Int.tmod (IntKind.u64.wrap (a1)) 3))))] 57 (0, 0)) (by (with_reducible repeat (first | refine blk_drewN ?_ _ | refine blk_drew ?_ | refine blk_alloc ?_ _)); exact BK144.out) hb); have n1_ := Aside0.mk (below_step (by repeat (first | (with_reducible first | exact HB.out | apply below_alloc | apply pw_below_drewN | apply below_drew1 | refine below_set ?_ GE144.out) | exact HB.out)) hb); clear BK144; clear HB; have BK144 := n0_; have HB := n1_; clear n0_ n1_; (try clear hb); (try clear hb2); (try clear hk); (try clear hi)) | ((with_reducible refine gate_dst (N := 10) rfl ?_); refine box_event ?hg (N := 10) ?hd (cs := #[.int .i64 0, .int .i64 0]) (t := 57) ?hr ?_; (case hd => rfl); (case hg => rfl); (case hr => first | (go_simp; done) | (go_simp; rfl)); intro gb150 hg w11 hbox hb; have n0_ := Aside0.mk (blk_below (g := gb144) (o := .cells #[.int .i64 (Int.tmod a0 345601), .int .i64 (wrap64 (1 + (wrap64 (Int.tmod (IntKind.u64.wrap (a1)) 3))))] 57 (0, 0)) (by (with_reducible repeat (first | refine blk_drewN ?_ _ | refine blk_drew ?_ | refine blk_alloc ?_ _)); exact BK144.out) hb); have n1_ := Aside0.mk (below_step (by repeat (first | (with_reducible first | exact HB.out | apply below_alloc | apply pw_below_drewN | apply below_drew1 | refine below_set ?_ GE144.out) | exact HB.out)) hb); have n2_ := Aside0.mk (hbox); have n3_ := Aside0.mk ((by rw [hg]; exact (below_size (by repeat (first | (with_reducible first | exact HB.out | apply below_alloc | apply pw_below_drewN | apply below_drew1 | refine below_set ?_ GE144.out) | exact HB.out))) : w.heap.size ≤ gb150)); have n4_ := Aside0.mk ((by rw [hg]; exact (below_size (by repeat (first | (with_reducible first | exact HB.out | apply below_alloc | apply pw_below_drewN | apply below_drew1 | refine below_set ?_ GE144.out) | exact HB.out))) : w.heap.size ≤ gb150)); have n5_ := Aside0.mk ((by rw [hg]; exact Nat.ne_of_lt (blk_lt (g := gb144) (o := .cells #[.int .i64 (Int.tmod a0 345601), .int .i64 (wrap64 (1 + (wrap64 (Int.tmod (IntKind.u64.wrap (a1)) 3))))] 57 (0, 0)) (by (with_reducible repeat (first | refine blk_drewN ?_ _ | refine blk_drew ?_ | refine blk_alloc ?_ _)); exact BK144.out)) : gb144 ≠ gb150)); have n6_ := Aside0.mk ((by rw [hg]; exact Nat.ne_of_gt (blk_lt (g := gb144) (o := .cells #[.int .i64 (Int.tmod a0 345601), .int .i64 (wrap64 (1 + (wrap64 (Int.tmod (IntKind.u64.wrap (a1)) 3))))] 57 (0, 0)) (by (with_reducible repeat (first | refine blk_drewN ?_ _ | refine blk_drew ?_ | refine blk_alloc ?_ _)); exact BK144.out)) : gb150 ≠ gb144)); clear BK144; clear HB; have BK144 := n0_; have HB := n1_; have BK150 := n2_; have GW150 := n3_; have GE150 := n4_; have NB144_150 := n5_; have NB150_144 := n6_; clear n0_ n1_ n2_ n3_ n4_ n5_ n6_; clear hb hbox hg; have hnb12 := NB150_144.out; have hnc12 := NB144_150.out; have hcz13_0 : w11.cell? ⟨gb150, 0, none⟩ = some (.int .i64 0) := (blk_cell BK150.out 0).trans rfl; have hcz13_1 : w11.cell? ⟨gb150, 1, none⟩ = some (.int .i64 0) := (blk_cell BK150.out 1).trans rfl; have hfz13_0 := blk_frozen BK150.out 0; have hfz13_1 := blk_frozen BK150.out 1))
 (try simp only [Act.put, List.setIfInBounds_toArray, List.set_cons_zero, List.set_cons_succ])
 go_cut [47] (fun v47 wc => ∃ (kq : Nat) (x47_5 : Bool), v47 = .bool x47_5 ∧ Aside0 (solsticelaw08_AtBack.j0 kq a2 x47_5 (Int.tmod a0 345601) (wrap64 (1 + (wrap64 (Int.tmod (IntKind.u64.wrap (a1)) 3)))) = some r) ∧ Aside0 (kq ≤ k) ∧ Aside0 (wc.heap[gb144]? = some (.cells #[.int .i64 (Int.tmod a0 345601), .int .i64 (wrap64 (1 + (wrap64 (Int.tmod (IntKind.u64.wrap (a1)) 3))))] 57 (0, 0))) ∧ Aside0 (wc.heap[gb150]? = some (.cells #[.int .i64 t147, .int .i64 t148] 57 (0, 0))) ∧ Aside0 (Below w.heap.size w wc))
 case first =>
  have H := HC6.out
  clear HC6
  by_cases c14 : t146 = 0
  ·rw [if_pos c14] at H
   have c14b0 : (t146 == 0) = true := beq_iff_eq.mpr c14
   have c14b1 : (t146 != 0) = false := bne_eq_false_iff_eq.mpr c14
   clear c14
   (first | rw [c14b0] | (simp only [i64_w, i32_w]; rw [c14b0]) | skip)
   by_cases c15 : t149 = 0
   ·rw [if_pos c15] at H
    have c15b0 : (t149 == 0) = true := beq_iff_eq.mpr c15
    have c15b1 : (t149 != 0) = false := bne_eq_false_iff_eq.mpr c15
    clear c15
    have H' := Aside0.mk H
    clear H
    have hnb16 := NB150_144.out
    have hnc16 := NB144_150.out
    have hcz17_0 : w11.cell? ⟨gb150, 0, none⟩ = some (.int .i64 0) := (blk_cell BK150.out 0).trans rfl
    have hcz17_1 : w11.cell? ⟨gb150, 1, none⟩ = some (.int .i64 0) := (blk_cell BK150.out 1).trans rfl
    have hfz17_0 := blk_frozen BK150.out 0
    have hfz17_1 := blk_frozen BK150.out 1
    have hcz18_0 : w11.cell? ⟨gb144, 0, none⟩ = some (.int .i64 (Int.tmod a0 345601)) := (blk_cell BK144.out 0).trans rfl
    have hcz18_1 : w11.cell? ⟨gb144, 1, none⟩ = some (.int .i64 (wrap64 (1 + (wrap64 (Int.tmod (IntKind.u64.wrap (a1)) 3))))) := (blk_cell BK144.out 1).trans rfl
    have hfz18_0 := blk_frozen BK144.out 0
    have hfz18_1 := blk_frozen BK144.out 1
    go_wp2
    go_meet
    case rel => exact ⟨_, ((!(t147 == (Int.tmod a0 345601)) || (!(t148 == (wrap64 (1 + (wrap64 (Int.tmod (IntKind.u64.wrap (a1)) 3)))))))), (by first | rfl | (simp; done) | (simp [*]; done)), H', ⟨by first | omega | exact Nat.le_refl _⟩, ⟨by (with_reducible repeat (first | refine blk_drewN ?_ _ | refine blk_drew ?_ | refine blk_alloc ?_ _)); refine blk_far ?_ NB144_150.out _; (with_reducible repeat (first | refine blk_drewN ?_ _ | refine blk_drew ?_ | refine blk_alloc ?_ _)); refine blk_far ?_ NB144_150.out _; (with_reducible repeat (first | refine blk_drewN ?_ _ | refine blk_drew ?_ | refine blk_alloc ?_ _)); exact BK144.out⟩, ⟨by (with_reducible repeat (first | refine blk_drewN ?_ _ | refine blk_drew ?_ | refine blk_alloc ?_ _)); refine blk_put (cs := #[.int .i64 t147, .int .i64 0]) ?_ 1 _ rfl; (with_reducible repeat (first | refine blk_drewN ?_ _ | refine blk_drew ?_ | refine blk_alloc ?_ _)); refine blk_put (cs := #[.int .i64 0, .int .i64 0]) ?_ 0 _ rfl; (with_reducible repeat (first | refine blk_drewN ?_ _ | refine blk_drew ?_ | refine blk_alloc ?_ _)); exact BK150.out⟩, ⟨by repeat (first | (with_reducible first | exact HB.out | apply below_alloc | apply pw_below_drewN | apply below_drew1 | refine below_set ?_ GE144.out | refine below_set ?_ GE150.out) | exact HB.out)⟩⟩
   ·rw [if_neg c15] at H
    have c15b0 : (t149 == 0) = false := beq_eq_false_iff_ne.mpr c15
    have c15b1 : (t149 != 0) = true := bne_iff_ne.mpr c15
    have H' := Aside0.mk H
    clear H
    go_wp2
    go_meet
    case rel => exact ⟨_, (true), (by first | rfl | (simp; done) | (simp [*]; done)), H', ⟨by first | omega | exact Nat.le_refl _⟩, ⟨by (with_reducible repeat (first | refine blk_drewN ?_ _ | refine blk_drew ?_ | refine blk_alloc ?_ _)); refine blk_far ?_ NB144_150.out _; (with_reducible repeat (first | refine blk_drewN ?_ _ | refine blk_drew ?_ | refine blk_alloc ?_ _)); refine blk_far ?_ NB144_150.out _; (with_reducible repeat (first | refine blk_drewN ?_ _ | refine blk_drew ?_ | refine blk_alloc ?_ _)); exact BK144.out⟩, ⟨by (with_reducible repeat (first | refine blk_drewN ?_ _ | refine blk_drew ?_ | refine blk_alloc ?_ _)); refine blk_put (cs := #[.int .i64 t147, .int .i64 0]) ?_ 1 _ rfl; (with_reducible repeat (first | refine blk_drewN ?_ _ | refine blk_drew ?_ | refine blk_alloc ?_ _)); refine blk_put (cs := #[.int .i64 0, .int .i64 0]) ?_ 0 _ rfl; (with_reducible repeat (first | refine blk_drewN ?_ _ | refine blk_drew ?_ | refine blk_alloc ?_ _)); exact BK150.out⟩, ⟨by repeat (first | (with_reducible first | exact HB.out | apply below_alloc | apply pw_below_drewN | apply below_drew1 | refine below_set ?_ GE144.out | refine below_set ?_ GE150.out) | exact HB.out)⟩⟩
  ·rw [if_neg c14] at H
   have c14b0 : (t146 == 0) = false := beq_eq_false_iff_ne.mpr c14
   have c14b1 : (t146 != 0) = true := bne_iff_ne.mpr c14
   (first | rw [c14b0] | (simp only [i64_w, i32_w]; rw [c14b0]) | skip)
   have H' := Aside0.mk H
   clear H
   go_wp2
   go_meet
   case rel => exact ⟨_, (true), (by first | rfl | (simp; done) | (simp [*]; done)), H', ⟨by first | omega | exact Nat.le_refl _⟩, ⟨by (with_reducible repeat (first | refine blk_drewN ?_ _ | refine blk_drew ?_ | refine blk_alloc ?_ _)); refine blk_far ?_ NB144_150.out _; (with_reducible repeat (first | refine blk_drewN ?_ _ | refine blk_drew ?_ | refine blk_alloc ?_ _)); refine blk_far ?_ NB144_150.out _; (with_reducible repeat (first | refine blk_drewN ?_ _ | refine blk_drew ?_ | refine blk_alloc ?_ _)); exact BK144.out⟩, ⟨by (with_reducible repeat (first | refine blk_drewN ?_ _ | refine blk_drew ?_ | refine blk_alloc ?_ _)); refine blk_put (cs := #[.int .i64 t147, .int .i64 0]) ?_ 1 _ rfl; (with_reducible repeat (first | refine blk_drewN ?_ _ | refine blk_drew ?_ | refine blk_alloc ?_ _)); refine blk_put (cs := #[.int .i64 0, .int .i64 0]) ?_ 0 _ rfl; (with_reducible repeat (first | refine blk_drewN ?_ _ | refine blk_drew ?_ | refine blk_alloc ?_ _)); exact BK150.out⟩, ⟨by repeat (first | (with_reducible first | exact HB.out | apply below_alloc | apply pw_below_drewN | apply below_drew1 | refine below_set ?_ GE144.out | refine below_set ?_ GE150.out) | exact HB.out)⟩⟩
 case rest =>
  as_aux_lemma =>
   clear HC6
   try clear c1
   try clear p2
   try clear c4
   try clear p6
   try clear c12
   try clear c13
   try clear c14
   try clear c14b0
   try clear c14b1
   try clear c15
   try clear c15b0
   try clear c15b1
   try clear c16
   try clear hcz13_0
   try clear hcz13_1
   try clear hcz17_0
   try clear hcz17_1
   try clear hcz18_0
   try clear hcz18_1
   try clear hcz8_0
   try clear hcz8_1
   try clear hfz13_0
   try clear hfz13_1
   try clear hfz17_0
   try clear hfz17_1
   try clear hfz18_0
   try clear hfz18_1
   try clear hfz8_0
   try clear hfz8_1
   obtain ⟨kq, x47_5, rfl, HA, HJ5, BK144, BK150, HB⟩ := hcut
   cases kq with
   | zero => exact absurd HA.out (by simp [solsticelaw08_AtBack.j0])
   | succ kj5 =>
    have H := HA.out
    clear HA
    simp only [solsticelaw08_AtBack.j0] at H
    by_cases c19 : x47_5 = true
    ·subst c19
     have H1 : (some false) = some r := by rw [if_pos rfl] at H; exact H
     clear H
     have H := H1
     clear H1
     obtain rfl := Option.some.inj H
     cases htrue
    ·replace c19 := Bool.eq_false_iff.mpr c19
     subst c19
     have H1 : ((atform_Text.f kj5 (Int.tmod a0 345601) 1).bind fun bt151 => ((some (([(⟨#[]⟩ : ByteArray), (⟨#[119]⟩ : ByteArray), (⟨#[87]⟩ : ByteArray), (⟨#[115]⟩ : ByteArray), (⟨#[83]⟩ : ByteArray), (⟨#[117]⟩ : ByteArray), (⟨#[85]⟩ : ByteArray), (⟨#[103]⟩ : ByteArray), (⟨#[71]⟩ : ByteArray), (⟨#[122]⟩ : ByteArray), (⟨#[90]⟩ : ByteArray)] : List ByteArray) : List ByteArray)).bind fun y153 => (if 0 ≤ (wrap64 (Int.tmod (IntKind.u64.wrap (a2)) 11)) then (if (wrap64 (Int.tmod (IntKind.u64.wrap (a2)) 11)) < (y153.length : Int) then (if bt151.1.size + (rdOf ByteArray.empty y153 (wrap64 (Int.tmod (IntKind.u64.wrap (a2)) 11))).size ≤ 9223372036854775807 then ((atform_Parse.f kj5 (bt151.1 ++ (rdOf ByteArray.empty y153 (wrap64 (Int.tmod (IntKind.u64.wrap (a2)) 11))))).bind fun bt157 => (if (wrap64 (Int.tmod (IntKind.u64.wrap (a2)) 11)) > 2 then (if (wrap64 (Int.tmod (IntKind.u64.wrap (a2)) 11)) > 4 then (if bt151.2 = 0 then (if bt157.2.2 = 0 then (if bt157.1 = (Int.tmod a0 345601) then (if bt157.2.1 = 3 then ((solsticelaw08_wakes.f kj5).bind fun t161 => (some t161)) else (some false)) else (some false)) else (some false)) else (some false)) else (if bt151.2 = 0 then (if bt157.2.2 = 0 then (if bt157.1 = (Int.tmod a0 345601) then (if bt157.2.1 = 2 then ((solsticelaw08_wakes.f kj5).bind fun t162 => (some t162)) else (some false)) else (some false)) else (some false)) else (some false))) else (if (wrap64 (Int.tmod (IntKind.u64.wrap (a2)) 11)) > 4 then (if bt151.2 = 0 then (if bt157.2.2 = 0 then (if bt157.1 = (Int.tmod a0 345601) then (if bt157.2.1 = 3 then ((solsticelaw08_wakes.f kj5).bind fun t163 => (some t163)) else (some false)) else (some false)) else (some false)) else (some false)) else (if bt151.2 = 0 then (if bt157.2.2 = 0 then (if bt157.1 = (Int.tmod a0 345601) then (if bt157.2.1 = 1 then ((solsticelaw08_wakes.f kj5).bind fun t164 => (some t164)) else (some false)) else (some false)) else (some false)) else (some false))))) else (none)) else (none)) else (none)))) = some r := by rw [if_neg (show ¬ (false = true) by decide)] at H; exact H
     clear H
     have H := H1
     clear H1
     replace H := Option.bind_eq_some_iff.mp H
     obtain ⟨⟨t151, t152⟩, A200, H⟩ := H
     replace H : ((some (([(⟨#[]⟩ : ByteArray), (⟨#[119]⟩ : ByteArray), (⟨#[87]⟩ : ByteArray), (⟨#[115]⟩ : ByteArray), (⟨#[83]⟩ : ByteArray), (⟨#[117]⟩ : ByteArray), (⟨#[85]⟩ : ByteArray), (⟨#[103]⟩ : ByteArray), (⟨#[71]⟩ : ByteArray), (⟨#[122]⟩ : ByteArray), (⟨#[90]⟩ : ByteArray)] : List ByteArray) : List ByteArray)).bind fun y153 => (if 0 ≤ (wrap64 (Int.tmod (IntKind.u64.wrap (a2)) 11)) then (if (wrap64 (Int.tmod (IntKind.u64.wrap (a2)) 11)) < (y153.length : Int) then (if t151.size + (rdOf ByteArray.empty y153 (wrap64 (Int.tmod (IntKind.u64.wrap (a2)) 11))).size ≤ 9223372036854775807 then ((atform_Parse.f kj5 (t151 ++ (rdOf ByteArray.empty y153 (wrap64 (Int.tmod (IntKind.u64.wrap (a2)) 11))))).bind fun bt157 => (if (wrap64 (Int.tmod (IntKind.u64.wrap (a2)) 11)) > 2 then (if (wrap64 (Int.tmod (IntKind.u64.wrap (a2)) 11)) > 4 then (if t152 = 0 then (if bt157.2.2 = 0 then (if bt157.1 = (Int.tmod a0 345601) then (if bt157.2.1 = 3 then ((solsticelaw08_wakes.f kj5).bind fun t161 => (some t161)) else (some false)) else (some false)) else (some false)) else (some false)) else (if t152 = 0 then (if bt157.2.2 = 0 then (if bt157.1 = (Int.tmod a0 345601) then (if bt157.2.1 = 2 then ((solsticelaw08_wakes.f kj5).bind fun t162 => (some t162)) else (some false)) else (some false)) else (some false)) else (some false))) else (if (wrap64 (Int.tmod (IntKind.u64.wrap (a2)) 11)) > 4 then (if t152 = 0 then (if bt157.2.2 = 0 then (if bt157.1 = (Int.tmod a0 345601) then (if bt157.2.1 = 3 then ((solsticelaw08_wakes.f kj5).bind fun t163 => (some t163)) else (some false)) else (some false)) else (some false)) else (some false)) else (if t152 = 0 then (if bt157.2.2 = 0 then (if bt157.1 = (Int.tmod a0 345601) then (if bt157.2.1 = 1 then ((solsticelaw08_wakes.f kj5).bind fun t164 => (some t164)) else (some false)) else (some false)) else (some false)) else (some false))))) else (none)) else (none)) else (none))) = some r := H
     have A20 := Aside0.mk A200
     clear A200
     obtain ⟨y153, hy153⟩ : ∃ y_ : List ByteArray, y_ = (([(⟨#[]⟩ : ByteArray), (⟨#[119]⟩ : ByteArray), (⟨#[87]⟩ : ByteArray), (⟨#[115]⟩ : ByteArray), (⟨#[83]⟩ : ByteArray), (⟨#[117]⟩ : ByteArray), (⟨#[85]⟩ : ByteArray), (⟨#[103]⟩ : ByteArray), (⟨#[71]⟩ : ByteArray), (⟨#[122]⟩ : ByteArray), (⟨#[90]⟩ : ByteArray)] : List ByteArray)) := ⟨_, rfl⟩
     replace H : (if 0 ≤ (wrap64 (Int.tmod (IntKind.u64.wrap (a2)) 11)) then (if (wrap64 (Int.tmod (IntKind.u64.wrap (a2)) 11)) < (y153.length : Int) then (if t151.size + (rdOf ByteArray.empty y153 (wrap64 (Int.tmod (IntKind.u64.wrap (a2)) 11))).size ≤ 9223372036854775807 then ((atform_Parse.f kj5 (t151 ++ (rdOf ByteArray.empty y153 (wrap64 (Int.tmod (IntKind.u64.wrap (a2)) 11))))).bind fun bt157 => (if (wrap64 (Int.tmod (IntKind.u64.wrap (a2)) 11)) > 2 then (if (wrap64 (Int.tmod (IntKind.u64.wrap (a2)) 11)) > 4 then (if t152 = 0 then (if bt157.2.2 = 0 then (if bt157.1 = (Int.tmod a0 345601) then (if bt157.2.1 = 3 then ((solsticelaw08_wakes.f kj5).bind fun t161 => (some t161)) else (some false)) else (some false)) else (some false)) else (some false)) else (if t152 = 0 then (if bt157.2.2 = 0 then (if bt157.1 = (Int.tmod a0 345601) then (if bt157.2.1 = 2 then ((solsticelaw08_wakes.f kj5).bind fun t162 => (some t162)) else (some false)) else (some false)) else (some false)) else (some false))) else (if (wrap64 (Int.tmod (IntKind.u64.wrap (a2)) 11)) > 4 then (if t152 = 0 then (if bt157.2.2 = 0 then (if bt157.1 = (Int.tmod a0 345601) then (if bt157.2.1 = 3 then ((solsticelaw08_wakes.f kj5).bind fun t163 => (some t163)) else (some false)) else (some false)) else (some false)) else (some false)) else (if t152 = 0 then (if bt157.2.2 = 0 then (if bt157.1 = (Int.tmod a0 345601) then (if bt157.2.1 = 1 then ((solsticelaw08_wakes.f kj5).bind fun t164 => (some t164)) else (some false)) else (some false)) else (some false)) else (some false))))) else (none)) else (none)) else (none)) = some r := by first | (rw [hy153]; with_reducible exact H) | (have H2_ := (Option.bind_some _ _).symm.trans H; rw [hy153]; with_reducible exact H2_) | (have H2_ := (Option.bind_some _ _).symm.trans H; with_reducible exact H2_) | with_reducible exact H | (rw [hy153]; exact H) | exact H
     have Ny153 := Aside0.mk hy153
     clear hy153
     obtain ⟨ji21, hji21⟩ : ∃ j_ : Int, (wrap64 (Int.tmod (IntKind.u64.wrap (a2)) 11)) = j_ := ⟨_, rfl⟩
     replace H : (if 0 ≤ (ji21) then (if (ji21) < (y153.length : Int) then (if t151.size + (rdOf ByteArray.empty y153 (ji21)).size ≤ 9223372036854775807 then ((atform_Parse.f kj5 (t151 ++ (rdOf ByteArray.empty y153 (ji21)))).bind fun bt157 => (if (ji21) > 2 then (if (ji21) > 4 then (if t152 = 0 then (if bt157.2.2 = 0 then (if bt157.1 = (Int.tmod a0 345601) then (if bt157.2.1 = 3 then ((solsticelaw08_wakes.f kj5).bind fun t161 => (some t161)) else (some false)) else (some false)) else (some false)) else (some false)) else (if t152 = 0 then (if bt157.2.2 = 0 then (if bt157.1 = (Int.tmod a0 345601) then (if bt157.2.1 = 2 then ((solsticelaw08_wakes.f kj5).bind fun t162 => (some t162)) else (some false)) else (some false)) else (some false)) else (some false))) else (if (ji21) > 4 then (if t152 = 0 then (if bt157.2.2 = 0 then (if bt157.1 = (Int.tmod a0 345601) then (if bt157.2.1 = 3 then ((solsticelaw08_wakes.f kj5).bind fun t163 => (some t163)) else (some false)) else (some false)) else (some false)) else (some false)) else (if t152 = 0 then (if bt157.2.2 = 0 then (if bt157.1 = (Int.tmod a0 345601) then (if bt157.2.1 = 1 then ((solsticelaw08_wakes.f kj5).bind fun t164 => (some t164)) else (some false)) else (some false)) else (some false)) else (some false))))) else (none)) else (none)) else (none)) = some r := by first | (rw [hji21] at H; exact H) | (simp only [hji21] at H ⊢; exact H)
     (try rw [hji21] at A20)
     have hji21w : (IntKind.i64.wrap (Int.tmod (IntKind.u64.wrap (a2)) 11)) = ji21 := (i64_w _).trans hji21
     by_cases c22 : 0 ≤ (ji21)
     ·rw [if_pos c22] at H
      have c22b0 : decide (0 ≤ (ji21)) = true := decide_eq_true c22
      clear c22
      by_cases c23 : (ji21) < (y153.length : Int)
      ·rw [if_pos c23] at H
       have c23b0 : decide ((ji21) < (y153.length : Int)) = true := decide_eq_true c23
       clear c23
       by_cases c24 : t151.size + (rdOf ByteArray.empty y153 (ji21)).size ≤ 9223372036854775807
       ·rw [if_pos c24] at H
        have c24b0 := eq_true c24
        have c24b1 : decide (t151.size + (rdOf ByteArray.empty y153 (ji21)).size ≤ 9223372036854775807) = true := decide_eq_true c24
        try have c24b2 : (9223372036854775807 < t151.size + (rdOf ByteArray.empty y153 (ji21)).size) = False := eq_false (Nat.not_lt.2 c24)
        replace H := Option.bind_eq_some_iff.mp H
        obtain ⟨⟨t157, t158, t159⟩, A250, H⟩ := H
        replace H : (if (ji21) > 2 then (if (ji21) > 4 then (if t152 = 0 then (if t159 = 0 then (if t157 = (Int.tmod a0 345601) then (if t158 = 3 then ((solsticelaw08_wakes.f kj5).bind fun t161 => (some t161)) else (some false)) else (some false)) else (some false)) else (some false)) else (if t152 = 0 then (if t159 = 0 then (if t157 = (Int.tmod a0 345601) then (if t158 = 2 then ((solsticelaw08_wakes.f kj5).bind fun t162 => (some t162)) else (some false)) else (some false)) else (some false)) else (some false))) else (if (ji21) > 4 then (if t152 = 0 then (if t159 = 0 then (if t157 = (Int.tmod a0 345601) then (if t158 = 3 then ((solsticelaw08_wakes.f kj5).bind fun t163 => (some t163)) else (some false)) else (some false)) else (some false)) else (some false)) else (if t152 = 0 then (if t159 = 0 then (if t157 = (Int.tmod a0 345601) then (if t158 = 1 then ((solsticelaw08_wakes.f kj5).bind fun t164 => (some t164)) else (some false)) else (some false)) else (some false)) else (some false)))) = some r := H
        have A25 := Aside0.mk A250
        clear A250
        by_cases c26 : (ji21) > 2
        ·rw [if_pos c26] at H
         have c26b0 : decide (2 < (ji21)) = true := decide_eq_true c26
         clear c26
         by_cases c27 : (ji21) > 4
         ·rw [if_pos c27] at H
          have c27b0 : decide (4 < (ji21)) = true := decide_eq_true c27
          clear c27
          by_cases c28 : t152 = 0
          ·rw [if_pos c28] at H
           have c28b0 : (t152 == 0) = true := beq_iff_eq.mpr c28
           have c28b1 : (t152 != 0) = false := bne_eq_false_iff_eq.mpr c28
           clear c28
           by_cases c29 : t159 = 0
           ·rw [if_pos c29] at H
            have c29b0 : (t159 == 0) = true := beq_iff_eq.mpr c29
            have c29b1 : (t159 != 0) = false := bne_eq_false_iff_eq.mpr c29
            clear c29
            by_cases c30 : t157 = (Int.tmod a0 345601)
            ·rw [if_pos c30] at H
             have c30b0 : (t157 == (Int.tmod a0 345601)) = true := beq_iff_eq.mpr c30
             have c30b1 : (t157 != (Int.tmod a0 345601)) = false := bne_eq_false_iff_eq.mpr c30
             clear c30
             by_cases c31 : t158 = 3
             ·rw [if_pos c31] at H
              have c31b0 : (t158 == 3) = true := beq_iff_eq.mpr c31
              have c31b1 : (t158 != 3) = false := bne_eq_false_iff_eq.mpr c31
              clear c31
              replace H := Option.bind_eq_some_iff.mp H
              obtain ⟨t161, A320, H⟩ := H
              replace H : (some t161) = some r := H
              have A32 := Aside0.mk A320
              clear A320
              obtain rfl := Option.some.inj H
              have hnb33 := NB144_150.out
              have hnc33 := NB150_144.out
              have hcz34_0 : wc.cell? ⟨gb144, 0, none⟩ = some (.int .i64 (Int.tmod a0 345601)) := (blk_cell BK144.out 0).trans rfl
              have hcz34_1 : wc.cell? ⟨gb144, 1, none⟩ = some (.int .i64 (wrap64 (1 + (wrap64 (Int.tmod (IntKind.u64.wrap (a1)) 3))))) := (blk_cell BK144.out 1).trans rfl
              have hfz34_0 := blk_frozen BK144.out 0
              have hfz34_1 := blk_frozen BK144.out 1
              go_wp2_with (first | ((with_reducible refine gate_callee (f := 42) rfl ?_); refine goesL_ (some 51) rfl rfl Tryd.func42 (by kernel_rfl) rfl #[.agg #[.int .i64 (Int.tmod a0 345601), .int .i64 1]] rfl (by (try simp only [List.map_toArray, List.map_cons, List.map_nil]); first | done | rfl | (simp only [List.length_drop, List.length_take]; rfl)) ?_; (with_reducible refine (atform_Text.calls kj5 (Int.tmod a0 345601) 1 t151 t152 _ ?sideG A20.out).mono ?_); (case sideG => first | exact GP_below HG.out (by repeat (first | (with_reducible first | exact HB.out | apply below_alloc | apply pw_below_drewN | apply below_drew1 | refine below_set ?_ GE144.out | refine below_set ?_ GE150.out | refine below_set ?_ GE160.out) | exact HB.out)) | repeat (first | exact HG.out | refine GP_alloc ?_ _ | refine GP_drewN ?_ _ | refine GP_drew ?_)); rintro e w35 ⟨rfl, hb⟩; refine ⟨_, rfl, ?_⟩; have n0_ := Aside0.mk (blk_below (g := gb144) (o := .cells #[.int .i64 (Int.tmod a0 345601), .int .i64 1] 57 (0, 0)) (by (with_reducible repeat (first | refine blk_drewN ?_ _ | refine blk_drew ?_ | refine blk_alloc ?_ _)); refine blk_put (cs := #[.int .i64 (Int.tmod a0 345601), .int .i64 (wrap64 (1 + (wrap64 (Int.tmod (IntKind.u64.wrap (a1)) 3))))]) ?_ 1 _ rfl; (with_reducible repeat (first | refine blk_drewN ?_ _ | refine blk_drew ?_ | refine blk_alloc ?_ _)); exact BK144.out) hb); have n1_ := Aside0.mk (blk_below (g := gb150) (o := .cells #[.int .i64 t147, .int .i64 t148] 57 (0, 0)) (by (with_reducible repeat (first | refine blk_drewN ?_ _ | refine blk_drew ?_ | refine blk_alloc ?_ _)); refine blk_far ?_ NB150_144.out _; (with_reducible repeat (first | refine blk_drewN ?_ _ | refine blk_drew ?_ | refine blk_alloc ?_ _)); exact BK150.out) hb); have n2_ := Aside0.mk (below_step (by repeat (first | (with_reducible first | exact HB.out | apply below_alloc | apply pw_below_drewN | apply below_drew1 | refine below_set ?_ GE144.out | refine below_set ?_ GE150.out) | exact HB.out)) hb); clear BK144; clear BK150; clear HB; have BK144 := n0_; have BK150 := n1_; have HB := n2_; clear n0_ n1_ n2_; (try clear hb); (try clear hb2); (try clear hk); (try clear hi)) | ((with_reducible refine gate_dst (N := 54) rfl ?_); refine Kd.R_lit Kd.string _ 9 ?hg (N := 54) ?hd (xs := ([(⟨#[]⟩ : ByteArray), (⟨#[119]⟩ : ByteArray), (⟨#[87]⟩ : ByteArray), (⟨#[115]⟩ : ByteArray), (⟨#[83]⟩ : ByteArray), (⟨#[117]⟩ : ByteArray), (⟨#[85]⟩ : ByteArray), (⟨#[103]⟩ : ByteArray), (⟨#[71]⟩ : ByteArray), (⟨#[122]⟩ : ByteArray), (⟨#[90]⟩ : ByteArray)] : List ByteArray)) (inner := [.string (⟨#[]⟩ : ByteArray), .string (⟨#[119]⟩ : ByteArray), .string (⟨#[87]⟩ : ByteArray), .string (⟨#[115]⟩ : ByteArray), .string (⟨#[83]⟩ : ByteArray), .string (⟨#[117]⟩ : ByteArray), .string (⟨#[85]⟩ : ByteArray), .string (⟨#[103]⟩ : ByteArray), .string (⟨#[71]⟩ : ByteArray), .string (⟨#[122]⟩ : ByteArray), .string (⟨#[90]⟩ : ByteArray)]) (ok := fun _ => True) (okp := fun _ => True) ?hr ?hp (fun _ hk => hk) trivial (Below.refl _ _) (Nat.le_refl _) (by simp) ?_; (case hd => rfl); (case hg => rfl); (case hr => exact lit5_0_ (fun _ => rfl) _); (case hp => exact (Reps.one (show Kd.M Kd.string _ _ _ (⟨#[]⟩ : ByteArray) [.string (⟨#[]⟩ : ByteArray)] from rfl) (Reps.one (show Kd.M Kd.string _ _ _ (⟨#[119]⟩ : ByteArray) [.string (⟨#[119]⟩ : ByteArray)] from rfl) (Reps.one (show Kd.M Kd.string _ _ _ (⟨#[87]⟩ : ByteArray) [.string (⟨#[87]⟩ : ByteArray)] from rfl) (Reps.one (show Kd.M Kd.string _ _ _ (⟨#[115]⟩ : ByteArray) [.string (⟨#[115]⟩ : ByteArray)] from rfl) (Reps.one (show Kd.M Kd.string _ _ _ (⟨#[83]⟩ : ByteArray) [.string (⟨#[83]⟩ : ByteArray)] from rfl) (Reps.one (show Kd.M Kd.string _ _ _ (⟨#[117]⟩ : ByteArray) [.string (⟨#[117]⟩ : ByteArray)] from rfl) (Reps.one (show Kd.M Kd.string _ _ _ (⟨#[85]⟩ : ByteArray) [.string (⟨#[85]⟩ : ByteArray)] from rfl) (Reps.one (show Kd.M Kd.string _ _ _ (⟨#[103]⟩ : ByteArray) [.string (⟨#[103]⟩ : ByteArray)] from rfl) (Reps.one (show Kd.M Kd.string _ _ _ (⟨#[71]⟩ : ByteArray) [.string (⟨#[71]⟩ : ByteArray)] from rfl) (Reps.one (show Kd.M Kd.string _ _ _ (⟨#[122]⟩ : ByteArray) [.string (⟨#[122]⟩ : ByteArray)] from rfl) (Reps.one (show Kd.M Kd.string _ _ _ (⟨#[90]⟩ : ByteArray) [.string (⟨#[90]⟩ : ByteArray)] from rfl) (Reps.none _ _))))))))))))); intro v154 w36 ho37 hb hg_ hnew_; clear hg_ hnew_; (first | rw [← Ny153.out] at ho37 | (simp only [Int.reduceToNat] at ho37; rw [← Ny153.out] at ho37)); have n0_ := Aside0.mk (Kd.R_lower ho37 (below_size (by repeat (first | (with_reducible first | exact HB.out | apply below_alloc | apply pw_below_drewN | apply below_drew1 | refine below_set ?_ GE144.out | refine below_set ?_ GE150.out) | exact HB.out)))); have n1_ := Aside0.mk (blk_below (g := gb144) (o := .cells #[.int .i64 (Int.tmod a0 345601), .int .i64 1] 57 (0, 0)) (by (with_reducible repeat (first | refine blk_drewN ?_ _ | refine blk_drew ?_ | refine blk_alloc ?_ _)); exact BK144.out) hb); have n2_ := Aside0.mk (blk_below (g := gb150) (o := .cells #[.int .i64 t147, .int .i64 t148] 57 (0, 0)) (by (with_reducible repeat (first | refine blk_drewN ?_ _ | refine blk_drew ?_ | refine blk_alloc ?_ _)); exact BK150.out) hb); have n3_ := Aside0.mk (below_step (by repeat (first | (with_reducible first | exact HB.out | apply below_alloc | apply pw_below_drewN | apply below_drew1 | refine below_set ?_ GE144.out | refine below_set ?_ GE150.out) | exact HB.out)) hb); clear BK144; clear BK150; clear HB; have HO155 := n0_; have BK144 := n1_; have BK150 := n2_; have HB := n3_; clear n0_ n1_ n2_ n3_; clear hb ho37; obtain ⟨Ao38, co38, eo38⟩ := Kd.R_slice HO155.out; subst eo38; have p156 : 0 ≤ ((ji21) : Int) := of_decide_eq_true (by first | (with_reducible assumption) | assumption); have q156 : (ji21) < (y153.length : Int) := of_decide_eq_true (by first | (with_reducible assumption) | assumption); obtain ⟨ad156, e156, hx156_0⟩ := Kd.at_string (Kd.R_reads' HO155.out).2.2 (ji21) p156 q156; cases e156; replace p156 := eq_true p156; replace q156 := eq_true q156) | ((with_reducible refine gate_callee (f := 41) rfl ?_); refine goesL_ (some 66) rfl rfl Tryd.func41 (by kernel_rfl) rfl #[.string (t151 ++ (rdOf ByteArray.empty y153 (ji21)))] rfl (by (try simp only [List.map_toArray, List.map_cons, List.map_nil]); first | done | (simp only [hji21]; rfl) | rfl | (simp only [List.length_drop, List.length_take]; rfl)) ?_; (with_reducible refine (atform_Parse.calls kj5 (t151 ++ (rdOf ByteArray.empty y153 (ji21))) t157 t158 t159 _ ?sideG A25.out).mono ?_); (case sideG => first | exact GP_below HG.out (by repeat (first | (with_reducible first | exact HB.out | apply below_alloc | apply pw_below_drewN | apply below_drew1 | refine below_set ?_ GE144.out | refine below_set ?_ GE150.out | refine below_set ?_ GE160.out) | exact HB.out)) | repeat (first | exact HG.out | refine GP_alloc ?_ _ | refine GP_drewN ?_ _ | refine GP_drew ?_)); rintro e w39 ⟨rfl, hb⟩; refine ⟨_, rfl, ?_⟩; have n0_ := Aside0.mk (Kd.R_below (by (with_reducible repeat (first | apply Kd.R_alloc | apply Kd.R_drewN | apply Kd.R_drew)); exact HO155.out) hb); have n1_ := Aside0.mk (blk_below (g := gb144) (o := .cells #[.int .i64 (Int.tmod a0 345601), .int .i64 1] 57 (0, 0)) (by (with_reducible repeat (first | refine blk_drewN ?_ _ | refine blk_drew ?_ | refine blk_alloc ?_ _)); exact BK144.out) hb); have n2_ := Aside0.mk (blk_below (g := gb150) (o := .cells #[.int .i64 t147, .int .i64 t148] 57 (0, 0)) (by (with_reducible repeat (first | refine blk_drewN ?_ _ | refine blk_drew ?_ | refine blk_alloc ?_ _)); exact BK150.out) hb); have n3_ := Aside0.mk (below_step (by repeat (first | (with_reducible first | exact HB.out | apply below_alloc | apply pw_below_drewN | apply below_drew1 | refine below_set ?_ GE144.out | refine below_set ?_ GE150.out) | exact HB.out)) hb); clear HO155; clear BK144; clear BK150; clear HB; have HO155 := n0_; have BK144 := n1_; have BK150 := n2_; have HB := n3_; clear n0_ n1_ n2_ n3_; (try clear hb); (try clear hb2); (try clear hk); (try clear hi)) | ((with_reducible refine gate_dst (N := 16) rfl ?_); refine box_event ?hg (N := 16) ?hd (cs := #[.int .i64 0, .int .i64 0]) (t := 57) ?hr ?_; (case hd => rfl); (case hg => rfl); (case hr => first | (go_simp; done) | (go_simp; rfl)); intro gb160 hg w40 hbox hb; have n0_ := Aside0.mk (Kd.R_below (by (with_reducible repeat (first | apply Kd.R_alloc | apply Kd.R_drewN | apply Kd.R_drew)); exact HO155.out) hb); have n1_ := Aside0.mk (blk_below (g := gb144) (o := .cells #[.int .i64 (Int.tmod a0 345601), .int .i64 1] 57 (0, 0)) (by (with_reducible repeat (first | refine blk_drewN ?_ _ | refine blk_drew ?_ | refine blk_alloc ?_ _)); exact BK144.out) hb); have n2_ := Aside0.mk (blk_below (g := gb150) (o := .cells #[.int .i64 t147, .int .i64 t148] 57 (0, 0)) (by (with_reducible repeat (first | refine blk_drewN ?_ _ | refine blk_drew ?_ | refine blk_alloc ?_ _)); exact BK150.out) hb); have n3_ := Aside0.mk (below_step (by repeat (first | (with_reducible first | exact HB.out | apply below_alloc | apply pw_below_drewN | apply below_drew1 | refine below_set ?_ GE144.out | refine below_set ?_ GE150.out) | exact HB.out)) hb); have n4_ := Aside0.mk (hbox); have n5_ := Aside0.mk ((by rw [hg]; exact (below_size (by repeat (first | (with_reducible first | exact HB.out | apply below_alloc | apply pw_below_drewN | apply below_drew1 | refine below_set ?_ GE144.out | refine below_set ?_ GE150.out) | exact HB.out))) : w.heap.size ≤ gb160)); have n6_ := Aside0.mk ((by rw [hg]; exact (below_size (by repeat (first | (with_reducible first | exact HB.out | apply below_alloc | apply pw_below_drewN | apply below_drew1 | refine below_set ?_ GE144.out | refine below_set ?_ GE150.out) | exact HB.out))) : w.heap.size ≤ gb160)); have n7_ := Aside0.mk ((by rw [hg]; exact Nat.ne_of_lt (blk_lt (g := gb144) (o := .cells #[.int .i64 (Int.tmod a0 345601), .int .i64 1] 57 (0, 0)) (by (with_reducible repeat (first | refine blk_drewN ?_ _ | refine blk_drew ?_ | refine blk_alloc ?_ _)); exact BK144.out)) : gb144 ≠ gb160)); have n8_ := Aside0.mk ((by rw [hg]; exact Nat.ne_of_gt (blk_lt (g := gb144) (o := .cells #[.int .i64 (Int.tmod a0 345601), .int .i64 1] 57 (0, 0)) (by (with_reducible repeat (first | refine blk_drewN ?_ _ | refine blk_drew ?_ | refine blk_alloc ?_ _)); exact BK144.out)) : gb160 ≠ gb144)); have n9_ := Aside0.mk ((by rw [hg]; exact Nat.ne_of_lt (blk_lt (g := gb150) (o := .cells #[.int .i64 t147, .int .i64 t148] 57 (0, 0)) (by (with_reducible repeat (first | refine blk_drewN ?_ _ | refine blk_drew ?_ | refine blk_alloc ?_ _)); exact BK150.out)) : gb150 ≠ gb160)); have n10_ := Aside0.mk ((by rw [hg]; exact Nat.ne_of_gt (blk_lt (g := gb150) (o := .cells #[.int .i64 t147, .int .i64 t148] 57 (0, 0)) (by (with_reducible repeat (first | refine blk_drewN ?_ _ | refine blk_drew ?_ | refine blk_alloc ?_ _)); exact BK150.out)) : gb160 ≠ gb150)); clear HO155; clear BK144; clear BK150; clear HB; have HO155 := n0_; have BK144 := n1_; have BK150 := n2_; have HB := n3_; have BK160 := n4_; have GW160 := n5_; have GE160 := n6_; have NB144_160 := n7_; have NB160_144 := n8_; have NB150_160 := n9_; have NB160_150 := n10_; clear n0_ n1_ n2_ n3_ n4_ n5_ n6_ n7_ n8_ n9_ n10_; clear hb hbox hg; have hnb41 := NB160_144.out; have hnc41 := NB144_160.out; have hnb42 := NB160_150.out; have hnc42 := NB150_160.out; have hcz43_0 : w40.cell? ⟨gb160, 0, none⟩ = some (.int .i64 0) := (blk_cell BK160.out 0).trans rfl; have hcz43_1 : w40.cell? ⟨gb160, 1, none⟩ = some (.int .i64 0) := (blk_cell BK160.out 1).trans rfl; have hfz43_0 := blk_frozen BK160.out 0; have hfz43_1 := blk_frozen BK160.out 1; have hcz44_0 : w40.cell? ⟨gb144, 0, none⟩ = some (.int .i64 (Int.tmod a0 345601)) := (blk_cell BK144.out 0).trans rfl; have hcz44_1 : w40.cell? ⟨gb144, 1, none⟩ = some (.int .i64 1) := (blk_cell BK144.out 1).trans rfl; have hfz44_0 := blk_frozen BK144.out 0; have hfz44_1 := blk_frozen BK144.out 1) | (go_at_call 49; (with_reducible refine (solsticelaw08_wakes.calls kj5  t161 htrue _ ?sideG A32.out).mono ?_); (case sideG => first | exact GP_below HG.out (by repeat (first | (with_reducible first | exact HB.out | apply below_alloc | apply pw_below_drewN | apply below_drew1 | refine below_set ?_ GE144.out | refine below_set ?_ GE150.out | refine below_set ?_ GE160.out) | exact HB.out)) | repeat (first | exact HG.out | refine GP_alloc ?_ _ | refine GP_drewN ?_ _ | refine GP_drew ?_)); rintro e w45 ⟨rfl, hb⟩; have n0_ := Aside0.mk (Kd.R_below (by (with_reducible repeat (first | apply Kd.R_alloc | apply Kd.R_drewN | apply Kd.R_drew)); exact (Kd.R_mono (Kd.R_far (p := ⟨gb160, 1, none⟩) (Kd.R_far (p := ⟨gb160, 0, none⟩) (Kd.R_types HO155.out BK160.out (by decide)) (fun _ hk => hk.2) (.int .i64 t157)) (fun _ hk => hk.2) (.int .i64 t158)) (fun _ h_ => h_.1))) hb); have n1_ := Aside0.mk (blk_below (g := gb144) (o := .cells #[.int .i64 (Int.tmod a0 345601), .int .i64 1] 57 (0, 0)) (by (with_reducible repeat (first | refine blk_drewN ?_ _ | refine blk_drew ?_ | refine blk_alloc ?_ _)); refine blk_far ?_ NB144_160.out _; (with_reducible repeat (first | refine blk_drewN ?_ _ | refine blk_drew ?_ | refine blk_alloc ?_ _)); refine blk_far ?_ NB144_160.out _; (with_reducible repeat (first | refine blk_drewN ?_ _ | refine blk_drew ?_ | refine blk_alloc ?_ _)); exact BK144.out) hb); have n2_ := Aside0.mk (blk_below (g := gb150) (o := .cells #[.int .i64 t147, .int .i64 t148] 57 (0, 0)) (by (with_reducible repeat (first | refine blk_drewN ?_ _ | refine blk_drew ?_ | refine blk_alloc ?_ _)); refine blk_far ?_ NB150_160.out _; (with_reducible repeat (first | refine blk_drewN ?_ _ | refine blk_drew ?_ | refine blk_alloc ?_ _)); refine blk_far ?_ NB150_160.out _; (with_reducible repeat (first | refine blk_drewN ?_ _ | refine blk_drew ?_ | refine blk_alloc ?_ _)); exact BK150.out) hb); have n3_ := Aside0.mk (blk_below (g := gb160) (o := .cells #[.int .i64 t157, .int .i64 t158] 57 (0, 0)) (by (with_reducible repeat (first | refine blk_drewN ?_ _ | refine blk_drew ?_ | refine blk_alloc ?_ _)); refine blk_put (cs := #[.int .i64 t157, .int .i64 0]) ?_ 1 _ rfl; (with_reducible repeat (first | refine blk_drewN ?_ _ | refine blk_drew ?_ | refine blk_alloc ?_ _)); refine blk_put (cs := #[.int .i64 0, .int .i64 0]) ?_ 0 _ rfl; (with_reducible repeat (first | refine blk_drewN ?_ _ | refine blk_drew ?_ | refine blk_alloc ?_ _)); exact BK160.out) hb); have n4_ := Aside0.mk (below_step (by repeat (first | (with_reducible first | exact HB.out | apply below_alloc | apply pw_below_drewN | apply below_drew1 | refine below_set ?_ GE144.out | refine below_set ?_ GE150.out | refine below_set ?_ GE160.out) | exact HB.out)) hb); clear HO155; clear BK144; clear BK150; clear BK160; clear HB; have HO155 := n0_; have BK144 := n1_; have BK150 := n2_; have BK160 := n3_; have HB := n4_; clear n0_ n1_ n2_ n3_ n4_; (try clear hb); (try clear hb2); (try clear hk); (try clear hi)))
              go_ret
              exact ⟨by first | rfl | (simp [errW_none, errW_some] <;> rfl) | (simp only [← hji21]; first | rfl | (simp [errW_none, errW_some] <;> rfl)) | (simp [*, errW_none, errW_some] <;> rfl), by repeat (first | (with_reducible first | exact HB.out | apply below_alloc | apply pw_below_drewN | apply below_drew1 | refine below_set ?_ GE144.out | refine below_set ?_ GE150.out | refine below_set ?_ GE160.out) | exact HB.out)⟩
             ·rw [if_neg c31] at H
              have c31b0 : (t158 == 3) = false := beq_eq_false_iff_ne.mpr c31
              have c31b1 : (t158 != 3) = true := bne_iff_ne.mpr c31
              obtain rfl := Option.some.inj H
              cases htrue
            ·rw [if_neg c30] at H
             have c30b0 : (t157 == (Int.tmod a0 345601)) = false := beq_eq_false_iff_ne.mpr c30
             have c30b1 : (t157 != (Int.tmod a0 345601)) = true := bne_iff_ne.mpr c30
             obtain rfl := Option.some.inj H
             cases htrue
           ·rw [if_neg c29] at H
            have c29b0 : (t159 == 0) = false := beq_eq_false_iff_ne.mpr c29
            have c29b1 : (t159 != 0) = true := bne_iff_ne.mpr c29
            obtain rfl := Option.some.inj H
            cases htrue
          ·rw [if_neg c28] at H
           have c28b0 : (t152 == 0) = false := beq_eq_false_iff_ne.mpr c28
           have c28b1 : (t152 != 0) = true := bne_iff_ne.mpr c28
           obtain rfl := Option.some.inj H
           cases htrue
         ·rw [if_neg c27] at H
          have c27b0 : decide (4 < (ji21)) = false := decide_eq_false c27
          clear c27
          by_cases c46 : t152 = 0
          ·rw [if_pos c46] at H
           have c46b0 : (t152 == 0) = true := beq_iff_eq.mpr c46
           have c46b1 : (t152 != 0) = false := bne_eq_false_iff_eq.mpr c46
           clear c46
           by_cases c47 : t159 = 0
           ·rw [if_pos c47] at H
            have c47b0 : (t159 == 0) = true := beq_iff_eq.mpr c47
            have c47b1 : (t159 != 0) = false := bne_eq_false_iff_eq.mpr c47
            clear c47
            by_cases c48 : t157 = (Int.tmod a0 345601)
            ·rw [if_pos c48] at H
             have c48b0 : (t157 == (Int.tmod a0 345601)) = true := beq_iff_eq.mpr c48
             have c48b1 : (t157 != (Int.tmod a0 345601)) = false := bne_eq_false_iff_eq.mpr c48
             clear c48
             by_cases c49 : t158 = 2
             ·rw [if_pos c49] at H
              have c49b0 : (t158 == 2) = true := beq_iff_eq.mpr c49
              have c49b1 : (t158 != 2) = false := bne_eq_false_iff_eq.mpr c49
              clear c49
              replace H := Option.bind_eq_some_iff.mp H
              obtain ⟨t162, A500, H⟩ := H
              replace H : (some t162) = some r := H
              have A50 := Aside0.mk A500
              clear A500
              obtain rfl := Option.some.inj H
              have hnb51 := NB144_150.out
              have hnc51 := NB150_144.out
              have hcz52_0 : wc.cell? ⟨gb144, 0, none⟩ = some (.int .i64 (Int.tmod a0 345601)) := (blk_cell BK144.out 0).trans rfl
              have hcz52_1 : wc.cell? ⟨gb144, 1, none⟩ = some (.int .i64 (wrap64 (1 + (wrap64 (Int.tmod (IntKind.u64.wrap (a1)) 3))))) := (blk_cell BK144.out 1).trans rfl
              have hfz52_0 := blk_frozen BK144.out 0
              have hfz52_1 := blk_frozen BK144.out 1
              go_wp2_with (first | ((with_reducible refine gate_callee (f := 42) rfl ?_); refine goesL_ (some 51) rfl rfl Tryd.func42 (by kernel_rfl) rfl #[.agg #[.int .i64 (Int.tmod a0 345601), .int .i64 1]] rfl (by (try simp only [List.map_toArray, List.map_cons, List.map_nil]); first | done | rfl | (simp only [List.length_drop, List.length_take]; rfl)) ?_; (with_reducible refine (atform_Text.calls kj5 (Int.tmod a0 345601) 1 t151 t152 _ ?sideG A20.out).mono ?_); (case sideG => first | exact GP_below HG.out (by repeat (first | (with_reducible first | exact HB.out | apply below_alloc | apply pw_below_drewN | apply below_drew1 | refine below_set ?_ GE144.out | refine below_set ?_ GE150.out | refine below_set ?_ GE160.out) | exact HB.out)) | repeat (first | exact HG.out | refine GP_alloc ?_ _ | refine GP_drewN ?_ _ | refine GP_drew ?_)); rintro e w53 ⟨rfl, hb⟩; refine ⟨_, rfl, ?_⟩; have n0_ := Aside0.mk (blk_below (g := gb144) (o := .cells #[.int .i64 (Int.tmod a0 345601), .int .i64 1] 57 (0, 0)) (by (with_reducible repeat (first | refine blk_drewN ?_ _ | refine blk_drew ?_ | refine blk_alloc ?_ _)); refine blk_put (cs := #[.int .i64 (Int.tmod a0 345601), .int .i64 (wrap64 (1 + (wrap64 (Int.tmod (IntKind.u64.wrap (a1)) 3))))]) ?_ 1 _ rfl; (with_reducible repeat (first | refine blk_drewN ?_ _ | refine blk_drew ?_ | refine blk_alloc ?_ _)); exact BK144.out) hb); have n1_ := Aside0.mk (blk_below (g := gb150) (o := .cells #[.int .i64 t147, .int .i64 t148] 57 (0, 0)) (by (with_reducible repeat (first | refine blk_drewN ?_ _ | refine blk_drew ?_ | refine blk_alloc ?_ _)); refine blk_far ?_ NB150_144.out _; (with_reducible repeat (first | refine blk_drewN ?_ _ | refine blk_drew ?_ | refine blk_alloc ?_ _)); exact BK150.out) hb); have n2_ := Aside0.mk (below_step (by repeat (first | (with_reducible first | exact HB.out | apply below_alloc | apply pw_below_drewN | apply below_drew1 | refine below_set ?_ GE144.out | refine below_set ?_ GE150.out) | exact HB.out)) hb); clear BK144; clear BK150; clear HB; have BK144 := n0_; have BK150 := n1_; have HB := n2_; clear n0_ n1_ n2_; (try clear hb); (try clear hb2); (try clear hk); (try clear hi)) | ((with_reducible refine gate_dst (N := 54) rfl ?_); refine Kd.R_lit Kd.string _ 9 ?hg (N := 54) ?hd (xs := ([(⟨#[]⟩ : ByteArray), (⟨#[119]⟩ : ByteArray), (⟨#[87]⟩ : ByteArray), (⟨#[115]⟩ : ByteArray), (⟨#[83]⟩ : ByteArray), (⟨#[117]⟩ : ByteArray), (⟨#[85]⟩ : ByteArray), (⟨#[103]⟩ : ByteArray), (⟨#[71]⟩ : ByteArray), (⟨#[122]⟩ : ByteArray), (⟨#[90]⟩ : ByteArray)] : List ByteArray)) (inner := [.string (⟨#[]⟩ : ByteArray), .string (⟨#[119]⟩ : ByteArray), .string (⟨#[87]⟩ : ByteArray), .string (⟨#[115]⟩ : ByteArray), .string (⟨#[83]⟩ : ByteArray), .string (⟨#[117]⟩ : ByteArray), .string (⟨#[85]⟩ : ByteArray), .string (⟨#[103]⟩ : ByteArray), .string (⟨#[71]⟩ : ByteArray), .string (⟨#[122]⟩ : ByteArray), .string (⟨#[90]⟩ : ByteArray)]) (ok := fun _ => True) (okp := fun _ => True) ?hr ?hp (fun _ hk => hk) trivial (Below.refl _ _) (Nat.le_refl _) (by simp) ?_; (case hd => rfl); (case hg => rfl); (case hr => exact lit5_0_ (fun _ => rfl) _); (case hp => exact (Reps.one (show Kd.M Kd.string _ _ _ (⟨#[]⟩ : ByteArray) [.string (⟨#[]⟩ : ByteArray)] from rfl) (Reps.one (show Kd.M Kd.string _ _ _ (⟨#[119]⟩ : ByteArray) [.string (⟨#[119]⟩ : ByteArray)] from rfl) (Reps.one (show Kd.M Kd.string _ _ _ (⟨#[87]⟩ : ByteArray) [.string (⟨#[87]⟩ : ByteArray)] from rfl) (Reps.one (show Kd.M Kd.string _ _ _ (⟨#[115]⟩ : ByteArray) [.string (⟨#[115]⟩ : ByteArray)] from rfl) (Reps.one (show Kd.M Kd.string _ _ _ (⟨#[83]⟩ : ByteArray) [.string (⟨#[83]⟩ : ByteArray)] from rfl) (Reps.one (show Kd.M Kd.string _ _ _ (⟨#[117]⟩ : ByteArray) [.string (⟨#[117]⟩ : ByteArray)] from rfl) (Reps.one (show Kd.M Kd.string _ _ _ (⟨#[85]⟩ : ByteArray) [.string (⟨#[85]⟩ : ByteArray)] from rfl) (Reps.one (show Kd.M Kd.string _ _ _ (⟨#[103]⟩ : ByteArray) [.string (⟨#[103]⟩ : ByteArray)] from rfl) (Reps.one (show Kd.M Kd.string _ _ _ (⟨#[71]⟩ : ByteArray) [.string (⟨#[71]⟩ : ByteArray)] from rfl) (Reps.one (show Kd.M Kd.string _ _ _ (⟨#[122]⟩ : ByteArray) [.string (⟨#[122]⟩ : ByteArray)] from rfl) (Reps.one (show Kd.M Kd.string _ _ _ (⟨#[90]⟩ : ByteArray) [.string (⟨#[90]⟩ : ByteArray)] from rfl) (Reps.none _ _))))))))))))); intro v154 w54 ho55 hb hg_ hnew_; clear hg_ hnew_; (first | rw [← Ny153.out] at ho55 | (simp only [Int.reduceToNat] at ho55; rw [← Ny153.out] at ho55)); have n0_ := Aside0.mk (Kd.R_lower ho55 (below_size (by repeat (first | (with_reducible first | exact HB.out | apply below_alloc | apply pw_below_drewN | apply below_drew1 | refine below_set ?_ GE144.out | refine below_set ?_ GE150.out) | exact HB.out)))); have n1_ := Aside0.mk (blk_below (g := gb144) (o := .cells #[.int .i64 (Int.tmod a0 345601), .int .i64 1] 57 (0, 0)) (by (with_reducible repeat (first | refine blk_drewN ?_ _ | refine blk_drew ?_ | refine blk_alloc ?_ _)); exact BK144.out) hb); have n2_ := Aside0.mk (blk_below (g := gb150) (o := .cells #[.int .i64 t147, .int .i64 t148] 57 (0, 0)) (by (with_reducible repeat (first | refine blk_drewN ?_ _ | refine blk_drew ?_ | refine blk_alloc ?_ _)); exact BK150.out) hb); have n3_ := Aside0.mk (below_step (by repeat (first | (with_reducible first | exact HB.out | apply below_alloc | apply pw_below_drewN | apply below_drew1 | refine below_set ?_ GE144.out | refine below_set ?_ GE150.out) | exact HB.out)) hb); clear BK144; clear BK150; clear HB; have HO155 := n0_; have BK144 := n1_; have BK150 := n2_; have HB := n3_; clear n0_ n1_ n2_ n3_; clear hb ho55; obtain ⟨Ao56, co56, eo56⟩ := Kd.R_slice HO155.out; subst eo56; have p156 : 0 ≤ ((ji21) : Int) := of_decide_eq_true (by first | (with_reducible assumption) | assumption); have q156 : (ji21) < (y153.length : Int) := of_decide_eq_true (by first | (with_reducible assumption) | assumption); obtain ⟨ad156, e156, hx156_0⟩ := Kd.at_string (Kd.R_reads' HO155.out).2.2 (ji21) p156 q156; cases e156; replace p156 := eq_true p156; replace q156 := eq_true q156) | ((with_reducible refine gate_callee (f := 41) rfl ?_); refine goesL_ (some 66) rfl rfl Tryd.func41 (by kernel_rfl) rfl #[.string (t151 ++ (rdOf ByteArray.empty y153 (ji21)))] rfl (by (try simp only [List.map_toArray, List.map_cons, List.map_nil]); first | done | (simp only [hji21]; rfl) | rfl | (simp only [List.length_drop, List.length_take]; rfl)) ?_; (with_reducible refine (atform_Parse.calls kj5 (t151 ++ (rdOf ByteArray.empty y153 (ji21))) t157 t158 t159 _ ?sideG A25.out).mono ?_); (case sideG => first | exact GP_below HG.out (by repeat (first | (with_reducible first | exact HB.out | apply below_alloc | apply pw_below_drewN | apply below_drew1 | refine below_set ?_ GE144.out | refine below_set ?_ GE150.out | refine below_set ?_ GE160.out) | exact HB.out)) | repeat (first | exact HG.out | refine GP_alloc ?_ _ | refine GP_drewN ?_ _ | refine GP_drew ?_)); rintro e w57 ⟨rfl, hb⟩; refine ⟨_, rfl, ?_⟩; have n0_ := Aside0.mk (Kd.R_below (by (with_reducible repeat (first | apply Kd.R_alloc | apply Kd.R_drewN | apply Kd.R_drew)); exact HO155.out) hb); have n1_ := Aside0.mk (blk_below (g := gb144) (o := .cells #[.int .i64 (Int.tmod a0 345601), .int .i64 1] 57 (0, 0)) (by (with_reducible repeat (first | refine blk_drewN ?_ _ | refine blk_drew ?_ | refine blk_alloc ?_ _)); exact BK144.out) hb); have n2_ := Aside0.mk (blk_below (g := gb150) (o := .cells #[.int .i64 t147, .int .i64 t148] 57 (0, 0)) (by (with_reducible repeat (first | refine blk_drewN ?_ _ | refine blk_drew ?_ | refine blk_alloc ?_ _)); exact BK150.out) hb); have n3_ := Aside0.mk (below_step (by repeat (first | (with_reducible first | exact HB.out | apply below_alloc | apply pw_below_drewN | apply below_drew1 | refine below_set ?_ GE144.out | refine below_set ?_ GE150.out) | exact HB.out)) hb); clear HO155; clear BK144; clear BK150; clear HB; have HO155 := n0_; have BK144 := n1_; have BK150 := n2_; have HB := n3_; clear n0_ n1_ n2_ n3_; (try clear hb); (try clear hb2); (try clear hk); (try clear hi)) | ((with_reducible refine gate_dst (N := 16) rfl ?_); refine box_event ?hg (N := 16) ?hd (cs := #[.int .i64 0, .int .i64 0]) (t := 57) ?hr ?_; (case hd => rfl); (case hg => rfl); (case hr => first | (go_simp; done) | (go_simp; rfl)); intro gb160 hg w58 hbox hb; have n0_ := Aside0.mk (Kd.R_below (by (with_reducible repeat (first | apply Kd.R_alloc | apply Kd.R_drewN | apply Kd.R_drew)); exact HO155.out) hb); have n1_ := Aside0.mk (blk_below (g := gb144) (o := .cells #[.int .i64 (Int.tmod a0 345601), .int .i64 1] 57 (0, 0)) (by (with_reducible repeat (first | refine blk_drewN ?_ _ | refine blk_drew ?_ | refine blk_alloc ?_ _)); exact BK144.out) hb); have n2_ := Aside0.mk (blk_below (g := gb150) (o := .cells #[.int .i64 t147, .int .i64 t148] 57 (0, 0)) (by (with_reducible repeat (first | refine blk_drewN ?_ _ | refine blk_drew ?_ | refine blk_alloc ?_ _)); exact BK150.out) hb); have n3_ := Aside0.mk (below_step (by repeat (first | (with_reducible first | exact HB.out | apply below_alloc | apply pw_below_drewN | apply below_drew1 | refine below_set ?_ GE144.out | refine below_set ?_ GE150.out) | exact HB.out)) hb); have n4_ := Aside0.mk (hbox); have n5_ := Aside0.mk ((by rw [hg]; exact (below_size (by repeat (first | (with_reducible first | exact HB.out | apply below_alloc | apply pw_below_drewN | apply below_drew1 | refine below_set ?_ GE144.out | refine below_set ?_ GE150.out) | exact HB.out))) : w.heap.size ≤ gb160)); have n6_ := Aside0.mk ((by rw [hg]; exact (below_size (by repeat (first | (with_reducible first | exact HB.out | apply below_alloc | apply pw_below_drewN | apply below_drew1 | refine below_set ?_ GE144.out | refine below_set ?_ GE150.out) | exact HB.out))) : w.heap.size ≤ gb160)); have n7_ := Aside0.mk ((by rw [hg]; exact Nat.ne_of_lt (blk_lt (g := gb144) (o := .cells #[.int .i64 (Int.tmod a0 345601), .int .i64 1] 57 (0, 0)) (by (with_reducible repeat (first | refine blk_drewN ?_ _ | refine blk_drew ?_ | refine blk_alloc ?_ _)); exact BK144.out)) : gb144 ≠ gb160)); have n8_ := Aside0.mk ((by rw [hg]; exact Nat.ne_of_gt (blk_lt (g := gb144) (o := .cells #[.int .i64 (Int.tmod a0 345601), .int .i64 1] 57 (0, 0)) (by (with_reducible repeat (first | refine blk_drewN ?_ _ | refine blk_drew ?_ | refine blk_alloc ?_ _)); exact BK144.out)) : gb160 ≠ gb144)); have n9_ := Aside0.mk ((by rw [hg]; exact Nat.ne_of_lt (blk_lt (g := gb150) (o := .cells #[.int .i64 t147, .int .i64 t148] 57 (0, 0)) (by (with_reducible repeat (first | refine blk_drewN ?_ _ | refine blk_drew ?_ | refine blk_alloc ?_ _)); exact BK150.out)) : gb150 ≠ gb160)); have n10_ := Aside0.mk ((by rw [hg]; exact Nat.ne_of_gt (blk_lt (g := gb150) (o := .cells #[.int .i64 t147, .int .i64 t148] 57 (0, 0)) (by (with_reducible repeat (first | refine blk_drewN ?_ _ | refine blk_drew ?_ | refine blk_alloc ?_ _)); exact BK150.out)) : gb160 ≠ gb150)); clear HO155; clear BK144; clear BK150; clear HB; have HO155 := n0_; have BK144 := n1_; have BK150 := n2_; have HB := n3_; have BK160 := n4_; have GW160 := n5_; have GE160 := n6_; have NB144_160 := n7_; have NB160_144 := n8_; have NB150_160 := n9_; have NB160_150 := n10_; clear n0_ n1_ n2_ n3_ n4_ n5_ n6_ n7_ n8_ n9_ n10_; clear hb hbox hg; have hnb59 := NB160_144.out; have hnc59 := NB144_160.out; have hnb60 := NB160_150.out; have hnc60 := NB150_160.out; have hcz61_0 : w58.cell? ⟨gb160, 0, none⟩ = some (.int .i64 0) := (blk_cell BK160.out 0).trans rfl; have hcz61_1 : w58.cell? ⟨gb160, 1, none⟩ = some (.int .i64 0) := (blk_cell BK160.out 1).trans rfl; have hfz61_0 := blk_frozen BK160.out 0; have hfz61_1 := blk_frozen BK160.out 1; have hcz62_0 : w58.cell? ⟨gb144, 0, none⟩ = some (.int .i64 (Int.tmod a0 345601)) := (blk_cell BK144.out 0).trans rfl; have hcz62_1 : w58.cell? ⟨gb144, 1, none⟩ = some (.int .i64 1) := (blk_cell BK144.out 1).trans rfl; have hfz62_0 := blk_frozen BK144.out 0; have hfz62_1 := blk_frozen BK144.out 1) | (go_at_call 49; (with_reducible refine (solsticelaw08_wakes.calls kj5  t162 htrue _ ?sideG A50.out).mono ?_); (case sideG => first | exact GP_below HG.out (by repeat (first | (with_reducible first | exact HB.out | apply below_alloc | apply pw_below_drewN | apply below_drew1 | refine below_set ?_ GE144.out | refine below_set ?_ GE150.out | refine below_set ?_ GE160.out) | exact HB.out)) | repeat (first | exact HG.out | refine GP_alloc ?_ _ | refine GP_drewN ?_ _ | refine GP_drew ?_)); rintro e w63 ⟨rfl, hb⟩; have n0_ := Aside0.mk (Kd.R_below (by (with_reducible repeat (first | apply Kd.R_alloc | apply Kd.R_drewN | apply Kd.R_drew)); exact (Kd.R_mono (Kd.R_far (p := ⟨gb160, 1, none⟩) (Kd.R_far (p := ⟨gb160, 0, none⟩) (Kd.R_types HO155.out BK160.out (by decide)) (fun _ hk => hk.2) (.int .i64 t157)) (fun _ hk => hk.2) (.int .i64 t158)) (fun _ h_ => h_.1))) hb); have n1_ := Aside0.mk (blk_below (g := gb144) (o := .cells #[.int .i64 (Int.tmod a0 345601), .int .i64 1] 57 (0, 0)) (by (with_reducible repeat (first | refine blk_drewN ?_ _ | refine blk_drew ?_ | refine blk_alloc ?_ _)); refine blk_far ?_ NB144_160.out _; (with_reducible repeat (first | refine blk_drewN ?_ _ | refine blk_drew ?_ | refine blk_alloc ?_ _)); refine blk_far ?_ NB144_160.out _; (with_reducible repeat (first | refine blk_drewN ?_ _ | refine blk_drew ?_ | refine blk_alloc ?_ _)); exact BK144.out) hb); have n2_ := Aside0.mk (blk_below (g := gb150) (o := .cells #[.int .i64 t147, .int .i64 t148] 57 (0, 0)) (by (with_reducible repeat (first | refine blk_drewN ?_ _ | refine blk_drew ?_ | refine blk_alloc ?_ _)); refine blk_far ?_ NB150_160.out _; (with_reducible repeat (first | refine blk_drewN ?_ _ | refine blk_drew ?_ | refine blk_alloc ?_ _)); refine blk_far ?_ NB150_160.out _; (with_reducible repeat (first | refine blk_drewN ?_ _ | refine blk_drew ?_ | refine blk_alloc ?_ _)); exact BK150.out) hb); have n3_ := Aside0.mk (blk_below (g := gb160) (o := .cells #[.int .i64 t157, .int .i64 t158] 57 (0, 0)) (by (with_reducible repeat (first | refine blk_drewN ?_ _ | refine blk_drew ?_ | refine blk_alloc ?_ _)); refine blk_put (cs := #[.int .i64 t157, .int .i64 0]) ?_ 1 _ rfl; (with_reducible repeat (first | refine blk_drewN ?_ _ | refine blk_drew ?_ | refine blk_alloc ?_ _)); refine blk_put (cs := #[.int .i64 0, .int .i64 0]) ?_ 0 _ rfl; (with_reducible repeat (first | refine blk_drewN ?_ _ | refine blk_drew ?_ | refine blk_alloc ?_ _)); exact BK160.out) hb); have n4_ := Aside0.mk (below_step (by repeat (first | (with_reducible first | exact HB.out | apply below_alloc | apply pw_below_drewN | apply below_drew1 | refine below_set ?_ GE144.out | refine below_set ?_ GE150.out | refine below_set ?_ GE160.out) | exact HB.out)) hb); clear HO155; clear BK144; clear BK150; clear BK160; clear HB; have HO155 := n0_; have BK144 := n1_; have BK150 := n2_; have BK160 := n3_; have HB := n4_; clear n0_ n1_ n2_ n3_ n4_; (try clear hb); (try clear hb2); (try clear hk); (try clear hi)))
              go_ret
              exact ⟨by first | rfl | (simp [errW_none, errW_some] <;> rfl) | (simp only [← hji21]; first | rfl | (simp [errW_none, errW_some] <;> rfl)) | (simp [*, errW_none, errW_some] <;> rfl), by repeat (first | (with_reducible first | exact HB.out | apply below_alloc | apply pw_below_drewN | apply below_drew1 | refine below_set ?_ GE144.out | refine below_set ?_ GE150.out | refine below_set ?_ GE160.out) | exact HB.out)⟩
             ·rw [if_neg c49] at H
              have c49b0 : (t158 == 2) = false := beq_eq_false_iff_ne.mpr c49
              have c49b1 : (t158 != 2) = true := bne_iff_ne.mpr c49
              obtain rfl := Option.some.inj H
              cases htrue
            ·rw [if_neg c48] at H
             have c48b0 : (t157 == (Int.tmod a0 345601)) = false := beq_eq_false_iff_ne.mpr c48
             have c48b1 : (t157 != (Int.tmod a0 345601)) = true := bne_iff_ne.mpr c48
             obtain rfl := Option.some.inj H
             cases htrue
           ·rw [if_neg c47] at H
            have c47b0 : (t159 == 0) = false := beq_eq_false_iff_ne.mpr c47
            have c47b1 : (t159 != 0) = true := bne_iff_ne.mpr c47
            obtain rfl := Option.some.inj H
            cases htrue
          ·rw [if_neg c46] at H
           have c46b0 : (t152 == 0) = false := beq_eq_false_iff_ne.mpr c46
           have c46b1 : (t152 != 0) = true := bne_iff_ne.mpr c46
           obtain rfl := Option.some.inj H
           cases htrue
        ·rw [if_neg c26] at H
         have c26b0 : decide (2 < (ji21)) = false := decide_eq_false c26
         clear c26
         by_cases c64 : (ji21) > 4
         ·rw [if_pos c64] at H
          have c64b0 : decide (4 < (ji21)) = true := decide_eq_true c64
          clear c64
          by_cases c65 : t152 = 0
          ·rw [if_pos c65] at H
           have c65b0 : (t152 == 0) = true := beq_iff_eq.mpr c65
           have c65b1 : (t152 != 0) = false := bne_eq_false_iff_eq.mpr c65
           clear c65
           by_cases c66 : t159 = 0
           ·rw [if_pos c66] at H
            have c66b0 : (t159 == 0) = true := beq_iff_eq.mpr c66
            have c66b1 : (t159 != 0) = false := bne_eq_false_iff_eq.mpr c66
            clear c66
            by_cases c67 : t157 = (Int.tmod a0 345601)
            ·rw [if_pos c67] at H
             have c67b0 : (t157 == (Int.tmod a0 345601)) = true := beq_iff_eq.mpr c67
             have c67b1 : (t157 != (Int.tmod a0 345601)) = false := bne_eq_false_iff_eq.mpr c67
             clear c67
             by_cases c68 : t158 = 3
             ·rw [if_pos c68] at H
              have c68b0 : (t158 == 3) = true := beq_iff_eq.mpr c68
              have c68b1 : (t158 != 3) = false := bne_eq_false_iff_eq.mpr c68
              clear c68
              replace H := Option.bind_eq_some_iff.mp H
              obtain ⟨t163, A690, H⟩ := H
              replace H : (some t163) = some r := H
              have A69 := Aside0.mk A690
              clear A690
              obtain rfl := Option.some.inj H
              have hnb70 := NB144_150.out
              have hnc70 := NB150_144.out
              have hcz71_0 : wc.cell? ⟨gb144, 0, none⟩ = some (.int .i64 (Int.tmod a0 345601)) := (blk_cell BK144.out 0).trans rfl
              have hcz71_1 : wc.cell? ⟨gb144, 1, none⟩ = some (.int .i64 (wrap64 (1 + (wrap64 (Int.tmod (IntKind.u64.wrap (a1)) 3))))) := (blk_cell BK144.out 1).trans rfl
              have hfz71_0 := blk_frozen BK144.out 0
              have hfz71_1 := blk_frozen BK144.out 1
              go_wp2_with (first | ((with_reducible refine gate_callee (f := 42) rfl ?_); refine goesL_ (some 51) rfl rfl Tryd.func42 (by kernel_rfl) rfl #[.agg #[.int .i64 (Int.tmod a0 345601), .int .i64 1]] rfl (by (try simp only [List.map_toArray, List.map_cons, List.map_nil]); first | done | rfl | (simp only [List.length_drop, List.length_take]; rfl)) ?_; (with_reducible refine (atform_Text.calls kj5 (Int.tmod a0 345601) 1 t151 t152 _ ?sideG A20.out).mono ?_); (case sideG => first | exact GP_below HG.out (by repeat (first | (with_reducible first | exact HB.out | apply below_alloc | apply pw_below_drewN | apply below_drew1 | refine below_set ?_ GE144.out | refine below_set ?_ GE150.out | refine below_set ?_ GE160.out) | exact HB.out)) | repeat (first | exact HG.out | refine GP_alloc ?_ _ | refine GP_drewN ?_ _ | refine GP_drew ?_)); rintro e w72 ⟨rfl, hb⟩; refine ⟨_, rfl, ?_⟩; have n0_ := Aside0.mk (blk_below (g := gb144) (o := .cells #[.int .i64 (Int.tmod a0 345601), .int .i64 1] 57 (0, 0)) (by (with_reducible repeat (first | refine blk_drewN ?_ _ | refine blk_drew ?_ | refine blk_alloc ?_ _)); refine blk_put (cs := #[.int .i64 (Int.tmod a0 345601), .int .i64 (wrap64 (1 + (wrap64 (Int.tmod (IntKind.u64.wrap (a1)) 3))))]) ?_ 1 _ rfl; (with_reducible repeat (first | refine blk_drewN ?_ _ | refine blk_drew ?_ | refine blk_alloc ?_ _)); exact BK144.out) hb); have n1_ := Aside0.mk (blk_below (g := gb150) (o := .cells #[.int .i64 t147, .int .i64 t148] 57 (0, 0)) (by (with_reducible repeat (first | refine blk_drewN ?_ _ | refine blk_drew ?_ | refine blk_alloc ?_ _)); refine blk_far ?_ NB150_144.out _; (with_reducible repeat (first | refine blk_drewN ?_ _ | refine blk_drew ?_ | refine blk_alloc ?_ _)); exact BK150.out) hb); have n2_ := Aside0.mk (below_step (by repeat (first | (with_reducible first | exact HB.out | apply below_alloc | apply pw_below_drewN | apply below_drew1 | refine below_set ?_ GE144.out | refine below_set ?_ GE150.out) | exact HB.out)) hb); clear BK144; clear BK150; clear HB; have BK144 := n0_; have BK150 := n1_; have HB := n2_; clear n0_ n1_ n2_; (try clear hb); (try clear hb2); (try clear hk); (try clear hi)) | ((with_reducible refine gate_dst (N := 54) rfl ?_); refine Kd.R_lit Kd.string _ 9 ?hg (N := 54) ?hd (xs := ([(⟨#[]⟩ : ByteArray), (⟨#[119]⟩ : ByteArray), (⟨#[87]⟩ : ByteArray), (⟨#[115]⟩ : ByteArray), (⟨#[83]⟩ : ByteArray), (⟨#[117]⟩ : ByteArray), (⟨#[85]⟩ : ByteArray), (⟨#[103]⟩ : ByteArray), (⟨#[71]⟩ : ByteArray), (⟨#[122]⟩ : ByteArray), (⟨#[90]⟩ : ByteArray)] : List ByteArray)) (inner := [.string (⟨#[]⟩ : ByteArray), .string (⟨#[119]⟩ : ByteArray), .string (⟨#[87]⟩ : ByteArray), .string (⟨#[115]⟩ : ByteArray), .string (⟨#[83]⟩ : ByteArray), .string (⟨#[117]⟩ : ByteArray), .string (⟨#[85]⟩ : ByteArray), .string (⟨#[103]⟩ : ByteArray), .string (⟨#[71]⟩ : ByteArray), .string (⟨#[122]⟩ : ByteArray), .string (⟨#[90]⟩ : ByteArray)]) (ok := fun _ => True) (okp := fun _ => True) ?hr ?hp (fun _ hk => hk) trivial (Below.refl _ _) (Nat.le_refl _) (by simp) ?_; (case hd => rfl); (case hg => rfl); (case hr => exact lit5_0_ (fun _ => rfl) _); (case hp => exact (Reps.one (show Kd.M Kd.string _ _ _ (⟨#[]⟩ : ByteArray) [.string (⟨#[]⟩ : ByteArray)] from rfl) (Reps.one (show Kd.M Kd.string _ _ _ (⟨#[119]⟩ : ByteArray) [.string (⟨#[119]⟩ : ByteArray)] from rfl) (Reps.one (show Kd.M Kd.string _ _ _ (⟨#[87]⟩ : ByteArray) [.string (⟨#[87]⟩ : ByteArray)] from rfl) (Reps.one (show Kd.M Kd.string _ _ _ (⟨#[115]⟩ : ByteArray) [.string (⟨#[115]⟩ : ByteArray)] from rfl) (Reps.one (show Kd.M Kd.string _ _ _ (⟨#[83]⟩ : ByteArray) [.string (⟨#[83]⟩ : ByteArray)] from rfl) (Reps.one (show Kd.M Kd.string _ _ _ (⟨#[117]⟩ : ByteArray) [.string (⟨#[117]⟩ : ByteArray)] from rfl) (Reps.one (show Kd.M Kd.string _ _ _ (⟨#[85]⟩ : ByteArray) [.string (⟨#[85]⟩ : ByteArray)] from rfl) (Reps.one (show Kd.M Kd.string _ _ _ (⟨#[103]⟩ : ByteArray) [.string (⟨#[103]⟩ : ByteArray)] from rfl) (Reps.one (show Kd.M Kd.string _ _ _ (⟨#[71]⟩ : ByteArray) [.string (⟨#[71]⟩ : ByteArray)] from rfl) (Reps.one (show Kd.M Kd.string _ _ _ (⟨#[122]⟩ : ByteArray) [.string (⟨#[122]⟩ : ByteArray)] from rfl) (Reps.one (show Kd.M Kd.string _ _ _ (⟨#[90]⟩ : ByteArray) [.string (⟨#[90]⟩ : ByteArray)] from rfl) (Reps.none _ _))))))))))))); intro v154 w73 ho74 hb hg_ hnew_; clear hg_ hnew_; (first | rw [← Ny153.out] at ho74 | (simp only [Int.reduceToNat] at ho74; rw [← Ny153.out] at ho74)); have n0_ := Aside0.mk (Kd.R_lower ho74 (below_size (by repeat (first | (with_reducible first | exact HB.out | apply below_alloc | apply pw_below_drewN | apply below_drew1 | refine below_set ?_ GE144.out | refine below_set ?_ GE150.out) | exact HB.out)))); have n1_ := Aside0.mk (blk_below (g := gb144) (o := .cells #[.int .i64 (Int.tmod a0 345601), .int .i64 1] 57 (0, 0)) (by (with_reducible repeat (first | refine blk_drewN ?_ _ | refine blk_drew ?_ | refine blk_alloc ?_ _)); exact BK144.out) hb); have n2_ := Aside0.mk (blk_below (g := gb150) (o := .cells #[.int .i64 t147, .int .i64 t148] 57 (0, 0)) (by (with_reducible repeat (first | refine blk_drewN ?_ _ | refine blk_drew ?_ | refine blk_alloc ?_ _)); exact BK150.out) hb); have n3_ := Aside0.mk (below_step (by repeat (first | (with_reducible first | exact HB.out | apply below_alloc | apply pw_below_drewN | apply below_drew1 | refine below_set ?_ GE144.out | refine below_set ?_ GE150.out) | exact HB.out)) hb); clear BK144; clear BK150; clear HB; have HO155 := n0_; have BK144 := n1_; have BK150 := n2_; have HB := n3_; clear n0_ n1_ n2_ n3_; clear hb ho74; obtain ⟨Ao75, co75, eo75⟩ := Kd.R_slice HO155.out; subst eo75; have p156 : 0 ≤ ((ji21) : Int) := of_decide_eq_true (by first | (with_reducible assumption) | assumption); have q156 : (ji21) < (y153.length : Int) := of_decide_eq_true (by first | (with_reducible assumption) | assumption); obtain ⟨ad156, e156, hx156_0⟩ := Kd.at_string (Kd.R_reads' HO155.out).2.2 (ji21) p156 q156; cases e156; replace p156 := eq_true p156; replace q156 := eq_true q156) | ((with_reducible refine gate_callee (f := 41) rfl ?_); refine goesL_ (some 66) rfl rfl Tryd.func41 (by kernel_rfl) rfl #[.string (t151 ++ (rdOf ByteArray.empty y153 (ji21)))] rfl (by (try simp only [List.map_toArray, List.map_cons, List.map_nil]); first | done | (simp only [hji21]; rfl) | rfl | (simp only [List.length_drop, List.length_take]; rfl)) ?_; (with_reducible refine (atform_Parse.calls kj5 (t151 ++ (rdOf ByteArray.empty y153 (ji21))) t157 t158 t159 _ ?sideG A25.out).mono ?_); (case sideG => first | exact GP_below HG.out (by repeat (first | (with_reducible first | exact HB.out | apply below_alloc | apply pw_below_drewN | apply below_drew1 | refine below_set ?_ GE144.out | refine below_set ?_ GE150.out | refine below_set ?_ GE160.out) | exact HB.out)) | repeat (first | exact HG.out | refine GP_alloc ?_ _ | refine GP_drewN ?_ _ | refine GP_drew ?_)); rintro e w76 ⟨rfl, hb⟩; refine ⟨_, rfl, ?_⟩; have n0_ := Aside0.mk (Kd.R_below (by (with_reducible repeat (first | apply Kd.R_alloc | apply Kd.R_drewN | apply Kd.R_drew)); exact HO155.out) hb); have n1_ := Aside0.mk (blk_below (g := gb144) (o := .cells #[.int .i64 (Int.tmod a0 345601), .int .i64 1] 57 (0, 0)) (by (with_reducible repeat (first | refine blk_drewN ?_ _ | refine blk_drew ?_ | refine blk_alloc ?_ _)); exact BK144.out) hb); have n2_ := Aside0.mk (blk_below (g := gb150) (o := .cells #[.int .i64 t147, .int .i64 t148] 57 (0, 0)) (by (with_reducible repeat (first | refine blk_drewN ?_ _ | refine blk_drew ?_ | refine blk_alloc ?_ _)); exact BK150.out) hb); have n3_ := Aside0.mk (below_step (by repeat (first | (with_reducible first | exact HB.out | apply below_alloc | apply pw_below_drewN | apply below_drew1 | refine below_set ?_ GE144.out | refine below_set ?_ GE150.out) | exact HB.out)) hb); clear HO155; clear BK144; clear BK150; clear HB; have HO155 := n0_; have BK144 := n1_; have BK150 := n2_; have HB := n3_; clear n0_ n1_ n2_ n3_; (try clear hb); (try clear hb2); (try clear hk); (try clear hi)) | ((with_reducible refine gate_dst (N := 16) rfl ?_); refine box_event ?hg (N := 16) ?hd (cs := #[.int .i64 0, .int .i64 0]) (t := 57) ?hr ?_; (case hd => rfl); (case hg => rfl); (case hr => first | (go_simp; done) | (go_simp; rfl)); intro gb160 hg w77 hbox hb; have n0_ := Aside0.mk (Kd.R_below (by (with_reducible repeat (first | apply Kd.R_alloc | apply Kd.R_drewN | apply Kd.R_drew)); exact HO155.out) hb); have n1_ := Aside0.mk (blk_below (g := gb144) (o := .cells #[.int .i64 (Int.tmod a0 345601), .int .i64 1] 57 (0, 0)) (by (with_reducible repeat (first | refine blk_drewN ?_ _ | refine blk_drew ?_ | refine blk_alloc ?_ _)); exact BK144.out) hb); have n2_ := Aside0.mk (blk_below (g := gb150) (o := .cells #[.int .i64 t147, .int .i64 t148] 57 (0, 0)) (by (with_reducible repeat (first | refine blk_drewN ?_ _ | refine blk_drew ?_ | refine blk_alloc ?_ _)); exact BK150.out) hb); have n3_ := Aside0.mk (below_step (by repeat (first | (with_reducible first | exact HB.out | apply below_alloc | apply pw_below_drewN | apply below_drew1 | refine below_set ?_ GE144.out | refine below_set ?_ GE150.out) | exact HB.out)) hb); have n4_ := Aside0.mk (hbox); have n5_ := Aside0.mk ((by rw [hg]; exact (below_size (by repeat (first | (with_reducible first | exact HB.out | apply below_alloc | apply pw_below_drewN | apply below_drew1 | refine below_set ?_ GE144.out | refine below_set ?_ GE150.out) | exact HB.out))) : w.heap.size ≤ gb160)); have n6_ := Aside0.mk ((by rw [hg]; exact (below_size (by repeat (first | (with_reducible first | exact HB.out | apply below_alloc | apply pw_below_drewN | apply below_drew1 | refine below_set ?_ GE144.out | refine below_set ?_ GE150.out) | exact HB.out))) : w.heap.size ≤ gb160)); have n7_ := Aside0.mk ((by rw [hg]; exact Nat.ne_of_lt (blk_lt (g := gb144) (o := .cells #[.int .i64 (Int.tmod a0 345601), .int .i64 1] 57 (0, 0)) (by (with_reducible repeat (first | refine blk_drewN ?_ _ | refine blk_drew ?_ | refine blk_alloc ?_ _)); exact BK144.out)) : gb144 ≠ gb160)); have n8_ := Aside0.mk ((by rw [hg]; exact Nat.ne_of_gt (blk_lt (g := gb144) (o := .cells #[.int .i64 (Int.tmod a0 345601), .int .i64 1] 57 (0, 0)) (by (with_reducible repeat (first | refine blk_drewN ?_ _ | refine blk_drew ?_ | refine blk_alloc ?_ _)); exact BK144.out)) : gb160 ≠ gb144)); have n9_ := Aside0.mk ((by rw [hg]; exact Nat.ne_of_lt (blk_lt (g := gb150) (o := .cells #[.int .i64 t147, .int .i64 t148] 57 (0, 0)) (by (with_reducible repeat (first | refine blk_drewN ?_ _ | refine blk_drew ?_ | refine blk_alloc ?_ _)); exact BK150.out)) : gb150 ≠ gb160)); have n10_ := Aside0.mk ((by rw [hg]; exact Nat.ne_of_gt (blk_lt (g := gb150) (o := .cells #[.int .i64 t147, .int .i64 t148] 57 (0, 0)) (by (with_reducible repeat (first | refine blk_drewN ?_ _ | refine blk_drew ?_ | refine blk_alloc ?_ _)); exact BK150.out)) : gb160 ≠ gb150)); clear HO155; clear BK144; clear BK150; clear HB; have HO155 := n0_; have BK144 := n1_; have BK150 := n2_; have HB := n3_; have BK160 := n4_; have GW160 := n5_; have GE160 := n6_; have NB144_160 := n7_; have NB160_144 := n8_; have NB150_160 := n9_; have NB160_150 := n10_; clear n0_ n1_ n2_ n3_ n4_ n5_ n6_ n7_ n8_ n9_ n10_; clear hb hbox hg; have hnb78 := NB160_144.out; have hnc78 := NB144_160.out; have hnb79 := NB160_150.out; have hnc79 := NB150_160.out; have hcz80_0 : w77.cell? ⟨gb160, 0, none⟩ = some (.int .i64 0) := (blk_cell BK160.out 0).trans rfl; have hcz80_1 : w77.cell? ⟨gb160, 1, none⟩ = some (.int .i64 0) := (blk_cell BK160.out 1).trans rfl; have hfz80_0 := blk_frozen BK160.out 0; have hfz80_1 := blk_frozen BK160.out 1; have hcz81_0 : w77.cell? ⟨gb144, 0, none⟩ = some (.int .i64 (Int.tmod a0 345601)) := (blk_cell BK144.out 0).trans rfl; have hcz81_1 : w77.cell? ⟨gb144, 1, none⟩ = some (.int .i64 1) := (blk_cell BK144.out 1).trans rfl; have hfz81_0 := blk_frozen BK144.out 0; have hfz81_1 := blk_frozen BK144.out 1) | (go_at_call 49; (with_reducible refine (solsticelaw08_wakes.calls kj5  t163 htrue _ ?sideG A69.out).mono ?_); (case sideG => first | exact GP_below HG.out (by repeat (first | (with_reducible first | exact HB.out | apply below_alloc | apply pw_below_drewN | apply below_drew1 | refine below_set ?_ GE144.out | refine below_set ?_ GE150.out | refine below_set ?_ GE160.out) | exact HB.out)) | repeat (first | exact HG.out | refine GP_alloc ?_ _ | refine GP_drewN ?_ _ | refine GP_drew ?_)); rintro e w82 ⟨rfl, hb⟩; have n0_ := Aside0.mk (Kd.R_below (by (with_reducible repeat (first | apply Kd.R_alloc | apply Kd.R_drewN | apply Kd.R_drew)); exact (Kd.R_mono (Kd.R_far (p := ⟨gb160, 1, none⟩) (Kd.R_far (p := ⟨gb160, 0, none⟩) (Kd.R_types HO155.out BK160.out (by decide)) (fun _ hk => hk.2) (.int .i64 t157)) (fun _ hk => hk.2) (.int .i64 t158)) (fun _ h_ => h_.1))) hb); have n1_ := Aside0.mk (blk_below (g := gb144) (o := .cells #[.int .i64 (Int.tmod a0 345601), .int .i64 1] 57 (0, 0)) (by (with_reducible repeat (first | refine blk_drewN ?_ _ | refine blk_drew ?_ | refine blk_alloc ?_ _)); refine blk_far ?_ NB144_160.out _; (with_reducible repeat (first | refine blk_drewN ?_ _ | refine blk_drew ?_ | refine blk_alloc ?_ _)); refine blk_far ?_ NB144_160.out _; (with_reducible repeat (first | refine blk_drewN ?_ _ | refine blk_drew ?_ | refine blk_alloc ?_ _)); exact BK144.out) hb); have n2_ := Aside0.mk (blk_below (g := gb150) (o := .cells #[.int .i64 t147, .int .i64 t148] 57 (0, 0)) (by (with_reducible repeat (first | refine blk_drewN ?_ _ | refine blk_drew ?_ | refine blk_alloc ?_ _)); refine blk_far ?_ NB150_160.out _; (with_reducible repeat (first | refine blk_drewN ?_ _ | refine blk_drew ?_ | refine blk_alloc ?_ _)); refine blk_far ?_ NB150_160.out _; (with_reducible repeat (first | refine blk_drewN ?_ _ | refine blk_drew ?_ | refine blk_alloc ?_ _)); exact BK150.out) hb); have n3_ := Aside0.mk (blk_below (g := gb160) (o := .cells #[.int .i64 t157, .int .i64 t158] 57 (0, 0)) (by (with_reducible repeat (first | refine blk_drewN ?_ _ | refine blk_drew ?_ | refine blk_alloc ?_ _)); refine blk_put (cs := #[.int .i64 t157, .int .i64 0]) ?_ 1 _ rfl; (with_reducible repeat (first | refine blk_drewN ?_ _ | refine blk_drew ?_ | refine blk_alloc ?_ _)); refine blk_put (cs := #[.int .i64 0, .int .i64 0]) ?_ 0 _ rfl; (with_reducible repeat (first | refine blk_drewN ?_ _ | refine blk_drew ?_ | refine blk_alloc ?_ _)); exact BK160.out) hb); have n4_ := Aside0.mk (below_step (by repeat (first | (with_reducible first | exact HB.out | apply below_alloc | apply pw_below_drewN | apply below_drew1 | refine below_set ?_ GE144.out | refine below_set ?_ GE150.out | refine below_set ?_ GE160.out) | exact HB.out)) hb); clear HO155; clear BK144; clear BK150; clear BK160; clear HB; have HO155 := n0_; have BK144 := n1_; have BK150 := n2_; have BK160 := n3_; have HB := n4_; clear n0_ n1_ n2_ n3_ n4_; (try clear hb); (try clear hb2); (try clear hk); (try clear hi)))
              go_ret
              exact ⟨by first | rfl | (simp [errW_none, errW_some] <;> rfl) | (simp only [← hji21]; first | rfl | (simp [errW_none, errW_some] <;> rfl)) | (simp [*, errW_none, errW_some] <;> rfl), by repeat (first | (with_reducible first | exact HB.out | apply below_alloc | apply pw_below_drewN | apply below_drew1 | refine below_set ?_ GE144.out | refine below_set ?_ GE150.out | refine below_set ?_ GE160.out) | exact HB.out)⟩
             ·rw [if_neg c68] at H
              have c68b0 : (t158 == 3) = false := beq_eq_false_iff_ne.mpr c68
              have c68b1 : (t158 != 3) = true := bne_iff_ne.mpr c68
              obtain rfl := Option.some.inj H
              cases htrue
            ·rw [if_neg c67] at H
             have c67b0 : (t157 == (Int.tmod a0 345601)) = false := beq_eq_false_iff_ne.mpr c67
             have c67b1 : (t157 != (Int.tmod a0 345601)) = true := bne_iff_ne.mpr c67
             obtain rfl := Option.some.inj H
             cases htrue
           ·rw [if_neg c66] at H
            have c66b0 : (t159 == 0) = false := beq_eq_false_iff_ne.mpr c66
            have c66b1 : (t159 != 0) = true := bne_iff_ne.mpr c66
            obtain rfl := Option.some.inj H
            cases htrue
          ·rw [if_neg c65] at H
           have c65b0 : (t152 == 0) = false := beq_eq_false_iff_ne.mpr c65
           have c65b1 : (t152 != 0) = true := bne_iff_ne.mpr c65
           obtain rfl := Option.some.inj H
           cases htrue
         ·rw [if_neg c64] at H
          have c64b0 : decide (4 < (ji21)) = false := decide_eq_false c64
          clear c64
          by_cases c83 : t152 = 0
          ·rw [if_pos c83] at H
           have c83b0 : (t152 == 0) = true := beq_iff_eq.mpr c83
           have c83b1 : (t152 != 0) = false := bne_eq_false_iff_eq.mpr c83
           clear c83
           by_cases c84 : t159 = 0
           ·rw [if_pos c84] at H
            have c84b0 : (t159 == 0) = true := beq_iff_eq.mpr c84
            have c84b1 : (t159 != 0) = false := bne_eq_false_iff_eq.mpr c84
            clear c84
            by_cases c85 : t157 = (Int.tmod a0 345601)
            ·rw [if_pos c85] at H
             have c85b0 : (t157 == (Int.tmod a0 345601)) = true := beq_iff_eq.mpr c85
             have c85b1 : (t157 != (Int.tmod a0 345601)) = false := bne_eq_false_iff_eq.mpr c85
             clear c85
             by_cases c86 : t158 = 1
             ·rw [if_pos c86] at H
              have c86b0 : (t158 == 1) = true := beq_iff_eq.mpr c86
              have c86b1 : (t158 != 1) = false := bne_eq_false_iff_eq.mpr c86
              clear c86
              replace H := Option.bind_eq_some_iff.mp H
              obtain ⟨t164, A870, H⟩ := H
              replace H : (some t164) = some r := H
              have A87 := Aside0.mk A870
              clear A870
              obtain rfl := Option.some.inj H
              have hnb88 := NB144_150.out
              have hnc88 := NB150_144.out
              have hcz89_0 : wc.cell? ⟨gb144, 0, none⟩ = some (.int .i64 (Int.tmod a0 345601)) := (blk_cell BK144.out 0).trans rfl
              have hcz89_1 : wc.cell? ⟨gb144, 1, none⟩ = some (.int .i64 (wrap64 (1 + (wrap64 (Int.tmod (IntKind.u64.wrap (a1)) 3))))) := (blk_cell BK144.out 1).trans rfl
              have hfz89_0 := blk_frozen BK144.out 0
              have hfz89_1 := blk_frozen BK144.out 1
              go_wp2_with (first | ((with_reducible refine gate_callee (f := 42) rfl ?_); refine goesL_ (some 51) rfl rfl Tryd.func42 (by kernel_rfl) rfl #[.agg #[.int .i64 (Int.tmod a0 345601), .int .i64 1]] rfl (by (try simp only [List.map_toArray, List.map_cons, List.map_nil]); first | done | rfl | (simp only [List.length_drop, List.length_take]; rfl)) ?_; (with_reducible refine (atform_Text.calls kj5 (Int.tmod a0 345601) 1 t151 t152 _ ?sideG A20.out).mono ?_); (case sideG => first | exact GP_below HG.out (by repeat (first | (with_reducible first | exact HB.out | apply below_alloc | apply pw_below_drewN | apply below_drew1 | refine below_set ?_ GE144.out | refine below_set ?_ GE150.out | refine below_set ?_ GE160.out) | exact HB.out)) | repeat (first | exact HG.out | refine GP_alloc ?_ _ | refine GP_drewN ?_ _ | refine GP_drew ?_)); rintro e w90 ⟨rfl, hb⟩; refine ⟨_, rfl, ?_⟩; have n0_ := Aside0.mk (blk_below (g := gb144) (o := .cells #[.int .i64 (Int.tmod a0 345601), .int .i64 1] 57 (0, 0)) (by (with_reducible repeat (first | refine blk_drewN ?_ _ | refine blk_drew ?_ | refine blk_alloc ?_ _)); refine blk_put (cs := #[.int .i64 (Int.tmod a0 345601), .int .i64 (wrap64 (1 + (wrap64 (Int.tmod (IntKind.u64.wrap (a1)) 3))))]) ?_ 1 _ rfl; (with_reducible repeat (first | refine blk_drewN ?_ _ | refine blk_drew ?_ | refine blk_alloc ?_ _)); exact BK144.out) hb); have n1_ := Aside0.mk (blk_below (g := gb150) (o := .cells #[.int .i64 t147, .int .i64 t148] 57 (0, 0)) (by (with_reducible repeat (first | refine blk_drewN ?_ _ | refine blk_drew ?_ | refine blk_alloc ?_ _)); refine blk_far ?_ NB150_144.out _; (with_reducible repeat (first | refine blk_drewN ?_ _ | refine blk_drew ?_ | refine blk_alloc ?_ _)); exact BK150.out) hb); have n2_ := Aside0.mk (below_step (by repeat (first | (with_reducible first | exact HB.out | apply below_alloc | apply pw_below_drewN | apply below_drew1 | refine below_set ?_ GE144.out | refine below_set ?_ GE150.out) | exact HB.out)) hb); clear BK144; clear BK150; clear HB; have BK144 := n0_; have BK150 := n1_; have HB := n2_; clear n0_ n1_ n2_; (try clear hb); (try clear hb2); (try clear hk); (try clear hi)) | ((with_reducible refine gate_dst (N := 54) rfl ?_); refine Kd.R_lit Kd.string _ 9 ?hg (N := 54) ?hd (xs := ([(⟨#[]⟩ : ByteArray), (⟨#[119]⟩ : ByteArray), (⟨#[87]⟩ : ByteArray), (⟨#[115]⟩ : ByteArray), (⟨#[83]⟩ : ByteArray), (⟨#[117]⟩ : ByteArray), (⟨#[85]⟩ : ByteArray), (⟨#[103]⟩ : ByteArray), (⟨#[71]⟩ : ByteArray), (⟨#[122]⟩ : ByteArray), (⟨#[90]⟩ : ByteArray)] : List ByteArray)) (inner := [.string (⟨#[]⟩ : ByteArray), .string (⟨#[119]⟩ : ByteArray), .string (⟨#[87]⟩ : ByteArray), .string (⟨#[115]⟩ : ByteArray), .string (⟨#[83]⟩ : ByteArray), .string (⟨#[117]⟩ : ByteArray), .string (⟨#[85]⟩ : ByteArray), .string (⟨#[103]⟩ : ByteArray), .string (⟨#[71]⟩ : ByteArray), .string (⟨#[122]⟩ : ByteArray), .string (⟨#[90]⟩ : ByteArray)]) (ok := fun _ => True) (okp := fun _ => True) ?hr ?hp (fun _ hk => hk) trivial (Below.refl _ _) (Nat.le_refl _) (by simp) ?_; (case hd => rfl); (case hg => rfl); (case hr => exact lit5_0_ (fun _ => rfl) _); (case hp => exact (Reps.one (show Kd.M Kd.string _ _ _ (⟨#[]⟩ : ByteArray) [.string (⟨#[]⟩ : ByteArray)] from rfl) (Reps.one (show Kd.M Kd.string _ _ _ (⟨#[119]⟩ : ByteArray) [.string (⟨#[119]⟩ : ByteArray)] from rfl) (Reps.one (show Kd.M Kd.string _ _ _ (⟨#[87]⟩ : ByteArray) [.string (⟨#[87]⟩ : ByteArray)] from rfl) (Reps.one (show Kd.M Kd.string _ _ _ (⟨#[115]⟩ : ByteArray) [.string (⟨#[115]⟩ : ByteArray)] from rfl) (Reps.one (show Kd.M Kd.string _ _ _ (⟨#[83]⟩ : ByteArray) [.string (⟨#[83]⟩ : ByteArray)] from rfl) (Reps.one (show Kd.M Kd.string _ _ _ (⟨#[117]⟩ : ByteArray) [.string (⟨#[117]⟩ : ByteArray)] from rfl) (Reps.one (show Kd.M Kd.string _ _ _ (⟨#[85]⟩ : ByteArray) [.string (⟨#[85]⟩ : ByteArray)] from rfl) (Reps.one (show Kd.M Kd.string _ _ _ (⟨#[103]⟩ : ByteArray) [.string (⟨#[103]⟩ : ByteArray)] from rfl) (Reps.one (show Kd.M Kd.string _ _ _ (⟨#[71]⟩ : ByteArray) [.string (⟨#[71]⟩ : ByteArray)] from rfl) (Reps.one (show Kd.M Kd.string _ _ _ (⟨#[122]⟩ : ByteArray) [.string (⟨#[122]⟩ : ByteArray)] from rfl) (Reps.one (show Kd.M Kd.string _ _ _ (⟨#[90]⟩ : ByteArray) [.string (⟨#[90]⟩ : ByteArray)] from rfl) (Reps.none _ _))))))))))))); intro v154 w91 ho92 hb hg_ hnew_; clear hg_ hnew_; (first | rw [← Ny153.out] at ho92 | (simp only [Int.reduceToNat] at ho92; rw [← Ny153.out] at ho92)); have n0_ := Aside0.mk (Kd.R_lower ho92 (below_size (by repeat (first | (with_reducible first | exact HB.out | apply below_alloc | apply pw_below_drewN | apply below_drew1 | refine below_set ?_ GE144.out | refine below_set ?_ GE150.out) | exact HB.out)))); have n1_ := Aside0.mk (blk_below (g := gb144) (o := .cells #[.int .i64 (Int.tmod a0 345601), .int .i64 1] 57 (0, 0)) (by (with_reducible repeat (first | refine blk_drewN ?_ _ | refine blk_drew ?_ | refine blk_alloc ?_ _)); exact BK144.out) hb); have n2_ := Aside0.mk (blk_below (g := gb150) (o := .cells #[.int .i64 t147, .int .i64 t148] 57 (0, 0)) (by (with_reducible repeat (first | refine blk_drewN ?_ _ | refine blk_drew ?_ | refine blk_alloc ?_ _)); exact BK150.out) hb); have n3_ := Aside0.mk (below_step (by repeat (first | (with_reducible first | exact HB.out | apply below_alloc | apply pw_below_drewN | apply below_drew1 | refine below_set ?_ GE144.out | refine below_set ?_ GE150.out) | exact HB.out)) hb); clear BK144; clear BK150; clear HB; have HO155 := n0_; have BK144 := n1_; have BK150 := n2_; have HB := n3_; clear n0_ n1_ n2_ n3_; clear hb ho92; obtain ⟨Ao93, co93, eo93⟩ := Kd.R_slice HO155.out; subst eo93; have p156 : 0 ≤ ((ji21) : Int) := of_decide_eq_true (by first | (with_reducible assumption) | assumption); have q156 : (ji21) < (y153.length : Int) := of_decide_eq_true (by first | (with_reducible assumption) | assumption); obtain ⟨ad156, e156, hx156_0⟩ := Kd.at_string (Kd.R_reads' HO155.out).2.2 (ji21) p156 q156; cases e156; replace p156 := eq_true p156; replace q156 := eq_true q156) | ((with_reducible refine gate_callee (f := 41) rfl ?_); refine goesL_ (some 66) rfl rfl Tryd.func41 (by kernel_rfl) rfl #[.string (t151 ++ (rdOf ByteArray.empty y153 (ji21)))] rfl (by (try simp only [List.map_toArray, List.map_cons, List.map_nil]); first | done | (simp only [hji21]; rfl) | rfl | (simp only [List.length_drop, List.length_take]; rfl)) ?_; (with_reducible refine (atform_Parse.calls kj5 (t151 ++ (rdOf ByteArray.empty y153 (ji21))) t157 t158 t159 _ ?sideG A25.out).mono ?_); (case sideG => first | exact GP_below HG.out (by repeat (first | (with_reducible first | exact HB.out | apply below_alloc | apply pw_below_drewN | apply below_drew1 | refine below_set ?_ GE144.out | refine below_set ?_ GE150.out | refine below_set ?_ GE160.out) | exact HB.out)) | repeat (first | exact HG.out | refine GP_alloc ?_ _ | refine GP_drewN ?_ _ | refine GP_drew ?_)); rintro e w94 ⟨rfl, hb⟩; refine ⟨_, rfl, ?_⟩; have n0_ := Aside0.mk (Kd.R_below (by (with_reducible repeat (first | apply Kd.R_alloc | apply Kd.R_drewN | apply Kd.R_drew)); exact HO155.out) hb); have n1_ := Aside0.mk (blk_below (g := gb144) (o := .cells #[.int .i64 (Int.tmod a0 345601), .int .i64 1] 57 (0, 0)) (by (with_reducible repeat (first | refine blk_drewN ?_ _ | refine blk_drew ?_ | refine blk_alloc ?_ _)); exact BK144.out) hb); have n2_ := Aside0.mk (blk_below (g := gb150) (o := .cells #[.int .i64 t147, .int .i64 t148] 57 (0, 0)) (by (with_reducible repeat (first | refine blk_drewN ?_ _ | refine blk_drew ?_ | refine blk_alloc ?_ _)); exact BK150.out) hb); have n3_ := Aside0.mk (below_step (by repeat (first | (with_reducible first | exact HB.out | apply below_alloc | apply pw_below_drewN | apply below_drew1 | refine below_set ?_ GE144.out | refine below_set ?_ GE150.out) | exact HB.out)) hb); clear HO155; clear BK144; clear BK150; clear HB; have HO155 := n0_; have BK144 := n1_; have BK150 := n2_; have HB := n3_; clear n0_ n1_ n2_ n3_; (try clear hb); (try clear hb2); (try clear hk); (try clear hi)) | ((with_reducible refine gate_dst (N := 16) rfl ?_); refine box_event ?hg (N := 16) ?hd (cs := #[.int .i64 0, .int .i64 0]) (t := 57) ?hr ?_; (case hd => rfl); (case hg => rfl); (case hr => first | (go_simp; done) | (go_simp; rfl)); intro gb160 hg w95 hbox hb; have n0_ := Aside0.mk (Kd.R_below (by (with_reducible repeat (first | apply Kd.R_alloc | apply Kd.R_drewN | apply Kd.R_drew)); exact HO155.out) hb); have n1_ := Aside0.mk (blk_below (g := gb144) (o := .cells #[.int .i64 (Int.tmod a0 345601), .int .i64 1] 57 (0, 0)) (by (with_reducible repeat (first | refine blk_drewN ?_ _ | refine blk_drew ?_ | refine blk_alloc ?_ _)); exact BK144.out) hb); have n2_ := Aside0.mk (blk_below (g := gb150) (o := .cells #[.int .i64 t147, .int .i64 t148] 57 (0, 0)) (by (with_reducible repeat (first | refine blk_drewN ?_ _ | refine blk_drew ?_ | refine blk_alloc ?_ _)); exact BK150.out) hb); have n3_ := Aside0.mk (below_step (by repeat (first | (with_reducible first | exact HB.out | apply below_alloc | apply pw_below_drewN | apply below_drew1 | refine below_set ?_ GE144.out | refine below_set ?_ GE150.out) | exact HB.out)) hb); have n4_ := Aside0.mk (hbox); have n5_ := Aside0.mk ((by rw [hg]; exact (below_size (by repeat (first | (with_reducible first | exact HB.out | apply below_alloc | apply pw_below_drewN | apply below_drew1 | refine below_set ?_ GE144.out | refine below_set ?_ GE150.out) | exact HB.out))) : w.heap.size ≤ gb160)); have n6_ := Aside0.mk ((by rw [hg]; exact (below_size (by repeat (first | (with_reducible first | exact HB.out | apply below_alloc | apply pw_below_drewN | apply below_drew1 | refine below_set ?_ GE144.out | refine below_set ?_ GE150.out) | exact HB.out))) : w.heap.size ≤ gb160)); have n7_ := Aside0.mk ((by rw [hg]; exact Nat.ne_of_lt (blk_lt (g := gb144) (o := .cells #[.int .i64 (Int.tmod a0 345601), .int .i64 1] 57 (0, 0)) (by (with_reducible repeat (first | refine blk_drewN ?_ _ | refine blk_drew ?_ | refine blk_alloc ?_ _)); exact BK144.out)) : gb144 ≠ gb160)); have n8_ := Aside0.mk ((by rw [hg]; exact Nat.ne_of_gt (blk_lt (g := gb144) (o := .cells #[.int .i64 (Int.tmod a0 345601), .int .i64 1] 57 (0, 0)) (by (with_reducible repeat (first | refine blk_drewN ?_ _ | refine blk_drew ?_ | refine blk_alloc ?_ _)); exact BK144.out)) : gb160 ≠ gb144)); have n9_ := Aside0.mk ((by rw [hg]; exact Nat.ne_of_lt (blk_lt (g := gb150) (o := .cells #[.int .i64 t147, .int .i64 t148] 57 (0, 0)) (by (with_reducible repeat (first | refine blk_drewN ?_ _ | refine blk_drew ?_ | refine blk_alloc ?_ _)); exact BK150.out)) : gb150 ≠ gb160)); have n10_ := Aside0.mk ((by rw [hg]; exact Nat.ne_of_gt (blk_lt (g := gb150) (o := .cells #[.int .i64 t147, .int .i64 t148] 57 (0, 0)) (by (with_reducible repeat (first | refine blk_drewN ?_ _ | refine blk_drew ?_ | refine blk_alloc ?_ _)); exact BK150.out)) : gb160 ≠ gb150)); clear HO155; clear BK144; clear BK150; clear HB; have HO155 := n0_; have BK144 := n1_; have BK150 := n2_; have HB := n3_; have BK160 := n4_; have GW160 := n5_; have GE160 := n6_; have NB144_160 := n7_; have NB160_144 := n8_; have NB150_160 := n9_; have NB160_150 := n10_; clear n0_ n1_ n2_ n3_ n4_ n5_ n6_ n7_ n8_ n9_ n10_; clear hb hbox hg; have hnb96 := NB160_144.out; have hnc96 := NB144_160.out; have hnb97 := NB160_150.out; have hnc97 := NB150_160.out; have hcz98_0 : w95.cell? ⟨gb160, 0, none⟩ = some (.int .i64 0) := (blk_cell BK160.out 0).trans rfl; have hcz98_1 : w95.cell? ⟨gb160, 1, none⟩ = some (.int .i64 0) := (blk_cell BK160.out 1).trans rfl; have hfz98_0 := blk_frozen BK160.out 0; have hfz98_1 := blk_frozen BK160.out 1; have hcz99_0 : w95.cell? ⟨gb144, 0, none⟩ = some (.int .i64 (Int.tmod a0 345601)) := (blk_cell BK144.out 0).trans rfl; have hcz99_1 : w95.cell? ⟨gb144, 1, none⟩ = some (.int .i64 1) := (blk_cell BK144.out 1).trans rfl; have hfz99_0 := blk_frozen BK144.out 0; have hfz99_1 := blk_frozen BK144.out 1) | (go_at_call 49; (with_reducible refine (solsticelaw08_wakes.calls kj5  t164 htrue _ ?sideG A87.out).mono ?_); (case sideG => first | exact GP_below HG.out (by repeat (first | (with_reducible first | exact HB.out | apply below_alloc | apply pw_below_drewN | apply below_drew1 | refine below_set ?_ GE144.out | refine below_set ?_ GE150.out | refine below_set ?_ GE160.out) | exact HB.out)) | repeat (first | exact HG.out | refine GP_alloc ?_ _ | refine GP_drewN ?_ _ | refine GP_drew ?_)); rintro e w100 ⟨rfl, hb⟩; have n0_ := Aside0.mk (Kd.R_below (by (with_reducible repeat (first | apply Kd.R_alloc | apply Kd.R_drewN | apply Kd.R_drew)); exact (Kd.R_mono (Kd.R_far (p := ⟨gb160, 1, none⟩) (Kd.R_far (p := ⟨gb160, 0, none⟩) (Kd.R_types HO155.out BK160.out (by decide)) (fun _ hk => hk.2) (.int .i64 t157)) (fun _ hk => hk.2) (.int .i64 t158)) (fun _ h_ => h_.1))) hb); have n1_ := Aside0.mk (blk_below (g := gb144) (o := .cells #[.int .i64 (Int.tmod a0 345601), .int .i64 1] 57 (0, 0)) (by (with_reducible repeat (first | refine blk_drewN ?_ _ | refine blk_drew ?_ | refine blk_alloc ?_ _)); refine blk_far ?_ NB144_160.out _; (with_reducible repeat (first | refine blk_drewN ?_ _ | refine blk_drew ?_ | refine blk_alloc ?_ _)); refine blk_far ?_ NB144_160.out _; (with_reducible repeat (first | refine blk_drewN ?_ _ | refine blk_drew ?_ | refine blk_alloc ?_ _)); exact BK144.out) hb); have n2_ := Aside0.mk (blk_below (g := gb150) (o := .cells #[.int .i64 t147, .int .i64 t148] 57 (0, 0)) (by (with_reducible repeat (first | refine blk_drewN ?_ _ | refine blk_drew ?_ | refine blk_alloc ?_ _)); refine blk_far ?_ NB150_160.out _; (with_reducible repeat (first | refine blk_drewN ?_ _ | refine blk_drew ?_ | refine blk_alloc ?_ _)); refine blk_far ?_ NB150_160.out _; (with_reducible repeat (first | refine blk_drewN ?_ _ | refine blk_drew ?_ | refine blk_alloc ?_ _)); exact BK150.out) hb); have n3_ := Aside0.mk (blk_below (g := gb160) (o := .cells #[.int .i64 t157, .int .i64 t158] 57 (0, 0)) (by (with_reducible repeat (first | refine blk_drewN ?_ _ | refine blk_drew ?_ | refine blk_alloc ?_ _)); refine blk_put (cs := #[.int .i64 t157, .int .i64 0]) ?_ 1 _ rfl; (with_reducible repeat (first | refine blk_drewN ?_ _ | refine blk_drew ?_ | refine blk_alloc ?_ _)); refine blk_put (cs := #[.int .i64 0, .int .i64 0]) ?_ 0 _ rfl; (with_reducible repeat (first | refine blk_drewN ?_ _ | refine blk_drew ?_ | refine blk_alloc ?_ _)); exact BK160.out) hb); have n4_ := Aside0.mk (below_step (by repeat (first | (with_reducible first | exact HB.out | apply below_alloc | apply pw_below_drewN | apply below_drew1 | refine below_set ?_ GE144.out | refine below_set ?_ GE150.out | refine below_set ?_ GE160.out) | exact HB.out)) hb); clear HO155; clear BK144; clear BK150; clear BK160; clear HB; have HO155 := n0_; have BK144 := n1_; have BK150 := n2_; have BK160 := n3_; have HB := n4_; clear n0_ n1_ n2_ n3_ n4_; (try clear hb); (try clear hb2); (try clear hk); (try clear hi)))
              go_ret
              exact ⟨by first | rfl | (simp [errW_none, errW_some] <;> rfl) | (simp only [← hji21]; first | rfl | (simp [errW_none, errW_some] <;> rfl)) | (simp [*, errW_none, errW_some] <;> rfl), by repeat (first | (with_reducible first | exact HB.out | apply below_alloc | apply pw_below_drewN | apply below_drew1 | refine below_set ?_ GE144.out | refine below_set ?_ GE150.out | refine below_set ?_ GE160.out) | exact HB.out)⟩
             ·rw [if_neg c86] at H
              have c86b0 : (t158 == 1) = false := beq_eq_false_iff_ne.mpr c86
              have c86b1 : (t158 != 1) = true := bne_iff_ne.mpr c86
              obtain rfl := Option.some.inj H
              cases htrue
            ·rw [if_neg c85] at H
             have c85b0 : (t157 == (Int.tmod a0 345601)) = false := beq_eq_false_iff_ne.mpr c85
             have c85b1 : (t157 != (Int.tmod a0 345601)) = true := bne_iff_ne.mpr c85
             obtain rfl := Option.some.inj H
             cases htrue
           ·rw [if_neg c84] at H
            have c84b0 : (t159 == 0) = false := beq_eq_false_iff_ne.mpr c84
            have c84b1 : (t159 != 0) = true := bne_iff_ne.mpr c84
            obtain rfl := Option.some.inj H
            cases htrue
          ·rw [if_neg c83] at H
           have c83b0 : (t152 == 0) = false := beq_eq_false_iff_ne.mpr c83
           have c83b1 : (t152 != 0) = true := bne_iff_ne.mpr c83
           obtain rfl := Option.some.inj H
           cases htrue
       ·rw [if_neg c24] at H
        exact absurd H (by simp)
      ·rw [if_neg c23] at H
       exact absurd H (by simp)
     ·rw [if_neg c22] at H
      exact absurd H (by simp)
def solsticelaw08_AtBack.Pure : Prop := ∀ (a0 : Int) (a1 : Int) (a2 : Int), (Lit.int .i64 a0).wf = true → (Lit.int .i64 a1).wf = true → (Lit.int .i64 a2).wf = true → ∃ k, solsticelaw08_AtBack.f k a0 a1 a2 = some true
def solsticeref01_Div.f (a0 : Int) (a1 : Int) : Option (Int × Int) := if a1 = 0 then (none) else (if (Int.tmod a0 a1) < 0 then (some (wrap64 ((wrap64 (Int.tdiv a0 a1)) - 1), wrap64 ((Int.tmod a0 a1) + a1))) else (some (wrap64 (Int.tdiv a0 a1), Int.tmod a0 a1)))
set_option maxHeartbeats 8000000 in
set_option maxRecDepth 100000 in
theorem solsticeref01_Div.calls (a0 : Int) (a1 : Int) (r1 : Int) (r2 : Int) (w : World) (h : solsticeref01_Div.f a0 a1 = some (r1, r2)) :
  Calls Tryd.prog 30 #[.int .i64 a0, .int .i64 a1] w fun e w' => e = .returned (.tuple #[.int .i64 r1, .int .i64 r2]) ∧ Drawn0 w w' := by
 have H : (if a1 = 0 then (none) else (if (Int.tmod a0 a1) < 0 then (some (wrap64 ((wrap64 (Int.tdiv a0 a1)) - 1), wrap64 ((Int.tmod a0 a1) + a1))) else (some (wrap64 (Int.tdiv a0 a1), Int.tmod a0 a1)))) = some (r1, r2) := h
 clear h
 by_cases c3 : a1 = 0
 ·rw [if_pos c3] at H
  exact absurd H (by simp)
 ·rw [if_neg c3] at H
  have c3b0 : (a1 == 0) = false := beq_eq_false_iff_ne.mpr c3
  have c3b1 : (a1 != 0) = true := bne_iff_ne.mpr c3
  by_cases c4 : (Int.tmod a0 a1) < 0
  ·rw [if_pos c4] at H
   have c4b0 : decide ((Int.tmod a0 a1) < 0) = true := decide_eq_true c4
   clear c4
   simp only [Option.some.injEq, Prod.mk.injEq] at H
   obtain ⟨rfl, rfl⟩ := H
   go_enter Tryd.func30, Tryd.ntmps30
   go_wp2
   repeat (go_quiet (fail); try go_wp2)
   go_ret2
   exact ⟨by first | rfl | (simp; done) | (simp [*]; done), by repeat (first | exact Drawn0.refl _ | apply Drawn0.step)⟩
  ·rw [if_neg c4] at H
   have c4b0 : decide ((Int.tmod a0 a1) < 0) = false := decide_eq_false c4
   clear c4
   simp only [Option.some.injEq, Prod.mk.injEq] at H
   obtain ⟨rfl, rfl⟩ := H
   go_enter Tryd.func30, Tryd.ntmps30
   go_wp2
   repeat (go_quiet (fail); try go_wp2)
   go_ret2
   exact ⟨by first | rfl | (simp; done) | (simp [*]; done), by repeat (first | exact Drawn0.refl _ | apply Drawn0.step)⟩
def clock_Split.f (a0 : Int) : Option (Int × Int) := if (Int.tmod a0 86400) < 0 then (some (wrap64 ((wrap64 (Int.tdiv a0 86400)) - 1), wrap64 ((Int.tmod a0 86400) + 86400))) else (some (wrap64 (Int.tdiv a0 86400), Int.tmod a0 86400))
set_option maxHeartbeats 8000000 in
set_option maxRecDepth 100000 in
theorem clock_Split.calls (a0 : Int) (r1 : Int) (r2 : Int) (w : World) (h : clock_Split.f a0 = some (r1, r2)) :
  Calls Tryd.prog 35 #[.int .i64 a0] w fun e w' => e = .returned (.tuple #[.int .i64 r1, .int .i64 r2]) ∧ Drawn0 w w' := by
 have H : (if (Int.tmod a0 86400) < 0 then (some (wrap64 ((wrap64 (Int.tdiv a0 86400)) - 1), wrap64 ((Int.tmod a0 86400) + 86400))) else (some (wrap64 (Int.tdiv a0 86400), Int.tmod a0 86400))) = some (r1, r2) := h
 clear h
 by_cases c2 : (Int.tmod a0 86400) < 0
 ·rw [if_pos c2] at H
  have c2b0 : decide ((Int.tmod a0 86400) < 0) = true := decide_eq_true c2
  clear c2
  simp only [Option.some.injEq, Prod.mk.injEq] at H
  obtain ⟨rfl, rfl⟩ := H
  go_enter Tryd.func35, Tryd.ntmps35
  go_wp2
  go_ret2
  exact ⟨by first | rfl | (simp; done) | (simp [*]; done), by repeat (first | exact Drawn0.refl _ | apply Drawn0.step)⟩
 ·rw [if_neg c2] at H
  have c2b0 : decide ((Int.tmod a0 86400) < 0) = false := decide_eq_false c2
  clear c2
  simp only [Option.some.injEq, Prod.mk.injEq] at H
  obtain ⟨rfl, rfl⟩ := H
  go_enter Tryd.func35, Tryd.ntmps35
  go_wp2
  go_ret2
  exact ⟨by first | rfl | (simp; done) | (simp [*]; done), by repeat (first | exact Drawn0.refl _ | apply Drawn0.step)⟩
def clock_Join.j0 : Nat → Int → Int → Bool → Option (Int × Bool)
 | 0, _, _, _ => none
 | k + 1, x7, x8, x28 => if x28 = true then (some (0, false)) else (if x8 > (wrap64 (Int.tdiv (wrap64 (4611686018427387904 - x7)) 86400)) then (some (0, false)) else (if x8 < (wrap64 (-(wrap64 (Int.tdiv (wrap64 (4611686018427387904 + x7)) 86400)))) then (some (0, false)) else (some (wrap64 ((wrap64 (x8 * 86400)) + x7), true))))
def clock_Join.f (k : Nat) (a0 : Int) (a1 : Int) : Option (Int × Bool) := (clock_Split.f a1).bind fun bt165 => (if ((decide (a0 ≥ 0)) == (decide (bt165.1 ≥ 0))) = true then (clock_Join.j0 k bt165.2 (wrap64 (a0 + bt165.1)) ((decide ((wrap64 (a0 + bt165.1)) ≥ 0)) != (decide (a0 ≥ 0)))) else (clock_Join.j0 k bt165.2 (wrap64 (a0 + bt165.1)) false))
theorem clock_Join.mono_l : ∀ k, (∀ y0 y1 y2, LeO (clock_Join.j0 k y0 y1 y2) (clock_Join.j0 (k + 1) y0 y1 y2))
 | 0 => fun _ _ _ r h => by simp [clock_Join.j0] at h
 | k + 1 => by
  have ih0 := clock_Join.mono_l k
  ·intro y0 y1 y2
   unfold clock_Join.j0
   repeat' first
   | (with_reducible exact ih0 _ _ _)
   | (with_reducible exact LeO.refl _)
   | (with_reducible exact LeO.none _)
   | (with_reducible refine LeO.ite ?_ ?_)
   | (with_reducible refine LeO.bind ?_ (fun _ => ?_))
   | exact ih0 _ _ _
   | exact LeO.none _
   | refine LeO.ite ?_ ?_
   | refine LeO.bind ?_ (fun _ => ?_)
theorem clock_Join.mono : ∀ a0 a1 k, LeO (clock_Join.f k a0 a1) (clock_Join.f (k + 1) a0 a1) := by
 intro a0 a1 k
 have ih0 := clock_Join.mono_l k
 unfold clock_Join.f
 repeat' first
   | (with_reducible exact ih0 _ _ _)
   | (with_reducible exact LeO.refl _)
   | (with_reducible exact LeO.none _)
   | (with_reducible refine LeO.ite ?_ ?_)
   | (with_reducible refine LeO.bind ?_ (fun _ => ?_))
   | exact ih0 _ _ _
   | exact LeO.none _
   | refine LeO.ite ?_ ?_
   | refine LeO.bind ?_ (fun _ => ?_)
set_option maxHeartbeats 8000000 in
set_option maxRecDepth 100000 in
theorem clock_Join.calls (k : Nat) (a0 : Int) (a1 : Int) (r1 : Int) (r2 : Bool) (w : World) (h : clock_Join.f k a0 a1 = some (r1, r2)) :
  Calls Tryd.prog 36 #[.int .i64 a0, .int .i64 a1] w fun e w' => e = .returned (.tuple #[.int .i64 r1, .bool r2]) ∧ Drawn0 w w' := by
 have H : ((clock_Split.f a1).bind fun bt165 => (if ((decide (a0 ≥ 0)) == (decide (bt165.1 ≥ 0))) = true then (clock_Join.j0 k bt165.2 (wrap64 (a0 + bt165.1)) ((decide ((wrap64 (a0 + bt165.1)) ≥ 0)) != (decide (a0 ≥ 0)))) else (clock_Join.j0 k bt165.2 (wrap64 (a0 + bt165.1)) false))) = some (r1, r2) := h
 clear h
 replace H := Option.bind_eq_some_iff.mp H
 obtain ⟨⟨t165, t166⟩, A30, H⟩ := H
 replace H : (if ((decide (a0 ≥ 0)) == (decide (t165 ≥ 0))) = true then (clock_Join.j0 k t166 (wrap64 (a0 + t165)) ((decide ((wrap64 (a0 + t165)) ≥ 0)) != (decide (a0 ≥ 0)))) else (clock_Join.j0 k t166 (wrap64 (a0 + t165)) false)) = some (r1, r2) := H
 have A3 := Aside0.mk A30
 clear A30
 have HC4 := Aside0.mk H
 clear H
 go_enter Tryd.func36, Tryd.ntmps36
 go_upto_region 3 with (first | ((with_reducible refine gate_callee (f := 35) rfl ?_); refine goesL_ (some 11) rfl rfl Tryd.func35 (by kernel_rfl) rfl #[.int .i64 a1] rfl (by (try simp only [List.map_toArray, List.map_cons, List.map_nil]); first | done | rfl | (simp only [List.length_drop, List.length_take]; rfl)) ?_; (with_reducible refine (clock_Split.calls a1 t165 t166 _ A3.out).mono ?_); rintro e w' ⟨rfl, ⟨nd, rfl⟩⟩; refine ⟨_, rfl, ?_⟩))
 (try simp only [Act.put, List.setIfInBounds_toArray, List.set_cons_zero, List.set_cons_succ])
 go_cut [28] (fun v28 wc => ∃ (kq : Nat) (x28_3 : Bool), v28 = .bool x28_3 ∧ Aside0 (clock_Join.j0 kq t166 (wrap64 (a0 + t165)) x28_3 = some (r1, r2)) ∧ Aside0 (kq ≤ k) ∧ Drawn0 w wc)
 case first =>
  have H := HC4.out
  clear HC4
  by_cases c5 : ((decide (a0 ≥ 0)) == (decide (t165 ≥ 0))) = true
  ·rw [if_pos c5] at H
   have c5b0 : ((decide (a0 ≥ 0)) == (decide (t165 ≥ 0))) = true := c5
   (try (have c5b1 : decide ((decide (a0 ≥ 0)) = (decide (t165 ≥ 0))) = true := by simpa using c5))
   (try (have c5b2 : ((decide (a0 ≥ 0)) == (decide (t165 ≥ 0))) = true := by simpa using c5))
   clear c5
   (first | rw [c5b0] | (simp only [i64_w, i32_w]; rw [c5b0]) | skip)
   have H' := Aside0.mk H
   clear H
   go_wp2
   go_meet
   case rel => exact ⟨_, (((decide ((wrap64 (a0 + t165)) ≥ 0)) != (decide (a0 ≥ 0)))), (by first | rfl | (simp; done) | (simp [*]; done)), H', ⟨by first | omega | exact Nat.le_refl _⟩, by repeat (first | exact Drawn0.refl _ | apply Drawn0.step)⟩
  ·rw [if_neg c5] at H
   have c5b0 : ((decide (a0 ≥ 0)) == (decide (t165 ≥ 0))) = false := by simpa using c5
   (try (have c5b1 : decide ((decide (a0 ≥ 0)) = (decide (t165 ≥ 0))) = false := by simpa using c5))
   (try (have c5b2 : ((decide (a0 ≥ 0)) == (decide (t165 ≥ 0))) = false := by simpa using c5))
   (try (have c5b3 : ¬ ((decide (a0 ≥ 0)) = (decide (t165 ≥ 0))) := by simpa using c5))
   clear c5
   (first | rw [c5b0] | (simp only [i64_w, i32_w]; rw [c5b0]) | skip)
   have H' := Aside0.mk H
   clear H
   go_wp2
   go_meet
   case rel => exact ⟨_, (false), (by first | rfl | (simp; done) | (simp [*]; done)), H', ⟨by first | omega | exact Nat.le_refl _⟩, by repeat (first | exact Drawn0.refl _ | apply Drawn0.step)⟩
 case rest =>
  clear HC4
  try clear p2
  try clear c3
  try clear c5
  try clear c5b0
  try clear c5b1
  try clear c5b2
  obtain ⟨kq, x28_3, rfl, HA, HJ3, ⟨mc3, rfl⟩⟩ := hcut
  cases kq with
  | zero => exact absurd HA.out (by simp [clock_Join.j0])
  | succ kj3 =>
   have H := HA.out
   clear HA
   simp only [clock_Join.j0] at H
   by_cases c6 : x28_3 = true
   ·subst c6
    have H1 : (some (0, false)) = some (r1, r2) := by rw [if_pos rfl] at H; exact H
    clear H
    have H := H1
    clear H1
    simp only [Option.some.injEq, Prod.mk.injEq] at H
    obtain ⟨rfl, rfl⟩ := H
    go_wp2
    go_ret2
    exact ⟨by first | rfl | (simp; done) | (simp [*]; done), by repeat (first | exact Drawn0.refl _ | apply Drawn0.step)⟩
   ·replace c6 := Bool.eq_false_iff.mpr c6
    subst c6
    have H1 : (if (wrap64 (a0 + t165)) > (wrap64 (Int.tdiv (wrap64 (4611686018427387904 - t166)) 86400)) then (some (0, false)) else (if (wrap64 (a0 + t165)) < (wrap64 (-(wrap64 (Int.tdiv (wrap64 (4611686018427387904 + t166)) 86400)))) then (some (0, false)) else (some (wrap64 ((wrap64 ((wrap64 (a0 + t165)) * 86400)) + t166), true)))) = some (r1, r2) := by rw [if_neg (show ¬ (false = true) by decide)] at H; exact H
    clear H
    have H := H1
    clear H1
    by_cases c7 : (wrap64 (a0 + t165)) > (wrap64 (Int.tdiv (wrap64 (4611686018427387904 - t166)) 86400))
    ·rw [if_pos c7] at H
     have c7b0 : decide ((wrap64 (Int.tdiv (wrap64 (4611686018427387904 - t166)) 86400)) < (wrap64 (a0 + t165))) = true := decide_eq_true c7
     clear c7
     simp only [Option.some.injEq, Prod.mk.injEq] at H
     obtain ⟨rfl, rfl⟩ := H
     go_wp2
     go_ret2
     exact ⟨by first | rfl | (simp; done) | (simp [*]; done), by repeat (first | exact Drawn0.refl _ | apply Drawn0.step)⟩
    ·rw [if_neg c7] at H
     have c7b0 : decide ((wrap64 (Int.tdiv (wrap64 (4611686018427387904 - t166)) 86400)) < (wrap64 (a0 + t165))) = false := decide_eq_false c7
     clear c7
     by_cases c8 : (wrap64 (a0 + t165)) < (wrap64 (-(wrap64 (Int.tdiv (wrap64 (4611686018427387904 + t166)) 86400))))
     ·rw [if_pos c8] at H
      have c8b0 : decide ((wrap64 (a0 + t165)) < (wrap64 (-(wrap64 (Int.tdiv (wrap64 (4611686018427387904 + t166)) 86400))))) = true := decide_eq_true c8
      clear c8
      simp only [Option.some.injEq, Prod.mk.injEq] at H
      obtain ⟨rfl, rfl⟩ := H
      go_wp2
      go_ret2
      exact ⟨by first | rfl | (simp; done) | (simp [*]; done), by repeat (first | exact Drawn0.refl _ | apply Drawn0.step)⟩
     ·rw [if_neg c8] at H
      have c8b0 : decide ((wrap64 (a0 + t165)) < (wrap64 (-(wrap64 (Int.tdiv (wrap64 (4611686018427387904 + t166)) 86400))))) = false := decide_eq_false c8
      clear c8
      simp only [Option.some.injEq, Prod.mk.injEq] at H
      obtain ⟨rfl, rfl⟩ := H
      go_wp2
      go_ret2
      exact ⟨by first | rfl | (simp; done) | (simp [*]; done), by repeat (first | exact Drawn0.refl _ | apply Drawn0.step)⟩
def solsticeref01_digit.f (a0 : Int) : Option (Bool) := if a0 ≥ 48 then (some (decide (a0 ≤ 57))) else (some false)
set_option maxHeartbeats 8000000 in
set_option maxRecDepth 100000 in
theorem solsticeref01_digit.calls (a0 : Int) (r : Bool) (w : World) (h : solsticeref01_digit.f a0 = some r) :
  Calls Tryd.prog 63 #[.int .u8 a0] w fun e w' => e = .returned (.bool r) ∧ Drawn0 w w' := by
 have H : (if a0 ≥ 48 then (some (decide (a0 ≤ 57))) else (some false)) = some r := h
 clear h
 by_cases c2 : a0 ≥ 48
 ·rw [if_pos c2] at H
  have c2b0 : decide (48 ≤ a0) = true := decide_eq_true c2
  clear c2
  obtain rfl := Option.some.inj H
  go_enter Tryd.func63, Tryd.ntmps63
  go_wp2
  go_ret
  exact ⟨by first | rfl | (simp; done) | (simp [*]; done), by repeat (first | exact Drawn0.refl _ | apply Drawn0.step)⟩
 ·rw [if_neg c2] at H
  have c2b0 : decide (48 ≤ a0) = false := decide_eq_false c2
  clear c2
  obtain rfl := Option.some.inj H
  go_enter Tryd.func63, Tryd.ntmps63
  go_wp2
  go_ret
  exact ⟨by first | rfl | (simp; done) | (simp [*]; done), by repeat (first | exact Drawn0.refl _ | apply Drawn0.step)⟩
mutual
def solsticeref01_Digits.j0 : Nat → ByteArray → Bool → Option (Bool)
 | 0, _, _ => none
 | k + 1, x0, x17 => if x17 = true then (some false) else (solsticeref01_Digits.l0 k x0 0)
def solsticeref01_Digits.l0 : Nat → ByteArray → Int → Option (Bool)
 | 0, _, _ => none
 | k + 1, x0, x7 => if x7 < (x0.size : Int) then (if 0 ≤ x7 then ((solsticeref01_digit.f (bt x0 x7)).bind fun t167 => (if t167 = true then (solsticeref01_Digits.l0 k x0 (wrap64 (x7 + 1))) else (some false))) else (none)) else (some true)
end
def solsticeref01_Digits.f (k : Nat) (a0 : ByteArray) (a1 : Int) (a2 : Int) : Option (Bool) := if (a0.size : Int) < a1 then (solsticeref01_Digits.j0 k a0 true) else (solsticeref01_Digits.j0 k a0 (decide ((a0.size : Int) > a2)))
theorem solsticeref01_Digits.mono_l : ∀ k, (∀ y0 y1, LeO (solsticeref01_Digits.j0 k y0 y1) (solsticeref01_Digits.j0 (k + 1) y0 y1)) ∧ (∀ y0 y1, LeO (solsticeref01_Digits.l0 k y0 y1) (solsticeref01_Digits.l0 (k + 1) y0 y1))
 | 0 => ⟨fun _ _ r h => by simp [solsticeref01_Digits.j0] at h, fun _ _ r h => by simp [solsticeref01_Digits.l0] at h⟩
 | k + 1 => by
  obtain ⟨ih0, ih1⟩ := solsticeref01_Digits.mono_l k
  refine ⟨?_, ?_⟩
  ·intro y0 y1
   unfold solsticeref01_Digits.j0
   repeat' first
   | (with_reducible exact ih0 _ _)
   | (with_reducible exact ih1 _ _)
   | (with_reducible exact LeO.refl _)
   | (with_reducible exact LeO.none _)
   | (with_reducible refine LeO.ite ?_ ?_)
   | (with_reducible refine LeO.bind ?_ (fun _ => ?_))
   | exact ih0 _ _
   | exact ih1 _ _
   | exact LeO.none _
   | refine LeO.ite ?_ ?_
   | refine LeO.bind ?_ (fun _ => ?_)
  ·intro y0 y1
   unfold solsticeref01_Digits.l0
   repeat' first
   | (with_reducible exact ih0 _ _)
   | (with_reducible exact ih1 _ _)
   | (with_reducible exact LeO.refl _)
   | (with_reducible exact LeO.none _)
   | (with_reducible refine LeO.ite ?_ ?_)
   | (with_reducible refine LeO.bind ?_ (fun _ => ?_))
   | exact ih0 _ _
   | exact ih1 _ _
   | exact LeO.none _
   | refine LeO.ite ?_ ?_
   | refine LeO.bind ?_ (fun _ => ?_)
theorem solsticeref01_Digits.mono : ∀ a0 a1 a2 k, LeO (solsticeref01_Digits.f k a0 a1 a2) (solsticeref01_Digits.f (k + 1) a0 a1 a2) := by
 intro a0 a1 a2 k
 obtain ⟨ih0, ih1⟩ := solsticeref01_Digits.mono_l k
 unfold solsticeref01_Digits.f
 repeat' first
   | (with_reducible exact ih0 _ _)
   | (with_reducible exact ih1 _ _)
   | (with_reducible exact LeO.refl _)
   | (with_reducible exact LeO.none _)
   | (with_reducible refine LeO.ite ?_ ?_)
   | (with_reducible refine LeO.bind ?_ (fun _ => ?_))
   | exact ih0 _ _
   | exact ih1 _ _
   | exact LeO.none _
   | refine LeO.ite ?_ ?_
   | refine LeO.bind ?_ (fun _ => ?_)
set_option maxHeartbeats 8000000 in
set_option maxRecDepth 100000 in
theorem solsticeref01_Digits.calls (k : Nat) (a0 : ByteArray) (a1 : Int) (a2 : Int) (r : Bool) (w : World) (h : solsticeref01_Digits.f k a0 a1 a2 = some r) :
  Calls Tryd.prog 31 #[.string a0, .int .i64 a1, .int .i64 a2] w fun e w' => e = .returned (.bool r) ∧ Drawn0 w w' := by
 have H : (if (a0.size : Int) < a1 then (solsticeref01_Digits.j0 k a0 true) else (solsticeref01_Digits.j0 k a0 (decide ((a0.size : Int) > a2)))) = some r := h
 clear h
 have HC4 := Aside0.mk H
 clear H
 go_enter Tryd.func31, Tryd.ntmps31
 go_upto_region 1 with (fail)
 go_cut [17] (fun v17 wc => ∃ (kq : Nat) (x17_3 : Bool), v17 = .bool x17_3 ∧ Aside0 (solsticeref01_Digits.j0 kq a0 x17_3 = some r) ∧ Aside0 (kq ≤ k) ∧ Drawn0 w wc)
 case first =>
  have H := HC4.out
  clear HC4
  by_cases c5 : (a0.size : Int) < a1
  ·rw [if_pos c5] at H
   have c5b0 : decide ((a0.size : Int) < a1) = true := decide_eq_true c5
   clear c5
   (first | rw [c5b0] | (simp only [i64_w, i32_w]; rw [c5b0]) | skip)
   have H' := Aside0.mk H
   clear H
   go_wp2
   go_meet
   case rel => exact ⟨_, (true), (by first | rfl | (simp; done) | (simp [*]; done)), H', ⟨by first | omega | exact Nat.le_refl _⟩, by repeat (first | exact Drawn0.refl _ | apply Drawn0.step)⟩
  ·rw [if_neg c5] at H
   have c5b0 : decide ((a0.size : Int) < a1) = false := decide_eq_false c5
   clear c5
   (first | rw [c5b0] | (simp only [i64_w, i32_w]; rw [c5b0]) | skip)
   have H' := Aside0.mk H
   clear H
   go_wp2
   go_meet
   case rel => exact ⟨_, (decide ((a0.size : Int) > a2)), (by first | rfl | (simp; done) | (simp [*]; done)), H', ⟨by first | omega | exact Nat.le_refl _⟩, by repeat (first | exact Drawn0.refl _ | apply Drawn0.step)⟩
 case rest =>
  as_aux_lemma =>
   clear HC4
   try clear p2
   try clear c3
   try clear c5
   try clear c5b0
   obtain ⟨kq, x17_3, rfl, HA, HJ3, ⟨mc3, rfl⟩⟩ := hcut
   cases kq with
   | zero => exact absurd HA.out (by simp [solsticeref01_Digits.j0])
   | succ kj3 =>
    have H := HA.out
    clear HA
    simp only [solsticeref01_Digits.j0] at H
    by_cases c6 : x17_3 = true
    ·subst c6
     have H1 : (some false) = some r := by rw [if_pos rfl] at H; exact H
     clear H
     have H := H1
     clear H1
     obtain rfl := Option.some.inj H
     go_wp2
     go_ret
     exact ⟨by first | rfl | (simp; done) | (simp [*]; done), by repeat (first | exact Drawn0.refl _ | apply Drawn0.step)⟩
    ·replace c6 := Bool.eq_false_iff.mpr c6
     subst c6
     have H1 : (solsticeref01_Digits.l0 kj3 a0 0) = some r := by rw [if_neg (show ¬ (false = true) by decide)] at H; exact H
     clear H
     have H := H1
     clear H1
     have H' := Aside0.mk H
     clear H
     go_wp2
     go_loopg [7] kj3 (fun kq v7 w' => ∃ (x7_2 : Int), v7 = .int .i64 x7_2 ∧ Aside0 (solsticeref01_Digits.l0 kq a0 x7_2 = some r) ∧ Aside0 (kq ≤ kj3) ∧ Drawn0 w w')
     case atStart => exact ⟨(0), (by first | rfl | (simp; done) | (simp [*]; done)), H', ⟨Nat.le_refl _⟩, by repeat (first | exact Drawn0.refl _ | apply Drawn0.step)⟩
     case round =>
      clear H'
      try clear p2
      try clear c3
      try clear c5
      try clear c5b0
      try clear c6
      try clear p2
      obtain ⟨x7_2, rfl, HA, HK2, ⟨m2, rfl⟩⟩ := hrel
      cases gk with
      | zero => exact absurd HA.out (by simp [solsticeref01_Digits.l0])
      | succ k2 =>
       have H := HA.out
       clear HA
       simp only [solsticeref01_Digits.l0] at H
       by_cases c7 : x7_2 < (a0.size : Int)
       ·rw [if_pos c7] at H
        have c7b0 : decide (x7_2 < (a0.size : Int)) = true := decide_eq_true c7
        clear c7
        by_cases c8 : 0 ≤ x7_2
        ·rw [if_pos c8] at H
         have c8b0 : decide (0 ≤ x7_2) = true := decide_eq_true c8
         clear c8
         replace H := Option.bind_eq_some_iff.mp H
         obtain ⟨t167, A100, H⟩ := H
         replace H : (if t167 = true then (solsticeref01_Digits.l0 k2 a0 (wrap64 (x7_2 + 1))) else (some false)) = some r := H
         have A10 := Aside0.mk A100
         clear A100
         by_cases c11 : t167 = true
         ·subst c11
          have H1 : (solsticeref01_Digits.l0 k2 a0 (wrap64 (x7_2 + 1))) = some r := by rw [if_pos rfl] at H; exact H
          clear H
          have H := H1
          clear H1
          have H' := Aside0.mk H
          clear H
          have p9 : 0 ≤ (x7_2 : Int) := of_decide_eq_true (by first | (with_reducible assumption) | assumption)
          have q9 : x7_2 < (a0.size : Int) := of_decide_eq_true (by first | (with_reducible assumption) | assumption)
          have hx9 := bt_at a0 x7_2
          replace p9 := eq_true p9
          replace q9 := eq_true q9
          go_wp2_with (first | ((with_reducible refine gate_callee (f := 63) rfl ?_); refine goesL_ (some 27) rfl rfl Tryd.func63 (by kernel_rfl) rfl #[.int .u8 (bt a0 x7_2)] rfl (by (try simp only [List.map_toArray, List.map_cons, List.map_nil]); first | done | rfl | (simp only [List.length_drop, List.length_take]; rfl)) ?_; (with_reducible refine (solsticeref01_digit.calls (bt a0 x7_2) true _ A10.out).mono ?_); rintro e w' ⟨rfl, ⟨nd, rfl⟩⟩; refine ⟨_, rfl, ?_⟩))
          go_roundg k2
          case measure => have := HJ3.out; have := HK2.out; omega
          case rel => exact ⟨(wrap64 (x7_2 + 1)), (by first | rfl | (simp; done) | (simp [*]; done)), H', ⟨by have := HJ3.out; have := HK2.out; omega⟩, by repeat (first | exact Drawn0.refl _ | apply Drawn0.step)⟩
         ·replace c11 := Bool.eq_false_iff.mpr c11
          subst c11
          have H1 : (some false) = some r := by rw [if_neg (show ¬ (false = true) by decide)] at H; exact H
          clear H
          have H := H1
          clear H1
          obtain rfl := Option.some.inj H
          have p9 : 0 ≤ (x7_2 : Int) := of_decide_eq_true (by first | (with_reducible assumption) | assumption)
          have q9 : x7_2 < (a0.size : Int) := of_decide_eq_true (by first | (with_reducible assumption) | assumption)
          have hx9 := bt_at a0 x7_2
          replace p9 := eq_true p9
          replace q9 := eq_true q9
          go_wp2_with (first | ((with_reducible refine gate_callee (f := 63) rfl ?_); refine goesL_ (some 27) rfl rfl Tryd.func63 (by kernel_rfl) rfl #[.int .u8 (bt a0 x7_2)] rfl (by (try simp only [List.map_toArray, List.map_cons, List.map_nil]); first | done | rfl | (simp only [List.length_drop, List.length_take]; rfl)) ?_; (with_reducible refine (solsticeref01_digit.calls (bt a0 x7_2) false _ A10.out).mono ?_); rintro e w' ⟨rfl, ⟨nd, rfl⟩⟩; refine ⟨_, rfl, ?_⟩))
          go_ret
          exact ⟨by first | rfl | (simp; done) | (simp [*]; done), by repeat (first | exact Drawn0.refl _ | apply Drawn0.step)⟩
        ·rw [if_neg c8] at H
         exact absurd H (by simp)
       ·rw [if_neg c7] at H
        have c7b0 : decide (x7_2 < (a0.size : Int)) = false := decide_eq_false c7
        clear c7
        obtain rfl := Option.some.inj H
        go_wp2
        go_ret
        exact ⟨by first | rfl | (simp; done) | (simp [*]; done), by repeat (first | exact Drawn0.refl _ | apply Drawn0.step)⟩
end Go.Proofs.YtlfohcjajmebjaaDoor.PClk