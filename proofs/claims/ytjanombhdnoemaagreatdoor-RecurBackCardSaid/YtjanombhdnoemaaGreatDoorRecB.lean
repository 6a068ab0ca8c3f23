-- A text of the kit's tools for this claim, its remarks left out.
import Derived.Test.YtjanombhdnoemaaGreatDoorRecA
import Derived.Test.YtjanombhdnoemaaGreatDoorPRecx7
namespace Go.Proofs.YtjanombhdnoemaaGreatDoor.PRec
open Go.RowKit Go.Proofs.YtjanombhdnoemaaGreatDoorW.PrintWords Go.Proofs.YtjanombhdnoemaaGreatDoorW.PrintLast Go.Proofs.YtjanombhdnoemaaGreatDoorW.PrintMore Go.Proofs.YtjanombhdnoemaaGreatDoor.Base
attribute [local go_sem] max2_int min2_int max_two min_two max_three min_three max_four min_four
set_option linter.unusedVariables false
set_option linter.unusedSimpArgs false
def recur_widx.l0 : Nat → List ByteArray → ByteArray → Int → Option (Int)
 | 0, _, _, _ => none
 | k + 1, x0, x1, x2 => if x2 < (x0.length : Int) then (if 0 ≤ x2 then ((line_Alike.f k (rdOf ByteArray.empty x0 x2) x1).bind fun t1 => (if t1 = true then (some x2) else (recur_widx.l0 k x0 x1 (wrap64 (x2 + 1))))) else (none)) else (some (-1))
theorem recur_widx.mono_l : ∀ k, (∀ y0 y1 y2, LeO (recur_widx.l0 k y0 y1 y2) (recur_widx.l0 (k + 1) y0 y1 y2))
  | 0 => fun _ _ _ r h => by simp [recur_widx.l0] at h
  | k + 1 => by
    have ih0 := recur_widx.mono_l k
    intro y0 y1 y2
    unfold recur_widx.l0
    repeat' first | (with_reducible first | exact ih0 _ _ _ | exact line_Alike.mono _ _ _ | exact LeO.refl _ | exact LeO.none _ | refine LeO.ite ?_ ?_ | refine LeO.bind ?_ (fun _ => ?_))
def recur_word.f (k : Nat) (l0 : List ByteArray) (a1 : ByteArray) : Option (Int × Bool) := (recur_widx.l0 k l0 a1 0).bind fun t2 => (some (mx t2 0, decide (t2 ≥ 0)))
theorem recur_word.mono : ∀ a0 a1 k, LeO (recur_word.f k a0 a1) (recur_word.f (k + 1) a0 a1) := by
  intro a0 a1 k
  unfold recur_word.f
  exact LeO.bind (recur_widx.mono_l k _ _ _) (fun _ => LeO.refl _)
set_option maxHeartbeats 8000000 in
set_option maxRecDepth 100000 in
theorem recur_word1.calls (k : Nat) (v s : ByteArray) (g : Nat) (r : Bool) (w : World) (hs : w.cell? ⟨g, 0, none⟩ = some (.string s)) (h : line_Alike.f k v s = some r) :
  Calls Tryz.prog 105 #[.string v, .pointer (some ⟨g, 0, none⟩)] w fun e w' => e = .returned (.bool r) ∧ Below w.heap.size w w' := by
  have A1 := Aside0.mk h
  clear h
  go_enter Tryz.func105, Tryz.ntmps105
  go_wp2_with (first | (go_at_call 69; (with_reducible refine (line_Alike.calls k v s r _ A1.out).mono ?_); rintro e w' ⟨rfl, ⟨nd, rfl⟩⟩))
  go_ret
  exact ⟨by rfl, pw_below_drewN (Below.refl _ _) _⟩
set_option maxHeartbeats 8000000 in
set_option maxRecDepth 100000 in
theorem recur_widx.calls (k : Nat) (A0 : Option Addr) (c0 : Nat) (l0 : List ByteArray) (s : ByteArray) (g : Nat) (r : Int) (w : World) (hr0 : Kd.C Kd.string w A0 l0.length l0) (hc0 : l0.length ≤ c0) (hs : w.cell? ⟨g, 0, none⟩ = some (.string s)) (h : recur_widx.l0 k l0 s 0 = some r) :
  Calls Tryz.prog 104 #[.slice A0 l0.length c0, .func (.func 105) #[] #[.pointer (some ⟨g, 0, none⟩)]] w fun e w' => e = .returned (.int .i64 r) ∧ Below w.heap.size w w' := by
  have HR0 := Aside0.mk hr0
  have HC0 := Aside0.mk hc0
  have HS := Aside0.mk hs
  have H' := Aside0.mk h
  clear hr0 hc0 hs h
  go_enter Tryz.func104, Tryz.ntmps104
  go_wp2
  go_loopg [8] k (fun kq v8 w' => ∃ (i : Int), v8 = .int .i64 i ∧ Aside0 (recur_widx.l0 kq l0 s i = some r) ∧ Aside0 (kq ≤ k) ∧ Aside0 (Below w.heap.size w w'))
  case atStart => exact ⟨0, by rfl, H', ⟨Nat.le_refl _⟩, ⟨Below.refl _ _⟩⟩
  case round =>
    clear H'
    obtain ⟨i, rfl, HA, HK1, HB⟩ := hrel
    cases gk with
    | zero => exact absurd HA.out (by simp [recur_widx.l0])
    | succ k1 =>
      have H := HA.out
      clear HA
      simp only [recur_widx.l0] at H
      by_cases c4 : i < (l0.length : Int)
      rotate_left
      · rw [if_neg c4] at H
        have c4b0 : decide (i < (l0.length : Int)) = false := decide_eq_false c4
        clear c4
        obtain rfl := Option.some.inj H
        go_wp2
        go_ret
        exact ⟨by rfl, HB.out⟩
      · rw [if_pos c4] at H
        have c4b0 : decide (i < (l0.length : Int)) = true := decide_eq_true c4
        by_cases c5 : 0 ≤ i
        rotate_left
        · rw [if_neg c5] at H; cases H
        · rw [if_pos c5] at H
          have c5b1 : (0 ≤ i) = True := eq_true c5
          have c4b1 : (i < (l0.length : Int)) = True := eq_true c4
          obtain ⟨ad, e0, hx⟩ := Kd.at_string HR0.out i c5 c4
          cases e0
          replace hx := (HB.out.cell (World.block_lt_of_cell? w _ hx)).trans hx
          have HS1 := Aside0.mk ((HB.out.cell (World.block_lt_of_cell? w _ HS.out)).trans HS.out)
          clear c5 c4
          obtain ⟨t, ht, H⟩ := Option.bind_eq_some_iff.1 H
          have HT := Aside0.mk ht
          clear ht
          by_cases c6 : t = true
          · rw [if_pos c6] at H
            subst c6
            obtain rfl := Option.some.inj H
            go_wp2_with (first | (go_at_call 105; (with_reducible refine (recur_word1.calls k1 _ s g true _ HS1.out HT.out).mono ?_); rintro e w2 ⟨rfl, hb2⟩; have HB2 := Aside0.mk (below_then HB.out HB.out.size hb2); clear hb2))
            go_ret
            exact ⟨by rfl, HB2.out⟩
          · rw [if_neg c6] at H
            replace c6 := Bool.eq_false_iff.mpr c6
            subst c6
            have H' := Aside0.mk H
            clear H
            go_wp2_with (first | (go_at_call 105; (with_reducible refine (recur_word1.calls k1 _ s g false _ HS1.out HT.out).mono ?_); rintro e w2 ⟨rfl, hb2⟩; have HB2 := Aside0.mk (below_then HB.out HB.out.size hb2); clear hb2))
            go_roundg k1
            case measure => have := HK1.out; omega
            case rel => exact ⟨wrap64 (i + 1), by rfl, H', ⟨by have := HK1.out; omega⟩, HB2⟩
set_option maxHeartbeats 8000000 in
set_option maxRecDepth 100000 in
theorem recur_word.calls (k : Nat) (A0 : Option Addr) (c0 : Nat) (l0 : List ByteArray) (a1 : ByteArray) (r1 : Int) (r2 : Bool) (w : World) (hr0 : Kd.C Kd.string w A0 l0.length l0) (hc0 : l0.length ≤ c0) (h : recur_word.f k l0 a1 = some (r1, r2)) :
  Calls Tryz.prog 71 #[.slice A0 l0.length c0, .string a1] w fun e w' => e = .returned (.tuple #[.int .i64 r1, .bool r2]) ∧ Below w.heap.size w w' := by
  unfold recur_word.f at h
  obtain ⟨t, ht, h⟩ := Option.bind_eq_some_iff.1 h
  obtain ⟨rfl, rfl⟩ := Prod.mk.inj (Option.some.inj h)
  have HT := Aside0.mk ht
  have HR0 := Aside0.mk hr0
  have HC0 := Aside0.mk hc0
  clear h ht hr0 hc0
  have hub : Tryz.prog.underlying 9 = _ := Tryz.underlying9
  go_enter Tryz.func71, Tryz.ntmps71
  go_wp2_with (first | ((with_reducible refine gate_dst (N := 3) rfl ?_); refine box_event ?hg (N := 3) ?hd (cs := #[.string a1]) (t := 9) ?hr ?_; (case hd => rfl); (case hg => rfl); (case hr => first | (go_simp; done) | (go_simp; rfl)); intro gb hg w3 hbox hb; have HB := Aside0.mk hb; have Z0 := Aside0.mk ((blk_cell hbox 0).trans rfl : w3.cell? ⟨gb, 0, none⟩ = some (.string a1)); clear hb hbox hg) | (go_at_call 104; (with_reducible refine (recur_widx.calls k _ _ l0 a1 _ t _ (Kd.C_below HR0.out HB.out) HC0.out Z0.out HT.out).mono ?_); rintro e w2 ⟨rfl, hb2⟩; have HB2 := Aside0.mk (below_then HB.out HB.out.size hb2); clear hb2))
  all_goals go_ret2
  · exact ⟨by rw [show mx t 0 = 0 from if_pos ‹t < 0›]; rfl, HB2.out⟩
  · exact ⟨by rw [show mx t 0 = t from if_neg (Int.not_lt.mpr ‹0 ≤ t›)]; rfl, HB2.out⟩
def wrD (nb : Bool) (d : S38) : Bool := if d.f1 < 0 then true else if d.f1 > 6 then true else if d.f0 < -53 then true else if d.f0 > 53 then true else if d.f0 = 0 then false else !nb
set_option maxHeartbeats 8000000 in
set_option maxRecDepth 100000 in
theorem recur_days1.calls (nb : Bool) (d : S38) (g : Nat) (w : World) (hs : w.cell? ⟨g, 0, none⟩ = some (.bool nb)) :
  Calls Tryz.prog 86 #[.agg #[.int .i64 d.f0, .int .i64 d.f1], .pointer (some ⟨g, 0, none⟩)] w fun e w' => e = .returned (.bool (wrD nb d)) ∧ Below w.heap.size w w' := by
  have HS := Aside0.mk hs
  have hu38 := Tryz.underlying38
  clear hs
  obtain ⟨d0, d1⟩ := d
  go_enter Tryz.func86, Tryz.ntmps86
  unfold wrD
  dsimp only
  by_cases c0 : d1 < 0
  · rw [if_pos c0]
    have c0b0 : decide (d1 < 0) = true := decide_eq_true c0
    clear c0
    go_wp2_with (first | ((with_reducible refine gate_dst (N := 2) rfl ?_); refine box_event ?hg (N := 2) ?hd (cs := #[.int .i64 d0, .int .i64 d1]) (t := 38) ?hr ?_; (case hd => rfl); (case hg => rfl); (case hr => first | (go_simp; done) | (go_simp; rfl)); intro gb hg w3 hbox hb; have HB := Aside0.mk hb; have Z0 : w3.cell? ⟨gb, 0, none⟩ = some (.int .i64 d0) := (blk_cell hbox 0).trans rfl; have Z1 : w3.cell? ⟨gb, 1, none⟩ = some (.int .i64 d1) := (blk_cell hbox 1).trans rfl; have Z2 : w3.cell? ⟨g, 0, none⟩ = some (.bool nb) := (hb.cell (World.block_lt_of_cell? w _ HS.out)).trans HS.out; clear hb hbox hg))
    go_ret
    exact ⟨by first | rfl | (simp; done), HB.out⟩
  · rw [if_neg c0]
    have c0b0 : decide (d1 < 0) = false := decide_eq_false c0
    clear c0
    by_cases c1 : d1 > 6
    · rw [if_pos c1]
      have c1b0 : decide (6 < d1) = true := decide_eq_true c1
      clear c1
      go_wp2_with (first | ((with_reducible refine gate_dst (N := 2) rfl ?_); refine box_event ?hg (N := 2) ?hd (cs := #[.int .i64 d0, .int .i64 d1]) (t := 38) ?hr ?_; (case hd => rfl); (case hg => rfl); (case hr => first | (go_simp; done) | (go_simp; rfl)); intro gb hg w3 hbox hb; have HB := Aside0.mk hb; have Z0 : w3.cell? ⟨gb, 0, none⟩ = some (.int .i64 d0) := (blk_cell hbox 0).trans rfl; have Z1 : w3.cell? ⟨gb, 1, none⟩ = some (.int .i64 d1) := (blk_cell hbox 1).trans rfl; have Z2 : w3.cell? ⟨g, 0, none⟩ = some (.bool nb) := (hb.cell (World.block_lt_of_cell? w _ HS.out)).trans HS.out; clear hb hbox hg))
      go_ret
      exact ⟨by first | rfl | (simp; done), HB.out⟩
    · rw [if_neg c1]
      have c1b0 : decide (6 < d1) = false := decide_eq_false c1
      clear c1
      by_cases c2 : d0 < (-53)
      · rw [if_pos c2]
        have c2b0 : decide (d0 < (-53)) = true := decide_eq_true c2
        clear c2
        go_wp2_with (first | ((with_reducible refine gate_dst (N := 2) rfl ?_); refine box_event ?hg (N := 2) ?hd (cs := #[.int .i64 d0, .int .i64 d1]) (t := 38) ?hr ?_; (case hd => rfl); (case hg => rfl); (case hr => first | (go_simp; done) | (go_simp; rfl)); intro gb hg w3 hbox hb; have HB := Aside0.mk hb; have Z0 : w3.cell? ⟨gb, 0, none⟩ = some (.int .i64 d0) := (blk_cell hbox 0).trans rfl; have Z1 : w3.cell? ⟨gb, 1, none⟩ = some (.int .i64 d1) := (blk_cell hbox 1).trans rfl; have Z2 : w3.cell? ⟨g, 0, none⟩ = some (.bool nb) := (hb.cell (World.block_lt_of_cell? w _ HS.out)).trans HS.out; clear hb hbox hg))
        go_ret
        exact ⟨by first | rfl | (simp; done), HB.out⟩
      · rw [if_neg c2]
        have c2b0 : decide (d0 < (-53)) = false := decide_eq_false c2
        clear c2
        by_cases c3 : d0 > 53
        · rw [if_pos c3]
          have c3b0 : decide (53 < d0) = true := decide_eq_true c3
          clear c3
          go_wp2_with (first | ((with_reducible refine gate_dst (N := 2) rfl ?_); refine box_event ?hg (N := 2) ?hd (cs := #[.int .i64 d0, .int .i64 d1]) (t := 38) ?hr ?_; (case hd => rfl); (case hg => rfl); (case hr => first | (go_simp; done) | (go_simp; rfl)); intro gb hg w3 hbox hb; have HB := Aside0.mk hb; have Z0 : w3.cell? ⟨gb, 0, none⟩ = some (.int .i64 d0) := (blk_cell hbox 0).trans rfl; have Z1 : w3.cell? ⟨gb, 1, none⟩ = some (.int .i64 d1) := (blk_cell hbox 1).trans rfl; have Z2 : w3.cell? ⟨g, 0, none⟩ = some (.bool nb) := (hb.cell (World.block_lt_of_cell? w _ HS.out)).trans HS.out; clear hb hbox hg))
          go_ret
          exact ⟨by first | rfl | (simp; done), HB.out⟩
        · rw [if_neg c3]
          have c3b0 : decide (53 < d0) = false := decide_eq_false c3
          clear c3
          by_cases c4 : d0 = 0
          · rw [if_pos c4]
            have c4b0 : (d0 == 0) = true := beq_iff_eq.mpr c4
            have c4b1 : (d0 != 0) = false := bne_eq_false_iff_eq.mpr c4
            clear c4
            go_wp2_with (first | ((with_reducible refine gate_dst (N := 2) rfl ?_); refine box_event ?hg (N := 2) ?hd (cs := #[.int .i64 d0, .int .i64 d1]) (t := 38) ?hr ?_; (case hd => rfl); (case hg => rfl); (case hr => first | (go_simp; done) | (go_simp; rfl)); intro gb hg w3 hbox hb; have HB := Aside0.mk hb; have Z0 : w3.cell? ⟨gb, 0, none⟩ = some (.int .i64 d0) := (blk_cell hbox 0).trans rfl; have Z1 : w3.cell? ⟨gb, 1, none⟩ = some (.int .i64 d1) := (blk_cell hbox 1).trans rfl; have Z2 : w3.cell? ⟨g, 0, none⟩ = some (.bool nb) := (hb.cell (World.block_lt_of_cell? w _ HS.out)).trans HS.out; clear hb hbox hg))
            go_ret
            exact ⟨by first | rfl | (simp; done), HB.out⟩
          · rw [if_neg c4]
            have c4b0 : (d0 == 0) = false := beq_eq_false_iff_ne.mpr c4
            have c4b1 : (d0 != 0) = true := bne_iff_ne.mpr c4
            clear c4
            go_wp2_with (first | ((with_reducible refine gate_dst (N := 2) rfl ?_); refine box_event ?hg (N := 2) ?hd (cs := #[.int .i64 d0, .int .i64 d1]) (t := 38) ?hr ?_; (case hd => rfl); (case hg => rfl); (case hr => first | (go_simp; done) | (go_simp; rfl)); intro gb hg w3 hbox hb; have HB := Aside0.mk hb; have Z0 : w3.cell? ⟨gb, 0, none⟩ = some (.int .i64 d0) := (blk_cell hbox 0).trans rfl; have Z1 : w3.cell? ⟨gb, 1, none⟩ = some (.int .i64 d1) := (blk_cell hbox 1).trans rfl; have Z2 : w3.cell? ⟨g, 0, none⟩ = some (.bool nb) := (hb.cell (World.block_lt_of_cell? w _ HS.out)).trans HS.out; clear hb hbox hg))
            go_ret
            exact ⟨by first | rfl | (simp; done), HB.out⟩
set_option maxHeartbeats 8000000 in
set_option maxRecDepth 100000 in
theorem recur_didx.calls (nb : Bool) (A0 : Option Addr) (c0 : Nat) (l0 : List S38) (g : Nat) (w : World) (hr0 : Kd.C k38 w A0 l0.length l0) (hc0 : l0.length ≤ c0) (hs : w.cell? ⟨g, 0, none⟩ = some (.bool nb)) :
  Calls Tryz.prog 115 #[.slice A0 l0.length c0, .func (.func 86) #[] #[.pointer (some ⟨g, 0, none⟩)]] w fun e w' => ∃ r : Int, e = .returned (.int .i64 r) ∧ decide (0 ≤ r) = l0.any (wrD nb) ∧ Below w.heap.size w w' := by
  have HR0 := Aside0.mk hr0
  have HC0 := Aside0.mk hc0
  have HS := Aside0.mk hs
  have hmx := Aside0.mk (Kd.C_max hr0)
  clear hr0 hc0 hs
  go_enter Tryz.func115, Tryz.ntmps115
  go_wp2
  go_loopg [8] (l0.length + 1) (fun kq v8 w' => ∃ (i : Int), v8 = .int .i64 i ∧ Aside0 (0 ≤ i ∧ i + kq = l0.length + 1) ∧ Aside0 ((l0.take i.toNat).any (wrD nb) = false) ∧ Aside0 (Below w.heap.size w w'))
  case atStart => exact ⟨0, by rfl, ⟨by omega⟩, ⟨by simp⟩, ⟨Below.refl _ _⟩⟩
  case round =>
    obtain ⟨i, rfl, HA, HF, HB⟩ := hrel
    have hA := HA.out
    by_cases c4 : i.toNat < l0.length
    rotate_left
    · have c4b0 : decide (i < (l0.length : Int)) = false := decide_eq_false (by omega)
      have hall : l0.any (wrD nb) = false := by have := HF.out; rwa [List.take_of_length_le (by omega)] at this
      clear c4 hA
      go_wp2
      go_ret
      exact ⟨-1, by rfl, by rw [hall]; rfl, HB.out⟩
    · have c4b0 : decide (i < (l0.length : Int)) = true := decide_eq_true (by omega)
      have c5b1 : (0 ≤ i) = True := eq_true (by omega)
      have c4b1 : (i < (l0.length : Int)) = True := eq_true (by omega)
      obtain ⟨ad, e0, hx0, hx1⟩ := at_T38 HR0.out i (by omega) (by omega)
      cases e0
      replace hx0 := (HB.out.cell (World.block_lt_of_cell? w _ hx0)).trans hx0
      replace hx1 := (HB.out.cell (World.block_lt_of_cell? w _ hx1)).trans hx1
      have HS1 := Aside0.mk ((HB.out.cell (World.block_lt_of_cell? w _ HS.out)).trans HS.out)
      have e1 : rd_T38 l0 i = l0[i.toNat] := by unfold rd_T38; rw [List.getD_eq_getElem?_getD, List.getElem?_eq_getElem c4]; rfl
      have C4 := Aside0.mk c4
      by_cases c6 : wrD nb (rd_T38 l0 i) = true
      · have hany : l0.any (wrD nb) = true := List.any_eq_true.2 ⟨l0[i.toNat], List.getElem_mem c4, by rw [← e1]; exact c6⟩
        have HY := Aside0.mk hany
        have C6 := Aside0.mk c6
        clear c4 e1 hany c6 hA
        go_wp2_with (first | (go_at_call 86; (with_reducible refine (recur_days1.calls nb (rd_T38 l0 i) g _ HS1.out).mono ?_); rintro e w2 ⟨rfl, hb2⟩; rw [C6.out]; have HB2 := Aside0.mk (below_then HB.out HB.out.size hb2); clear hb2))
        go_ret
        exact ⟨i, by rfl, by rw [HY.out]; exact decide_eq_true (by have := HA.out; omega), HB2.out⟩
      · replace c6 := Bool.eq_false_iff.mpr c6
        have hstep : (l0.take (i + 1).toNat).any (wrD nb) = false := by
          rw [show (i + 1).toNat = i.toNat + 1 by omega, List.take_add_one, List.getElem?_eq_getElem c4, List.any_append, HF.out, Bool.false_or]
          simpa [← e1] using c6
        have HY := Aside0.mk hstep
        have C6 := Aside0.mk c6
        clear c4 e1 hstep c6 hA
        go_wp2_with (first | (go_at_call 86; (with_reducible refine (recur_days1.calls nb (rd_T38 l0 i) g _ HS1.out).mono ?_); rintro e w2 ⟨rfl, hb2⟩; rw [C6.out]; have HB2 := Aside0.mk (below_then HB.out HB.out.size hb2); clear hb2))
        go_roundg (gk - 1)
        case measure => have := HA.out; have := C4.out; omega
        case rel => exact ⟨i + 1, by rw [show wrap64 (i + 1) = i + 1 by have := HA.out; have := C4.out; have := hmx.out; unfold wrap64; omega], ⟨by have := HA.out; have := C4.out; omega⟩, HY, HB2⟩
set_option maxHeartbeats 8000000 in
set_option maxRecDepth 100000 in
theorem recur_dhas.calls (nb : Bool) (A0 : Option Addr) (c0 : Nat) (l0 : List S38) (g : Nat) (w : World) (hr0 : Kd.C k38 w A0 l0.length l0) (hc0 : l0.length ≤ c0) (hs : w.cell? ⟨g, 0, none⟩ = some (.bool nb)) :
  Calls Tryz.prog 87 #[.slice A0 l0.length c0, .func (.func 86) #[] #[.pointer (some ⟨g, 0, none⟩)]] w fun e w' => e = .returned (.bool (l0.any (wrD nb))) ∧ Below w.heap.size w w' := by
  have HR0 := Aside0.mk hr0
  have HC0 := Aside0.mk hc0
  have HS := Aside0.mk hs
  clear hr0 hc0 hs
  go_enter Tryz.func87, Tryz.ntmps87
  go_wp2_with (first | (go_at_call 115; (with_reducible refine (recur_didx.calls nb _ _ l0 g _ HR0.out HC0.out HS.out).mono ?_); rintro e w2 ⟨r, rfl, hr, hb2⟩; have HR := Aside0.mk hr; have HB2 := Aside0.mk hb2; clear hb2 hr))
  go_ret
  exact ⟨by rw [← HR.out]; rfl, HB2.out⟩
end Go.Proofs.YtjanombhdnoemaaGreatDoor.PRec
