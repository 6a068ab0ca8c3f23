-- A text of the kit's tools for this claim, its remarks left out.
import Derived.Test.YtjanombhdnoemaaGreatDoorRecD
import Derived.Test.YtjanombhdnoemaaGreatDoorRecB
import Derived.Test.YtjanombhdnoemaaGreatDoorPRecx7
import Derived.Test.YtjanombhdnoemaaGreatDoorPRecx8
import Derived.Test.YtjanombhdnoemaaGreatDoorPRecx12
import Derived.Test.YtjanombhdnoemaaGreatDoorPRecx11
import Derived.Test.YtjanombhdnoemaaGreatDoorPRecx5
namespace Go.Proofs.YtjanombhdnoemaaGreatDoor.PRec
open Go.RowKit Go.Proofs.YtjanombhdnoemaaGreatDoorW.PrintWords Go.Proofs.YtjanombhdnoemaaGreatDoorW.PrintLast Go.Proofs.YtjanombhdnoemaaGreatDoorW.PrintMore Go.Proofs.YtjanombhdnoemaaGreatDoor.Base
attribute [local go_sem] max2_int min2_int max_two min_two max_three min_three max_four min_four
set_option linter.unusedVariables false
set_option linter.unusedSimpArgs false
inductive Upd where
  | no
  | lst (c : Nat) (l : List Int)
  | num (c : Nat) (n : Int)
  | til (t : Int) (b : Bool)
  | dys (l : List S38)
def ptZ : ByteArray × Nat × Bool := ((⟨#[]⟩ : ByteArray), 0, false)
def ptL : List (ByteArray × Nat × Bool) := [((⟨#[66, 89, 77, 79, 78, 84, 72]⟩ : ByteArray), 13, false), ((⟨#[66, 89, 87, 69, 69, 75, 78, 79]⟩ : ByteArray), 12, true), ((⟨#[66, 89, 89, 69, 65, 82, 68, 65, 89]⟩ : ByteArray), 11, true), ((⟨#[66, 89, 77, 79, 78, 84, 72, 68, 65, 89]⟩ : ByteArray), 10, true), ((⟨#[66, 89, 72, 79, 85, 82]⟩ : ByteArray), 8, false), ((⟨#[66, 89, 77, 73, 78, 85, 84, 69]⟩ : ByteArray), 7, false), ((⟨#[66, 89, 83, 69, 67, 79, 78, 68]⟩ : ByteArray), 6, false), ((⟨#[66, 89, 83, 69, 84, 80, 79, 83]⟩ : ByteArray), 14, true)]
def pt_rest (k : Nat) (a1 a2 : ByteArray) : Option (Bool × Upd) := (recur_word.f k ([(⟨#[70, 82, 69, 81]⟩ : ByteArray), (⟨#[73, 78, 84, 69, 82, 86, 65, 76]⟩ : ByteArray), (⟨#[67, 79, 85, 78, 84]⟩ : ByteArray), (⟨#[85, 78, 84, 73, 76]⟩ : ByteArray), (⟨#[66, 89, 68, 65, 89]⟩ : ByteArray), (⟨#[87, 75, 83, 84]⟩ : ByteArray)] : List ByteArray) a1).bind fun t => if t.2 = true then (if t.1 = 0 then (recur_freqs.f.bind fun fr => (recur_word.f k fr a2).bind fun t2 => some (t2.2, .num 0 (wrap64 (1 + t2.1)))) else (if t.1 = 1 then ((recur_number.f k a2 false).bind fun t2 => some (t2.2, .num 1 t2.1)) else (if t.1 = 2 then ((recur_number.f k a2 false).bind fun t2 => some (if t2.2 = true then decide (t2.1 > 0) else false, .num 2 t2.1)) else (if t.1 = 3 then ((value_ParseTime.f k a2).bind fun t2 => some (t2.2.2 == 0, .til t2.1 t2.2.1)) else (if t.1 = 4 then ((recur_byDays.f k a2).bind fun t2 => some (t2.2, .dys t2.1)) else (recur_weekdays.f.bind fun wd => (recur_word.f k wd a2).bind fun t2 => some (t2.2, .num 15 t2.1))))))) else some (false, .no)
def recur_part.l0 : Nat → ByteArray → ByteArray → Int → Option (Bool × Upd)
 | 0, _, _, _ => none
 | k + 1, a1, a2, x2 => if x2 < 8 then (if 0 ≤ x2 then ((line_Alike.f k (rdOf ptZ ptL x2).1 a1).bind fun t => (if t = true then ((recur_numbers.f k a2 (rdOf ptZ ptL x2).2.2).bind fun t2 => some (t2.2, .lst (rdOf ptZ ptL x2).2.1 t2.1)) else recur_part.l0 k a1 a2 (wrap64 (x2 + 1)))) else none) else pt_rest k a1 a2
def recur_part.f (k : Nat) (a1 a2 : ByteArray) : Option (Bool × Upd) := recur_part.l0 k a1 a2 0
theorem pt_rest.mono : ∀ a1 a2 k, LeO (pt_rest k a1 a2) (pt_rest (k + 1) a1 a2) := by
  intro a1 a2 k
  unfold pt_rest
  repeat' first | (with_reducible first | exact recur_word.mono _ _ _ | exact recur_number.mono _ _ _ | exact value_ParseTime.mono _ _ | exact recur_byDays.mono _ _ | exact LeO.refl _ | exact LeO.none _ | refine LeO.ite ?_ ?_ | refine LeO.bind ?_ (fun _ => ?_))
theorem recur_part.mono_l : ∀ k, (∀ y0 y1 y2, LeO (recur_part.l0 k y0 y1 y2) (recur_part.l0 (k + 1) y0 y1 y2))
  | 0 => fun _ _ _ r h => by simp [recur_part.l0] at h
  | k + 1 => by
    have ih0 := recur_part.mono_l k
    intro y0 y1 y2
    unfold recur_part.l0
    repeat' first | (with_reducible first | exact ih0 _ _ _ | exact pt_rest.mono _ _ _ | exact line_Alike.mono _ _ _ | exact recur_numbers.mono _ _ _ | exact LeO.refl _ | exact LeO.none _ | refine LeO.ite ?_ ?_ | refine LeO.bind ?_ (fun _ => ?_))
theorem recur_part.mono : ∀ a1 a2 k, LeO (recur_part.f k a1 a2) (recur_part.f (k + 1) a1 a2) := fun _ _ k => recur_part.mono_l k _ _ _
def ptC : List Nat := [6, 7, 8, 10, 11, 12, 13, 14]
theorem ptC_lt {c : Nat} (h : c ∈ ptC) : c < 16 := by
  simp only [ptC, List.mem_cons, List.not_mem_nil, or_false] at h
  omega
def PartW (g : Nat) (w w' : World) : Upd → Prop
  | .no => Below w.heap.size w w'
  | .lst c l => ∃ W v, c ∈ ptC ∧ Below w.heap.size w W ∧ Kd.R (Kd.int .i64) 3 W w.heap.size (fun _ => True) v l ∧ w' = W.setCell ⟨g, c, none⟩ v
  | .num c n => ∃ W, c ∈ [0, 1, 2, 15] ∧ Below w.heap.size w W ∧ w' = W.setCell ⟨g, c, none⟩ (.int .i64 n)
  | .til t b => ∃ W, Below w.heap.size w W ∧ w' = ((W.setCell ⟨g, 4, none⟩ (.int .i64 t)).setCell ⟨g, 5, none⟩ (.bool b)).setCell ⟨g, 3, none⟩ (.bool true)
  | .dys l => ∃ W v, Below w.heap.size w W ∧ Kd.R k38 38 W w.heap.size (fun _ => True) v l ∧ w' = W.setCell ⟨g, 9, none⟩ v
theorem pt_cell {w : World} {g : Nat} {cs : Array Value} (h : w.heap[g]? = some (.cells cs 25 (0, 0))) (hs : cs.size = 16) (i : Nat) (hi : i < 16) : (∃ u, w.cell? ⟨g, i, none⟩ = some u) ∧ w.frozen? ⟨g, i, none⟩ = false :=
  ⟨⟨_, (blk_cell h i).trans (Array.getElem?_eq_getElem (by omega))⟩, blk_frozen h i⟩
def Lst.pt (x : Lst) : ByteArray × Nat × Bool := (x.nm, x.p.off, x.ng)
theorem rd_pt (xs : List Lst) (i : Int) : rdOf ptZ (xs.map Lst.pt) i = (rd_L xs i).pt := by
  unfold rdOf rd_L
  rw [List.getD_eq_getElem?_getD, List.getD_eq_getElem?_getD, List.getElem?_map]
  cases xs[i.toNat]? <;> rfl
theorem ptL_eq (g : Nat) : ((beforeL g none 0 [] false none 0 [] false none 0 [] false none 0 [] false) ++ (behindL g none 0 [] false none 0 [] false none 0 [] false none 0 [] false)).map Lst.pt = ptL := rfl
theorem pt_len (g : Nat) : ((beforeL g none 0 [] false none 0 [] false none 0 [] false none 0 [] false) ++ (behindL g none 0 [] false none 0 [] false none 0 [] false none 0 [] false)).length = 8 := rfl
theorem pt_mem {g : Nat} {x : Lst} (h : x ∈ (beforeL g none 0 [] false none 0 [] false none 0 [] false none 0 [] false) ++ (behindL g none 0 [] false none 0 [] false none 0 [] false none 0 [] false)) : x.p = ⟨g, x.p.off, none⟩ ∧ x.p.off ∈ ptC := by
  rw [List.mem_append] at h
  simp only [beforeL, behindL, List.mem_cons, List.not_mem_nil, or_false] at h
  rcases h with (rfl | rfl | rfl | rfl) | (rfl | rfl | rfl | rfl) <;> exact ⟨rfl, by simp [ptC]⟩
theorem pt_lit {ev : Operand → Value} (hev : ∀ v, ev (.const v) = v) {d : Option Tmp} {ty : TypeId} {ps : String} {af : Array _} {gd : Option _} (W : World) : (execOp ev { dst := d, op := Op.buildSlice 35 6 #[(0, Operand.const (Value.string (⟨#[70, 82, 69, 81]⟩ : ByteArray))), (1, Operand.const (Value.string (⟨#[73, 78, 84, 69, 82, 86, 65, 76]⟩ : ByteArray))), (2, Operand.const (Value.string (⟨#[67, 79, 85, 78, 84]⟩ : ByteArray))), (3, Operand.const (Value.string (⟨#[85, 78, 84, 73, 76]⟩ : ByteArray))), (4, Operand.const (Value.string (⟨#[66, 89, 68, 65, 89]⟩ : ByteArray))), (5, Operand.const (Value.string (⟨#[87, 75, 83, 84]⟩ : ByteArray)))], type := ty, pos := ps, after := af, guard := gd }).run Tryz.prog W = .ok (.value (.slice (some ⟨W.heap.size, 0, none⟩) 6 6)) (W.alloc (.cells #[.string (⟨#[70, 82, 69, 81]⟩ : ByteArray), .string (⟨#[73, 78, 84, 69, 82, 86, 65, 76]⟩ : ByteArray), .string (⟨#[67, 79, 85, 78, 84]⟩ : ByteArray), .string (⟨#[85, 78, 84, 73, 76]⟩ : ByteArray), .string (⟨#[66, 89, 68, 65, 89]⟩ : ByteArray), .string (⟨#[87, 75, 83, 84]⟩ : ByteArray)] 9)) := by
  go_simp
  first | done | rfl
set_option maxHeartbeats 16000000 in
set_option maxRecDepth 100000 in
theorem recur_part.calls (k : Nat) (g : Nat) (a1 a2 : ByteArray) (b : Bool) (u : Upd) (cs : Array Value) (w : World) (hG : GP w) (hbk : w.heap[g]? = some (.cells cs 25 (0, 0))) (hcs : cs.size = 16) (h : recur_part.f k a1 a2 = some (b, u)) :
  Calls Tryz.prog 34 #[.pointer (some ⟨g, 0, none⟩), .string a1, .string a2] w fun e w' => e = .returned (.bool b) ∧ PartW g w w' u := by
  have HG := Aside0.mk hG
  have BK0 := Aside0.mk hbk
  have HCS := Aside0.mk hcs
  have hu84 := Tryz.underlying84
  have hu25 := Tryz.underlying25
  have H' := Aside0.mk (show recur_part.l0 k a1 a2 0 = some (b, u) from h)
  clear hG hbk hcs h
  go_enter Tryz.func34, Tryz.ntmps34
  go_wp2_with (first | (go_at_call 27; (with_reducible refine (recur_before.calls g none 0 [] false none 0 [] false none 0 [] false none 0 [] false _).mono ?_); rintro e w1 ⟨v1, rfl, ho, hb⟩; have HB1 := Aside0.mk hb; have BK1 := Aside0.mk (blk_below BK0.out hb); have O1 := Aside0.mk ho; obtain ⟨Ao1, co1, eo1⟩ := Kd.R_slice ho; subst eo1; clear hb ho) | (go_at_call 31; (with_reducible refine (recur_behind.calls g none 0 [] false none 0 [] false none 0 [] false none 0 [] false _).mono ?_); rintro e w2 ⟨v2, rfl, ho, hb⟩; have HB2 := Aside0.mk (below_then HB1.out HB1.out.size hb); have BK2 := Aside0.mk (blk_below BK1.out hb); have O2 := Aside0.mk (Kd.R_below O1.out hb); have P2 := Aside0.mk ho; obtain ⟨Ao2, co2, eo2⟩ := Kd.R_slice ho; subst eo2; clear hb ho) | ((with_reducible refine gate_builtin (b := .append) (xs := #[.tmp 17, .tmp 19]) rfl ?_); (first | at_builtin | (refine gate_guard (by rfl) ?_; dsimp only; at_builtin)); refine Kd.R_append_rows kL (w0 := w) w.heap.size rfl (.tmp 17) (.tmp 19) 59 84 (.agg #[.string ByteArray.empty, .pointer none, .int .i64 0, .int .i64 0, .bool false]) 48 rfl Tryz.underlying59 info84 rfl (by decide) (by omega) _ (beforeL g none 0 [] false none 0 [] false none 0 [] false none 0 [] false) (behindL g none 0 [] false none 0 [] false none 0 [] false none 0 [] false) _ _ _ (fun _ => True) (fun _ => False) rfl rfl ?aO ?aR (fun _ _ h => h) (fun _ h => h.elim) ?aF ?aB ?aS ?aL ?_; (case aR => exact (Kd.R_reads' P2.out).2.2); (case aB => exact HB2.out); (case aF => exact (fun _ _ => trivial)); (case aO => exact O2.out); (case aS => exact HB2.out.size); (case aL => exact (show (4 + 4) * 48 ≤ 140737488355328 by decide)); intro v3 w3 ho hb hg hat; have HB3 := Aside0.mk hb; have BK3 := Aside0.mk (blk_grown BK2.out hg (Kd.R_ne O2.out BK2.out (by decide))); have O3 := Aside0.mk ho; obtain ⟨Ao3, co3, eo3⟩ := Kd.R_slice ho; replace eo3 : v3 = Value.slice Ao3 8 co3 := eo3; subst eo3; clear ho hb hg hat))
  clear HB1 HB2 BK1 BK2 O1 O2 P2
  go_loopg [22] k (fun kq v22 w' => ∃ (i : Int), v22 = .int .i64 i ∧ Aside0 (recur_part.l0 kq a1 a2 i = some (b, u)) ∧ Aside0 (kq ≤ k) ∧ Aside0 (Below w.heap.size w w') ∧ Aside0 (Below w3.heap.size w3 w'))
  case atStart => exact ⟨0, by rfl, H', ⟨Nat.le_refl _⟩, HB3, ⟨Below.refl _ _⟩⟩
  case round =>
    clear H' HB3
    obtain ⟨i, rfl, HA, HK1, HB, HBM⟩ := hrel
    cases gk with
    | zero => exact absurd HA.out (by simp [recur_part.l0])
    | succ k1 =>
      have BKr := Aside0.mk (blk_below BK3.out HBM.out)
      have H := HA.out
      clear HA
      simp only [recur_part.l0] at H
      by_cases c4 : i < 8
      · rw [if_pos c4] at H
        have c4b0 : decide (i < 8) = true := decide_eq_true c4
        by_cases c5 : 0 ≤ i
        rotate_left
        · rw [if_neg c5] at H; cases H
        rw [if_pos c5, ← ptL_eq g, rd_pt] at H
        have c5b1 : (0 ≤ i) = True := eq_true c5
        have c4b1 : (i < 8) = True := eq_true c4
        obtain ⟨ad, e0, hx0, hx1, hx2, hx3, hx4⟩ := at_L (Kd.R_reads' O3.out).2.2 i c5 (by rw [pt_len]; exact c4)
        cases e0
        replace hx0 := (HBM.out.cell (World.block_lt_of_cell? w3 _ hx0)).trans hx0
        replace hx1 := (HBM.out.cell (World.block_lt_of_cell? w3 _ hx1)).trans hx1
        replace hx2 := (HBM.out.cell (World.block_lt_of_cell? w3 _ hx2)).trans hx2
        replace hx3 := (HBM.out.cell (World.block_lt_of_cell? w3 _ hx3)).trans hx3
        replace hx4 := (HBM.out.cell (World.block_lt_of_cell? w3 _ hx4)).trans hx4
        have hmem : rd_L ((beforeL g none 0 [] false none 0 [] false none 0 [] false none 0 [] false) ++ (behindL g none 0 [] false none 0 [] false none 0 [] false none 0 [] false)) i ∈ (beforeL g none 0 [] false none 0 [] false none 0 [] false none 0 [] false) ++ (behindL g none 0 [] false none 0 [] false none 0 [] false none 0 [] false) := by
          have hl : i.toNat < ((beforeL g none 0 [] false none 0 [] false none 0 [] false none 0 [] false) ++ (behindL g none 0 [] false none 0 [] false none 0 [] false none 0 [] false)).length := by rw [pt_len]; omega
          unfold rd_L
          rw [List.getD_eq_getElem?_getD, List.getElem?_eq_getElem hl]
          exact List.getElem_mem hl
        obtain ⟨g1, g2⟩ := pt_mem hmem
        generalize rd_L ((beforeL g none 0 [] false none 0 [] false none 0 [] false none 0 [] false) ++ (behindL g none 0 [] false none 0 [] false none 0 [] false none 0 [] false)) i = X at hx0 hx1 hx2 hx3 hx4 g1 g2 H
        clear hmem
        obtain ⟨nx, px, lo, hi, ng, Ax, cax, lx, rx⟩ := X
        obtain ⟨bx, cx, sx⟩ := px
        simp only [Addr.mk.injEq] at g1 g2
        obtain ⟨gq1, -, gq2⟩ := g1
        obtain rfl : g = bx := gq1.symm
        subst gq2
        have HCX := Aside0.mk g2
        dsimp only [Lst.pt] at H hx0 hx1 hx2 hx3 hx4
        obtain ⟨t, ht, H⟩ := Option.bind_eq_some_iff.1 H
        have HT := Aside0.mk ht
        clear ht g2
        by_cases c6 : t = true
        · rw [if_pos c6] at H
          subst c6
          obtain ⟨⟨n_, b_⟩, ht2, H⟩ := Option.bind_eq_some_iff.1 H
          have HT2 := Aside0.mk ht2
          simp only [Option.some.injEq, Prod.mk.injEq] at H
          obtain ⟨rfl, rfl⟩ := H
          clear ht2 c4 c5
          go_wp2_with (first | (go_at_call 69; (with_reducible refine (line_Alike.calls k1 nx a1 true _ HT.out).mono ?_); rintro e w4 ⟨rfl, ⟨nd, rfl⟩⟩) | (go_at_call 70; (refine (recur_numbers.calls k1 a2 ng n_ b_ _ (GP_below HG.out (pw_below_drewN (below_alloc HB.out (.cells #[.string nx, .pointer (some ⟨g, cx, none⟩), .int .i64 lo, .int .i64 hi, .bool ng] 84)) nd)) HT2.out).mono ?_); rintro e w5 ⟨v5, rfl, ho, hb⟩; have XP := (blk_cell (blk_below (blk_drewN (blk_new wr (.cells #[.string nx, .pointer (some ⟨g, cx, none⟩), .int .i64 lo, .int .i64 hi, .bool ng] 84)) nd) hb) 1).trans rfl; have HB5 := Aside0.mk (below_then (pw_below_drewN (below_alloc HB.out (.cells #[.string nx, .pointer (some ⟨g, cx, none⟩), .int .i64 lo, .int .i64 hi, .bool ng] 84)) nd) (pw_below_drewN (below_alloc HB.out (.cells #[.string nx, .pointer (some ⟨g, cx, none⟩), .int .i64 lo, .int .i64 hi, .bool ng] 84)) nd).size hb); obtain ⟨⟨ux, X1⟩, X2⟩ := pt_cell (blk_below (blk_drewN (blk_alloc (BKr.out) (.cells #[.string nx, .pointer (some ⟨g, cx, none⟩), .int .i64 lo, .int .i64 hi, .bool ng] 84)) nd) hb) HCS.out cx (ptC_lt HCX.out); have HO5 := Aside0.mk (Kd.R_lower ho (pw_below_drewN (below_alloc HB.out (.cells #[.string nx, .pointer (some ⟨g, cx, none⟩), .int .i64 lo, .int .i64 hi, .bool ng] 84)) nd).size); obtain ⟨A5, c5_, e5⟩ := Kd.R_slice ho; subst e5; clear ho hb))
          go_ret
          exact ⟨by rfl, _, _, HCX.out, HB5.out, HO5.out, rfl⟩
        · rw [if_neg c6] at H
          replace c6 := Bool.eq_false_iff.mpr c6
          subst c6
          have H' := Aside0.mk H
          clear H c4 c5
          go_wp2_with (first | (go_at_call 69; (with_reducible refine (line_Alike.calls k1 nx a1 false _ HT.out).mono ?_); rintro e w4 ⟨rfl, ⟨nd, rfl⟩⟩))
          go_roundg k1
          case measure => omega
          case rel => exact ⟨wrap64 (i + 1), by rfl, H', ⟨by have := HK1.out; omega⟩, ⟨pw_below_drewN (below_alloc HB.out _) _⟩, ⟨pw_below_drewN (below_alloc HBM.out _) _⟩⟩
      · rw [if_neg c4] at H
        have c4b0 : decide (i < 8) = false := decide_eq_false c4
        unfold pt_rest at H
        obtain ⟨⟨q1, q2⟩, ht, H⟩ := Option.bind_eq_some_iff.1 H
        have HT := Aside0.mk ht
        clear ht c4 HBM O3 BK3
        dsimp only at H
        cases q2 with
        | false =>
          rw [if_neg (by decide)] at H
          simp only [Option.some.injEq, Prod.mk.injEq] at H
          obtain ⟨rfl, rfl⟩ := H
          as_aux_lemma =>
            go_wp2_with (first | ((with_reducible refine gate_dst (N := 44) rfl ?_); refine Kd.R_lit Kd.string (w0 := w) w.heap.size 9 (by rfl) (N := 44) (by rfl) (xs := ([(⟨#[70, 82, 69, 81]⟩ : ByteArray), (⟨#[73, 78, 84, 69, 82, 86, 65, 76]⟩ : ByteArray), (⟨#[67, 79, 85, 78, 84]⟩ : ByteArray), (⟨#[85, 78, 84, 73, 76]⟩ : ByteArray), (⟨#[66, 89, 68, 65, 89]⟩ : ByteArray), (⟨#[87, 75, 83, 84]⟩ : ByteArray)] : List ByteArray)) (inner := [.string (⟨#[70, 82, 69, 81]⟩ : ByteArray), .string (⟨#[73, 78, 84, 69, 82, 86, 65, 76]⟩ : ByteArray), .string (⟨#[67, 79, 85, 78, 84]⟩ : ByteArray), .string (⟨#[85, 78, 84, 73, 76]⟩ : ByteArray), .string (⟨#[66, 89, 68, 65, 89]⟩ : ByteArray), .string (⟨#[87, 75, 83, 84]⟩ : ByteArray)]) (ok := fun _ => True) (okp := fun _ => True) ?hr ?hp (fun _ hk => hk) trivial HB.out HB.out.size (by decide) ?_; (case hr => exact pt_lit (fun _ => rfl) _); (case hp => exact (Reps.one rfl (Reps.one rfl (Reps.one rfl (Reps.one rfl (Reps.one rfl (Reps.one rfl (Reps.none _ _)))))))); intro v6 w6 ho hb hg hat; have HB6 := Aside0.mk hb; have BK6 := Aside0.mk (blk_grown BKr.out hg (by simp)); have O6 := Aside0.mk ho; obtain ⟨A6, c6, e6⟩ := Kd.R_slice ho; replace e6 : v6 = Value.slice A6 6 c6 := e6; subst e6; clear ho hb hg hat) | (go_at_call 71; (refine (recur_word.calls k1 A6 c6 ([(⟨#[70, 82, 69, 81]⟩ : ByteArray), (⟨#[73, 78, 84, 69, 82, 86, 65, 76]⟩ : ByteArray), (⟨#[67, 79, 85, 78, 84]⟩ : ByteArray), (⟨#[85, 78, 84, 73, 76]⟩ : ByteArray), (⟨#[66, 89, 68, 65, 89]⟩ : ByteArray), (⟨#[87, 75, 83, 84]⟩ : ByteArray)] : List ByteArray) a1 _ _ _ (Kd.R_reads' O6.out).2.2 (Kd.R_reads' O6.out).2.1 HT.out).mono ?_); rintro e w7 ⟨rfl, hb⟩; have HB7 := Aside0.mk (below_then HB6.out HB6.out.size hb); have BK7 := Aside0.mk (blk_below BK6.out hb); clear hb))
            go_ret
            exact ⟨by rfl, HB7.out⟩
        | true =>
          rw [if_pos rfl] at H
          by_cases d0 : q1 = 0
          · rw [if_pos d0] at H
            subst d0
            obtain ⟨fr, hfr, H⟩ := Option.bind_eq_some_iff.1 H
            have FR := Aside0.mk hfr
            clear hfr
            obtain ⟨⟨s1, s2⟩, ht2, H⟩ := Option.bind_eq_some_iff.1 H
            have HT2 := Aside0.mk ht2
            simp only [Option.some.injEq, Prod.mk.injEq] at H
            obtain ⟨rfl, rfl⟩ := H
            clear ht2
            as_aux_lemma =>
              go_wp2_with (first | ((with_reducible refine gate_dst (N := 44) rfl ?_); refine Kd.R_lit Kd.string (w0 := w) w.heap.size 9 (by rfl) (N := 44) (by rfl) (xs := ([(⟨#[70, 82, 69, 81]⟩ : ByteArray), (⟨#[73, 78, 84, 69, 82, 86, 65, 76]⟩ : ByteArray), (⟨#[67, 79, 85, 78, 84]⟩ : ByteArray), (⟨#[85, 78, 84, 73, 76]⟩ : ByteArray), (⟨#[66, 89, 68, 65, 89]⟩ : ByteArray), (⟨#[87, 75, 83, 84]⟩ : ByteArray)] : List ByteArray)) (inner := [.string (⟨#[70, 82, 69, 81]⟩ : ByteArray), .string (⟨#[73, 78, 84, 69, 82, 86, 65, 76]⟩ : ByteArray), .string (⟨#[67, 79, 85, 78, 84]⟩ : ByteArray), .string (⟨#[85, 78, 84, 73, 76]⟩ : ByteArray), .string (⟨#[66, 89, 68, 65, 89]⟩ : ByteArray), .string (⟨#[87, 75, 83, 84]⟩ : ByteArray)]) (ok := fun _ => True) (okp := fun _ => True) ?hr ?hp (fun _ hk => hk) trivial HB.out HB.out.size (by decide) ?_; (case hr => exact pt_lit (fun _ => rfl) _); (case hp => exact (Reps.one rfl (Reps.one rfl (Reps.one rfl (Reps.one rfl (Reps.one rfl (Reps.one rfl (Reps.none _ _)))))))); intro v6 w6 ho hb hg hat; have HB6 := Aside0.mk hb; have BK6 := Aside0.mk (blk_grown BKr.out hg (by simp)); have O6 := Aside0.mk ho; obtain ⟨A6, c6, e6⟩ := Kd.R_slice ho; replace e6 : v6 = Value.slice A6 6 c6 := e6; subst e6; clear ho hb hg hat) | (go_at_call 23; (with_reducible refine (recur_freqs.calls fr _ FR.out).mono ?_); rintro e w8 ⟨v8, rfl, ho, hb⟩; have HB8 := Aside0.mk (below_then HB7.out HB7.out.size hb); have BK8 := Aside0.mk (blk_below BK7.out hb); have O8 := Aside0.mk ho; obtain ⟨A8, c8, e8⟩ := Kd.R_slice ho; subst e8; clear ho hb) | (go_at_call 71; (refine (recur_word.calls k1 A8 c8 fr a2 s1 s2 _ (Kd.R_reads' O8.out).2.2 (Kd.R_reads' O8.out).2.1 HT2.out).mono ?_); rintro e w9 ⟨rfl, hb⟩; have HB9 := Aside0.mk (below_then HB8.out HB8.out.size hb); have BK9 := Aside0.mk (blk_below BK8.out hb); obtain ⟨⟨z0, X0⟩, Z0⟩ := pt_cell BK9.out HCS.out 0 (by decide); clear hb) | (go_at_call 71; (refine (recur_word.calls k1 A6 c6 ([(⟨#[70, 82, 69, 81]⟩ : ByteArray), (⟨#[73, 78, 84, 69, 82, 86, 65, 76]⟩ : ByteArray), (⟨#[67, 79, 85, 78, 84]⟩ : ByteArray), (⟨#[85, 78, 84, 73, 76]⟩ : ByteArray), (⟨#[66, 89, 68, 65, 89]⟩ : ByteArray), (⟨#[87, 75, 83, 84]⟩ : ByteArray)] : List ByteArray) a1 _ _ _ (Kd.R_reads' O6.out).2.2 (Kd.R_reads' O6.out).2.1 HT.out).mono ?_); rintro e w7 ⟨rfl, hb⟩; have HB7 := Aside0.mk (below_then HB6.out HB6.out.size hb); have BK7 := Aside0.mk (blk_below BK6.out hb); clear hb))
              go_ret
              exact ⟨by rfl, _, by decide, HB9.out, rfl⟩
          · rw [if_neg d0] at H
            have p0 : (q1 == 0) = false := beq_eq_false_iff_ne.mpr d0
            have p0b : (q1 = 0) = False := eq_false d0
            clear d0
            by_cases d1 : q1 = 1
            · rw [if_pos d1] at H
              subst d1
              obtain ⟨⟨s1, s2⟩, ht2, H⟩ := Option.bind_eq_some_iff.1 H
              have HT2 := Aside0.mk ht2
              simp only [Option.some.injEq, Prod.mk.injEq] at H
              obtain ⟨rfl, rfl⟩ := H
              clear ht2
              as_aux_lemma =>
                go_wp2_with (first | ((with_reducible refine gate_dst (N := 44) rfl ?_); refine Kd.R_lit Kd.string (w0 := w) w.heap.size 9 (by rfl) (N := 44) (by rfl) (xs := ([(⟨#[70, 82, 69, 81]⟩ : ByteArray), (⟨#[73, 78, 84, 69, 82, 86, 65, 76]⟩ : ByteArray), (⟨#[67, 79, 85, 78, 84]⟩ : ByteArray), (⟨#[85, 78, 84, 73, 76]⟩ : ByteArray), (⟨#[66, 89, 68, 65, 89]⟩ : ByteArray), (⟨#[87, 75, 83, 84]⟩ : ByteArray)] : List ByteArray)) (inner := [.string (⟨#[70, 82, 69, 81]⟩ : ByteArray), .string (⟨#[73, 78, 84, 69, 82, 86, 65, 76]⟩ : ByteArray), .string (⟨#[67, 79, 85, 78, 84]⟩ : ByteArray), .string (⟨#[85, 78, 84, 73, 76]⟩ : ByteArray), .string (⟨#[66, 89, 68, 65, 89]⟩ : ByteArray), .string (⟨#[87, 75, 83, 84]⟩ : ByteArray)]) (ok := fun _ => True) (okp := fun _ => True) ?hr ?hp (fun _ hk => hk) trivial HB.out HB.out.size (by decide) ?_; (case hr => exact pt_lit (fun _ => rfl) _); (case hp => exact (Reps.one rfl (Reps.one rfl (Reps.one rfl (Reps.one rfl (Reps.one rfl (Reps.one rfl (Reps.none _ _)))))))); intro v6 w6 ho hb hg hat; have HB6 := Aside0.mk hb; have BK6 := Aside0.mk (blk_grown BKr.out hg (by simp)); have O6 := Aside0.mk ho; obtain ⟨A6, c6, e6⟩ := Kd.R_slice ho; replace e6 : v6 = Value.slice A6 6 c6 := e6; subst e6; clear ho hb hg hat) | (go_at_call 72; (refine (recur_number.calls k1 a2 false s1 _ _ HT2.out).mono ?_); rintro e w8 ⟨rfl, hd⟩; have hb := hd.below; clear hd; have HB8 := Aside0.mk (below_then HB7.out HB7.out.size hb); have BK8 := Aside0.mk (blk_below BK7.out hb); obtain ⟨⟨z1, X1⟩, Z1⟩ := pt_cell BK8.out HCS.out 1 (by decide); clear hb) | (go_at_call 71; (refine (recur_word.calls k1 A6 c6 ([(⟨#[70, 82, 69, 81]⟩ : ByteArray), (⟨#[73, 78, 84, 69, 82, 86, 65, 76]⟩ : ByteArray), (⟨#[67, 79, 85, 78, 84]⟩ : ByteArray), (⟨#[85, 78, 84, 73, 76]⟩ : ByteArray), (⟨#[66, 89, 68, 65, 89]⟩ : ByteArray), (⟨#[87, 75, 83, 84]⟩ : ByteArray)] : List ByteArray) a1 _ _ _ (Kd.R_reads' O6.out).2.2 (Kd.R_reads' O6.out).2.1 HT.out).mono ?_); rintro e w7 ⟨rfl, hb⟩; have HB7 := Aside0.mk (below_then HB6.out HB6.out.size hb); have BK7 := Aside0.mk (blk_below BK6.out hb); clear hb))
                go_ret
                exact ⟨by rfl, _, by decide, HB8.out, rfl⟩
            · rw [if_neg d1] at H
              have p1 : (q1 == 1) = false := beq_eq_false_iff_ne.mpr d1
              have p1b : (q1 = 1) = False := eq_false d1
              clear d1
              by_cases d2 : q1 = 2
              · rw [if_pos d2] at H
                subst d2
                obtain ⟨⟨s1, s2⟩, ht2, H⟩ := Option.bind_eq_some_iff.1 H
                have HT2 := Aside0.mk ht2
                simp only [Option.some.injEq, Prod.mk.injEq] at H
                obtain ⟨rfl, rfl⟩ := H
                clear ht2
                cases s2 with
                | false =>
                  as_aux_lemma =>
                    go_wp2_with (first | ((with_reducible refine gate_dst (N := 44) rfl ?_); refine Kd.R_lit Kd.string (w0 := w) w.heap.size 9 (by rfl) (N := 44) (by rfl) (xs := ([(⟨#[70, 82, 69, 81]⟩ : ByteArray), (⟨#[73, 78, 84, 69, 82, 86, 65, 76]⟩ : ByteArray), (⟨#[67, 79, 85, 78, 84]⟩ : ByteArray), (⟨#[85, 78, 84, 73, 76]⟩ : ByteArray), (⟨#[66, 89, 68, 65, 89]⟩ : ByteArray), (⟨#[87, 75, 83, 84]⟩ : ByteArray)] : List ByteArray)) (inner := [.string (⟨#[70, 82, 69, 81]⟩ : ByteArray), .string (⟨#[73, 78, 84, 69, 82, 86, 65, 76]⟩ : ByteArray), .string (⟨#[67, 79, 85, 78, 84]⟩ : ByteArray), .string (⟨#[85, 78, 84, 73, 76]⟩ : ByteArray), .string (⟨#[66, 89, 68, 65, 89]⟩ : ByteArray), .string (⟨#[87, 75, 83, 84]⟩ : ByteArray)]) (ok := fun _ => True) (okp := fun _ => True) ?hr ?hp (fun _ hk => hk) trivial HB.out HB.out.size (by decide) ?_; (case hr => exact pt_lit (fun _ => rfl) _); (case hp => exact (Reps.one rfl (Reps.one rfl (Reps.one rfl (Reps.one rfl (Reps.one rfl (Reps.one rfl (Reps.none _ _)))))))); intro v6 w6 ho hb hg hat; have HB6 := Aside0.mk hb; have BK6 := Aside0.mk (blk_grown BKr.out hg (by simp)); have O6 := Aside0.mk ho; obtain ⟨A6, c6, e6⟩ := Kd.R_slice ho; replace e6 : v6 = Value.slice A6 6 c6 := e6; subst e6; clear ho hb hg hat) | (go_at_call 72; (refine (recur_number.calls k1 a2 false s1 _ _ HT2.out).mono ?_); rintro e w8 ⟨rfl, hd⟩; have hb := hd.below; clear hd; have HB8 := Aside0.mk (below_then HB7.out HB7.out.size hb); have BK8 := Aside0.mk (blk_below BK7.out hb); obtain ⟨⟨z2, X2⟩, Z2⟩ := pt_cell BK8.out HCS.out 2 (by decide); clear hb) | (go_at_call 71; (refine (recur_word.calls k1 A6 c6 ([(⟨#[70, 82, 69, 81]⟩ : ByteArray), (⟨#[73, 78, 84, 69, 82, 86, 65, 76]⟩ : ByteArray), (⟨#[67, 79, 85, 78, 84]⟩ : ByteArray), (⟨#[85, 78, 84, 73, 76]⟩ : ByteArray), (⟨#[66, 89, 68, 65, 89]⟩ : ByteArray), (⟨#[87, 75, 83, 84]⟩ : ByteArray)] : List ByteArray) a1 _ _ _ (Kd.R_reads' O6.out).2.2 (Kd.R_reads' O6.out).2.1 HT.out).mono ?_); rintro e w7 ⟨rfl, hb⟩; have HB7 := Aside0.mk (below_then HB6.out HB6.out.size hb); have BK7 := Aside0.mk (blk_below BK6.out hb); clear hb))
                    go_ret
                    exact ⟨by rfl, _, by decide, HB8.out, rfl⟩
                | true =>
                  by_cases d3 : s1 > 0
                  · have d3a : decide (0 < s1) = true := decide_eq_true d3
                    as_aux_lemma =>
                      go_wp2_with (first | ((with_reducible refine gate_dst (N := 44) rfl ?_); refine Kd.R_lit Kd.string (w0 := w) w.heap.size 9 (by rfl) (N := 44) (by rfl) (xs := ([(⟨#[70, 82, 69, 81]⟩ : ByteArray), (⟨#[73, 78, 84, 69, 82, 86, 65, 76]⟩ : ByteArray), (⟨#[67, 79, 85, 78, 84]⟩ : ByteArray), (⟨#[85, 78, 84, 73, 76]⟩ : ByteArray), (⟨#[66, 89, 68, 65, 89]⟩ : ByteArray), (⟨#[87, 75, 83, 84]⟩ : ByteArray)] : List ByteArray)) (inner := [.string (⟨#[70, 82, 69, 81]⟩ : ByteArray), .string (⟨#[73, 78, 84, 69, 82, 86, 65, 76]⟩ : ByteArray), .string (⟨#[67, 79, 85, 78, 84]⟩ : ByteArray), .string (⟨#[85, 78, 84, 73, 76]⟩ : ByteArray), .string (⟨#[66, 89, 68, 65, 89]⟩ : ByteArray), .string (⟨#[87, 75, 83, 84]⟩ : ByteArray)]) (ok := fun _ => True) (okp := fun _ => True) ?hr ?hp (fun _ hk => hk) trivial HB.out HB.out.size (by decide) ?_; (case hr => exact pt_lit (fun _ => rfl) _); (case hp => exact (Reps.one rfl (Reps.one rfl (Reps.one rfl (Reps.one rfl (Reps.one rfl (Reps.one rfl (Reps.none _ _)))))))); intro v6 w6 ho hb hg hat; have HB6 := Aside0.mk hb; have BK6 := Aside0.mk (blk_grown BKr.out hg (by simp)); have O6 := Aside0.mk ho; obtain ⟨A6, c6, e6⟩ := Kd.R_slice ho; replace e6 : v6 = Value.slice A6 6 c6 := e6; subst e6; clear ho hb hg hat) | (go_at_call 72; (refine (recur_number.calls k1 a2 false s1 _ _ HT2.out).mono ?_); rintro e w8 ⟨rfl, hd⟩; have hb := hd.below; clear hd; have HB8 := Aside0.mk (below_then HB7.out HB7.out.size hb); have BK8 := Aside0.mk (blk_below BK7.out hb); obtain ⟨⟨z2, X2⟩, Z2⟩ := pt_cell BK8.out HCS.out 2 (by decide); clear hb) | (go_at_call 71; (refine (recur_word.calls k1 A6 c6 ([(⟨#[70, 82, 69, 81]⟩ : ByteArray), (⟨#[73, 78, 84, 69, 82, 86, 65, 76]⟩ : ByteArray), (⟨#[67, 79, 85, 78, 84]⟩ : ByteArray), (⟨#[85, 78, 84, 73, 76]⟩ : ByteArray), (⟨#[66, 89, 68, 65, 89]⟩ : ByteArray), (⟨#[87, 75, 83, 84]⟩ : ByteArray)] : List ByteArray) a1 _ _ _ (Kd.R_reads' O6.out).2.2 (Kd.R_reads' O6.out).2.1 HT.out).mono ?_); rintro e w7 ⟨rfl, hb⟩; have HB7 := Aside0.mk (below_then HB6.out HB6.out.size hb); have BK7 := Aside0.mk (blk_below BK6.out hb); clear hb))
                      go_ret
                      exact ⟨by rfl, _, by decide, HB8.out, rfl⟩
                  · have d3a : decide (0 < s1) = false := decide_eq_false d3
                    as_aux_lemma =>
                      go_wp2_with (first | ((with_reducible refine gate_dst (N := 44) rfl ?_); refine Kd.R_lit Kd.string (w0 := w) w.heap.size 9 (by rfl) (N := 44) (by rfl) (xs := ([(⟨#[70, 82, 69, 81]⟩ : ByteArray), (⟨#[73, 78, 84, 69, 82, 86, 65, 76]⟩ : ByteArray), (⟨#[67, 79, 85, 78, 84]⟩ : ByteArray), (⟨#[85, 78, 84, 73, 76]⟩ : ByteArray), (⟨#[66, 89, 68, 65, 89]⟩ : ByteArray), (⟨#[87, 75, 83, 84]⟩ : ByteArray)] : List ByteArray)) (inner := [.string (⟨#[70, 82, 69, 81]⟩ : ByteArray), .string (⟨#[73, 78, 84, 69, 82, 86, 65, 76]⟩ : ByteArray), .string (⟨#[67, 79, 85, 78, 84]⟩ : ByteArray), .string (⟨#[85, 78, 84, 73, 76]⟩ : ByteArray), .string (⟨#[66, 89, 68, 65, 89]⟩ : ByteArray), .string (⟨#[87, 75, 83, 84]⟩ : ByteArray)]) (ok := fun _ => True) (okp := fun _ => True) ?hr ?hp (fun _ hk => hk) trivial HB.out HB.out.size (by decide) ?_; (case hr => exact pt_lit (fun _ => rfl) _); (case hp => exact (Reps.one rfl (Reps.one rfl (Reps.one rfl (Reps.one rfl (Reps.one rfl (Reps.one rfl (Reps.none _ _)))))))); intro v6 w6 ho hb hg hat; have HB6 := Aside0.mk hb; have BK6 := Aside0.mk (blk_grown BKr.out hg (by simp)); have O6 := Aside0.mk ho; obtain ⟨A6, c6, e6⟩ := Kd.R_slice ho; replace e6 : v6 = Value.slice A6 6 c6 := e6; subst e6; clear ho hb hg hat) | (go_at_call 72; (refine (recur_number.calls k1 a2 false s1 _ _ HT2.out).mono ?_); rintro e w8 ⟨rfl, hd⟩; have hb := hd.below; clear hd; have HB8 := Aside0.mk (below_then HB7.out HB7.out.size hb); have BK8 := Aside0.mk (blk_below BK7.out hb); obtain ⟨⟨z2, X2⟩, Z2⟩ := pt_cell BK8.out HCS.out 2 (by decide); clear hb) | (go_at_call 71; (refine (recur_word.calls k1 A6 c6 ([(⟨#[70, 82, 69, 81]⟩ : ByteArray), (⟨#[73, 78, 84, 69, 82, 86, 65, 76]⟩ : ByteArray), (⟨#[67, 79, 85, 78, 84]⟩ : ByteArray), (⟨#[85, 78, 84, 73, 76]⟩ : ByteArray), (⟨#[66, 89, 68, 65, 89]⟩ : ByteArray), (⟨#[87, 75, 83, 84]⟩ : ByteArray)] : List ByteArray) a1 _ _ _ (Kd.R_reads' O6.out).2.2 (Kd.R_reads' O6.out).2.1 HT.out).mono ?_); rintro e w7 ⟨rfl, hb⟩; have HB7 := Aside0.mk (below_then HB6.out HB6.out.size hb); have BK7 := Aside0.mk (blk_below BK6.out hb); clear hb))
                      go_ret
                      exact ⟨by rfl, _, by decide, HB8.out, rfl⟩
              · rw [if_neg d2] at H
                have p2 : (q1 == 2) = false := beq_eq_false_iff_ne.mpr d2
                have p2b : (q1 = 2) = False := eq_false d2
                clear d2
                by_cases d3 : q1 = 3
                · rw [if_pos d3] at H
                  subst d3
                  obtain ⟨⟨s1, s2, s3⟩, ht2, H⟩ := Option.bind_eq_some_iff.1 H
                  have HT2 := Aside0.mk ht2
                  simp only [Option.some.injEq, Prod.mk.injEq] at H
                  obtain ⟨rfl, rfl⟩ := H
                  clear ht2
                  as_aux_lemma =>
                    go_wp2_with (first | ((with_reducible refine gate_dst (N := 44) rfl ?_); refine Kd.R_lit Kd.string (w0 := w) w.heap.size 9 (by rfl) (N := 44) (by rfl) (xs := ([(⟨#[70, 82, 69, 81]⟩ : ByteArray), (⟨#[73, 78, 84, 69, 82, 86, 65, 76]⟩ : ByteArray), (⟨#[67, 79, 85, 78, 84]⟩ : ByteArray), (⟨#[85, 78, 84, 73, 76]⟩ : ByteArray), (⟨#[66, 89, 68, 65, 89]⟩ : ByteArray), (⟨#[87, 75, 83, 84]⟩ : ByteArray)] : List ByteArray)) (inner := [.string (⟨#[70, 82, 69, 81]⟩ : ByteArray), .string (⟨#[73, 78, 84, 69, 82, 86, 65, 76]⟩ : ByteArray), .string (⟨#[67, 79, 85, 78, 84]⟩ : ByteArray), .string (⟨#[85, 78, 84, 73, 76]⟩ : ByteArray), .string (⟨#[66, 89, 68, 65, 89]⟩ : ByteArray), .string (⟨#[87, 75, 83, 84]⟩ : ByteArray)]) (ok := fun _ => True) (okp := fun _ => True) ?hr ?hp (fun _ hk => hk) trivial HB.out HB.out.size (by decide) ?_; (case hr => exact pt_lit (fun _ => rfl) _); (case hp => exact (Reps.one rfl (Reps.one rfl (Reps.one rfl (Reps.one rfl (Reps.one rfl (Reps.one rfl (Reps.none _ _)))))))); intro v6 w6 ho hb hg hat; have HB6 := Aside0.mk hb; have BK6 := Aside0.mk (blk_grown BKr.out hg (by simp)); have O6 := Aside0.mk ho; obtain ⟨A6, c6, e6⟩ := Kd.R_slice ho; replace e6 : v6 = Value.slice A6 6 c6 := e6; subst e6; clear ho hb hg hat) | (go_at_call 73; (refine (value_ParseTime.calls k1 a2 s1 s2 s3 _ HT2.out).mono ?_); rintro e w8 ⟨rfl, hb⟩; have HB8 := Aside0.mk (below_then HB7.out HB7.out.size hb); have BK8 := Aside0.mk (blk_below BK7.out hb); obtain ⟨⟨z3, X3⟩, Z3⟩ := pt_cell BK8.out HCS.out 3 (by decide); obtain ⟨⟨z4, X4⟩, Z4⟩ := pt_cell BK8.out HCS.out 4 (by decide); obtain ⟨⟨z5, X5⟩, Z5⟩ := pt_cell BK8.out HCS.out 5 (by decide); clear hb) | (go_at_call 71; (refine (recur_word.calls k1 A6 c6 ([(⟨#[70, 82, 69, 81]⟩ : ByteArray), (⟨#[73, 78, 84, 69, 82, 86, 65, 76]⟩ : ByteArray), (⟨#[67, 79, 85, 78, 84]⟩ : ByteArray), (⟨#[85, 78, 84, 73, 76]⟩ : ByteArray), (⟨#[66, 89, 68, 65, 89]⟩ : ByteArray), (⟨#[87, 75, 83, 84]⟩ : ByteArray)] : List ByteArray) a1 _ _ _ (Kd.R_reads' O6.out).2.2 (Kd.R_reads' O6.out).2.1 HT.out).mono ?_); rintro e w7 ⟨rfl, hb⟩; have HB7 := Aside0.mk (below_then HB6.out HB6.out.size hb); have BK7 := Aside0.mk (blk_below BK6.out hb); clear hb))
                    go_ret
                    exact ⟨by rfl, _, HB8.out, rfl⟩
                · rw [if_neg d3] at H
                  have p3 : (q1 == 3) = false := beq_eq_false_iff_ne.mpr d3
                  have p3b : (q1 = 3) = False := eq_false d3
                  clear d3
                  by_cases d4 : q1 = 4
                  · rw [if_pos d4] at H
                    subst d4
                    obtain ⟨⟨s1, s2⟩, ht2, H⟩ := Option.bind_eq_some_iff.1 H
                    have HT2 := Aside0.mk ht2
                    simp only [Option.some.injEq, Prod.mk.injEq] at H
                    obtain ⟨rfl, rfl⟩ := H
                    clear ht2
                    as_aux_lemma =>
                      go_wp2_with (first | ((with_reducible refine gate_dst (N := 44) rfl ?_); refine Kd.R_lit Kd.string (w0 := w) w.heap.size 9 (by rfl) (N := 44) (by rfl) (xs := ([(⟨#[70, 82, 69, 81]⟩ : ByteArray), (⟨#[73, 78, 84, 69, 82, 86, 65, 76]⟩ : ByteArray), (⟨#[67, 79, 85, 78, 84]⟩ : ByteArray), (⟨#[85, 78, 84, 73, 76]⟩ : ByteArray), (⟨#[66, 89, 68, 65, 89]⟩ : ByteArray), (⟨#[87, 75, 83, 84]⟩ : ByteArray)] : List ByteArray)) (inner := [.string (⟨#[70, 82, 69, 81]⟩ : ByteArray), .string (⟨#[73, 78, 84, 69, 82, 86, 65, 76]⟩ : ByteArray), .string (⟨#[67, 79, 85, 78, 84]⟩ : ByteArray), .string (⟨#[85, 78, 84, 73, 76]⟩ : ByteArray), .string (⟨#[66, 89, 68, 65, 89]⟩ : ByteArray), .string (⟨#[87, 75, 83, 84]⟩ : ByteArray)]) (ok := fun _ => True) (okp := fun _ => True) ?hr ?hp (fun _ hk => hk) trivial HB.out HB.out.size (by decide) ?_; (case hr => exact pt_lit (fun _ => rfl) _); (case hp => exact (Reps.one rfl (Reps.one rfl (Reps.one rfl (Reps.one rfl (Reps.one rfl (Reps.one rfl (Reps.none _ _)))))))); intro v6 w6 ho hb hg hat; have HB6 := Aside0.mk hb; have BK6 := Aside0.mk (blk_grown BKr.out hg (by simp)); have O6 := Aside0.mk ho; obtain ⟨A6, c6, e6⟩ := Kd.R_slice ho; replace e6 : v6 = Value.slice A6 6 c6 := e6; subst e6; clear ho hb hg hat) | (go_at_call 74; (refine (recur_byDays.calls k1 a2 s1 s2 _ (GP_below HG.out HB7.out) HT2.out).mono ?_); rintro e w8 ⟨v8, rfl, ho, hb⟩; have HB8 := Aside0.mk (below_then HB7.out HB7.out.size hb); have BK8 := Aside0.mk (blk_below BK7.out hb); obtain ⟨⟨z9, X9⟩, Z9⟩ := pt_cell BK8.out HCS.out 9 (by decide); have O8 := Aside0.mk (Kd.R_lower ho HB7.out.size); obtain ⟨A8, c8, e8⟩ := Kd.R_slice ho; subst e8; clear ho hb) | (go_at_call 71; (refine (recur_word.calls k1 A6 c6 ([(⟨#[70, 82, 69, 81]⟩ : ByteArray), (⟨#[73, 78, 84, 69, 82, 86, 65, 76]⟩ : ByteArray), (⟨#[67, 79, 85, 78, 84]⟩ : ByteArray), (⟨#[85, 78, 84, 73, 76]⟩ : ByteArray), (⟨#[66, 89, 68, 65, 89]⟩ : ByteArray), (⟨#[87, 75, 83, 84]⟩ : ByteArray)] : List ByteArray) a1 _ _ _ (Kd.R_reads' O6.out).2.2 (Kd.R_reads' O6.out).2.1 HT.out).mono ?_); rintro e w7 ⟨rfl, hb⟩; have HB7 := Aside0.mk (below_then HB6.out HB6.out.size hb); have BK7 := Aside0.mk (blk_below BK6.out hb); clear hb))
                      go_ret
                      exact ⟨by rfl, _, _, HB8.out, O8.out, rfl⟩
                  · rw [if_neg d4] at H
                    have p4 : (q1 == 4) = false := beq_eq_false_iff_ne.mpr d4
                    have p4b : (q1 = 4) = False := eq_false d4
                    clear d4
                    obtain ⟨fr, hfr, H⟩ := Option.bind_eq_some_iff.1 H
                    have FR := Aside0.mk hfr
                    clear hfr
                    obtain ⟨⟨s1, s2⟩, ht2, H⟩ := Option.bind_eq_some_iff.1 H
                    have HT2 := Aside0.mk ht2
                    simp only [Option.some.injEq, Prod.mk.injEq] at H
                    obtain ⟨rfl, rfl⟩ := H
                    clear ht2
                    as_aux_lemma =>
                      go_wp2_with (first | ((with_reducible refine gate_dst (N := 44) rfl ?_); refine Kd.R_lit Kd.string (w0 := w) w.heap.size 9 (by rfl) (N := 44) (by rfl) (xs := ([(⟨#[70, 82, 69, 81]⟩ : ByteArray), (⟨#[73, 78, 84, 69, 82, 86, 65, 76]⟩ : ByteArray), (⟨#[67, 79, 85, 78, 84]⟩ : ByteArray), (⟨#[85, 78, 84, 73, 76]⟩ : ByteArray), (⟨#[66, 89, 68, 65, 89]⟩ : ByteArray), (⟨#[87, 75, 83, 84]⟩ : ByteArray)] : List ByteArray)) (inner := [.string (⟨#[70, 82, 69, 81]⟩ : ByteArray), .string (⟨#[73, 78, 84, 69, 82, 86, 65, 76]⟩ : ByteArray), .string (⟨#[67, 79, 85, 78, 84]⟩ : ByteArray), .string (⟨#[85, 78, 84, 73, 76]⟩ : ByteArray), .string (⟨#[66, 89, 68, 65, 89]⟩ : ByteArray), .string (⟨#[87, 75, 83, 84]⟩ : ByteArray)]) (ok := fun _ => True) (okp := fun _ => True) ?hr ?hp (fun _ hk => hk) trivial HB.out HB.out.size (by decide) ?_; (case hr => exact pt_lit (fun _ => rfl) _); (case hp => exact (Reps.one rfl (Reps.one rfl (Reps.one rfl (Reps.one rfl (Reps.one rfl (Reps.one rfl (Reps.none _ _)))))))); intro v6 w6 ho hb hg hat; have HB6 := Aside0.mk hb; have BK6 := Aside0.mk (blk_grown BKr.out hg (by simp)); have O6 := Aside0.mk ho; obtain ⟨A6, c6, e6⟩ := Kd.R_slice ho; replace e6 : v6 = Value.slice A6 6 c6 := e6; subst e6; clear ho hb hg hat) | (go_at_call 28; (with_reducible refine (recur_weekdays.calls fr _ FR.out).mono ?_); rintro e w8 ⟨v8, rfl, ho, hb⟩; have HB8 := Aside0.mk (below_then HB7.out HB7.out.size hb); have BK8 := Aside0.mk (blk_below BK7.out hb); have O8 := Aside0.mk ho; obtain ⟨A8, c8, e8⟩ := Kd.R_slice ho; subst e8; clear ho hb) | (go_at_call 71; (refine (recur_word.calls k1 A8 c8 fr a2 s1 s2 _ (Kd.R_reads' O8.out).2.2 (Kd.R_reads' O8.out).2.1 HT2.out).mono ?_); rintro e w9 ⟨rfl, hb⟩; have HB9 := Aside0.mk (below_then HB8.out HB8.out.size hb); have BK9 := Aside0.mk (blk_below BK8.out hb); obtain ⟨⟨z15, X15⟩, Z15⟩ := pt_cell BK9.out HCS.out 15 (by decide); clear hb) | (go_at_call 71; (refine (recur_word.calls k1 A6 c6 ([(⟨#[70, 82, 69, 81]⟩ : ByteArray), (⟨#[73, 78, 84, 69, 82, 86, 65, 76]⟩ : ByteArray), (⟨#[67, 79, 85, 78, 84]⟩ : ByteArray), (⟨#[85, 78, 84, 73, 76]⟩ : ByteArray), (⟨#[66, 89, 68, 65, 89]⟩ : ByteArray), (⟨#[87, 75, 83, 84]⟩ : ByteArray)] : List ByteArray) a1 _ _ _ (Kd.R_reads' O6.out).2.2 (Kd.R_reads' O6.out).2.1 HT.out).mono ?_); rintro e w7 ⟨rfl, hb⟩; have HB7 := Aside0.mk (below_then HB6.out HB6.out.size hb); have BK7 := Aside0.mk (blk_below BK6.out hb); clear hb))
                      go_ret
                      exact ⟨by rfl, _, by decide, HB9.out, rfl⟩
end Go.Proofs.YtjanombhdnoemaaGreatDoor.PRec
