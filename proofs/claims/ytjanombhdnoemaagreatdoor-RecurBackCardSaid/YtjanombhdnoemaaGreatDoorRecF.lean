-- A text of the kit's tools for this claim, its remarks left out.
import Derived.Test.YtjanombhdnoemaaGreatDoorRecD
import Derived.Test.YtjanombhdnoemaaGreatDoorPRecx7
namespace Go.Proofs.YtjanombhdnoemaaGreatDoor.PRec
open Go.RowKit Go.Proofs.YtjanombhdnoemaaGreatDoorW.PrintWords Go.Proofs.YtjanombhdnoemaaGreatDoorW.PrintLast Go.Proofs.YtjanombhdnoemaaGreatDoorW.PrintMore Go.Proofs.YtjanombhdnoemaaGreatDoor.Base
attribute [local go_sem] max2_int min2_int max_two min_two max_three min_three max_four min_four
set_option linter.unusedVariables false
set_option linter.unusedSimpArgs false
mutual
def recur_texts.l0 : Nat → List (ByteArray × List Int) → List ByteArray → Int → Option (List ByteArray)
 | 0, _, _, _ => none
 | k + 1, x0, x1, x2 => if x2 < (x0.length : Int) then (if 0 ≤ x2 then ((recur_texts.l1 k (rdOf ((⟨#[]⟩ : ByteArray), ([] : List Int)) x0 x2).2 ([] : List ByteArray) 0).bind fun t1 => (recur_texts.j2 k x0 x1 x2 t1)) else (none)) else (some x1)
def recur_texts.j2 : Nat → List (ByteArray × List Int) → List ByteArray → Int → List ByteArray → Option (List ByteArray)
 | 0, _, _, _, _ => none
 | k + 1, x0, x1, x2, x3 => if (x3.length : Int) > 0 then (if (rdOf ((⟨#[]⟩ : ByteArray), ([] : List Int)) x0 x2).1.size + 1 ≤ 9223372036854775807 then ((strings_Join.f x3 (⟨#[44]⟩ : ByteArray)).bind fun t2 => (if ((rdOf ((⟨#[]⟩ : ByteArray), ([] : List Int)) x0 x2).1 ++ (⟨#[61]⟩ : ByteArray)).size + t2.size ≤ 9223372036854775807 then (if x1.length < 8796093022208 then (recur_texts.l0 k x0 (x1 ++ [((rdOf ((⟨#[]⟩ : ByteArray), ([] : List Int)) x0 x2).1 ++ (⟨#[61]⟩ : ByteArray)) ++ t2]) (wrap64 (x2 + 1))) else (none)) else (none))) else (none)) else (recur_texts.l0 k x0 x1 (wrap64 (x2 + 1)))
def recur_texts.l1 : Nat → List Int → List ByteArray → Int → Option (List ByteArray)
 | 0, _, _, _ => none
 | k + 1, x0, x1, x2 => if x2 < (x0.length : Int) then (if 0 ≤ x2 then ((recur_signed.f (rd x0 x2)).bind fun t3 => (if x1.length < 8796093022208 then (recur_texts.l1 k x0 (x1 ++ [t3]) (wrap64 (x2 + 1))) else (none))) else (none)) else (some x1)
end
def recur_texts.f (k : Nat) (l0 : List (ByteArray × List Int)) : Option (List ByteArray) := recur_texts.l0 k l0 ([] : List ByteArray) 0
theorem recur_texts.mono_l : ∀ k, (∀ y0 y1 y2, LeO (recur_texts.l0 k y0 y1 y2) (recur_texts.l0 (k + 1) y0 y1 y2)) ∧ (∀ y0 y1 y2 y3, LeO (recur_texts.j2 k y0 y1 y2 y3) (recur_texts.j2 (k + 1) y0 y1 y2 y3)) ∧ (∀ y0 y1 y2, LeO (recur_texts.l1 k y0 y1 y2) (recur_texts.l1 (k + 1) y0 y1 y2))
  | 0 => ⟨fun _ _ _ r h => by simp [recur_texts.l0] at h, fun _ _ _ _ r h => by simp [recur_texts.j2] at h, fun _ _ _ r h => by simp [recur_texts.l1] at h⟩
  | k + 1 => by
    obtain ⟨ih0, ih1, ih2⟩ := recur_texts.mono_l k
    refine ⟨?_, ?_, ?_⟩ <;> intros
    all_goals first | unfold recur_texts.l0 | unfold recur_texts.j2 | unfold recur_texts.l1
    all_goals repeat' first | (with_reducible first | exact ih0 _ _ _ | exact ih1 _ _ _ _ | exact ih2 _ _ _ | exact LeO.refl _ | exact LeO.none _ | refine LeO.ite ?_ ?_ | refine LeO.bind ?_ (fun _ => ?_))
theorem recur_texts.mono : ∀ a0 k, LeO (recur_texts.f k a0) (recur_texts.f (k + 1) a0) := by
  intro a0 k
  exact (recur_texts.mono_l k).1 _ _ _
def Lst.two (x : Lst) : ByteArray × List Int := (x.nm, x.l)
theorem rd_two (xs : List Lst) (i : Int) : rdOf ((⟨#[]⟩ : ByteArray), ([] : List Int)) (xs.map Lst.two) i = (rd_L xs i).two := by
  unfold rdOf rd_L
  rw [List.getD_eq_getElem?_getD, List.getD_eq_getElem?_getD, List.getElem?_map]
  cases xs[i.toNat]? <;> rfl
theorem grown_ok {e e' base : Nat} {w w1 : World} {u v : Value} {xs ys : List ByteArray} {M : Nat} (h : Kd.R Kd.string e w base (fun k => k < M) u xs) (hv : Kd.R Kd.string e' w M (fun _ => True) v ys) (hg : w.grownBy w1 v.ownBlock) : Kd.R Kd.string e w1 base (fun k => k < M) u xs :=
  Kd.R_grown h hg (fun k hk he => by
    obtain ⟨_, ho⟩ := Kd.R_own hv
    have := own_base ho k he.symm
    omega)
def tx_.T12 : Bool × List (List Nat × List Nat) := (true, [([], []), ([], []), ([1], [1]), ([2], [2]), ([], []), ([4], [4]), ([3, 5], [3, 5]), ([6], [6]), ([0, 7, 5], [0, 7]), ([8, 8, 0, 1, 2, 3, 4, 5, 6, 7, 8], [0, 8])])
def tx_.B12 : List Nat := [0, 0, 2, 6, 0, 16, 62, 126, 255, 511]
theorem tx_.tab12 : rtab .any (opsOf Tryz.f26 12) = tx_.T12 := by kernel_rfl
theorem tx_.bits12 : waitsOk tx_.T12.2 tx_.B12 = true := by kernel_rfl
set_option maxHeartbeats 16000000 in
set_option maxRecDepth 100000 in
theorem recur_texts.calls (k : Nat) (A0 : Option Addr) (c0 : Nat) (l0 : List Lst) (r : List ByteArray) (w : World) (hG : GP w) (hr0 : Kd.C kL w A0 l0.length l0) (hc0 : l0.length ≤ c0) (hL : ∀ x ∈ l0, w.cell? x.p = some (.slice x.A x.l.length x.c) ∧ Kd.C (Kd.int .i64) w x.A x.l.length x.l ∧ x.l.length ≤ x.c) (h : recur_texts.f k (l0.map Lst.two) = some r) :
  Calls Tryz.prog 26 #[.slice A0 l0.length c0] w fun e w' => ∃ v0_ : Value, e = .returned v0_ ∧ Kd.R Kd.string 9 w' w.heap.size (fun _ => True) v0_ r ∧ Below w.heap.size w w' := by
  have HG := Aside0.mk hG
  have HR0 := Aside0.mk hr0
  have HC0 := Aside0.mk hc0
  have HL := Aside0.mk hL
  have hu84 := Tryz.underlying84
  have H' := Aside0.mk (show recur_texts.l0 k (l0.map Lst.two) ([] : List ByteArray) 0 = some r from h)
  have hml : ((l0.map Lst.two).length : Int) = (l0.length : Int) := by rw [List.length_map]
  have HML := Aside0.mk hml
  clear hG hr0 hc0 hL h hml
  go_enter Tryz.func26, Tryz.ntmps26
  go_wp2
  go_loopg [3, 11] k (fun kq v3 v11 w' => ∃ (y1 : List ByteArray) (i : Int), v11 = .int .i64 i ∧ Aside0 (recur_texts.l0 kq (l0.map Lst.two) y1 i = some r) ∧ Aside0 (kq ≤ k) ∧ Aside0 (Kd.R Kd.string 9 w' w.heap.size (fun _ => True) v3 y1) ∧ Aside0 (Below w.heap.size w w'))
  case atStart => exact ⟨[], 0, by rfl, H', ⟨Nat.le_refl _⟩, ⟨Kd.R_nil _ _ _ _ _⟩, ⟨Below.refl _ _⟩⟩
  case round =>
    clear H'
    obtain ⟨y1, i, rfl, HA, HK1, HO, HB⟩ := hrel
    cases gk with
    | zero => exact absurd HA.out (by simp [recur_texts.l0])
    | succ k1 =>
      have H := HA.out
      clear HA
      simp only [recur_texts.l0] at H
      rw [HML.out] at H
      by_cases c4 : i < (l0.length : Int)
      rotate_left
      · rw [if_neg c4] at H
        have c4b0 : decide (i < (l0.length : Int)) = false := decide_eq_false c4
        clear c4
        obtain rfl := Option.some.inj H
        go_wp2
        go_ret
        exact ⟨_, rfl, HO.out, HB.out⟩
      · rw [if_pos c4] at H
        by_cases c5 : 0 ≤ i
        rotate_left
        · rw [if_neg c5] at H; cases H
        · rw [if_pos c5, rd_two] at H
          have c4b0 : decide (i < (l0.length : Int)) = true := decide_eq_true c4
          have c5b1 := eq_true c5
          have c4b1 := eq_true c4
          obtain ⟨ad, e0, hx0, hx1, hx2, hx3, hx4⟩ := at_L HR0.out i c5 c4
          cases e0
          replace hx0 := (HB.out.cell (World.block_lt_of_cell? w _ hx0)).trans hx0; replace hx1 := (HB.out.cell (World.block_lt_of_cell? w _ hx1)).trans hx1; replace hx2 := (HB.out.cell (World.block_lt_of_cell? w _ hx2)).trans hx2; replace hx3 := (HB.out.cell (World.block_lt_of_cell? w _ hx3)).trans hx3; replace hx4 := (HB.out.cell (World.block_lt_of_cell? w _ hx4)).trans hx4
          have hmem : rd_L l0 i ∈ l0 := by
            unfold rd_L
            rw [List.getD_eq_getElem?_getD, List.getElem?_eq_getElem (by omega)]
            exact List.getElem_mem (by omega)
          obtain ⟨g1, g2, g3⟩ := HL.out _ hmem
          generalize hX : rd_L l0 i = X at hx0 hx1 hx2 hx3 hx4 g1 g2 g3 H
          clear hmem
          obtain ⟨nx, px, lo, hi, ng, Ax, cx, lx, rx⟩ := X
          have HX := Aside0.mk hX
          clear hX
          have hp := (HB.out.cell (World.block_lt_of_cell? w _ g1)).trans g1
          have G1 : ∀ ob, (wr.alloc ob).cell? px = some (.slice Ax lx.length cx) := fun ob => (World.cell?_alloc_lt _ _ _ (World.block_lt_of_cell? _ _ hp)).trans hp
          have G2 := Aside0.mk g2; have G3 := Aside0.mk g3
          replace H := Option.bind_eq_some_iff.1 H; obtain ⟨ws, hws, H⟩ := H
          have HWS := Aside0.mk (show recur_texts.l1 k1 lx ([] : List ByteArray) 0 = some ws from hws)
          have H' := Aside0.mk H
          obtain ⟨M, hM⟩ : ∃ M : Nat, M = wr.heap.size := ⟨_, rfl⟩
          obtain ⟨wo, hwo⟩ : ∃ wo : World, wo = wr := ⟨_, rfl⟩
          have EM := Aside0.mk (show M = wo.heap.size by rw [hwo]; exact hM)
          have EW := Aside0.mk hwo
          have hMw := Aside0.mk (show w.heap.size ≤ M by rw [hM]; exact HB.out.size)
          clear H hws g1 g2 g3 hp c4 c5 hM hwo
          go_wp2
          rw [show wr.heap.size = M by rw [EM.out, EW.out]]
          go_loopg [6, 20] k1 (fun kq v6 v20 w' => ∃ (y6 : List ByteArray) (j : Int), v20 = .int .i64 j ∧ Aside0 (recur_texts.l1 kq lx y6 j = some ws) ∧ Aside0 (kq ≤ k1) ∧ Aside0 (w'.heap[M]? = some (.cells #[.string nx, .pointer (some px), .int .i64 lo, .int .i64 hi, .bool ng] 84 (0, 0))) ∧ Aside0 (Kd.R Kd.string 9 w' w.heap.size (fun k => k < M) u3 y1) ∧ Aside0 (Kd.R Kd.string 9 w' M (fun _ => True) v6 y6) ∧ Aside0 (Below w.heap.size w w') ∧ Aside0 (Below M wo w'))
          case atStart => exact ⟨[], 0, by rfl, HWS, ⟨Nat.le_refl _⟩, ⟨by rw [EM.out, EW.out]; exact blk_new wr _⟩, ⟨Kd.R_below (Kd.R_mono (Kd.R_bound HO.out) (fun k hk => by rw [EM.out, EW.out]; exact hk.2.2.1)) (below_alloc (Below.refl _ _) _)⟩, ⟨Kd.R_nil _ _ _ _ _⟩, ⟨below_alloc HB.out _⟩, ⟨by rw [EM.out, EW.out]; exact below_alloc (Below.refl _ _) _⟩⟩
          case round =>
            clear HB HO HWS hx0 hx1 hx2 hx3 hx4 G1
            obtain ⟨y6, j, rfl, HA2, HK2, BG, HOut, HOw, HB, HBM⟩ := hrel
            cases gk with
            | zero => exact absurd HA2.out (by simp [recur_texts.l1])
            | succ k3 =>
              have H := HA2.out
              clear HA2
              simp only [recur_texts.l1] at H
              by_cases c6 : j < (lx.length : Int)
              · rw [if_pos c6] at H
                by_cases c7 : 0 ≤ j
                rotate_left
                · rw [if_neg c7] at H; cases H
                · rw [if_pos c7] at H
                  have c6b0 : decide (j < (lx.length : Int)) = true := decide_eq_true c6
                  have c6b1 := eq_true c6
                  have c7b1 := eq_true c7
                  obtain ⟨ad2, e2, hy⟩ := Kd.at_int G2.out j c7 c6
                  cases e2
                  replace hy := (HB.out.cell (World.block_lt_of_cell? w _ hy)).trans hy
                  replace H := Option.bind_eq_some_iff.1 H; obtain ⟨t3, ht3, H⟩ := H
                  by_cases c8 : y6.length < 8796093022208
                  rotate_left
                  · rw [if_neg c8] at H; cases H
                  · rw [if_pos c8] at H
                    have HT3 := Aside0.mk ht3
                    have H2 := Aside0.mk H
                    have L3 := Aside0.mk c8
                    clear ht3 H c8 c6 c7
                    go_wp2_with (first | (go_at_call 29; (with_reducible refine (recur_signed.calls _ t3 _ (GP_below HG.out HB.out) HT3.out).mono ?_); rintro e w5 ⟨rfl, hb⟩; have BG1 := Aside0.mk (blk_below BG.out hb); have HOut1 := Aside0.mk (Kd.R_below HOut.out hb); have HOw1 := Aside0.mk (Kd.R_below HOw.out hb); have HB1 := Aside0.mk (below_then HB.out HB.out.size hb); have HBM1 := Aside0.mk (below_then HBM.out (by have := EM.out; have := HBM.out.size; omega) hb); clear hb) | ((with_reducible refine gate_builtin (b := .append) (xs := #[.tmp 24, .tmp 27]) rfl ?_); at_builtin; refine Kd.R_append Kd.string (w0 := wo) M rfl (.tmp 24) (.tmp 27) 35 9 (.string ⟨#[]⟩) 16 rfl Tryz.underlying35 info9 rfl (by decide) (by omega) u6 y6 t3 [.string t3] (fun _ => True) (fun _ => False) rfl rfl ?aP (fun _ hk => hk.elim) ?aF ?aO ?aB ?aS ?aL ?_; (case aP => exact rfl); (case aB => exact HBM1.out); (case aF => exact (fun _ _ => trivial)); (case aO => exact HOw1.out); (case aS => exact (by have := EM.out; have := HBM1.out.size; omega)); (case aL => have := L3.out; omega); intro v9 w9 ho hb hg hat; have HOw2 := Aside0.mk ho; have HBM2 := Aside0.mk hb; have HOut2 := Aside0.mk (grown_ok HOut1.out HOw1.out hg); have BG2 := Aside0.mk (blk_grown BG1.out hg (Kd.R_ne HOw1.out BG1.out (by decide))); have HB2 := Aside0.mk (Below.grown HB1.out hg HB1.out.size (fun kk hkk => Nat.le_trans hMw.out (own_base (Kd.R_own HOw1.out).choose_spec kk hkk))); clear ho hb hg hat))
                    go_roundg k3
                    case measure => omega
                    case rel => exact ⟨y6 ++ [t3], wrap64 (j + 1), by rfl, H2, ⟨by have := HK2.out; omega⟩, BG2, HOut2, HOw2, HB2, HBM2⟩
              · rw [if_neg c6] at H
                have c6b0 : decide (j < (lx.length : Int)) = false := decide_eq_false c6
                obtain rfl := Option.some.inj H
                clear H c6
                have H := H'.out
                clear H'
                cases k1 with
                | zero => exact absurd H (by simp [recur_texts.j2])
                | succ k4 =>
                  simp only [recur_texts.j2, rd_two, HX.out, Lst.two] at H
                  by_cases c8 : (y6.length : Int) > 0
                  rotate_left
                  · rw [if_neg c8] at H
                    have c8b0 : decide (0 < (y6.length : Int)) = false := decide_eq_false c8
                    have c8b1 : decide (0 < y6.length) = false := decide_eq_false (by omega)
                    have H2 := Aside0.mk H
                    obtain ⟨Aw, cw, ew⟩ := Kd.R_slice HOw.out
                    subst ew
                    clear c8 H
                    go_wp2
                    go_roundg k4
                    case measure => omega
                    case rel => exact ⟨y1, wrap64 (i + 1), by rfl, H2, ⟨by have := HK1.out; omega⟩, ⟨Kd.R_mono HOut.out (fun _ _ => trivial)⟩, HB⟩
                  · rw [if_pos c8] at H
                    by_cases c9 : nx.size + 1 ≤ 9223372036854775807
                    rotate_left
                    · rw [if_neg c9] at H; cases H
                    · rw [if_pos c9] at H
                      replace H := Option.bind_eq_some_iff.1 H; obtain ⟨t2, ht2, H⟩ := H
                      by_cases c10 : (nx ++ (⟨#[61]⟩ : ByteArray)).size + t2.size ≤ 9223372036854775807
                      rotate_left
                      · rw [if_neg c10] at H; cases H
                      · rw [if_pos c10] at H
                        by_cases c11 : y1.length < 8796093022208
                        rotate_left
                        · rw [if_neg c11] at H; cases H
                        · rw [if_pos c11] at H
                          have c8b0 : decide (0 < (y6.length : Int)) = true := decide_eq_true c8
                          have c8b1 : decide (0 < y6.length) = true := decide_eq_true (by omega)
                          have c8b2 := eq_true (show 0 < y6.length by omega)
                          have c9b0 : (9223372036854775807 < nx.size + 1) = False := eq_false (Nat.not_lt.2 c9)
                          have c9b1 : decide (nx.size + 1 ≤ 9223372036854775807) = true := decide_eq_true c9
                          have c10b0 : (9223372036854775807 < (nx ++ (⟨#[61]⟩ : ByteArray)).size + t2.size) = False := eq_false (Nat.not_lt.2 c10)
                          have c10b1 : (9223372036854775807 < nx.size + 1 + t2.size) = False := eq_false (Nat.not_lt.2 (by have h_ := c10; simp only [ByteArray.size_append] at h_; exact h_))
                          have H2 := Aside0.mk H
                          have HT2 := Aside0.mk ht2
                          have L3 := Aside0.mk c11
                          obtain ⟨Aw, cw, ew⟩ := Kd.R_slice HOw.out
                          subst ew
                          clear c8 c9 c10 c11 H ht2 HBM
                          go_wp2
                          replace BG := Aside0.mk (blk_drew BG.out)
                          replace HB := Aside0.mk (below_drew1 HB.out)
                          replace HOut := Aside0.mk (Kd.R_drew HOut.out)
                          replace HOw := Aside0.mk (Kd.R_drew HOw.out)
                          refine start_ (n := 10) (S := fun w' => w'.cell? ⟨M, 0, none⟩ = some (.string nx)) (ds := []) #[false, false, false, false, false, false, false, false, false, false] (by kernel_rfl) rfl rfl ((blk_cell BG.out 0).trans rfl) (fun hHeld => ?_); refine with_tabW tx_.tab12 tx_.bits12 (fun HT_ HW_ => ?_)
                          generalize wr.drew = wd at BG HB HOut HOw hHeld ⊢
                          refine pure_ (i := 0) (N := some 33) (v := ?_) (a' := ?_) #[true, false, false, false, false, false, false, false, false, false] rfl rfl (any_of HT_.out (by kernel_rfl)) (fun _ _ _ h => h) (Or.inl ⟨by rfl, ?_⟩) ?_ ?_
                          rotate_left
                          · intro w'
                            go_simp
                            with_reducible rfl
                          rotate_left
                          · simp only [Act.put, List.setIfInBounds_toArray, List.set_cons_zero, List.set_cons_succ, i64_w, i32_w]
                            rfl
                          refine pure_ (i := 1) (N := some 34) (v := ?_) (a' := ?_) #[true, true, false, false, false, false, false, false, false, false] rfl rfl (any_of HT_.out (by kernel_rfl)) (fun _ _ _ h => h) (Or.inl ⟨by rfl, ?_⟩) ?_ ?_
                          rotate_left
                          · intro w'
                            go_simp
                            with_reducible rfl
                          rotate_left
                          · simp only [Act.put, List.setIfInBounds_toArray, List.set_cons_zero, List.set_cons_succ, i64_w, i32_w]
                            rfl
                          refine pure_ (i := 4) (N := some 37) (v := ?_) (a' := ?_) #[true, true, false, false, true, false, false, false, false, false] rfl rfl (any_of HT_.out (by kernel_rfl)) (fun _ _ _ h => h) (Or.inl ⟨by rfl, ?_⟩) ?_ ?_
                          rotate_left
                          · intro w'
                            go_simp
                            with_reducible rfl
                          rotate_left
                          · simp only [Act.put, List.setIfInBounds_toArray, List.set_cons_zero, List.set_cons_succ, i64_w, i32_w]
                            rfl
                          refine take_ (i := 2) (N := some 35) (v := ?_) (a' := ?_) #[true, true, true, false, true, false, false, false, false, false] rfl rfl (take_ofW HT_.out HW_.out (by kernel_rfl)) (fun _ _ _ h => h) (Or.inl ⟨by rfl, ?_⟩) hHeld ?_ ?_
                          rotate_left
                          · rintro w' s0
                            go_simp
                            with_reducible rfl
                          rotate_left
                          · simp only [Act.put, List.setIfInBounds_toArray, List.set_cons_zero, List.set_cons_succ, i64_w, i32_w]
                            rfl
                          refine pure_ (i := 3) (N := some 36) (v := ?_) (a' := ?_) #[true, true, true, true, true, false, false, false, false, false] rfl rfl (any_of HT_.out (by kernel_rfl)) (fun _ _ _ h => h) (Or.inl ⟨by rfl, ?_⟩) ?_ ?_
                          rotate_left
                          · intro w'
                            go_simp
                            with_reducible rfl
                          rotate_left
                          · simp only [Act.put, List.setIfInBounds_toArray, List.set_cons_zero, List.set_cons_succ, i64_w, i32_w]
                            rfl
                          refine one_ (i := 5) (N := some 38) #[true, true, true, true, true, true, false, false, false, false] rfl rfl (one_of HT_.out (by kernel_rfl)) (by decide) (fun K hK => ?_)
                          refine goes_ Tryz.func30 (by kernel_rfl) rfl #[.slice Aw y6.length cw, .string (⟨#[44]⟩ : ByteArray)] (by rfl) rfl rfl (by (try simp only [List.map_toArray, List.map_cons, List.map_nil]); first | done | rfl) ?_
                          (with_reducible refine (strings_Join.calls _ _ y6 _ t2 _ (Kd.R_reads' HOw.out).2.2 (Kd.R_reads' HOw.out).2.1 HT2.out).mono ?_)
                          rintro e w5 ⟨rfl, hb⟩
                          refine ⟨_, rfl, ?_⟩
                          have BG1 := Aside0.mk (blk_below BG.out hb); have HB1 := Aside0.mk (below_then HB.out HB.out.size hb); have HOut1 := Aside0.mk (Kd.R_below HOut.out hb); clear hb
                          refine hK.out _ _ ((blk_cell BG1.out 0).trans rfl) (fun hHeld => ?_)
                          clear hK K
                          refine norm_ (a' := ?_) ?_ ?_
                          rotate_left
                          · show Act.put _ (some 38) _ = _
                            simp only [Act.put, List.setIfInBounds_toArray, List.set_cons_zero, List.set_cons_succ, i64_w, i32_w]
                            rfl
                          refine pure_ (i := 6) (N := some 39) (v := ?_) (a' := ?_) #[true, true, true, true, true, true, true, false, false, false] rfl rfl (any_of HT_.out (by kernel_rfl)) (fun _ _ _ h => h) (Or.inl ⟨by rfl, ?_⟩) ?_ ?_
                          rotate_left
                          · intro w'
                            go_simp
                            with_reducible rfl
                          rotate_left
                          · simp only [Act.put, List.setIfInBounds_toArray, List.set_cons_zero, List.set_cons_succ, i64_w, i32_w]
                            rfl
                          refine one_ (i := 7) (N := some 40) #[true, true, true, true, true, true, true, true, false, false] rfl rfl (one_of HT_.out (by kernel_rfl)) (by decide) (fun K hK => ?_)
                          refine value_ (w1 := ?_) (v := ?_) (by rfl) rfl ?_ ?_
                          rotate_left 2
                          · go_simp
                            constructor
                            · rfl
                            · rfl
                          refine hK.out _ _ ((World.cell?_alloc_past _ _ _ (blk_lt BG1.out)).trans hHeld) (fun hHeld => ?_)
                          clear hK K
                          refine norm_ (a' := ?_) ?_ ?_
                          rotate_left
                          · show Act.put _ (some 40) _ = _
                            simp only [Act.put, List.setIfInBounds_toArray, List.set_cons_zero, List.set_cons_succ, i64_w, i32_w]
                            rfl
                          refine one_ (i := 8) (N := some 41) #[true, true, true, true, true, true, true, true, true, false] rfl rfl (one_of HT_.out (by kernel_rfl)) (by decide) (fun K hK => ?_)
                          refine Kd.R_append_step Kd.string (w0 := w) w.heap.size (by rfl) (.tmp 33) (.tmp 40) 35 9 (.string ⟨#[]⟩) 16 rfl Tryz.underlying35 info9 rfl (by decide) (by omega) _ y1 ((nx ++ (⟨#[61]⟩ : ByteArray)) ++ t2) [.string ((nx ++ (⟨#[61]⟩ : ByteArray)) ++ t2)] (fun _ => True) (fun _ => False) rfl rfl rfl (fun _ hk => hk.elim) (fun _ _ => trivial) (Kd.R_mono HOut1.out (fun _ _ => trivial)) HB1.out HB1.out.size (by have := L3.out; omega) ?_
                          intro v1 w6 ho hb hg hat
                          have HB2 := Aside0.mk hb
                          have HO2 := Aside0.mk ho
                          have BG2 := Aside0.mk (blk_grown BG1.out hg (Kd.R_ne HOut1.out BG1.out (by decide)))
                          clear ho hb hg hat
                          refine hK.out _ _ ((blk_cell BG2.out 0).trans rfl) (fun hHeld => ?_)
                          clear hK K
                          refine norm_ (a' := ?_) ?_ ?_
                          rotate_left
                          · show Act.put _ (some 41) _ = _
                            simp only [Act.put, List.setIfInBounds_toArray, List.set_cons_zero, List.set_cons_succ, i64_w, i32_w]
                            rfl
                          refine pure_ (i := 9) (N := some 3) (v := ?_) (a' := ?_) #[true, true, true, true, true, true, true, true, true, true] rfl rfl (any_of HT_.out (by kernel_rfl)) (fun _ _ _ h => h) (Or.inl ⟨by rfl, ?_⟩) ?_ ?_
                          rotate_left
                          · intro w'
                            go_simp
                            with_reducible rfl
                          rotate_left
                          · simp only [Act.put, List.setIfInBounds_toArray, List.set_cons_zero, List.set_cons_succ, i64_w, i32_w]
                            rfl
                          refine done_ (done_of HT_.out (by kernel_rfl)) ?_
                          go_wp2
                          go_roundg k4
                          case measure => omega
                          case rel => exact ⟨y1 ++ [(nx ++ (⟨#[61]⟩ : ByteArray)) ++ t2], wrap64 (i + 1), by rfl, H2, ⟨by have := HK1.out; omega⟩, HO2, HB2⟩
end Go.Proofs.YtjanombhdnoemaaGreatDoor.PRec
