-- A text of the kit's tools for this claim, its remarks left out.
import Derived.Test.YtjanombhdnoemaaGreatDoorRecC
import Derived.Test.YtjanombhdnoemaaGreatDoorPRecx3
namespace Go.Proofs.YtjanombhdnoemaaGreatDoor.PRec
open Go.RowKit Go.Proofs.YtjanombhdnoemaaGreatDoorW.PrintWords Go.Proofs.YtjanombhdnoemaaGreatDoorW.PrintLast Go.Proofs.YtjanombhdnoemaaGreatDoorW.PrintMore Go.Proofs.YtjanombhdnoemaaGreatDoor.Base
attribute [local go_sem] max2_int min2_int max_two min_two max_three min_three max_four min_four
set_option linter.unusedVariables false
set_option linter.unusedSimpArgs false
structure Lst where
 nm : ByteArray
 p : Addr
 lo : Int
 hi : Int
 ng : Bool
 A : Option Addr
 c : Nat
 l : List Int
 r : Bool
def kL : Kd Lst where
 sz := 5
 E := []
 K := fun _ x cs => cs = [.string x.nm, .pointer (some x.p), .int .i64 x.lo, .int .i64 x.hi, .bool x.ng]
 M := fun _ _ _ x cs => cs = [.string x.nm, .pointer (some x.p), .int .i64 x.lo, .int .i64 x.hi, .bool x.ng]
 K_len := by rintro w x cs rfl; rfl
 K_one := by
  rintro w x cs rfl u hu
  simp only [List.mem_cons, List.not_mem_nil, or_false] at hu
  rcases hu with rfl | rfl | rfl | rfl | rfl <;> rfl
 K_below := fun _ h => h
 K_of_M := fun h => h
 M_mono := fun _ h => h
 M_bound := fun h => h
 M_move := fun _ h => h
 M_lower := fun _ h => h
def zL : Lst := ⟨⟨#[]⟩, ⟨0, 0, none⟩, 0, 0, false, none, 0, [], true⟩
def rd_L (xs : List Lst) (i : Int) : Lst := xs.getD i.toNat zL
theorem at_L {w : World} {A : Option Addr} {n : Nat} {xs : List Lst} (h : Kd.C kL w A n xs) (i : Int) (h0 : 0 ≤ i) (h1 : i < n) : ∃ ad, A = some ad ∧ w.cell? (ad.add (i.toNat * 5)) = some (.string (rd_L xs i).nm) ∧ w.cell? ⟨(ad.add (i.toNat * 5)).block, (ad.add (i.toNat * 5)).off + 1, none⟩ = some (.pointer (some (rd_L xs i).p)) ∧ w.cell? ⟨(ad.add (i.toNat * 5)).block, (ad.add (i.toNat * 5)).off + 2, none⟩ = some (.int .i64 (rd_L xs i).lo) ∧ w.cell? ⟨(ad.add (i.toNat * 5)).block, (ad.add (i.toNat * 5)).off + 3, none⟩ = some (.int .i64 (rd_L xs i).hi) ∧ w.cell? ⟨(ad.add (i.toNat * 5)).block, (ad.add (i.toNat * 5)).off + 4, none⟩ = some (.bool (rd_L xs i).ng) := by
 obtain ⟨ad, c, e, _, hK, hc0⟩ := Kd.C_get h zL i h0 h1
 have hc : ∀ j u, c[j]? = some u → w.cell? (ad.add (i.toNat * 5 + j)) = some u := hc0
 obtain rfl : c = _ := hK
 exact ⟨ad, e, hc 0 _ rfl, by rw [← add_field _ _ 1 (by omega)]; exact hc 1 _ rfl, by rw [← add_field _ _ 2 (by omega)]; exact hc 2 _ rfl, by rw [← add_field _ _ 3 (by omega)]; exact hc 3 _ rfl, by rw [← add_field _ _ 4 (by omega)]; exact hc 4 _ rfl⟩
theorem info84 : (Tryz.prog.info? 84).map (fun i => (i.zero, i.size, i.bytes)) = some (some (.agg #[.string ByteArray.empty, .pointer none, .int .i64 0, .int .i64 0, .bool false]), 5, 48) := by kernel_rfl
set_option maxHeartbeats 8000000 in
set_option maxRecDepth 100000 in
theorem recur_lidx.calls (k : Nat) (A0 : Option Addr) (c0 : Nat) (l0 : List Lst) (w : World) (hr0 : Kd.C kL w A0 l0.length l0) (hc0 : l0.length ≤ c0) (hL : ∀ x ∈ l0, w.cell? x.p = some (.slice x.A x.l.length x.c) ∧ Kd.C (Kd.int .i64) w x.A x.l.length x.l ∧ x.l.length ≤ x.c ∧ recur_right.f k x.lo x.hi x.ng x.l = some x.r) :
 Calls Tryz.prog 85 #[.slice A0 l0.length c0, .func (.func 46) #[] #[]] w fun e w' => ∃ r : Int, e = .returned (.int .i64 r) ∧ decide (0 ≤ r) = l0.any (fun x : Lst => !x.r) ∧ Below w.heap.size w w' := by
 have HR0 := Aside0.mk hr0
 have HC0 := Aside0.mk hc0
 have HL := Aside0.mk hL; clear hL
 have hmx := Aside0.mk (Kd.C_max hr0)
 clear hr0 hc0
 go_enter Tryz.func85, Tryz.ntmps85
 go_wp2
 go_loopg [8] (l0.length + 1) (fun kq v8 w' => ∃ (i : Int), v8 = .int .i64 i ∧ Aside0 (0 ≤ i ∧ i + kq = l0.length + 1) ∧ Aside0 ((l0.take i.toNat).any (fun x : Lst => !x.r) = false) ∧ Aside0 (Below w.heap.size w w'))
 case atStart => exact ⟨0, by rfl, ⟨by omega⟩, ⟨by simp⟩, ⟨Below.refl _ _⟩⟩
 case round =>
  obtain ⟨i, rfl, HA, HF, HB⟩ := hrel
  have hA := HA.out
  by_cases c4 : i.toNat < l0.length
  rotate_left
  ·have c4b0 : decide (i < (l0.length : Int)) = false := decide_eq_false (by omega)
   have hall : l0.any (fun x : Lst => !x.r) = false := by have := HF.out; rwa [List.take_of_length_le (by omega)] at this
   clear c4 hA
   go_wp2
   go_ret
   exact ⟨-1, by rfl, by rw [hall]; rfl, HB.out⟩
  ·have c4b0 : decide (i < (l0.length : Int)) = true := decide_eq_true (by omega)
   have c5b1 : (0 ≤ i) = True := eq_true (by omega)
   have c4b1 : (i < (l0.length : Int)) = True := eq_true (by omega)
   obtain ⟨ad, e0, hx0, hx1, hx2, hx3, hx4⟩ := at_L HR0.out i (by omega) (by omega)
   cases e0
   replace hx0 := (HB.out.cell (World.block_lt_of_cell? w _ hx0)).trans hx0; replace hx1 := (HB.out.cell (World.block_lt_of_cell? w _ hx1)).trans hx1; replace hx2 := (HB.out.cell (World.block_lt_of_cell? w _ hx2)).trans hx2; replace hx3 := (HB.out.cell (World.block_lt_of_cell? w _ hx3)).trans hx3; replace hx4 := (HB.out.cell (World.block_lt_of_cell? w _ hx4)).trans hx4
   have e1 : rd_L l0 i = l0[i.toNat] := by first | (unfold rd; rw [List.getD_eq_getElem?_getD, List.getElem?_eq_getElem c4]; rfl) | (unfold rd_L; rw [List.getD_eq_getElem?_getD, List.getElem?_eq_getElem c4]; rfl)
   have C4 := Aside0.mk c4
   obtain ⟨g1, g2, g3, g4⟩ := HL.out _ (show rd_L l0 i ∈ l0 by rw [e1]; exact List.getElem_mem c4)
   have G1 := Aside0.mk ((HB.out.cell (World.block_lt_of_cell? w _ g1)).trans g1); have G2 := Aside0.mk (Kd.C_below g2 HB.out); have G3 := Aside0.mk g3; have G4 := Aside0.mk g4; clear g1 g2 g3 g4
   by_cases c6 : (!(rd_L l0 i).r) = true
   ·have hany : l0.any (fun x : Lst => !x.r) = true := List.any_eq_true.2 ⟨l0[i.toNat], List.getElem_mem c4, by rw [← e1]; exact c6⟩
    have HY := Aside0.mk hany
    have C6 := Aside0.mk (show (!(rd_L l0 i).r) = true from c6)
    clear c4 e1 hany c6 hA
    go_wp2_with (first | (go_at_call 46; (with_reducible refine (recur_chk1.calls k _ _ _ _ _ _ _ (rd_L l0 i).l (rd_L l0 i).r _ G1.out G2.out G3.out G4.out).mono ?_); rintro e w2 ⟨rfl, hb2⟩; rw [C6.out]; have HB2 := Aside0.mk (below_then HB.out HB.out.size hb2); clear hb2))
    go_ret
    exact ⟨i, by rfl, by rw [HY.out]; exact decide_eq_true (by have := HA.out; omega), HB2.out⟩
   ·replace c6 := Bool.eq_false_iff.mpr c6
    have hstep : (l0.take (i + 1).toNat).any (fun x : Lst => !x.r) = false := by
     rw [show (i + 1).toNat = i.toNat + 1 by omega, List.take_add_one, List.getElem?_eq_getElem c4, List.any_append, HF.out, Bool.false_or]
     simpa [← e1] using c6
    have HY := Aside0.mk hstep
    have C6 := Aside0.mk (show (!(rd_L l0 i).r) = false from c6)
    clear c4 e1 hstep c6 hA
    go_wp2_with (first | (go_at_call 46; (with_reducible refine (recur_chk1.calls k _ _ _ _ _ _ _ (rd_L l0 i).l (rd_L l0 i).r _ G1.out G2.out G3.out G4.out).mono ?_); rintro e w2 ⟨rfl, hb2⟩; rw [C6.out]; have HB2 := Aside0.mk (below_then HB.out HB.out.size hb2); clear hb2))
    go_roundg (gk - 1)
    case measure => have := HA.out; have := C4.out; omega
    case rel => exact ⟨i + 1, by rw [show wrap64 (i + 1) = i + 1 by have := HA.out; have := C4.out; have := hmx.out; unfold wrap64; omega], ⟨by have := HA.out; have := C4.out; omega⟩, HY, HB2⟩
set_option maxHeartbeats 8000000 in
set_option maxRecDepth 100000 in
theorem recur_lhas.calls (k : Nat) (A0 : Option Addr) (c0 : Nat) (l0 : List Lst) (w : World) (hr0 : Kd.C kL w A0 l0.length l0) (hc0 : l0.length ≤ c0) (hL : ∀ x ∈ l0, w.cell? x.p = some (.slice x.A x.l.length x.c) ∧ Kd.C (Kd.int .i64) w x.A x.l.length x.l ∧ x.l.length ≤ x.c ∧ recur_right.f k x.lo x.hi x.ng x.l = some x.r) :
 Calls Tryz.prog 49 #[.slice A0 l0.length c0, .func (.func 46) #[] #[]] w fun e w' => e = .returned (.bool (l0.any fun x : Lst => !x.r)) ∧ Below w.heap.size w w' := by
 have HR0 := Aside0.mk hr0
 have HC0 := Aside0.mk hc0
 have HL := Aside0.mk hL
 clear hr0 hc0 hL
 go_enter Tryz.func49, Tryz.ntmps49
 go_wp2_with (first | (go_at_call 85; (with_reducible refine (recur_lidx.calls k _ _ l0 _ HR0.out HC0.out HL.out).mono ?_); rintro e w2 ⟨r, rfl, hr, hb2⟩; have HR := Aside0.mk hr; have HB2 := Aside0.mk hb2; clear hb2 hr))
 go_ret
 exact ⟨by rw [← HR.out]; rfl, HB2.out⟩
def beforeL (g : Nat) (A13 : Option Addr) (c13 : Nat) (l13 : List Int) (r13 : Bool) (A12 : Option Addr) (c12 : Nat) (l12 : List Int) (r12 : Bool) (A11 : Option Addr) (c11 : Nat) (l11 : List Int) (r11 : Bool) (A10 : Option Addr) (c10 : Nat) (l10 : List Int) (r10 : Bool) : List Lst := [⟨(⟨#[66, 89, 77, 79, 78, 84, 72]⟩ : ByteArray), ⟨g, 13, none⟩, 1, 12, false, A13, c13, l13, r13⟩, ⟨(⟨#[66, 89, 87, 69, 69, 75, 78, 79]⟩ : ByteArray), ⟨g, 12, none⟩, 1, 53, true, A12, c12, l12, r12⟩, ⟨(⟨#[66, 89, 89, 69, 65, 82, 68, 65, 89]⟩ : ByteArray), ⟨g, 11, none⟩, 1, 366, true, A11, c11, l11, r11⟩, ⟨(⟨#[66, 89, 77, 79, 78, 84, 72, 68, 65, 89]⟩ : ByteArray), ⟨g, 10, none⟩, 1, 31, true, A10, c10, l10, r10⟩]
def before_.T1 : Bool × List (List Nat × List Nat) := (true, [([], []), ([0], [0]), ([1], [1]), ([2], [2]), ([], []), ([4], [4]), ([5], [5]), ([6], [6]), ([], []), ([8], [8]), ([9], [9]), ([10], [10]), ([], []), ([12], [12]), ([13], [13]), ([14], [14]), ([3, 7, 11, 15], [3, 7, 11, 15]), ([16, 0, 1, 2, 3, 4, 5, 6, 7, 8, 9, 10, 11, 12, 13, 14, 15, 16], [16])])
def before_.B1 : List Nat := [0, 1, 3, 7, 0, 16, 48, 112, 0, 256, 768, 1792, 0, 4096, 12288, 28672, 65535, 131071]
theorem before_.tab1 : rtab .any (opsOf Tryz.f27 1) = before_.T1 := by kernel_rfl
theorem before_.bits1 : waitsOk before_.T1.2 before_.B1 = true := by kernel_rfl
set_option maxHeartbeats 8000000 in
set_option maxRecDepth 100000 in
theorem recur_before.calls (g : Nat) (A13 : Option Addr) (c13 : Nat) (l13 : List Int) (r13 : Bool) (A12 : Option Addr) (c12 : Nat) (l12 : List Int) (r12 : Bool) (A11 : Option Addr) (c11 : Nat) (l11 : List Int) (r11 : Bool) (A10 : Option Addr) (c10 : Nat) (l10 : List Int) (r10 : Bool) (w : World) :
 Calls Tryz.prog 27 #[.pointer (some ⟨g, 0, none⟩)] w fun e w' => ∃ v0_ : Value, e = .returned v0_ ∧ Kd.R kL 84 w' w.heap.size (fun _ => True) v0_ (beforeL g A13 c13 l13 r13 A12 c12 l12 r12 A11 c11 l11 r11 A10 c10 l10 r10) ∧ Below w.heap.size w w' := by
 have hu25 := Tryz.underlying25
 have hu84 := Tryz.underlying84
 go_enter Tryz.func27, Tryz.ntmps27
 go_wp2
 refine start_ (n := 18) (S := fun w' => True) (ds := []) #[false, false, false, false, false, false, false, false, false, false, false, false, false, false, false, false, false, false] (by kernel_rfl) rfl rfl trivial (fun hHeld => ?_); refine with_tabW before_.tab1 before_.bits1 (fun HT_ HW_ => ?_)
 refine pure_ (i := 0) (N := some 3) (v := ?_) (a' := ?_) #[true, false, false, false, false, false, false, false, false, false, false, false, false, false, false, false, false, false] rfl rfl (any_of HT_.out (by kernel_rfl)) (fun _ _ _ h => h) (Or.inl ⟨by rfl, ?_⟩) ?_ ?_
 rotate_left
 ·intro w'
  go_simp
  with_reducible rfl
 rotate_left
 ·simp only [Act.put, List.setIfInBounds_toArray, List.set_cons_zero, List.set_cons_succ, i64_w, i32_w]
  rfl
 refine pure_ (i := 1) (N := some 4) (v := ?_) (a' := ?_) #[true, true, false, false, false, false, false, false, false, false, false, false, false, false, false, false, false, false] rfl rfl (any_of HT_.out (by kernel_rfl)) (fun _ _ _ h => h) (Or.inl ⟨by rfl, ?_⟩) ?_ ?_
 rotate_left
 ·intro w'
  go_simp
  with_reducible rfl
 rotate_left
 ·simp only [Act.put, List.setIfInBounds_toArray, List.set_cons_zero, List.set_cons_succ, i64_w, i32_w]
  rfl
 refine pure_ (i := 2) (N := some 5) (v := ?_) (a' := ?_) #[true, true, true, false, false, false, false, false, false, false, false, false, false, false, false, false, false, false] rfl rfl (any_of HT_.out (by kernel_rfl)) (fun _ _ _ h => h) (Or.inl ⟨by rfl, ?_⟩) ?_ ?_
 rotate_left
 ·intro w'
  go_simp
  with_reducible rfl
 rotate_left
 ·simp only [Act.put, List.setIfInBounds_toArray, List.set_cons_zero, List.set_cons_succ, i64_w, i32_w]
  rfl
 refine pure_ (i := 3) (N := some 6) (v := ?_) (a' := ?_) #[true, true, true, true, false, false, false, false, false, false, false, false, false, false, false, false, false, false] rfl rfl (any_of HT_.out (by kernel_rfl)) (fun _ _ _ h => h) (Or.inl ⟨by rfl, ?_⟩) ?_ ?_
 rotate_left
 ·intro w'
  go_simp
  with_reducible rfl
 rotate_left
 ·simp only [Act.put, List.setIfInBounds_toArray, List.set_cons_zero, List.set_cons_succ, i64_w, i32_w]
  rfl
 refine pure_ (i := 4) (N := some 7) (v := ?_) (a' := ?_) #[true, true, true, true, true, false, false, false, false, false, false, false, false, false, false, false, false, false] rfl rfl (any_of HT_.out (by kernel_rfl)) (fun _ _ _ h => h) (Or.inl ⟨by rfl, ?_⟩) ?_ ?_
 rotate_left
 ·intro w'
  go_simp
  with_reducible rfl
 rotate_left
 ·simp only [Act.put, List.setIfInBounds_toArray, List.set_cons_zero, List.set_cons_succ, i64_w, i32_w]
  rfl
 refine pure_ (i := 5) (N := some 8) (v := ?_) (a' := ?_) #[true, true, true, true, true, true, false, false, false, false, false, false, false, false, false, false, false, false] rfl rfl (any_of HT_.out (by kernel_rfl)) (fun _ _ _ h => h) (Or.inl ⟨by rfl, ?_⟩) ?_ ?_
 rotate_left
 ·intro w'
  go_simp
  with_reducible rfl
 rotate_left
 ·simp only [Act.put, List.setIfInBounds_toArray, List.set_cons_zero, List.set_cons_succ, i64_w, i32_w]
  rfl
 refine pure_ (i := 6) (N := some 9) (v := ?_) (a' := ?_) #[true, true, true, true, true, true, true, false, false, false, false, false, false, false, false, false, false, false] rfl rfl (any_of HT_.out (by kernel_rfl)) (fun _ _ _ h => h) (Or.inl ⟨by rfl, ?_⟩) ?_ ?_
 rotate_left
 ·intro w'
  go_simp
  with_reducible rfl
 rotate_left
 ·simp only [Act.put, List.setIfInBounds_toArray, List.set_cons_zero, List.set_cons_succ, i64_w, i32_w]
  rfl
 refine pure_ (i := 7) (N := some 10) (v := ?_) (a' := ?_) #[true, true, true, true, true, true, true, true, false, false, false, false, false, false, false, false, false, false] rfl rfl (any_of HT_.out (by kernel_rfl)) (fun _ _ _ h => h) (Or.inl ⟨by rfl, ?_⟩) ?_ ?_
 rotate_left
 ·intro w'
  go_simp
  with_reducible rfl
 rotate_left
 ·simp only [Act.put, List.setIfInBounds_toArray, List.set_cons_zero, List.set_cons_succ, i64_w, i32_w]
  rfl
 refine pure_ (i := 8) (N := some 11) (v := ?_) (a' := ?_) #[true, true, true, true, true, true, true, true, true, false, false, false, false, false, false, false, false, false] rfl rfl (any_of HT_.out (by kernel_rfl)) (fun _ _ _ h => h) (Or.inl ⟨by rfl, ?_⟩) ?_ ?_
 rotate_left
 ·intro w'
  go_simp
  with_reducible rfl
 rotate_left
 ·simp only [Act.put, List.setIfInBounds_toArray, List.set_cons_zero, List.set_cons_succ, i64_w, i32_w]
  rfl
 refine pure_ (i := 9) (N := some 12) (v := ?_) (a' := ?_) #[true, true, true, true, true, true, true, true, true, true, false, false, false, false, false, false, false, false] rfl rfl (any_of HT_.out (by kernel_rfl)) (fun _ _ _ h => h) (Or.inl ⟨by rfl, ?_⟩) ?_ ?_
 rotate_left
 ·intro w'
  go_simp
  with_reducible rfl
 rotate_left
 ·simp only [Act.put, List.setIfInBounds_toArray, List.set_cons_zero, List.set_cons_succ, i64_w, i32_w]
  rfl
 refine pure_ (i := 10) (N := some 13) (v := ?_) (a' := ?_) #[true, true, true, true, true, true, true, true, true, true, true, false, false, false, false, false, false, false] rfl rfl (any_of HT_.out (by kernel_rfl)) (fun _ _ _ h => h) (Or.inl ⟨by rfl, ?_⟩) ?_ ?_
 rotate_left
 ·intro w'
  go_simp
  with_reducible rfl
 rotate_left
 ·simp only [Act.put, List.setIfInBounds_toArray, List.set_cons_zero, List.set_cons_succ, i64_w, i32_w]
  rfl
 refine pure_ (i := 11) (N := some 14) (v := ?_) (a' := ?_) #[true, true, true, true, true, true, true, true, true, true, true, true, false, false, false, false, false, false] rfl rfl (any_of HT_.out (by kernel_rfl)) (fun _ _ _ h => h) (Or.inl ⟨by rfl, ?_⟩) ?_ ?_
 rotate_left
 ·intro w'
  go_simp
  with_reducible rfl
 rotate_left
 ·simp only [Act.put, List.setIfInBounds_toArray, List.set_cons_zero, List.set_cons_succ, i64_w, i32_w]
  rfl
 refine pure_ (i := 12) (N := some 15) (v := ?_) (a' := ?_) #[true, true, true, true, true, true, true, true, true, true, true, true, true, false, false, false, false, false] rfl rfl (any_of HT_.out (by kernel_rfl)) (fun _ _ _ h => h) (Or.inl ⟨by rfl, ?_⟩) ?_ ?_
 rotate_left
 ·intro w'
  go_simp
  with_reducible rfl
 rotate_left
 ·simp only [Act.put, List.setIfInBounds_toArray, List.set_cons_zero, List.set_cons_succ, i64_w, i32_w]
  rfl
 refine pure_ (i := 13) (N := some 16) (v := ?_) (a' := ?_) #[true, true, true, true, true, true, true, true, true, true, true, true, true, true, false, false, false, false] rfl rfl (any_of HT_.out (by kernel_rfl)) (fun _ _ _ h => h) (Or.inl ⟨by rfl, ?_⟩) ?_ ?_
 rotate_left
 ·intro w'
  go_simp
  with_reducible rfl
 rotate_left
 ·simp only [Act.put, List.setIfInBounds_toArray, List.set_cons_zero, List.set_cons_succ, i64_w, i32_w]
  rfl
 refine pure_ (i := 14) (N := some 17) (v := ?_) (a' := ?_) #[true, true, true, true, true, true, true, true, true, true, true, true, true, true, true, false, false, false] rfl rfl (any_of HT_.out (by kernel_rfl)) (fun _ _ _ h => h) (Or.inl ⟨by rfl, ?_⟩) ?_ ?_
 rotate_left
 ·intro w'
  go_simp
  with_reducible rfl
 rotate_left
 ·simp only [Act.put, List.setIfInBounds_toArray, List.set_cons_zero, List.set_cons_succ, i64_w, i32_w]
  rfl
 refine pure_ (i := 15) (N := some 18) (v := ?_) (a' := ?_) #[true, true, true, true, true, true, true, true, true, true, true, true, true, true, true, true, false, false] rfl rfl (any_of HT_.out (by kernel_rfl)) (fun _ _ _ h => h) (Or.inl ⟨by rfl, ?_⟩) ?_ ?_
 rotate_left
 ·intro w'
  go_simp
  with_reducible rfl
 rotate_left
 ·simp only [Act.put, List.setIfInBounds_toArray, List.set_cons_zero, List.set_cons_succ, i64_w, i32_w]
  rfl
 refine one_ (i := 16) (N := some 19) #[true, true, true, true, true, true, true, true, true, true, true, true, true, true, true, true, true, false] rfl rfl (one_of HT_.out (by kernel_rfl)) (by decide) (fun K hK => ?_)
 refine Kd.R_lit_step kL (w0 := w) w.heap.size 84 (by rfl) (N := 19) (by rfl) (xs := beforeL g A13 c13 l13 r13 A12 c12 l12 r12 A11 c11 l11 r11 A10 c10 l10 r10) (inner := [Value.string (⟨#[66, 89, 77, 79, 78, 84, 72]⟩ : ByteArray), Value.pointer (some ⟨g, 13, none⟩), Value.int .i64 1, Value.int .i64 12, Value.bool false, Value.string (⟨#[66, 89, 87, 69, 69, 75, 78, 79]⟩ : ByteArray), Value.pointer (some ⟨g, 12, none⟩), Value.int .i64 1, Value.int .i64 53, Value.bool true, Value.string (⟨#[66, 89, 89, 69, 65, 82, 68, 65, 89]⟩ : ByteArray), Value.pointer (some ⟨g, 11, none⟩), Value.int .i64 1, Value.int .i64 366, Value.bool true, Value.string (⟨#[66, 89, 77, 79, 78, 84, 72, 68, 65, 89]⟩ : ByteArray), Value.pointer (some ⟨g, 10, none⟩), Value.int .i64 1, Value.int .i64 31, Value.bool true]) (ok := fun _ => True) (okp := fun _ => True) ?hr ?hp (fun _ hk => hk) trivial (below_drew1 (Below.refl _ _)) (Nat.le_refl _) (by simp [beforeL]) ?_
 case hr => first | (go_simp; done) | (go_simp; rfl)
 case hp => exact Reps.c5 rfl (Reps.c5 rfl (Reps.c5 rfl (Reps.c5 rfl (Reps.none _ _))))
 intro v1 w1 ho hb hg hat
 have HO := Aside0.mk ho
 have HB := Aside0.mk hb
 obtain ⟨Ao, co, eo⟩ := Kd.R_slice ho
 subst eo
 clear ho hb hg hat
 refine hK.out _ _ trivial (fun hHeld => ?_)
 clear hK K
 refine norm_ (a' := ?_) ?_ ?_
 rotate_left
 ·show Act.put _ (some 19) _ = _
  simp only [Act.put, List.setIfInBounds_toArray, List.set_cons_zero, List.set_cons_succ, i64_w, i32_w]
  rfl
 refine pure_ (i := 17) (N := some 2) (v := ?_) (a' := ?_) #[true, true, true, true, true, true, true, true, true, true, true, true, true, true, true, true, true, true] rfl rfl (any_of HT_.out (by kernel_rfl)) (fun _ _ _ h => h) (Or.inl ⟨by rfl, ?_⟩) ?_ ?_
 rotate_left
 ·intro w'
  go_simp
  with_reducible rfl
 rotate_left
 ·simp only [Act.put, List.setIfInBounds_toArray, List.set_cons_zero, List.set_cons_succ, i64_w, i32_w]
  rfl
 refine done_ (done_of HT_.out (by kernel_rfl)) ?_
 go_wp2
 go_ret
 exact ⟨_, rfl, HO.out, HB.out⟩
def behindL (g : Nat) (A8 : Option Addr) (c8 : Nat) (l8 : List Int) (r8 : Bool) (A7 : Option Addr) (c7 : Nat) (l7 : List Int) (r7 : Bool) (A6 : Option Addr) (c6 : Nat) (l6 : List Int) (r6 : Bool) (A14 : Option Addr) (c14 : Nat) (l14 : List Int) (r14 : Bool) : List Lst := [⟨(⟨#[66, 89, 72, 79, 85, 82]⟩ : ByteArray), ⟨g, 8, none⟩, 0, 23, false, A8, c8, l8, r8⟩, ⟨(⟨#[66, 89, 77, 73, 78, 85, 84, 69]⟩ : ByteArray), ⟨g, 7, none⟩, 0, 59, false, A7, c7, l7, r7⟩, ⟨(⟨#[66, 89, 83, 69, 67, 79, 78, 68]⟩ : ByteArray), ⟨g, 6, none⟩, 0, 59, false, A6, c6, l6, r6⟩, ⟨(⟨#[66, 89, 83, 69, 84, 80, 79, 83]⟩ : ByteArray), ⟨g, 14, none⟩, 1, 366, true, A14, c14, l14, r14⟩]
def behind_.T1 : Bool × List (List Nat × List Nat) := (true, [([], []), ([0], [0]), ([1], [1]), ([2], [2]), ([], []), ([4], [4]), ([5], [5]), ([6], [6]), ([], []), ([8], [8]), ([9], [9]), ([10], [10]), ([], []), ([12], [12]), ([13], [13]), ([14], [14]), ([3, 7, 11, 15], [3, 7, 11, 15]), ([16, 0, 1, 2, 3, 4, 5, 6, 7, 8, 9, 10, 11, 12, 13, 14, 15, 16], [16])])
def behind_.B1 : List Nat := [0, 1, 3, 7, 0, 16, 48, 112, 0, 256, 768, 1792, 0, 4096, 12288, 28672, 65535, 131071]
theorem behind_.tab1 : rtab .any (opsOf Tryz.f31 1) = behind_.T1 := by kernel_rfl
theorem behind_.bits1 : waitsOk behind_.T1.2 behind_.B1 = true := by kernel_rfl
set_option maxHeartbeats 8000000 in
set_option maxRecDepth 100000 in
theorem recur_behind.calls (g : Nat) (A8 : Option Addr) (c8 : Nat) (l8 : List Int) (r8 : Bool) (A7 : Option Addr) (c7 : Nat) (l7 : List Int) (r7 : Bool) (A6 : Option Addr) (c6 : Nat) (l6 : List Int) (r6 : Bool) (A14 : Option Addr) (c14 : Nat) (l14 : List Int) (r14 : Bool) (w : World) :
 Calls Tryz.prog 31 #[.pointer (some ⟨g, 0, none⟩)] w fun e w' => ∃ v0_ : Value, e = .returned v0_ ∧ Kd.R kL 84 w' w.heap.size (fun _ => True) v0_ (behindL g A8 c8 l8 r8 A7 c7 l7 r7 A6 c6 l6 r6 A14 c14 l14 r14) ∧ Below w.heap.size w w' := by
 have hu25 := Tryz.underlying25
 have hu84 := Tryz.underlying84
 go_enter Tryz.func31, Tryz.ntmps31
 go_wp2
 refine start_ (n := 18) (S := fun w' => True) (ds := []) #[false, false, false, false, false, false, false, false, false, false, false, false, false, false, false, false, false, false] (by kernel_rfl) rfl rfl trivial (fun hHeld => ?_); refine with_tabW behind_.tab1 behind_.bits1 (fun HT_ HW_ => ?_)
 refine pure_ (i := 0) (N := some 3) (v := ?_) (a' := ?_) #[true, false, false, false, false, false, false, false, false, false, false, false, false, false, false, false, false, false] rfl rfl (any_of HT_.out (by kernel_rfl)) (fun _ _ _ h => h) (Or.inl ⟨by rfl, ?_⟩) ?_ ?_
 rotate_left
 ·intro w'
  go_simp
  with_reducible rfl
 rotate_left
 ·simp only [Act.put, List.setIfInBounds_toArray, List.set_cons_zero, List.set_cons_succ, i64_w, i32_w]
  rfl
 refine pure_ (i := 1) (N := some 4) (v := ?_) (a' := ?_) #[true, true, false, false, false, false, false, false, false, false, false, false, false, false, false, false, false, false] rfl rfl (any_of HT_.out (by kernel_rfl)) (fun _ _ _ h => h) (Or.inl ⟨by rfl, ?_⟩) ?_ ?_
 rotate_left
 ·intro w'
  go_simp
  with_reducible rfl
 rotate_left
 ·simp only [Act.put, List.setIfInBounds_toArray, List.set_cons_zero, List.set_cons_succ, i64_w, i32_w]
  rfl
 refine pure_ (i := 2) (N := some 5) (v := ?_) (a' := ?_) #[true, true, true, false, false, false, false, false, false, false, false, false, false, false, false, false, false, false] rfl rfl (any_of HT_.out (by kernel_rfl)) (fun _ _ _ h => h) (Or.inl ⟨by rfl, ?_⟩) ?_ ?_
 rotate_left
 ·intro w'
  go_simp
  with_reducible rfl
 rotate_left
 ·simp only [Act.put, List.setIfInBounds_toArray, List.set_cons_zero, List.set_cons_succ, i64_w, i32_w]
  rfl
 refine pure_ (i := 3) (N := some 6) (v := ?_) (a' := ?_) #[true, true, true, true, false, false, false, false, false, false, false, false, false, false, false, false, false, false] rfl rfl (any_of HT_.out (by kernel_rfl)) (fun _ _ _ h => h) (Or.inl ⟨by rfl, ?_⟩) ?_ ?_
 rotate_left
 ·intro w'
  go_simp
  with_reducible rfl
 rotate_left
 ·simp only [Act.put, List.setIfInBounds_toArray, List.set_cons_zero, List.set_cons_succ, i64_w, i32_w]
  rfl
 refine pure_ (i := 4) (N := some 7) (v := ?_) (a' := ?_) #[true, true, true, true, true, false, false, false, false, false, false, false, false, false, false, false, false, false] rfl rfl (any_of HT_.out (by kernel_rfl)) (fun _ _ _ h => h) (Or.inl ⟨by rfl, ?_⟩) ?_ ?_
 rotate_left
 ·intro w'
  go_simp
  with_reducible rfl
 rotate_left
 ·simp only [Act.put, List.setIfInBounds_toArray, List.set_cons_zero, List.set_cons_succ, i64_w, i32_w]
  rfl
 refine pure_ (i := 5) (N := some 8) (v := ?_) (a' := ?_) #[true, true, true, true, true, true, false, false, false, false, false, false, false, false, false, false, false, false] rfl rfl (any_of HT_.out (by kernel_rfl)) (fun _ _ _ h => h) (Or.inl ⟨by rfl, ?_⟩) ?_ ?_
 rotate_left
 ·intro w'
  go_simp
  with_reducible rfl
 rotate_left
 ·simp only [Act.put, List.setIfInBounds_toArray, List.set_cons_zero, List.set_cons_succ, i64_w, i32_w]
  rfl
 refine pure_ (i := 6) (N := some 9) (v := ?_) (a' := ?_) #[true, true, true, true, true, true, true, false, false, false, false, false, false, false, false, false, false, false] rfl rfl (any_of HT_.out (by kernel_rfl)) (fun _ _ _ h => h) (Or.inl ⟨by rfl, ?_⟩) ?_ ?_
 rotate_left
 ·intro w'
  go_simp
  with_reducible rfl
 rotate_left
 ·simp only [Act.put, List.setIfInBounds_toArray, List.set_cons_zero, List.set_cons_succ, i64_w, i32_w]
  rfl
 refine pure_ (i := 7) (N := some 10) (v := ?_) (a' := ?_) #[true, true, true, true, true, true, true, true, false, false, false, false, false, false, false, false, false, false] rfl rfl (any_of HT_.out (by kernel_rfl)) (fun _ _ _ h => h) (Or.inl ⟨by rfl, ?_⟩) ?_ ?_
 rotate_left
 ·intro w'
  go_simp
  with_reducible rfl
 rotate_left
 ·simp only [Act.put, List.setIfInBounds_toArray, List.set_cons_zero, List.set_cons_succ, i64_w, i32_w]
  rfl
 refine pure_ (i := 8) (N := some 11) (v := ?_) (a' := ?_) #[true, true, true, true, true, true, true, true, true, false, false, false, false, false, false, false, false, false] rfl rfl (any_of HT_.out (by kernel_rfl)) (fun _ _ _ h => h) (Or.inl ⟨by rfl, ?_⟩) ?_ ?_
 rotate_left
 ·intro w'
  go_simp
  with_reducible rfl
 rotate_left
 ·simp only [Act.put, List.setIfInBounds_toArray, List.set_cons_zero, List.set_cons_succ, i64_w, i32_w]
  rfl
 refine pure_ (i := 9) (N := some 12) (v := ?_) (a' := ?_) #[true, true, true, true, true, true, true, true, true, true, false, false, false, false, false, false, false, false] rfl rfl (any_of HT_.out (by kernel_rfl)) (fun _ _ _ h => h) (Or.inl ⟨by rfl, ?_⟩) ?_ ?_
 rotate_left
 ·intro w'
  go_simp
  with_reducible rfl
 rotate_left
 ·simp only [Act.put, List.setIfInBounds_toArray, List.set_cons_zero, List.set_cons_succ, i64_w, i32_w]
  rfl
 refine pure_ (i := 10) (N := some 13) (v := ?_) (a' := ?_) #[true, true, true, true, true, true, true, true, true, true, true, false, false, false, false, false, false, false] rfl rfl (any_of HT_.out (by kernel_rfl)) (fun _ _ _ h => h) (Or.inl ⟨by rfl, ?_⟩) ?_ ?_
 rotate_left
 ·intro w'
  go_simp
  with_reducible rfl
 rotate_left
 ·simp only [Act.put, List.setIfInBounds_toArray, List.set_cons_zero, List.set_cons_succ, i64_w, i32_w]
  rfl
 refine pure_ (i := 11) (N := some 14) (v := ?_) (a' := ?_) #[true, true, true, true, true, true, true, true, true, true, true, true, false, false, false, false, false, false] rfl rfl (any_of HT_.out (by kernel_rfl)) (fun _ _ _ h => h) (Or.inl ⟨by rfl, ?_⟩) ?_ ?_
 rotate_left
 ·intro w'
  go_simp
  with_reducible rfl
 rotate_left
 ·simp only [Act.put, List.setIfInBounds_toArray, List.set_cons_zero, List.set_cons_succ, i64_w, i32_w]
  rfl
 refine pure_ (i := 12) (N := some 15) (v := ?_) (a' := ?_) #[true, true, true, true, true, true, true, true, true, true, true, true, true, false, false, false, false, false] rfl rfl (any_of HT_.out (by kernel_rfl)) (fun _ _ _ h => h) (Or.inl ⟨by rfl, ?_⟩) ?_ ?_
 rotate_left
 ·intro w'
  go_simp
  with_reducible rfl
 rotate_left
 ·simp only [Act.put, List.setIfInBounds_toArray, List.set_cons_zero, List.set_cons_succ, i64_w, i32_w]
  rfl
 refine pure_ (i := 13) (N := some 16) (v := ?_) (a' := ?_) #[true, true, true, true, true, true, true, true, true, true, true, true, true, true, false, false, false, false] rfl rfl (any_of HT_.out (by kernel_rfl)) (fun _ _ _ h => h) (Or.inl ⟨by rfl, ?_⟩) ?_ ?_
 rotate_left
 ·intro w'
  go_simp
  with_reducible rfl
 rotate_left
 ·simp only [Act.put, List.setIfInBounds_toArray, List.set_cons_zero, List.set_cons_succ, i64_w, i32_w]
  rfl
 refine pure_ (i := 14) (N := some 17) (v := ?_) (a' := ?_) #[true, true, true, true, true, true, true, true, true, true, true, true, true, true, true, false, false, false] rfl rfl (any_of HT_.out (by kernel_rfl)) (fun _ _ _ h => h) (Or.inl ⟨by rfl, ?_⟩) ?_ ?_
 rotate_left
 ·intro w'
  go_simp
  with_reducible rfl
 rotate_left
 ·simp only [Act.put, List.setIfInBounds_toArray, List.set_cons_zero, List.set_cons_succ, i64_w, i32_w]
  rfl
 refine pure_ (i := 15) (N := some 18) (v := ?_) (a' := ?_) #[true, true, true, true, true, true, true, true, true, true, true, true, true, true, true, true, false, false] rfl rfl (any_of HT_.out (by kernel_rfl)) (fun _ _ _ h => h) (Or.inl ⟨by rfl, ?_⟩) ?_ ?_
 rotate_left
 ·intro w'
  go_simp
  with_reducible rfl
 rotate_left
 ·simp only [Act.put, List.setIfInBounds_toArray, List.set_cons_zero, List.set_cons_succ, i64_w, i32_w]
  rfl
 refine one_ (i := 16) (N := some 19) #[true, true, true, true, true, true, true, true, true, true, true, true, true, true, true, true, true, false] rfl rfl (one_of HT_.out (by kernel_rfl)) (by decide) (fun K hK => ?_)
 refine Kd.R_lit_step kL (w0 := w) w.heap.size 84 (by rfl) (N := 19) (by rfl) (xs := behindL g A8 c8 l8 r8 A7 c7 l7 r7 A6 c6 l6 r6 A14 c14 l14 r14) (inner := [Value.string (⟨#[66, 89, 72, 79, 85, 82]⟩ : ByteArray), Value.pointer (some ⟨g, 8, none⟩), Value.int .i64 0, Value.int .i64 23, Value.bool false, Value.string (⟨#[66, 89, 77, 73, 78, 85, 84, 69]⟩ : ByteArray), Value.pointer (some ⟨g, 7, none⟩), Value.int .i64 0, Value.int .i64 59, Value.bool false, Value.string (⟨#[66, 89, 83, 69, 67, 79, 78, 68]⟩ : ByteArray), Value.pointer (some ⟨g, 6, none⟩), Value.int .i64 0, Value.int .i64 59, Value.bool false, Value.string (⟨#[66, 89, 83, 69, 84, 80, 79, 83]⟩ : ByteArray), Value.pointer (some ⟨g, 14, none⟩), Value.int .i64 1, Value.int .i64 366, Value.bool true]) (ok := fun _ => True) (okp := fun _ => True) ?hr ?hp (fun _ hk => hk) trivial (below_drew1 (Below.refl _ _)) (Nat.le_refl _) (by simp [behindL]) ?_
 case hr => first | (go_simp; done) | (go_simp; rfl)
 case hp => exact Reps.c5 rfl (Reps.c5 rfl (Reps.c5 rfl (Reps.c5 rfl (Reps.none _ _))))
 intro v1 w1 ho hb hg hat
 have HO := Aside0.mk ho
 have HB := Aside0.mk hb
 obtain ⟨Ao, co, eo⟩ := Kd.R_slice ho
 subst eo
 clear ho hb hg hat
 refine hK.out _ _ trivial (fun hHeld => ?_)
 clear hK K
 refine norm_ (a' := ?_) ?_ ?_
 rotate_left
 ·show Act.put _ (some 19) _ = _
  simp only [Act.put, List.setIfInBounds_toArray, List.set_cons_zero, List.set_cons_succ, i64_w, i32_w]
  rfl
 refine pure_ (i := 17) (N := some 2) (v := ?_) (a' := ?_) #[true, true, true, true, true, true, true, true, true, true, true, true, true, true, true, true, true, true] rfl rfl (any_of HT_.out (by kernel_rfl)) (fun _ _ _ h => h) (Or.inl ⟨by rfl, ?_⟩) ?_ ?_
 rotate_left
 ·intro w'
  go_simp
  with_reducible rfl
 rotate_left
 ·simp only [Act.put, List.setIfInBounds_toArray, List.set_cons_zero, List.set_cons_succ, i64_w, i32_w]
  rfl
 refine done_ (done_of HT_.out (by kernel_rfl)) ?_
 go_wp2
 go_ret
 exact ⟨_, rfl, HO.out, HB.out⟩
end Go.Proofs.YtjanombhdnoemaaGreatDoor.PRec
