-- A text of the kit's tools for this claim, its remarks left out.
import Derived.Test.YtjanombhdnoemaaGreatDoorGP
import Derived.Test.YtjanombhdnoemaaGreatDoorPRecx0
import Derived.Test.YtjanombhdnoemaaGreatDoorPRecx8
import Derived.Test.YtjanombhdnoemaaGreatDoorPRecx10
namespace Go.Proofs.YtjanombhdnoemaaGreatDoor.PRec
open Go.RowKit Go.Proofs.YtjanombhdnoemaaGreatDoorW.PrintWords Go.Proofs.YtjanombhdnoemaaGreatDoorW.PrintLast Go.Proofs.YtjanombhdnoemaaGreatDoorW.PrintMore Go.Proofs.YtjanombhdnoemaaGreatDoor.Base
attribute [local go_sem] max2_int min2_int max_two min_two max_three min_three max_four min_four
set_option linter.unusedVariables false
set_option linter.unusedSimpArgs false
set_option maxHeartbeats 4000000 in
set_option maxRecDepth 100000 in
theorem lit11_0_ {ev : Operand → Value} (hev : ∀ v, ev (.const v) = v) {d : Option Tmp} {ty : TypeId} {ps : String} {af : Array _} {gd : Option _} (W : World) : (execOp ev { dst := d, op := Op.buildSlice 22 6 #[(0, Operand.const (Value.int IntKind.i64 4)), (1, Operand.const (Value.int IntKind.i64 2)), (2, Operand.const (Value.int IntKind.i64 2)), (3, Operand.const (Value.int IntKind.i64 2)), (4, Operand.const (Value.int IntKind.i64 2)), (5, Operand.const (Value.int IntKind.i64 2))], type := ty, pos := ps, after := af, guard := gd }).run Tryz.prog W = .ok (.value (.slice (some ⟨W.heap.size, 0, none⟩) 6 6)) (W.alloc (.cells #[.int .i64 4, .int .i64 2, .int .i64 2, .int .i64 2, .int .i64 2, .int .i64 2] 3)) := by
  (go_simp); (first | done | rfl)
mutual
def value_ParseTime.j0 : Nat → ByteArray → Bool → Bool → Option (Int × Bool × Int)
 | 0, _, _, _ => none
 | k + 1, x0, x3, x20 => if x20 = true then (some (0, false, 19)) else (if 0 ≤ 8 then (if 8 ≤ (x0.size : Int) then (if 9 ≤ (x0.size : Int) then (if (x0.extract 0 8).size + (x0.extract 9 x0.size).size ≤ 9223372036854775807 then ((value_numbers.f k ((x0.extract 0 8) ++ (x0.extract 9 x0.size)) (([4, 2, 2, 2, 2, 2] : List Int))).bind fun bt188 => (if bt188.2 = true then (if 0 < (bt188.1.length : Int) then (if (rd bt188.1 0) < 1 then (value_ParseTime.j1 k x3 bt188.1 true) else (if 3 < (bt188.1.length : Int) then (if (rd bt188.1 3) ≥ 24 then (value_ParseTime.j1 k x3 bt188.1 true) else (if 4 < (bt188.1.length : Int) then (if (rd bt188.1 4) ≥ 60 then (value_ParseTime.j1 k x3 bt188.1 true) else (if 5 < (bt188.1.length : Int) then (value_ParseTime.j1 k x3 bt188.1 (decide ((rd bt188.1 5) ≥ 60))) else (none))) else (none))) else (none))) else (none)) else (value_ParseTime.j1 k x3 bt188.1 true))) else (none)) else (none)) else (none)) else (none))
def value_ParseTime.j1 : Nat → Bool → List Int → Bool → Option (Int × Bool × Int)
 | 0, _, _, _ => none
 | k + 1, x3, x5, x56 => if x56 = true then (some (0, false, 19)) else (if 0 < (x5.length : Int) then (if 1 < (x5.length : Int) then (if 2 < (x5.length : Int) then ((civil_Number.f k (rd x5 0) (rd x5 1) (rd x5 2)).bind fun bt199 => (if bt199.2 = 0 then (if 3 < (x5.length : Int) then (if 4 < (x5.length : Int) then (if 5 < (x5.length : Int) then (some (wrap64 ((wrap64 ((wrap64 ((wrap64 (bt199.1 * 86400)) + (wrap64 ((rd x5 3) * 3600)))) + (wrap64 ((rd x5 4) * 60)))) + (rd x5 5)), x3, 0)) else (none)) else (none)) else (none)) else (some (0, false, 19)))) else (none)) else (none)) else (none))
end
def value_ParseTime.f (k : Nat) (a0 : ByteArray) : Option (Int × Bool × Int) := (strings_CutSuffix.f a0 (⟨#[90]⟩ : ByteArray)).bind fun bt183 => (if (bt183.1.size : Int) = 15 then (if 8 < (bt183.1.size : Int) then (value_ParseTime.j0 k bt183.1 bt183.2 ((bt bt183.1 8) != 84)) else (none)) else (value_ParseTime.j0 k bt183.1 bt183.2 true))
theorem value_ParseTime.mono_l : ∀ k, (∀ y0 y1 y2, LeO (value_ParseTime.j0 k y0 y1 y2) (value_ParseTime.j0 (k + 1) y0 y1 y2)) ∧ (∀ y0 y1 y2, LeO (value_ParseTime.j1 k y0 y1 y2) (value_ParseTime.j1 (k + 1) y0 y1 y2))
 | 0 => ⟨fun _ _ _ r h => by simp [value_ParseTime.j0] at h, fun _ _ _ r h => by simp [value_ParseTime.j1] at h⟩
 | k + 1 => by
  obtain ⟨ih0, ih1⟩ := value_ParseTime.mono_l k
  refine ⟨?_, ?_⟩ <;> intros
  all_goals first | unfold value_ParseTime.j0 | unfold value_ParseTime.j1
  all_goals repeat' first | (with_reducible first | exact ih0 _ _ _ | exact ih1 _ _ _ | exact civil_Number.mono _ _ _ _ | exact value_numbers.mono _ _ _ | exact LeO.refl _ | exact LeO.none _ | refine LeO.ite ?_ ?_ | refine LeO.bind ?_ (fun _ => ?_))
theorem value_ParseTime.mono : ∀ a0 k, LeO (value_ParseTime.f k a0) (value_ParseTime.f (k + 1) a0) := by
 (intro a0 k); (obtain ⟨ih0, ih1⟩ := value_ParseTime.mono_l k); (unfold value_ParseTime.f)
 repeat' first | (with_reducible first | exact ih0 _ _ _ | exact ih1 _ _ _ | exact civil_Number.mono _ _ _ _ | exact value_numbers.mono _ _ _ | exact LeO.refl _ | exact LeO.none _ | refine LeO.ite ?_ ?_ | refine LeO.bind ?_ (fun _ => ?_))
def value_ParseTime.T4 : Bool × List (List Nat × List Nat) := (true, [([], []), ([0], [0]), ([], []), ([2], [2]), ([1, 3], [1, 3]), ([], []), ([4, 5], [4, 5]), ([6], [6]), ([7], [7]), ([7], [7]), ([8, 6, 0, 1, 2, 3, 4, 5, 6, 7, 8], [8]), ([9, 10, 0, 1, 2, 3, 4, 5, 6, 7, 8, 9, 10], [9])])
def value_ParseTime.B4 : List Nat := [0, 1, 0, 4, 15, 0, 63, 127, 255, 255, 511, 2047]
theorem value_ParseTime.tab4 : rtab .any (opsOf Tryz.f73 4) = value_ParseTime.T4 := by kernel_rfl
theorem value_ParseTime.bits4 : waitsOk value_ParseTime.T4.2 value_ParseTime.B4 = true := by kernel_rfl
def value_ParseTime.T7 : Bool × List (List Nat × List Nat) := (true, [([], []), ([0], [0]), ([1], [1]), ([], []), ([3], [3]), ([4], [4]), ([], []), ([6], [6]), ([7], [7]), ([2, 5, 8], [2, 5, 8]), ([9], [9]), ([10], [10]), ([11], [11]), ([11], [11]), ([12, 10, 0, 1, 2, 3, 4, 5, 6, 7, 8, 9, 10, 11, 12], [12]), ([13, 14, 0, 1, 2, 3, 4, 5, 6, 7, 8, 9, 10, 11, 12, 13, 14], [13])])
def value_ParseTime.B7 : List Nat := [0, 1, 3, 0, 8, 24, 0, 64, 192, 511, 1023, 2047, 4095, 4095, 8191, 32767]
theorem value_ParseTime.tab7 : rtab .any (opsOf Tryz.f73 7) = value_ParseTime.T7 := by kernel_rfl
theorem value_ParseTime.bits7 : waitsOk value_ParseTime.T7.2 value_ParseTime.B7 = true := by kernel_rfl
def value_ParseTime.T10 : Bool × List (List Nat × List Nat) := (true, [([], []), ([0], [0]), ([], []), ([2], [2]), ([3], [3]), ([4], [4]), ([1, 5], [1, 5]), ([], []), ([7], [7]), ([8], [8]), ([9], [9]), ([6, 10], [6, 10]), ([], []), ([12], [12]), ([13], [13]), ([11, 14], [11, 14]), ([], []), ([15, 0, 1, 2, 3, 4, 5, 6, 7, 8, 9, 10, 11, 12, 13, 14, 15], [15]), ([16, 17, 0, 1, 2, 3, 4, 5, 6, 7, 8, 9, 10, 11, 12, 13, 14, 15, 16, 17], [16]), ([18, 0, 1, 2, 3, 4, 5, 6, 7, 8, 9, 10, 11, 12, 13, 14, 15, 16, 17, 18], [])])
def value_ParseTime.B10 : List Nat := [0, 1, 0, 4, 12, 28, 63, 0, 128, 384, 896, 2047, 0, 4096, 12288, 32767, 0, 65535, 262143, 524287]
theorem value_ParseTime.tab10 : rtab .any (opsOf Tryz.f73 10) = value_ParseTime.T10 := by kernel_rfl
theorem value_ParseTime.bits10 : waitsOk value_ParseTime.T10.2 value_ParseTime.B10 = true := by kernel_rfl
set_option maxHeartbeats 8000000 in
set_option maxRecDepth 100000 in
theorem value_ParseTime.calls (k : Nat) (a0 : ByteArray) (r1 : Int) (r2 : Bool) (r3 : Int) (w : World) (h : value_ParseTime.f k a0 = some (r1, r2, r3)) :
  Calls Tryz.prog 73 #[.string a0] w fun e w' => e = .returned (.tuple #[.int .i64 r1, .bool r2, .int .i64 r3]) ∧ Below w.heap.size w w' := by
 (have hu51 := Tryz.underlying51); (have HB := aM (Below.refl w.heap.size w)); (have H : ((strings_CutSuffix.f a0 (⟨#[90]⟩ : ByteArray)).bind fun bt183 => (if (bt183.1.size : Int) = 15 then (if 8 < (bt183.1.size : Int) then (value_ParseTime.j0 k bt183.1 bt183.2 ((bt bt183.1 8) != 84)) else (none)) else (value_ParseTime.j0 k bt183.1 bt183.2 true))) = some (r1, r2, r3) := h); clear h; (replace H := Option.bind_eq_some_iff.mp H); (obtain ⟨⟨t183, t184⟩, A20, H⟩ := H); (replace H : (if (t183.size : Int) = 15 then (if 8 < (t183.size : Int) then (value_ParseTime.j0 k t183 t184 ((bt t183 8) != 84)) else (none)) else (value_ParseTime.j0 k t183 t184 true)) = some (r1, r2, r3) := H); (have A2 := aM A20); clear A20; (have HC3 := aM H); clear H; (go_enter Tryz.func73, Tryz.ntmps73); (go_upto_region 2 with (first | ((with_reducible refine gate_callee (f := 107) rfl ?_); refine goesL_ (some 10) rfl rfl Tryz.func107 (by kernel_rfl) rfl #[.string a0, .string (⟨#[90]⟩ : ByteArray)] rfl (by (try simp only [mTA, mC, mN]); first | done | rfl | (simp only [lD, lT]; rfl)) ?_; (with_reducible refine (strings_CutSuffix.calls a0 (⟨#[90]⟩ : ByteArray) t183 t184 _ A2.out).mono ?_); rintro e w' ⟨rfl, ⟨nd, rfl⟩⟩; refine ⟨_, rfl, ?_⟩))); ((try simp only [Act.put, sTA, sCZ, sCS])); (go_cut [20] (fun v20 wc => ∃ (kq : Nat) (x20_2 : Bool), v20 = .bool x20_2 ∧ Aside0 (value_ParseTime.j0 kq t183 t184 x20_2 = some (r1, r2, r3)) ∧ Aside0 (kq ≤ k) ∧ Aside0 (Below w.heap.size w wc)))
 case first =>
  (have H := HC3.out); clear HC3; (by_cases c4 : (t183.size : Int) = 15)
  ·(rw [if_pos c4] at H); (have c4b0 : ((t183.size : Int) == 15) = true := beq_iff_eq.mpr c4); (have c4b1 : ((t183.size : Int) != 15) = false := bne_eq_false_iff_eq.mpr c4); clear c4; ((first | rw [c4b0] | (simp only [i64_w, i32_w]; rw [c4b0]) | rw [c4b1] | skip)); (by_cases c5 : 8 < (t183.size : Int))
   ·(rw [if_pos c5] at H); (have c5b0 : decide (8 < (t183.size : Int)) = true := dE c5); (have c5b1 : decide (8 < t183.size) = true := dE (by omega)); clear c5; (have H' := aM H); clear H; (have p6 : 0 ≤ (8 : Int) := (by omega)); (have q6 : 8 < t183.size := (by have : (8 : Int) < (t183.size : Int) := oD ‹_›; omega)); (have hx6 : ∀ h : 8 < t183.size, ((t183[8]'h).toNat : Int) = bt t183 8 := bt_at t183 8); clear p6; (have qi6 : (8 < (t183.size : Int)) = True := eq_true (oD ‹_›)); (replace q6 := eq_true q6); (go_wp2); (go_meet)
    case rel => exact ⟨_, (((bt t183 8) != 84)), (by first | rfl | (simp; done) | (simp [*]; done)), H', ⟨by first | omega | exact Nat.le_refl _⟩, ⟨by with_reducible repeat (first | exact HB.out | apply lA | apply lN | apply lW)⟩⟩
   ·(rw [if_neg c5] at H); (exact absurd H (by simp))
  ·(rw [if_neg c4] at H); (have c4b0 : ((t183.size : Int) == 15) = false := beq_eq_false_iff_ne.mpr c4); (have c4b1 : ((t183.size : Int) != 15) = true := bne_iff_ne.mpr c4); ((first | rw [c4b0] | (simp only [i64_w, i32_w]; rw [c4b0]) | rw [c4b1] | skip)); (have H' := aM H); clear H; (go_wp2); (go_meet)
   case rel => exact ⟨_, (true), (by first | rfl | (simp; done) | (simp [*]; done)), H', ⟨by first | omega | exact Nat.le_refl _⟩, ⟨by with_reducible repeat (first | exact HB.out | apply lA | apply lN | apply lW)⟩⟩
 case rest =>
  as_aux_lemma =>
   clear HC3; (try clear c1); (try clear p2); (try clear c4); (try clear c4b0); (try clear c4b1); (try clear c5); (try clear c5b0); (try clear c5b1); (try clear p6); (try clear q6); (try clear hx6); (try clear qi6); (try clear p6); (try clear q6); (obtain ⟨kq, x20_2, rfl, HA, HJ2, HB⟩ := hcut)
   cases kq with
   | zero => exact absurd HA.out (by simp [value_ParseTime.j0])
   | succ kj2 =>
    (have H := HA.out); clear HA; (simp only [value_ParseTime.j0] at H); (by_cases c7 : x20_2 = true)
    ·subst c7; (have H1 : (some (0, false, 19)) = some (r1, r2, r3) := by rw [if_pos rfl] at H; exact H); clear H; (have H := H1); clear H1; (simp only [Option.some.injEq, Prod.mk.injEq] at H); (obtain ⟨rfl, rfl, rfl⟩ := H); (go_wp2); (go_ret3); (exact ⟨by first | rfl | (simp [errW_none, errW_some] <;> rfl) | (simp [*, errW_none, errW_some] <;> rfl), by with_reducible repeat (first | exact HB.out | apply lA | apply lN | apply lW)⟩)
    ·(replace c7 := Bool.eq_false_iff.mpr c7); subst c7; (have H1 : (if 0 ≤ 8 then (if 8 ≤ (t183.size : Int) then (if 9 ≤ (t183.size : Int) then (if (t183.extract 0 8).size + (t183.extract 9 t183.size).size ≤ 9223372036854775807 then ((value_numbers.f kj2 ((t183.extract 0 8) ++ (t183.extract 9 t183.size)) (([4, 2, 2, 2, 2, 2] : List Int))).bind fun bt188 => (if bt188.2 = true then (if 0 < (bt188.1.length : Int) then (if (rd bt188.1 0) < 1 then (value_ParseTime.j1 kj2 t184 bt188.1 true) else (if 3 < (bt188.1.length : Int) then (if (rd bt188.1 3) ≥ 24 then (value_ParseTime.j1 kj2 t184 bt188.1 true) else (if 4 < (bt188.1.length : Int) then (if (rd bt188.1 4) ≥ 60 then (value_ParseTime.j1 kj2 t184 bt188.1 true) else (if 5 < (bt188.1.length : Int) then (value_ParseTime.j1 kj2 t184 bt188.1 (decide ((rd bt188.1 5) ≥ 60))) else (none))) else (none))) else (none))) else (none)) else (value_ParseTime.j1 kj2 t184 bt188.1 true))) else (none)) else (none)) else (none)) else (none)) = some (r1, r2, r3) := by rw [if_neg (show ¬ (false = true) by decide)] at H; exact H); clear H; (have H := H1); clear H1; (by_cases c8 : 0 ≤ 8)
     ·(rw [if_pos c8] at H); (have c8b0 := eq_true c8); (have c8b1 : decide (0 ≤ 8) = true := dE c8); clear c8; (by_cases c9 : 8 ≤ (t183.size : Int))
      ·(rw [if_pos c9] at H); (have c9b0 := eq_true c9); (have c9b1 : decide (8 ≤ (t183.size : Int)) = true := dE c9); clear c9; (by_cases c10 : 9 ≤ (t183.size : Int))
       ·(rw [if_pos c10] at H); (have c10b0 := eq_true c10); (have c10b1 : decide (9 ≤ (t183.size : Int)) = true := dE c10); clear c10; (by_cases c11 : (t183.extract 0 8).size + (t183.extract 9 t183.size).size ≤ 9223372036854775807)
        ·(rw [if_pos c11] at H); (have c11b0 := eq_true c11); (have c11b1 : decide ((t183.extract 0 8).size + (t183.extract 9 t183.size).size ≤ 9223372036854775807) = true := dE c11); (try have c11b3 : (9223372036854775807 < (t183.extract 0 8).size + (t183.extract 9 t183.size).size) = False := eq_false (Nat.not_lt.2 (by have h_ := c11; simp only [ByteArray.size_append] at h_; omega))); (try have c11b5 : (9223372036854775807 < (t183.extract 0 8).size + (t183.extract 9 t183.size).size) = False := eq_false (Nat.not_lt.2 (by have h_ := c11; simp only [ByteArray.size_append, ByteArray.size_extract] at h_; simp only [eq_iff_iff, iff_true] at *; omega))); (try have c11b2 : (9223372036854775807 < (t183.extract 0 8).size + (t183.extract 9 t183.size).size) = False := eq_false (Nat.not_lt.2 c11)); (try have c11b6 := c11b2); (try simp only [ByteArray.size_extract, Nat.sub_zero, Nat.min_self] at c11b6); (obtain ⟨y185, hy185⟩ : ∃ y_ : List Int, y_ = (([4, 2, 2, 2, 2, 2] : List Int)) := ⟨_, rfl⟩); (replace H : ((value_numbers.f kj2 ((t183.extract 0 8) ++ (t183.extract 9 t183.size)) y185).bind fun bt188 => (if bt188.2 = true then (if 0 < (bt188.1.length : Int) then (if (rd bt188.1 0) < 1 then (value_ParseTime.j1 kj2 t184 bt188.1 true) else (if 3 < (bt188.1.length : Int) then (if (rd bt188.1 3) ≥ 24 then (value_ParseTime.j1 kj2 t184 bt188.1 true) else (if 4 < (bt188.1.length : Int) then (if (rd bt188.1 4) ≥ 60 then (value_ParseTime.j1 kj2 t184 bt188.1 true) else (if 5 < (bt188.1.length : Int) then (value_ParseTime.j1 kj2 t184 bt188.1 (decide ((rd bt188.1 5) ≥ 60))) else (none))) else (none))) else (none))) else (none)) else (value_ParseTime.j1 kj2 t184 bt188.1 true))) = some (r1, r2, r3) := by first | (rw [hy185]; with_reducible exact H) | (have H2_ := (Option.bind_some _ _).symm.trans H; rw [hy185]; with_reducible exact H2_) | (have H2_ := (Option.bind_some _ _).symm.trans H; with_reducible exact H2_) | with_reducible exact H | (rw [hy185]; exact H) | exact H); (have Ny185 := aM hy185); clear hy185; (replace H := Option.bind_eq_some_iff.mp H); (obtain ⟨⟨t188, t189⟩, A120, H⟩ := H); (replace H : (if t189 = true then (if 0 < (t188.length : Int) then (if (rd t188 0) < 1 then (value_ParseTime.j1 kj2 t184 t188 true) else (if 3 < (t188.length : Int) then (if (rd t188 3) ≥ 24 then (value_ParseTime.j1 kj2 t184 t188 true) else (if 4 < (t188.length : Int) then (if (rd t188 4) ≥ 60 then (value_ParseTime.j1 kj2 t184 t188 true) else (if 5 < (t188.length : Int) then (value_ParseTime.j1 kj2 t184 t188 (decide ((rd t188 5) ≥ 60))) else (none))) else (none))) else (none))) else (none)) else (value_ParseTime.j1 kj2 t184 t188 true)) = some (r1, r2, r3) := H); (have A12 := aM A120); clear A120; (have HC13 := aM H); clear H; (try go_wp2); (have n0_ := aM (lW HB.out)); clear HB; (have HB := n0_); clear n0_; (refine start_ (n := 12) (S := fun w' => True) (ds := []) #[O,O,O,O,O,O,O,O,O,O,O,O] (by kernel_rfl) rfl rfl trivial (fun hHeld => ?_); refine with_tabW value_ParseTime.tab4 value_ParseTime.bits4 (fun HT_ HW_ => ?_)); (generalize wc.drew = w14 at HB hHeld ⊢); (refine pu_ (i := 0) (N := some 22) (v := ?_) (a' := ?_) #[I,O,O,O,O,O,O,O,O,O,O,O] rfl rfl HT_.out (by kernel_rfl) (fun _ _ _ h => h) (Or.inl ⟨by rfl, ?_⟩) ?_ ?_); (rotate_left)
         ·(intro w'); (go_simp); (with_reducible rfl)
         rotate_left
         ·(simp only [Act.put, sTA, sCZ, sCS, i64_w, i32_w]); (rfl)
         (refine pu_ (i := 1) (N := some 23) (v := ?_) (a' := ?_) #[I,I,O,O,O,O,O,O,O,O,O,O] rfl rfl HT_.out (by kernel_rfl) (fun _ _ _ h => h) (Or.inl ⟨by rfl, ?_⟩) ?_ ?_); (rotate_left)
         ·(intro w'); (go_simp); (with_reducible rfl)
         rotate_left
         ·(simp only [Act.put, sTA, sCZ, sCS, i64_w, i32_w]); (rfl)
         (refine pu_ (i := 2) (N := some 24) (v := ?_) (a' := ?_) #[I,I,I,O,O,O,O,O,O,O,O,O] rfl rfl HT_.out (by kernel_rfl) (fun _ _ _ h => h) (Or.inl ⟨by rfl, ?_⟩) ?_ ?_); (rotate_left)
         ·(intro w'); (go_simp); (with_reducible rfl)
         rotate_left
         ·(simp only [Act.put, sTA, sCZ, sCS, i64_w, i32_w]); (rfl)
         (refine pu_ (i := 3) (N := some 25) (v := ?_) (a' := ?_) #[I,I,I,I,O,O,O,O,O,O,O,O] rfl rfl HT_.out (by kernel_rfl) (fun _ _ _ h => h) (Or.inl ⟨by rfl, ?_⟩) ?_ ?_); (rotate_left)
         ·(intro w'); (go_simp); (with_reducible rfl)
         rotate_left
         ·(simp only [Act.put, sTA, sCZ, sCS, i64_w, i32_w]); (rfl)
         (refine pu_ (i := 4) (N := some 26) (v := ?_) (a' := ?_) #[I,I,I,I,I,O,O,O,O,O,O,O] rfl rfl HT_.out (by kernel_rfl) (fun _ _ _ h => h) (Or.inl ⟨by rfl, ?_⟩) ?_ ?_); (rotate_left)
         ·(intro w'); (go_simp); (with_reducible rfl)
         rotate_left
         ·(simp only [Act.put, sTA, sCZ, sCS, i64_w, i32_w]); (rfl)
         (refine one_ (i := 5) (N := some 27) #[I,I,I,I,I,I,O,O,O,O,O,O] rfl rfl (one_of HT_.out (by kernel_rfl)) (by decide) (fun K hK => ?_)); (refine Kd.R_lit_step (Kd.int .i64) _ 3 ?hg (N := 27) ?hd (xs := ([4, 2, 2, 2, 2, 2] : List Int)) (inner := [.int .i64 4, .int .i64 2, .int .i64 2, .int .i64 2, .int .i64 2, .int .i64 2]) (ok := fun _ => True) (okp := fun _ => True) ?hr ?hp (fun _ hk => hk) trivial (Below.refl _ _) (Nat.le_refl _) (by simp) ?_; (case hd => rfl); (case hg => rfl); (case hr => exact lit11_0_ (fun _ => rfl) _); (case hp => exact (Reps.one (show Kd.M (Kd.int .i64) _ _ _ 4 [.int .i64 4] from rfl) (Reps.one (show Kd.M (Kd.int .i64) _ _ _ 2 [.int .i64 2] from rfl) (Reps.one (show Kd.M (Kd.int .i64) _ _ _ 2 [.int .i64 2] from rfl) (Reps.one (show Kd.M (Kd.int .i64) _ _ _ 2 [.int .i64 2] from rfl) (Reps.one (show Kd.M (Kd.int .i64) _ _ _ 2 [.int .i64 2] from rfl) (Reps.one (show Kd.M (Kd.int .i64) _ _ _ 2 [.int .i64 2] from rfl) (Reps.none _ _))))))))); (intro v186 w15 ho16 hb hg_ hnew_); clear hg_ hnew_; ((first | rw [← Ny185.out] at ho16 | (simp only [Int.reduceToNat] at ho16; rw [← Ny185.out] at ho16))); (have n0_ := aM (Kd.R_lower ho16 (below_size (by with_reducible repeat (first | exact HB.out | apply lA | apply lN | apply lW))))); (have n1_ := aM (below_step (by with_reducible repeat (first | exact HB.out | apply lA | apply lN | apply lW)) hb)); clear HB; (have HO187 := n0_); (have HB := n1_); clear n0_ n1_; clear hb ho16; (obtain ⟨Ao17, co17, eo17⟩ := Kd.R_slice HO187.out); ((first | subst eo17 | (injection eo17 with f1_ f2_ f3_; have f4_ := f1_.symm; have f5_ := f3_.symm; clear f1_ f2_ f3_; subst f4_; subst f5_))); (refine hK.out _ _ trivial (fun hHeld => ?_)); clear hK K; (refine norm_ (a' := ?_) ?_ ?_); (rotate_left)
         ·(show Act.put _ (some 27) _ = _); (simp only [Act.put, sTA, sCZ, sCS, i64_w, i32_w]); (rfl)
         (refine one_ (i := 6) (N := some 28) #[I,I,I,I,I,I,I,O,O,O,O,O] rfl rfl (one_of HT_.out (by kernel_rfl)) (by decide) (fun K hK => ?_)); (refine goes_ Tryz.func108 (by kernel_rfl) rfl #[.string ((t183.extract 0 8) ++ (t183.extract 9 t183.size)), .slice Ao17 y185.length co17] (by rfl) rfl rfl (by (try simp only [mTA, mC, mN]); first | done | rfl | (simp only [lD, lT]; rfl)) ?_); (with_reducible refine (value_numbers.calls kj2 ((t183.extract 0 8) ++ (t183.extract 9 t183.size)) _ _ y185 t188 t189 _ ?side1 ?side2 A12.out).mono ?_); ((case side1 => repeat (first | exact (Kd.R_reads' HO187.out).2.2 | (with_reducible refine Kd.C_alloc ?_ _) | (with_reducible refine Kd.C_drewN ?_ _) | (with_reducible refine Kd.C_drew ?_)))); ((case side2 => exact (Kd.R_reads' HO187.out).2.1)); (rintro e w18 ⟨v190, rfl, ho0, hb⟩); (refine ⟨_, rfl, ?_⟩); (have n0_ := aM (Kd.R_elder' (by (with_reducible repeat (first | apply Kd.R_alloc | apply Kd.R_drewN | apply Kd.R_drew)); exact HO187.out) (Kd.R_base ho0) hb)); (have n1_ := aM (Kd.R_lower (Kd.R_new' ho0 (Kd.R_lt (by (with_reducible repeat (first | apply Kd.R_alloc | apply Kd.R_drewN | apply Kd.R_drew)); exact HO187.out))) (below_size (by with_reducible repeat (first | exact HB.out | apply lA | apply lN | apply lW))))); (have n2_ := aM (below_step (by with_reducible repeat (first | exact HB.out | apply lA | apply lN | apply lW)) hb)); clear HO187; clear HB; (have HO187 := n0_); (have HO191 := n1_); (have HB := n2_); clear n0_ n1_ n2_; ((try clear hb)); ((try clear hb2)); ((try clear hk)); ((try clear hi)); ((try clear ho0)); (refine hK.out _ _ trivial (fun hHeld => ?_)); clear hK K; (refine norm_ (a' := ?_) ?_ ?_); (rotate_left)
         ·(show Act.put _ (some 28) _ = _); (simp only [Act.put, sTA, sCZ, sCS, i64_w, i32_w]); (rfl)
         (refine pu_ (i := 7) (N := some 21) (v := ?_) (a' := ?_) #[I,I,I,I,I,I,I,I,O,O,O,O] rfl rfl HT_.out (by kernel_rfl) (fun _ _ _ h => h) (Or.inl ⟨by rfl, ?_⟩) ?_ ?_); (rotate_left)
         ·(intro w'); (go_simp); (with_reducible rfl)
         rotate_left
         ·(simp only [Act.put, sTA, sCZ, sCS, i64_w, i32_w]); (rfl)
         (refine pu_ (i := 8) (N := some 29) (v := ?_) (a' := ?_) #[I,I,I,I,I,I,I,I,I,O,O,O] rfl rfl HT_.out (by kernel_rfl) (fun _ _ _ h => h) (Or.inl ⟨by rfl, ?_⟩) ?_ ?_); (rotate_left)
         ·(intro w'); (go_simp); (with_reducible rfl)
         rotate_left
         ·(simp only [Act.put, sTA, sCZ, sCS, i64_w, i32_w]); (rfl)
         (refine pu_ (i := 9) (N := some 30) (v := ?_) (a' := ?_) #[I,I,I,I,I,I,I,I,I,I,O,O] rfl rfl HT_.out (by kernel_rfl) (fun _ _ _ h => h) (Or.inl ⟨by rfl, ?_⟩) ?_ ?_); (rotate_left)
         ·(intro w'); (go_simp); (with_reducible rfl)
         rotate_left
         ·(simp only [Act.put, sTA, sCZ, sCS, i64_w, i32_w]); (rfl)
         (refine pu_ (i := 10) (N := some 5) (v := ?_) (a' := ?_) #[I,I,I,I,I,I,I,I,I,I,I,O] rfl rfl HT_.out (by kernel_rfl) (fun _ _ _ h => h) (Or.inl ⟨by rfl, ?_⟩) ?_ ?_); (rotate_left)
         ·(intro w'); (go_simp); (with_reducible rfl)
         rotate_left
         ·(simp only [Act.put, sTA, sCZ, sCS, i64_w, i32_w]); (rfl)
         (refine pu_ (i := 11) (N := some 6) (v := ?_) (a' := ?_) #[I,I,I,I,I,I,I,I,I,I,I,I] rfl rfl HT_.out (by kernel_rfl) (fun _ _ _ h => h) (Or.inl ⟨by rfl, ?_⟩) ?_ ?_); (rotate_left)
         ·(intro w'); (go_simp); (with_reducible rfl)
         rotate_left
         ·(simp only [Act.put, sTA, sCZ, sCS, i64_w, i32_w]); (rfl)
         (refine done_ (done_of HT_.out (by kernel_rfl)) ?_); (go_upto_region 5 with (fail)); (go_cut [56] (fun v56 wc => ∃ (kq : Nat) (x56_12 : Bool), v56 = .bool x56_12 ∧ Aside0 (value_ParseTime.j1 kq t184 t188 x56_12 = some (r1, r2, r3)) ∧ Aside0 (kq ≤ kj2) ∧ Aside0 (Kd.R (Kd.int .i64) 3 wc w.heap.size (fun _ => True) v190 t188) ∧ Aside0 (Below w.heap.size w wc)))
         case first =>
          as_aux_lemma =>
           (have H := HC13.out); clear HC13; (by_cases c19 : t189 = true)
           ·subst c19; (have H1 : (if 0 < (t188.length : Int) then (if (rd t188 0) < 1 then (value_ParseTime.j1 kj2 t184 t188 true) else (if 3 < (t188.length : Int) then (if (rd t188 3) ≥ 24 then (value_ParseTime.j1 kj2 t184 t188 true) else (if 4 < (t188.length : Int) then (if (rd t188 4) ≥ 60 then (value_ParseTime.j1 kj2 t184 t188 true) else (if 5 < (t188.length : Int) then (value_ParseTime.j1 kj2 t184 t188 (decide ((rd t188 5) ≥ 60))) else (none))) else (none))) else (none))) else (none)) = some (r1, r2, r3) := by rw [if_pos rfl] at H; exact H); clear H; (have H := H1); clear H1; (by_cases c20 : 0 < (t188.length : Int))
            ·(rw [if_pos c20] at H); (have c20b0 : decide (0 < (t188.length : Int)) = true := dE c20); (have c20b1 : decide (0 < t188.length) = true := dE (by omega)); clear c20; ((first | rw [c20b0] | (simp only [i64_w, i32_w]; rw [c20b0]) | rw [c20b1] | skip)); (by_cases c21 : (rd t188 0) < 1)
             ·(rw [if_pos c21] at H); (have c21b0 : decide ((rd t188 0) < 1) = true := dE c21); clear c21; (have H' := aM H); clear H; (obtain ⟨Ao22, co22, eo22⟩ := Kd.R_slice HO191.out); subst eo22; (have p192 : 0 ≤ (0 : Int) := (by omega)); (have q192 : 0 < (t188.length : Int) := oD ‹_›); (obtain ⟨ad192, e192, hx192_0⟩ := Kd.at_int (Kd.R_reads' HO191.out).2.2 0 p192 q192)
              cases e192
              (have qi192 : (0 < t188.length) = True := eq_true (by omega)); ((try rw [show ((0 : Int)).toNat = 0 from rfl] at hx192_0)); ((try rw [Addr.add_zero'] at hx192_0)); (replace p192 := eq_true p192); (replace q192 := eq_true q192); (go_wp2); (go_meet)
              case rel => exact ⟨_, (true), (by first | rfl | (simp; done) | (simp [*]; done)), H', ⟨by have := HJ2.out; first | omega | exact Nat.le_refl _⟩, ⟨by (with_reducible repeat (first | apply Kd.R_alloc | apply Kd.R_drewN | apply Kd.R_drew)); exact Kd.R_mono HO191.out (fun _ hk => trivial)⟩, ⟨by with_reducible repeat (first | exact HB.out | apply lA | apply lN | apply lW)⟩⟩
             ·(rw [if_neg c21] at H); (have c21b0 : decide ((rd t188 0) < 1) = false := decide_eq_false c21); clear c21; (by_cases c23 : 3 < (t188.length : Int))
              ·(rw [if_pos c23] at H); (have c23b0 : decide (3 < (t188.length : Int)) = true := dE c23); (have c23b1 : decide (3 < t188.length) = true := dE (by omega)); clear c23; (by_cases c24 : (rd t188 3) ≥ 24)
               ·(rw [if_pos c24] at H); (have c24b0 : decide (24 ≤ (rd t188 3)) = true := dE c24); clear c24; (have H' := aM H); clear H; (obtain ⟨Ao25, co25, eo25⟩ := Kd.R_slice HO191.out); subst eo25; (have p192 : 0 ≤ (0 : Int) := (by omega)); (have q192 : 0 < (t188.length : Int) := oD ‹_›); (obtain ⟨ad192, e192, hx192_0⟩ := Kd.at_int (Kd.R_reads' HO191.out).2.2 0 p192 q192)
                cases e192
                (have qi192 : (0 < t188.length) = True := eq_true (by omega)); ((try rw [show ((0 : Int)).toNat = 0 from rfl] at hx192_0)); ((try rw [Addr.add_zero'] at hx192_0)); (replace p192 := eq_true p192); (replace q192 := eq_true q192); (have p193 : 0 ≤ (3 : Int) := (by omega)); (have q193 : 3 < (t188.length : Int) := oD ‹_›); (obtain ⟨ad193, e193, hx193_0⟩ := Kd.at_int (Kd.R_reads' HO191.out).2.2 3 p193 q193); (obtain rfl : ad192 = ad193 := (by injection e193)); ((try simp only [show (3 : Int).toNat = 3 from rfl, Nat.reduceMul, Nat.reduceEqDiff, Go.Addr.add, ↓reduceIte] at hx193_0)); (have qi193 : (3 < t188.length) = True := eq_true (by omega)); ((try rw [show ((3 : Int)).toNat = 3 from rfl] at hx193_0)); (replace p193 := eq_true p193); (replace q193 := eq_true q193); (go_wp2); (go_meet)
                case rel => exact ⟨_, (true), (by first | rfl | (simp; done) | (simp [*]; done)), H', ⟨by have := HJ2.out; first | omega | exact Nat.le_refl _⟩, ⟨by (with_reducible repeat (first | apply Kd.R_alloc | apply Kd.R_drewN | apply Kd.R_drew)); exact Kd.R_mono HO191.out (fun _ hk => trivial)⟩, ⟨by with_reducible repeat (first | exact HB.out | apply lA | apply lN | apply lW)⟩⟩
               ·(rw [if_neg c24] at H); (have c24b0 : decide (24 ≤ (rd t188 3)) = false := decide_eq_false c24); clear c24; (by_cases c26 : 4 < (t188.length : Int))
                ·(rw [if_pos c26] at H); (have c26b0 : decide (4 < (t188.length : Int)) = true := dE c26); (have c26b1 : decide (4 < t188.length) = true := dE (by omega)); clear c26; (by_cases c27 : (rd t188 4) ≥ 60)
                 ·(rw [if_pos c27] at H); (have c27b0 : decide (60 ≤ (rd t188 4)) = true := dE c27); clear c27; (have H' := aM H); clear H; (obtain ⟨Ao28, co28, eo28⟩ := Kd.R_slice HO191.out); subst eo28; (have p192 : 0 ≤ (0 : Int) := (by omega)); (have q192 : 0 < (t188.length : Int) := oD ‹_›); (obtain ⟨ad192, e192, hx192_0⟩ := Kd.at_int (Kd.R_reads' HO191.out).2.2 0 p192 q192)
                  cases e192
                  (have qi192 : (0 < t188.length) = True := eq_true (by omega)); ((try rw [show ((0 : Int)).toNat = 0 from rfl] at hx192_0)); ((try rw [Addr.add_zero'] at hx192_0)); (replace p192 := eq_true p192); (replace q192 := eq_true q192); (have p193 : 0 ≤ (3 : Int) := (by omega)); (have q193 : 3 < (t188.length : Int) := oD ‹_›); (obtain ⟨ad193, e193, hx193_0⟩ := Kd.at_int (Kd.R_reads' HO191.out).2.2 3 p193 q193); (obtain rfl : ad192 = ad193 := (by injection e193)); ((try simp only [show (3 : Int).toNat = 3 from rfl, Nat.reduceMul, Nat.reduceEqDiff, Go.Addr.add, ↓reduceIte] at hx193_0)); (have qi193 : (3 < t188.length) = True := eq_true (by omega)); ((try rw [show ((3 : Int)).toNat = 3 from rfl] at hx193_0)); (replace p193 := eq_true p193); (replace q193 := eq_true q193); (have p194 : 0 ≤ (4 : Int) := (by omega)); (have q194 : 4 < (t188.length : Int) := oD ‹_›); (obtain ⟨ad194, e194, hx194_0⟩ := Kd.at_int (Kd.R_reads' HO191.out).2.2 4 p194 q194); (obtain rfl : ad192 = ad194 := (by injection e194)); ((try simp only [show (4 : Int).toNat = 4 from rfl, Nat.reduceMul, Nat.reduceEqDiff, Go.Addr.add, ↓reduceIte] at hx194_0)); (have qi194 : (4 < t188.length) = True := eq_true (by omega)); ((try rw [show ((4 : Int)).toNat = 4 from rfl] at hx194_0)); (replace p194 := eq_true p194); (replace q194 := eq_true q194); (go_wp2); (go_meet)
                  case rel => exact ⟨_, (true), (by first | rfl | (simp; done) | (simp [*]; done)), H', ⟨by have := HJ2.out; first | omega | exact Nat.le_refl _⟩, ⟨by (with_reducible repeat (first | apply Kd.R_alloc | apply Kd.R_drewN | apply Kd.R_drew)); exact Kd.R_mono HO191.out (fun _ hk => trivial)⟩, ⟨by with_reducible repeat (first | exact HB.out | apply lA | apply lN | apply lW)⟩⟩
                 ·(rw [if_neg c27] at H); (have c27b0 : decide (60 ≤ (rd t188 4)) = false := decide_eq_false c27); clear c27; (by_cases c29 : 5 < (t188.length : Int))
                  ·(rw [if_pos c29] at H); (have c29b0 : decide (5 < (t188.length : Int)) = true := dE c29); (have c29b1 : decide (5 < t188.length) = true := dE (by omega)); clear c29; (have H' := aM H); clear H; (obtain ⟨Ao30, co30, eo30⟩ := Kd.R_slice HO191.out); subst eo30; (have p192 : 0 ≤ (0 : Int) := (by omega)); (have q192 : 0 < (t188.length : Int) := oD ‹_›); (obtain ⟨ad192, e192, hx192_0⟩ := Kd.at_int (Kd.R_reads' HO191.out).2.2 0 p192 q192)
                   cases e192
                   (have qi192 : (0 < t188.length) = True := eq_true (by omega)); ((try rw [show ((0 : Int)).toNat = 0 from rfl] at hx192_0)); ((try rw [Addr.add_zero'] at hx192_0)); (replace p192 := eq_true p192); (replace q192 := eq_true q192); (have p193 : 0 ≤ (3 : Int) := (by omega)); (have q193 : 3 < (t188.length : Int) := oD ‹_›); (obtain ⟨ad193, e193, hx193_0⟩ := Kd.at_int (Kd.R_reads' HO191.out).2.2 3 p193 q193); (obtain rfl : ad192 = ad193 := (by injection e193)); ((try simp only [show (3 : Int).toNat = 3 from rfl, Nat.reduceMul, Nat.reduceEqDiff, Go.Addr.add, ↓reduceIte] at hx193_0)); (have qi193 : (3 < t188.length) = True := eq_true (by omega)); ((try rw [show ((3 : Int)).toNat = 3 from rfl] at hx193_0)); (replace p193 := eq_true p193); (replace q193 := eq_true q193); (have p194 : 0 ≤ (4 : Int) := (by omega)); (have q194 : 4 < (t188.length : Int) := oD ‹_›); (obtain ⟨ad194, e194, hx194_0⟩ := Kd.at_int (Kd.R_reads' HO191.out).2.2 4 p194 q194); (obtain rfl : ad192 = ad194 := (by injection e194)); ((try simp only [show (4 : Int).toNat = 4 from rfl, Nat.reduceMul, Nat.reduceEqDiff, Go.Addr.add, ↓reduceIte] at hx194_0)); (have qi194 : (4 < t188.length) = True := eq_true (by omega)); ((try rw [show ((4 : Int)).toNat = 4 from rfl] at hx194_0)); (replace p194 := eq_true p194); (replace q194 := eq_true q194); (have p195 : 0 ≤ (5 : Int) := (by omega)); (have q195 : 5 < (t188.length : Int) := oD ‹_›); (obtain ⟨ad195, e195, hx195_0⟩ := Kd.at_int (Kd.R_reads' HO191.out).2.2 5 p195 q195); (obtain rfl : ad192 = ad195 := (by injection e195)); ((try simp only [show (5 : Int).toNat = 5 from rfl, Nat.reduceMul, Nat.reduceEqDiff, Go.Addr.add, ↓reduceIte] at hx195_0)); (have qi195 : (5 < t188.length) = True := eq_true (by omega)); ((try rw [show ((5 : Int)).toNat = 5 from rfl] at hx195_0)); (replace p195 := eq_true p195); (replace q195 := eq_true q195); (go_wp2); (go_meet)
                   case rel => exact ⟨_, (decide ((rd t188 5) ≥ 60)), (by first | rfl | (simp; done) | (simp [*]; done)), H', ⟨by have := HJ2.out; first | omega | exact Nat.le_refl _⟩, ⟨by (with_reducible repeat (first | apply Kd.R_alloc | apply Kd.R_drewN | apply Kd.R_drew)); exact Kd.R_mono HO191.out (fun _ hk => trivial)⟩, ⟨by with_reducible repeat (first | exact HB.out | apply lA | apply lN | apply lW)⟩⟩
                  ·(rw [if_neg c29] at H); (exact absurd H (by simp))
                ·(rw [if_neg c26] at H); (exact absurd H (by simp))
              ·(rw [if_neg c23] at H); (exact absurd H (by simp))
            ·(rw [if_neg c20] at H); (exact absurd H (by simp))
           ·(replace c19 := Bool.eq_false_iff.mpr c19); subst c19; (have H1 : (value_ParseTime.j1 kj2 t184 t188 true) = some (r1, r2, r3) := by rw [if_neg (show ¬ (false = true) by decide)] at H; exact H); clear H; (have H := H1); clear H1; (have H' := aM H); clear H; (go_wp2); (go_meet)
            case rel => exact ⟨_, (true), (by first | rfl | (simp; done) | (simp [*]; done)), H', ⟨by have := HJ2.out; first | omega | exact Nat.le_refl _⟩, ⟨by (with_reducible repeat (first | apply Kd.R_alloc | apply Kd.R_drewN | apply Kd.R_drew)); exact Kd.R_mono HO191.out (fun _ hk => trivial)⟩, ⟨by with_reducible repeat (first | exact HB.out | apply lA | apply lN | apply lW)⟩⟩
         case rest =>
          as_aux_lemma =>
           clear HC13; (try clear c1); (try clear p1); (try clear q1); (try clear hx1); (try clear qi1); (try clear c2); (try clear p2); (try clear c4); (try clear c4b0); (try clear c4b1); (try clear c5); (try clear c5b0); (try clear c5b1); (try clear p6); (try clear q6); (try clear hx6); (try clear qi6); (try clear c7); (try clear c8); (try clear c8b0); (try clear c8b1); (try clear c9); (try clear c9b0); (try clear c9b1); (try clear c10); (try clear c10b0); (try clear c10b1); (try clear c11); (try clear c11b0); (try clear c11b1); (try clear c11b2); (try clear c19); (try clear p19); (try clear q19); (try clear hx19); (try clear qi19); (try clear c20); (try clear c20b0); (try clear c20b1); (try clear c21); (try clear c21b0); (try clear c23); (try clear c23b0); (try clear c23b1); (try clear c24); (try clear c24b0); (try clear c26); (try clear c26b0); (try clear c26b1); (try clear c27); (try clear c27b0); (try clear c29); (try clear c29b0); (try clear c29b1); (try clear hx192_0); (try clear hx193_0); (try clear hx194_0); (try clear hx195_0); (try clear p192); (try clear p193); (try clear p194); (try clear p195); (try clear p2); (try clear p6); (try clear q192); (try clear q193); (try clear q194); (try clear q195); (try clear q6); (obtain ⟨kq, x56_12, rfl, HA, HJ12, HO_5, HB⟩ := hcut)
           cases kq with
           | zero => exact absurd HA.out (by simp [value_ParseTime.j1])
           | succ kj12 =>
            (have H := HA.out); clear HA; (simp only [value_ParseTime.j1] at H); (by_cases c31 : x56_12 = true)
            ·subst c31; (have H1 : (some (0, false, 19)) = some (r1, r2, r3) := by rw [if_pos rfl] at H; exact H); clear H; (have H := H1); clear H1; (simp only [Option.some.injEq, Prod.mk.injEq] at H); (obtain ⟨rfl, rfl, rfl⟩ := H); (go_wp2); (go_ret3); (exact ⟨by first | rfl | (simp [errW_none, errW_some] <;> rfl) | (simp [*, errW_none, errW_some] <;> rfl), by with_reducible repeat (first | exact HB.out | apply lA | apply lN | apply lW)⟩)
            ·(replace c31 := Bool.eq_false_iff.mpr c31); subst c31; (have H1 : (if 0 < (t188.length : Int) then (if 1 < (t188.length : Int) then (if 2 < (t188.length : Int) then ((civil_Number.f kj12 (rd t188 0) (rd t188 1) (rd t188 2)).bind fun bt199 => (if bt199.2 = 0 then (if 3 < (t188.length : Int) then (if 4 < (t188.length : Int) then (if 5 < (t188.length : Int) then (some (wrap64 ((wrap64 ((wrap64 ((wrap64 (bt199.1 * 86400)) + (wrap64 ((rd t188 3) * 3600)))) + (wrap64 ((rd t188 4) * 60)))) + (rd t188 5)), t184, 0)) else (none)) else (none)) else (none)) else (some (0, false, 19)))) else (none)) else (none)) else (none)) = some (r1, r2, r3) := by rw [if_neg (show ¬ (false = true) by decide)] at H; exact H); clear H; (have H := H1); clear H1; (by_cases c32 : 0 < (t188.length : Int))
             ·(rw [if_pos c32] at H); (have c32b0 : decide (0 < (t188.length : Int)) = true := dE c32); (have c32b1 : decide (0 < t188.length) = true := dE (by omega)); clear c32; (by_cases c33 : 1 < (t188.length : Int))
              ·(rw [if_pos c33] at H); (have c33b0 : decide (1 < (t188.length : Int)) = true := dE c33); (have c33b1 : decide (1 < t188.length) = true := dE (by omega)); clear c33; (by_cases c34 : 2 < (t188.length : Int))
               ·(rw [if_pos c34] at H); (have c34b0 : decide (2 < (t188.length : Int)) = true := dE c34); (have c34b1 : decide (2 < t188.length) = true := dE (by omega)); clear c34; (replace H := Option.bind_eq_some_iff.mp H); (obtain ⟨⟨t199, t200⟩, A350, H⟩ := H); (replace H : (if t200 = 0 then (if 3 < (t188.length : Int) then (if 4 < (t188.length : Int) then (if 5 < (t188.length : Int) then (some (wrap64 ((wrap64 ((wrap64 ((wrap64 (t199 * 86400)) + (wrap64 ((rd t188 3) * 3600)))) + (wrap64 ((rd t188 4) * 60)))) + (rd t188 5)), t184, 0)) else (none)) else (none)) else (none)) else (some (0, false, 19))) = some (r1, r2, r3) := H); (have A35 := aM A350); clear A350; (by_cases c36 : t200 = 0)
                ·(rw [if_pos c36] at H); (have c36b0 : (t200 == 0) = true := beq_iff_eq.mpr c36); (have c36b1 : (t200 != 0) = false := bne_eq_false_iff_eq.mpr c36); clear c36; (by_cases c37 : 3 < (t188.length : Int))
                 ·(rw [if_pos c37] at H); (have c37b0 : decide (3 < (t188.length : Int)) = true := dE c37); (have c37b1 : decide (3 < t188.length) = true := dE (by omega)); clear c37; (by_cases c38 : 4 < (t188.length : Int))
                  ·(rw [if_pos c38] at H); (have c38b0 : decide (4 < (t188.length : Int)) = true := dE c38); (have c38b1 : decide (4 < t188.length) = true := dE (by omega)); clear c38; (by_cases c39 : 5 < (t188.length : Int))
                   ·(rw [if_pos c39] at H); (have c39b0 : decide (5 < (t188.length : Int)) = true := dE c39); (have c39b1 : decide (5 < t188.length) = true := dE (by omega)); clear c39; (simp only [Option.some.injEq, Prod.mk.injEq] at H); (obtain ⟨rfl, rfl, rfl⟩ := H); (try go_wp2); (have n0_ := aM (Kd.R_drew HO_5.out)); (have n1_ := aM (lW HB.out)); clear HO_5; clear HB; (have HO_5 := n0_); (have HB := n1_); clear n0_ n1_; (obtain ⟨Ao41, co41, eo41⟩ := Kd.R_slice HO_5.out); ((first | subst eo41 | (injection eo41 with f1_ f2_ f3_; have f4_ := f1_.symm; have f5_ := f3_.symm; clear f1_ f2_ f3_; subst f4_; subst f5_))); (have p196 : 0 ≤ (0 : Int) := (by omega)); (have q196 : 0 < (t188.length : Int) := oD ‹_›); (obtain ⟨ad196, e196, hx196_0⟩ := Kd.at_int (Kd.R_reads' HO_5.out).2.2 0 p196 q196)
                    cases e196
                    (have qi196 : (0 < t188.length) = True := eq_true (by omega)); ((try rw [show ((0 : Int)).toNat = 0 from rfl] at hx196_0)); ((try rw [Addr.add_zero'] at hx196_0)); (replace p196 := eq_true p196); (replace q196 := eq_true q196); (have p197 : 0 ≤ (1 : Int) := (by omega)); (have q197 : 1 < (t188.length : Int) := oD ‹_›); (obtain ⟨ad197, e197, hx197_0⟩ := Kd.at_int (Kd.R_reads' HO_5.out).2.2 1 p197 q197); (obtain rfl : ad196 = ad197 := (by injection e197)); ((try simp only [show (1 : Int).toNat = 1 from rfl, Nat.reduceMul, Nat.reduceEqDiff, Go.Addr.add, ↓reduceIte] at hx197_0)); (have qi197 : (1 < t188.length) = True := eq_true (by omega)); ((try rw [show ((1 : Int)).toNat = 1 from rfl] at hx197_0)); (replace p197 := eq_true p197); (replace q197 := eq_true q197); (have p198 : 0 ≤ (2 : Int) := (by omega)); (have q198 : 2 < (t188.length : Int) := oD ‹_›); (obtain ⟨ad198, e198, hx198_0⟩ := Kd.at_int (Kd.R_reads' HO_5.out).2.2 2 p198 q198); (obtain rfl : ad196 = ad198 := (by injection e198)); ((try simp only [show (2 : Int).toNat = 2 from rfl, Nat.reduceMul, Nat.reduceEqDiff, Go.Addr.add, ↓reduceIte] at hx198_0)); (have qi198 : (2 < t188.length) = True := eq_true (by omega)); ((try rw [show ((2 : Int)).toNat = 2 from rfl] at hx198_0)); (replace p198 := eq_true p198); (replace q198 := eq_true q198); (refine start_ (n := 16) (S := fun w' => w'.cell? ad196 = some (.int .i64 (rd t188 0)) ∧ w'.cell? ⟨ad196.block, ad196.off + 1, none⟩ = some (.int .i64 (rd t188 1)) ∧ w'.cell? ⟨ad196.block, ad196.off + 2, none⟩ = some (.int .i64 (rd t188 2))) (ds := []) #[O,O,O,O,O,O,O,O,O,O,O,O,O,O,O,O] (by kernel_rfl) rfl rfl ⟨hx196_0, hx197_0, hx198_0⟩ (fun hHeld => ?_); refine with_tabW value_ParseTime.tab7 value_ParseTime.bits7 (fun HT_ HW_ => ?_)); (generalize wc.drew = w40 at HO_5 HB hx196_0 hx197_0 hx198_0 hHeld ⊢); (refine pu_ (i := 0) (N := some 58) (v := ?_) (a' := ?_) #[I,O,O,O,O,O,O,O,O,O,O,O,O,O,O,O] rfl rfl HT_.out (by kernel_rfl) (fun _ _ _ h => h) (Or.inl ⟨by rfl, ?_⟩) ?_ ?_); (rotate_left)
                    ·(intro w'); (go_simp); (with_reducible rfl)
                    rotate_left
                    ·(simp only [Act.put, sTA, sCZ, sCS, i64_w, i32_w]); (rfl)
                    (refine pu_ (i := 1) (N := some 59) (v := ?_) (a' := ?_) #[I,I,O,O,O,O,O,O,O,O,O,O,O,O,O,O] rfl rfl HT_.out (by kernel_rfl) (fun _ _ _ h => h) (Or.inl ⟨by rfl, ?_⟩) ?_ ?_); (rotate_left)
                    ·(intro w'); (go_simp); (with_reducible rfl)
                    rotate_left
                    ·(simp only [Act.put, sTA, sCZ, sCS, i64_w, i32_w]); (rfl)
                    (refine pu_ (i := 3) (N := some 61) (v := ?_) (a' := ?_) #[I,I,O,I,O,O,O,O,O,O,O,O,O,O,O,O] rfl rfl HT_.out (by kernel_rfl) (fun _ _ _ h => h) (Or.inl ⟨by rfl, ?_⟩) ?_ ?_); (rotate_left)
                    ·(intro w'); (go_simp); (with_reducible rfl)
                    rotate_left
                    ·(simp only [Act.put, sTA, sCZ, sCS, i64_w, i32_w]); (rfl)
                    (refine pu_ (i := 4) (N := some 62) (v := ?_) (a' := ?_) #[I,I,O,I,I,O,O,O,O,O,O,O,O,O,O,O] rfl rfl HT_.out (by kernel_rfl) (fun _ _ _ h => h) (Or.inl ⟨by rfl, ?_⟩) ?_ ?_); (rotate_left)
                    ·(intro w'); (go_simp); (with_reducible rfl)
                    rotate_left
                    ·(simp only [Act.put, sTA, sCZ, sCS, i64_w, i32_w]); (rfl)
                    (refine pu_ (i := 6) (N := some 64) (v := ?_) (a' := ?_) #[I,I,O,I,I,O,I,O,O,O,O,O,O,O,O,O] rfl rfl HT_.out (by kernel_rfl) (fun _ _ _ h => h) (Or.inl ⟨by rfl, ?_⟩) ?_ ?_); (rotate_left)
                    ·(intro w'); (go_simp); (with_reducible rfl)
                    rotate_left
                    ·(simp only [Act.put, sTA, sCZ, sCS, i64_w, i32_w]); (rfl)
                    (refine pu_ (i := 7) (N := some 65) (v := ?_) (a' := ?_) #[I,I,O,I,I,O,I,I,O,O,O,O,O,O,O,O] rfl rfl HT_.out (by kernel_rfl) (fun _ _ _ h => h) (Or.inl ⟨by rfl, ?_⟩) ?_ ?_); (rotate_left)
                    ·(intro w'); (go_simp); (with_reducible rfl)
                    rotate_left
                    ·(simp only [Act.put, sTA, sCZ, sCS, i64_w, i32_w]); (rfl)
                    (refine take_ (i := 2) (N := some 60) (v := ?_) (a' := ?_) #[I,I,I,I,I,O,I,I,O,O,O,O,O,O,O,O] rfl rfl (take_ofW HT_.out HW_.out (by kernel_rfl)) (fun _ _ _ h => h) (Or.inl ⟨by rfl, ?_⟩) hHeld ?_ ?_); (rotate_left)
                    ·(rintro w' ⟨s0, s1, s2⟩); (go_simp); (with_reducible rfl)
                    rotate_left
                    ·(simp only [Act.put, sTA, sCZ, sCS, i64_w, i32_w]); (rfl)
                    (refine take_ (i := 5) (N := some 63) (v := ?_) (a' := ?_) #[I,I,I,I,I,I,I,I,O,O,O,O,O,O,O,O] rfl rfl (take_ofW HT_.out HW_.out (by kernel_rfl)) (fun _ _ _ h => h) (Or.inl ⟨by rfl, ?_⟩) hHeld ?_ ?_); (rotate_left)
                    ·(rintro w' ⟨s0, s1, s2⟩); (go_simp); (with_reducible rfl)
                    rotate_left
                    ·(simp only [Act.put, sTA, sCZ, sCS, i64_w, i32_w]); (rfl)
                    (refine take_ (i := 8) (N := some 66) (v := ?_) (a' := ?_) #[I,I,I,I,I,I,I,I,I,O,O,O,O,O,O,O] rfl rfl (take_ofW HT_.out HW_.out (by kernel_rfl)) (fun _ _ _ h => h) (Or.inl ⟨by rfl, ?_⟩) hHeld ?_ ?_); (rotate_left)
                    ·(rintro w' ⟨s0, s1, s2⟩); (go_simp); (with_reducible rfl)
                    rotate_left
                    ·(simp only [Act.put, sTA, sCZ, sCS, i64_w, i32_w]); (rfl)
                    (refine pu_ (i := 9) (N := some 67) (v := ?_) (a' := ?_) #[I,I,I,I,I,I,I,I,I,I,O,O,O,O,O,O] rfl rfl HT_.out (by kernel_rfl) (fun _ _ _ h => h) (Or.inl ⟨by rfl, ?_⟩) ?_ ?_); (rotate_left)
                    ·(intro w'); (go_simp); (with_reducible rfl)
                    rotate_left
                    ·(simp only [Act.put, sTA, sCZ, sCS, i64_w, i32_w]); (rfl)
                    (refine one_ (i := 10) (N := some 68) #[I,I,I,I,I,I,I,I,I,I,I,O,O,O,O,O] rfl rfl (one_of HT_.out (by kernel_rfl)) (by decide) (fun K hK => ?_)); (refine goes_ Tryz.func109 (by kernel_rfl) rfl #[.agg #[.int .i64 (rd t188 0), .int .i64 (rd t188 1), .int .i64 (rd t188 2)]] (by rfl) rfl rfl (by (try simp only [mTA, mC, mN]); first | done | rfl | (simp only [lD, lT]; rfl)) ?_); (with_reducible refine (civil_Number.calls kj12 (rd t188 0) (rd t188 1) (rd t188 2) t199 t200 _ A35.out).mono ?_); (rintro e w42 ⟨rfl, hb⟩); (have HS0_ := (hb.cell (World.block_lt_of_cell? _ _ (hHeld.1))).trans (hHeld.1)); (have HS1_ := (hb.cell (World.block_lt_of_cell? _ _ (hHeld.2.1))).trans (hHeld.2.1)); (have HS2_ := (hb.cell (World.block_lt_of_cell? _ _ (hHeld.2.2))).trans (hHeld.2.2)); (refine ⟨_, rfl, ?_⟩); (have n0_ := aM (Kd.R_below (by (with_reducible repeat (first | apply Kd.R_alloc | apply Kd.R_drewN | apply Kd.R_drew)); exact HO_5.out) hb)); (have n1_ := aM (below_step (by with_reducible repeat (first | exact HB.out | apply lA | apply lN | apply lW)) hb)); clear HO_5; clear HB; (have HO_5 := n0_); (have HB := n1_); clear n0_ n1_; ((try clear hb)); ((try clear hb2)); ((try clear hk)); ((try clear hi)); (refine hK.out _ _ ⟨HS0_, HS1_, HS2_⟩ (fun hHeld => ?_)); clear hK K; (refine norm_ (a' := ?_) ?_ ?_); (rotate_left)
                    ·(show Act.put _ (some 68) _ = _); (simp only [Act.put, sTA, sCZ, sCS, i64_w, i32_w]); (rfl)
                    (refine pu_ (i := 11) (N := some 57) (v := ?_) (a' := ?_) #[I,I,I,I,I,I,I,I,I,I,I,I,O,O,O,O] rfl rfl HT_.out (by kernel_rfl) (fun _ _ _ h => h) (Or.inl ⟨by rfl, ?_⟩) ?_ ?_); (rotate_left)
                    ·(intro w'); (go_simp); (with_reducible rfl)
                    rotate_left
                    ·(simp only [Act.put, sTA, sCZ, sCS, i64_w, i32_w]); (rfl)
                    (refine pu_ (i := 12) (N := some 69) (v := ?_) (a' := ?_) #[I,I,I,I,I,I,I,I,I,I,I,I,I,O,O,O] rfl rfl HT_.out (by kernel_rfl) (fun _ _ _ h => h) (Or.inl ⟨by rfl, ?_⟩) ?_ ?_); (rotate_left)
                    ·(intro w'); (go_simp); (with_reducible rfl)
                    rotate_left
                    ·(simp only [Act.put, sTA, sCZ, sCS, i64_w, i32_w]); (rfl)
                    (refine pu_ (i := 13) (N := some 70) (v := ?_) (a' := ?_) #[I,I,I,I,I,I,I,I,I,I,I,I,I,I,O,O] rfl rfl HT_.out (by kernel_rfl) (fun _ _ _ h => h) (Or.inl ⟨by rfl, ?_⟩) ?_ ?_); (rotate_left)
                    ·(intro w'); (go_simp); (with_reducible rfl)
                    rotate_left
                    ·(simp only [Act.put, sTA, sCZ, sCS, i64_w, i32_w]); (rfl)
                    (refine pu_ (i := 14) (N := some 7) (v := ?_) (a' := ?_) #[I,I,I,I,I,I,I,I,I,I,I,I,I,I,I,O] rfl rfl HT_.out (by kernel_rfl) (fun _ _ _ h => h) (Or.inl ⟨by rfl, ?_⟩) ?_ ?_); (rotate_left)
                    ·(intro w'); (go_simp); (with_reducible rfl)
                    rotate_left
                    ·(simp only [Act.put, sTA, sCZ, sCS, i64_w, i32_w]); (rfl)
                    (refine pu_ (i := 15) (N := some 4) (v := ?_) (a' := ?_) #[I,I,I,I,I,I,I,I,I,I,I,I,I,I,I,I] rfl rfl HT_.out (by kernel_rfl) (fun _ _ _ h => h) (Or.inl ⟨by rfl, ?_⟩) ?_ ?_); (rotate_left)
                    ·(intro w'); (go_simp); (with_reducible rfl)
                    rotate_left
                    ·(simp only [Act.put, sTA, sCZ, sCS, i64_w, i32_w]); (rfl)
                    (refine done_ (done_of HT_.out (by kernel_rfl)) ?_); (try go_wp2); (have n0_ := aM (Kd.R_drew HO_5.out)); (have n1_ := aM (lW HB.out)); clear HO_5; clear HB; (have HO_5 := n0_); (have HB := n1_); clear n0_ n1_; (have p201 : 0 ≤ (3 : Int) := (by omega)); (have q201 : 3 < (t188.length : Int) := oD ‹_›); (obtain ⟨ad201, e201, hx201_0⟩ := Kd.at_int (Kd.R_reads' HO_5.out).2.2 3 p201 q201); (obtain rfl : ad196 = ad201 := (by injection e201)); ((try simp only [show (3 : Int).toNat = 3 from rfl, Nat.reduceMul, Nat.reduceEqDiff, Go.Addr.add, ↓reduceIte] at hx201_0)); (have qi201 : (3 < t188.length) = True := eq_true (by omega)); ((try rw [show ((3 : Int)).toNat = 3 from rfl] at hx201_0)); (replace p201 := eq_true p201); (replace q201 := eq_true q201); (have p202 : 0 ≤ (4 : Int) := (by omega)); (have q202 : 4 < (t188.length : Int) := oD ‹_›); (obtain ⟨ad202, e202, hx202_0⟩ := Kd.at_int (Kd.R_reads' HO_5.out).2.2 4 p202 q202); (obtain rfl : ad196 = ad202 := (by injection e202)); ((try simp only [show (4 : Int).toNat = 4 from rfl, Nat.reduceMul, Nat.reduceEqDiff, Go.Addr.add, ↓reduceIte] at hx202_0)); (have qi202 : (4 < t188.length) = True := eq_true (by omega)); ((try rw [show ((4 : Int)).toNat = 4 from rfl] at hx202_0)); (replace p202 := eq_true p202); (replace q202 := eq_true q202); (have p203 : 0 ≤ (5 : Int) := (by omega)); (have q203 : 5 < (t188.length : Int) := oD ‹_›); (obtain ⟨ad203, e203, hx203_0⟩ := Kd.at_int (Kd.R_reads' HO_5.out).2.2 5 p203 q203); (obtain rfl : ad196 = ad203 := (by injection e203)); ((try simp only [show (5 : Int).toNat = 5 from rfl, Nat.reduceMul, Nat.reduceEqDiff, Go.Addr.add, ↓reduceIte] at hx203_0)); (have qi203 : (5 < t188.length) = True := eq_true (by omega)); ((try rw [show ((5 : Int)).toNat = 5 from rfl] at hx203_0)); (replace p203 := eq_true p203); (replace q203 := eq_true q203); (refine start_ (n := 20) (S := fun w' => w'.cell? ⟨ad196.block, ad196.off + 3, none⟩ = some (.int .i64 (rd t188 3)) ∧ w'.cell? ⟨ad196.block, ad196.off + 4, none⟩ = some (.int .i64 (rd t188 4)) ∧ w'.cell? ⟨ad196.block, ad196.off + 5, none⟩ = some (.int .i64 (rd t188 5))) (ds := []) #[O,O,O,O,O,O,O,O,O,O,O,O,O,O,O,O,O,O,O,O] (by kernel_rfl) rfl rfl ⟨hx201_0, hx202_0, hx203_0⟩ (fun hHeld => ?_); refine with_tabW value_ParseTime.tab10 value_ParseTime.bits10 (fun HT_ HW_ => ?_)); (generalize w42.drew = w43 at HO_5 HB hx201_0 hx202_0 hx203_0 hHeld ⊢); (refine pu_ (i := 0) (N := some 73) (v := ?_) (a' := ?_) #[I,O,O,O,O,O,O,O,O,O,O,O,O,O,O,O,O,O,O,O] rfl rfl HT_.out (by kernel_rfl) (fun _ _ _ h => h) (Or.inl ⟨by rfl, ?_⟩) ?_ ?_); (rotate_left)
                    ·(intro w'); (go_simp); (with_reducible rfl)
                    rotate_left
                    ·(simp only [Act.put, sTA, sCZ, sCS, i64_w, i32_w]); (rfl)
                    (refine pu_ (i := 1) (N := some 74) (v := ?_) (a' := ?_) #[I,I,O,O,O,O,O,O,O,O,O,O,O,O,O,O,O,O,O,O] rfl rfl HT_.out (by kernel_rfl) (fun _ _ _ h => h) (Or.inl ⟨by rfl, ?_⟩) ?_ ?_); (rotate_left)
                    ·(intro w'); (go_simp); (with_reducible rfl)
                    rotate_left
                    ·(simp only [Act.put, sTA, sCZ, sCS, i64_w, i32_w]); (rfl)
                    (refine pu_ (i := 2) (N := some 75) (v := ?_) (a' := ?_) #[I,I,I,O,O,O,O,O,O,O,O,O,O,O,O,O,O,O,O,O] rfl rfl HT_.out (by kernel_rfl) (fun _ _ _ h => h) (Or.inl ⟨by rfl, ?_⟩) ?_ ?_); (rotate_left)
                    ·(intro w'); (go_simp); (with_reducible rfl)
                    rotate_left
                    ·(simp only [Act.put, sTA, sCZ, sCS, i64_w, i32_w]); (rfl)
                    (refine pu_ (i := 3) (N := some 76) (v := ?_) (a' := ?_) #[I,I,I,I,O,O,O,O,O,O,O,O,O,O,O,O,O,O,O,O] rfl rfl HT_.out (by kernel_rfl) (fun _ _ _ h => h) (Or.inl ⟨by rfl, ?_⟩) ?_ ?_); (rotate_left)
                    ·(intro w'); (go_simp); (with_reducible rfl)
                    rotate_left
                    ·(simp only [Act.put, sTA, sCZ, sCS, i64_w, i32_w]); (rfl)
                    (refine pu_ (i := 7) (N := some 80) (v := ?_) (a' := ?_) #[I,I,I,I,O,O,O,I,O,O,O,O,O,O,O,O,O,O,O,O] rfl rfl HT_.out (by kernel_rfl) (fun _ _ _ h => h) (Or.inl ⟨by rfl, ?_⟩) ?_ ?_); (rotate_left)
                    ·(intro w'); (go_simp); (with_reducible rfl)
                    rotate_left
                    ·(simp only [Act.put, sTA, sCZ, sCS, i64_w, i32_w]); (rfl)
                    (refine pu_ (i := 8) (N := some 81) (v := ?_) (a' := ?_) #[I,I,I,I,O,O,O,I,I,O,O,O,O,O,O,O,O,O,O,O] rfl rfl HT_.out (by kernel_rfl) (fun _ _ _ h => h) (Or.inl ⟨by rfl, ?_⟩) ?_ ?_); (rotate_left)
                    ·(intro w'); (go_simp); (with_reducible rfl)
                    rotate_left
                    ·(simp only [Act.put, sTA, sCZ, sCS, i64_w, i32_w]); (rfl)
                    (refine pu_ (i := 12) (N := some 85) (v := ?_) (a' := ?_) #[I,I,I,I,O,O,O,I,I,O,O,O,I,O,O,O,O,O,O,O] rfl rfl HT_.out (by kernel_rfl) (fun _ _ _ h => h) (Or.inl ⟨by rfl, ?_⟩) ?_ ?_); (rotate_left)
                    ·(intro w'); (go_simp); (with_reducible rfl)
                    rotate_left
                    ·(simp only [Act.put, sTA, sCZ, sCS, i64_w, i32_w]); (rfl)
                    (refine pu_ (i := 13) (N := some 86) (v := ?_) (a' := ?_) #[I,I,I,I,O,O,O,I,I,O,O,O,I,I,O,O,O,O,O,O] rfl rfl HT_.out (by kernel_rfl) (fun _ _ _ h => h) (Or.inl ⟨by rfl, ?_⟩) ?_ ?_); (rotate_left)
                    ·(intro w'); (go_simp); (with_reducible rfl)
                    rotate_left
                    ·(simp only [Act.put, sTA, sCZ, sCS, i64_w, i32_w]); (rfl)
                    (refine pu_ (i := 16) (N := some 89) (v := ?_) (a' := ?_) #[I,I,I,I,O,O,O,I,I,O,O,O,I,I,O,O,I,O,O,O] rfl rfl HT_.out (by kernel_rfl) (fun _ _ _ h => h) (Or.inl ⟨by rfl, ?_⟩) ?_ ?_); (rotate_left)
                    ·(intro w'); (go_simp); (with_reducible rfl)
                    rotate_left
                    ·(simp only [Act.put, sTA, sCZ, sCS, i64_w, i32_w]); (rfl)
                    (refine take_ (i := 4) (N := some 77) (v := ?_) (a' := ?_) #[I,I,I,I,I,O,O,I,I,O,O,O,I,I,O,O,I,O,O,O] rfl rfl (take_ofW HT_.out HW_.out (by kernel_rfl)) (fun _ _ _ h => h) (Or.inl ⟨by rfl, ?_⟩) hHeld ?_ ?_); (rotate_left)
                    ·(rintro w' ⟨s0, s1, s2⟩); (go_simp); (with_reducible rfl)
                    rotate_left
                    ·(simp only [Act.put, sTA, sCZ, sCS, i64_w, i32_w]); (rfl)
                    (refine pu_ (i := 5) (N := some 78) (v := ?_) (a' := ?_) #[I,I,I,I,I,I,O,I,I,O,O,O,I,I,O,O,I,O,O,O] rfl rfl HT_.out (by kernel_rfl) (fun _ _ _ h => h) (Or.inl ⟨by rfl, ?_⟩) ?_ ?_); (rotate_left)
                    ·(intro w'); (go_simp); (with_reducible rfl)
                    rotate_left
                    ·(simp only [Act.put, sTA, sCZ, sCS, i64_w, i32_w]); (rfl)
                    (refine pu_ (i := 6) (N := some 79) (v := ?_) (a' := ?_) #[I,I,I,I,I,I,I,I,I,O,O,O,I,I,O,O,I,O,O,O] rfl rfl HT_.out (by kernel_rfl) (fun _ _ _ h => h) (Or.inl ⟨by rfl, ?_⟩) ?_ ?_); (rotate_left)
                    ·(intro w'); (go_simp); (with_reducible rfl)
                    rotate_left
                    ·(simp only [Act.put, sTA, sCZ, sCS, i64_w, i32_w]); (rfl)
                    (refine take_ (i := 9) (N := some 82) (v := ?_) (a' := ?_) #[I,I,I,I,I,I,I,I,I,I,O,O,I,I,O,O,I,O,O,O] rfl rfl (take_ofW HT_.out HW_.out (by kernel_rfl)) (fun _ _ _ h => h) (Or.inl ⟨by rfl, ?_⟩) hHeld ?_ ?_); (rotate_left)
                    ·(rintro w' ⟨s0, s1, s2⟩); (go_simp); (with_reducible rfl)
                    rotate_left
                    ·(simp only [Act.put, sTA, sCZ, sCS, i64_w, i32_w]); (rfl)
                    (refine pu_ (i := 10) (N := some 83) (v := ?_) (a' := ?_) #[I,I,I,I,I,I,I,I,I,I,I,O,I,I,O,O,I,O,O,O] rfl rfl HT_.out (by kernel_rfl) (fun _ _ _ h => h) (Or.inl ⟨by rfl, ?_⟩) ?_ ?_); (rotate_left)
                    ·(intro w'); (go_simp); (with_reducible rfl)
                    rotate_left
                    ·(simp only [Act.put, sTA, sCZ, sCS, i64_w, i32_w]); (rfl)
                    (refine pu_ (i := 11) (N := some 84) (v := ?_) (a' := ?_) #[I,I,I,I,I,I,I,I,I,I,I,I,I,I,O,O,I,O,O,O] rfl rfl HT_.out (by kernel_rfl) (fun _ _ _ h => h) (Or.inl ⟨by rfl, ?_⟩) ?_ ?_); (rotate_left)
                    ·(intro w'); (go_simp); (with_reducible rfl)
                    rotate_left
                    ·(simp only [Act.put, sTA, sCZ, sCS, i64_w, i32_w]); (rfl)
                    (refine take_ (i := 14) (N := some 87) (v := ?_) (a' := ?_) #[I,I,I,I,I,I,I,I,I,I,I,I,I,I,I,O,I,O,O,O] rfl rfl (take_ofW HT_.out HW_.out (by kernel_rfl)) (fun _ _ _ h => h) (Or.inl ⟨by rfl, ?_⟩) hHeld ?_ ?_); (rotate_left)
                    ·(rintro w' ⟨s0, s1, s2⟩); (go_simp); (with_reducible rfl)
                    rotate_left
                    ·(simp only [Act.put, sTA, sCZ, sCS, i64_w, i32_w]); (rfl)
                    (refine pu_ (i := 15) (N := some 88) (v := ?_) (a' := ?_) #[I,I,I,I,I,I,I,I,I,I,I,I,I,I,I,I,I,O,O,O] rfl rfl HT_.out (by kernel_rfl) (fun _ _ _ h => h) (Or.inl ⟨by rfl, ?_⟩) ?_ ?_); (rotate_left)
                    ·(intro w'); (go_simp); (with_reducible rfl)
                    rotate_left
                    ·(simp only [Act.put, sTA, sCZ, sCS, i64_w, i32_w]); (rfl)
                    (refine pu_ (i := 17) (N := some 2) (v := ?_) (a' := ?_) #[I,I,I,I,I,I,I,I,I,I,I,I,I,I,I,I,I,I,O,O] rfl rfl HT_.out (by kernel_rfl) (fun _ _ _ h => h) (Or.inl ⟨by rfl, ?_⟩) ?_ ?_); (rotate_left)
                    ·(intro w'); (go_simp); (with_reducible rfl)
                    rotate_left
                    ·(simp only [Act.put, sTA, sCZ, sCS, i64_w, i32_w]); (rfl)
                    (refine pu_ (i := 18) (N := some 3) (v := ?_) (a' := ?_) #[I,I,I,I,I,I,I,I,I,I,I,I,I,I,I,I,I,I,I,O] rfl rfl HT_.out (by kernel_rfl) (fun _ _ _ h => h) (Or.inl ⟨by rfl, ?_⟩) ?_ ?_); (rotate_left)
                    ·(intro w'); (go_simp); (with_reducible rfl)
                    rotate_left
                    ·(simp only [Act.put, sTA, sCZ, sCS, i64_w, i32_w]); (rfl)
                    (refine pu_ (i := 19) (N := some 4) (v := ?_) (a' := ?_) #[I,I,I,I,I,I,I,I,I,I,I,I,I,I,I,I,I,I,I,I] rfl rfl HT_.out (by kernel_rfl) (fun _ _ _ h => h) (Or.inl ⟨by rfl, ?_⟩) ?_ ?_); (rotate_left)
                    ·(intro w'); (go_simp); (with_reducible rfl)
                    rotate_left
                    ·(simp only [Act.put, sTA, sCZ, sCS, i64_w, i32_w]); (rfl)
                    (refine done_ (done_of HT_.out (by kernel_rfl)) ?_); (try go_wp2); (go_ret3); (exact ⟨by first | rfl | (simp [errW_none, errW_some] <;> rfl) | (simp [*, errW_none, errW_some] <;> rfl), by with_reducible repeat (first | exact HB.out | apply lA | apply lN | apply lW)⟩)
                   ·(rw [if_neg c39] at H); (exact absurd H (by simp))
                  ·(rw [if_neg c38] at H); (exact absurd H (by simp))
                 ·(rw [if_neg c37] at H); (exact absurd H (by simp))
                ·(rw [if_neg c36] at H); (have c36b0 : (t200 == 0) = false := beq_eq_false_iff_ne.mpr c36); (have c36b1 : (t200 != 0) = true := bne_iff_ne.mpr c36); (simp only [Option.some.injEq, Prod.mk.injEq] at H); (obtain ⟨rfl, rfl, rfl⟩ := H); (try go_wp2); (have n0_ := aM (Kd.R_drew HO_5.out)); (have n1_ := aM (lW HB.out)); clear HO_5; clear HB; (have HO_5 := n0_); (have HB := n1_); clear n0_ n1_; (obtain ⟨Ao45, co45, eo45⟩ := Kd.R_slice HO_5.out); ((first | subst eo45 | (injection eo45 with f1_ f2_ f3_; have f4_ := f1_.symm; have f5_ := f3_.symm; clear f1_ f2_ f3_; subst f4_; subst f5_))); (have p196 : 0 ≤ (0 : Int) := (by omega)); (have q196 : 0 < (t188.length : Int) := oD ‹_›); (obtain ⟨ad196, e196, hx196_0⟩ := Kd.at_int (Kd.R_reads' HO_5.out).2.2 0 p196 q196)
                 cases e196
                 (have qi196 : (0 < t188.length) = True := eq_true (by omega)); ((try rw [show ((0 : Int)).toNat = 0 from rfl] at hx196_0)); ((try rw [Addr.add_zero'] at hx196_0)); (replace p196 := eq_true p196); (replace q196 := eq_true q196); (have p197 : 0 ≤ (1 : Int) := (by omega)); (have q197 : 1 < (t188.length : Int) := oD ‹_›); (obtain ⟨ad197, e197, hx197_0⟩ := Kd.at_int (Kd.R_reads' HO_5.out).2.2 1 p197 q197); (obtain rfl : ad196 = ad197 := (by injection e197)); ((try simp only [show (1 : Int).toNat = 1 from rfl, Nat.reduceMul, Nat.reduceEqDiff, Go.Addr.add, ↓reduceIte] at hx197_0)); (have qi197 : (1 < t188.length) = True := eq_true (by omega)); ((try rw [show ((1 : Int)).toNat = 1 from rfl] at hx197_0)); (replace p197 := eq_true p197); (replace q197 := eq_true q197); (have p198 : 0 ≤ (2 : Int) := (by omega)); (have q198 : 2 < (t188.length : Int) := oD ‹_›); (obtain ⟨ad198, e198, hx198_0⟩ := Kd.at_int (Kd.R_reads' HO_5.out).2.2 2 p198 q198); (obtain rfl : ad196 = ad198 := (by injection e198)); ((try simp only [show (2 : Int).toNat = 2 from rfl, Nat.reduceMul, Nat.reduceEqDiff, Go.Addr.add, ↓reduceIte] at hx198_0)); (have qi198 : (2 < t188.length) = True := eq_true (by omega)); ((try rw [show ((2 : Int)).toNat = 2 from rfl] at hx198_0)); (replace p198 := eq_true p198); (replace q198 := eq_true q198); (refine start_ (n := 16) (S := fun w' => w'.cell? ad196 = some (.int .i64 (rd t188 0)) ∧ w'.cell? ⟨ad196.block, ad196.off + 1, none⟩ = some (.int .i64 (rd t188 1)) ∧ w'.cell? ⟨ad196.block, ad196.off + 2, none⟩ = some (.int .i64 (rd t188 2))) (ds := []) #[O,O,O,O,O,O,O,O,O,O,O,O,O,O,O,O] (by kernel_rfl) rfl rfl ⟨hx196_0, hx197_0, hx198_0⟩ (fun hHeld => ?_); refine with_tabW value_ParseTime.tab7 value_ParseTime.bits7 (fun HT_ HW_ => ?_)); (generalize wc.drew = w44 at HO_5 HB hx196_0 hx197_0 hx198_0 hHeld ⊢); (refine pu_ (i := 0) (N := some 58) (v := ?_) (a' := ?_) #[I,O,O,O,O,O,O,O,O,O,O,O,O,O,O,O] rfl rfl HT_.out (by kernel_rfl) (fun _ _ _ h => h) (Or.inl ⟨by rfl, ?_⟩) ?_ ?_); (rotate_left)
                 ·(intro w'); (go_simp); (with_reducible rfl)
                 rotate_left
                 ·(simp only [Act.put, sTA, sCZ, sCS, i64_w, i32_w]); (rfl)
                 (refine pu_ (i := 1) (N := some 59) (v := ?_) (a' := ?_) #[I,I,O,O,O,O,O,O,O,O,O,O,O,O,O,O] rfl rfl HT_.out (by kernel_rfl) (fun _ _ _ h => h) (Or.inl ⟨by rfl, ?_⟩) ?_ ?_); (rotate_left)
                 ·(intro w'); (go_simp); (with_reducible rfl)
                 rotate_left
                 ·(simp only [Act.put, sTA, sCZ, sCS, i64_w, i32_w]); (rfl)
                 (refine pu_ (i := 3) (N := some 61) (v := ?_) (a' := ?_) #[I,I,O,I,O,O,O,O,O,O,O,O,O,O,O,O] rfl rfl HT_.out (by kernel_rfl) (fun _ _ _ h => h) (Or.inl ⟨by rfl, ?_⟩) ?_ ?_); (rotate_left)
                 ·(intro w'); (go_simp); (with_reducible rfl)
                 rotate_left
                 ·(simp only [Act.put, sTA, sCZ, sCS, i64_w, i32_w]); (rfl)
                 (refine pu_ (i := 4) (N := some 62) (v := ?_) (a' := ?_) #[I,I,O,I,I,O,O,O,O,O,O,O,O,O,O,O] rfl rfl HT_.out (by kernel_rfl) (fun _ _ _ h => h) (Or.inl ⟨by rfl, ?_⟩) ?_ ?_); (rotate_left)
                 ·(intro w'); (go_simp); (with_reducible rfl)
                 rotate_left
                 ·(simp only [Act.put, sTA, sCZ, sCS, i64_w, i32_w]); (rfl)
                 (refine pu_ (i := 6) (N := some 64) (v := ?_) (a' := ?_) #[I,I,O,I,I,O,I,O,O,O,O,O,O,O,O,O] rfl rfl HT_.out (by kernel_rfl) (fun _ _ _ h => h) (Or.inl ⟨by rfl, ?_⟩) ?_ ?_); (rotate_left)
                 ·(intro w'); (go_simp); (with_reducible rfl)
                 rotate_left
                 ·(simp only [Act.put, sTA, sCZ, sCS, i64_w, i32_w]); (rfl)
                 (refine pu_ (i := 7) (N := some 65) (v := ?_) (a' := ?_) #[I,I,O,I,I,O,I,I,O,O,O,O,O,O,O,O] rfl rfl HT_.out (by kernel_rfl) (fun _ _ _ h => h) (Or.inl ⟨by rfl, ?_⟩) ?_ ?_); (rotate_left)
                 ·(intro w'); (go_simp); (with_reducible rfl)
                 rotate_left
                 ·(simp only [Act.put, sTA, sCZ, sCS, i64_w, i32_w]); (rfl)
                 (refine take_ (i := 2) (N := some 60) (v := ?_) (a' := ?_) #[I,I,I,I,I,O,I,I,O,O,O,O,O,O,O,O] rfl rfl (take_ofW HT_.out HW_.out (by kernel_rfl)) (fun _ _ _ h => h) (Or.inl ⟨by rfl, ?_⟩) hHeld ?_ ?_); (rotate_left)
                 ·(rintro w' ⟨s0, s1, s2⟩); (go_simp); (with_reducible rfl)
                 rotate_left
                 ·(simp only [Act.put, sTA, sCZ, sCS, i64_w, i32_w]); (rfl)
                 (refine take_ (i := 5) (N := some 63) (v := ?_) (a' := ?_) #[I,I,I,I,I,I,I,I,O,O,O,O,O,O,O,O] rfl rfl (take_ofW HT_.out HW_.out (by kernel_rfl)) (fun _ _ _ h => h) (Or.inl ⟨by rfl, ?_⟩) hHeld ?_ ?_); (rotate_left)
                 ·(rintro w' ⟨s0, s1, s2⟩); (go_simp); (with_reducible rfl)
                 rotate_left
                 ·(simp only [Act.put, sTA, sCZ, sCS, i64_w, i32_w]); (rfl)
                 (refine take_ (i := 8) (N := some 66) (v := ?_) (a' := ?_) #[I,I,I,I,I,I,I,I,I,O,O,O,O,O,O,O] rfl rfl (take_ofW HT_.out HW_.out (by kernel_rfl)) (fun _ _ _ h => h) (Or.inl ⟨by rfl, ?_⟩) hHeld ?_ ?_); (rotate_left)
                 ·(rintro w' ⟨s0, s1, s2⟩); (go_simp); (with_reducible rfl)
                 rotate_left
                 ·(simp only [Act.put, sTA, sCZ, sCS, i64_w, i32_w]); (rfl)
                 (refine pu_ (i := 9) (N := some 67) (v := ?_) (a' := ?_) #[I,I,I,I,I,I,I,I,I,I,O,O,O,O,O,O] rfl rfl HT_.out (by kernel_rfl) (fun _ _ _ h => h) (Or.inl ⟨by rfl, ?_⟩) ?_ ?_); (rotate_left)
                 ·(intro w'); (go_simp); (with_reducible rfl)
                 rotate_left
                 ·(simp only [Act.put, sTA, sCZ, sCS, i64_w, i32_w]); (rfl)
                 (refine one_ (i := 10) (N := some 68) #[I,I,I,I,I,I,I,I,I,I,I,O,O,O,O,O] rfl rfl (one_of HT_.out (by kernel_rfl)) (by decide) (fun K hK => ?_)); (refine goes_ Tryz.func109 (by kernel_rfl) rfl #[.agg #[.int .i64 (rd t188 0), .int .i64 (rd t188 1), .int .i64 (rd t188 2)]] (by rfl) rfl rfl (by (try simp only [mTA, mC, mN]); first | done | rfl | (simp only [lD, lT]; rfl)) ?_); (with_reducible refine (civil_Number.calls kj12 (rd t188 0) (rd t188 1) (rd t188 2) t199 t200 _ A35.out).mono ?_); (rintro e w46 ⟨rfl, hb⟩); (have HS0_ := (hb.cell (World.block_lt_of_cell? _ _ (hHeld.1))).trans (hHeld.1)); (have HS1_ := (hb.cell (World.block_lt_of_cell? _ _ (hHeld.2.1))).trans (hHeld.2.1)); (have HS2_ := (hb.cell (World.block_lt_of_cell? _ _ (hHeld.2.2))).trans (hHeld.2.2)); (refine ⟨_, rfl, ?_⟩); (have n0_ := aM (Kd.R_below (by (with_reducible repeat (first | apply Kd.R_alloc | apply Kd.R_drewN | apply Kd.R_drew)); exact HO_5.out) hb)); (have n1_ := aM (below_step (by with_reducible repeat (first | exact HB.out | apply lA | apply lN | apply lW)) hb)); clear HO_5; clear HB; (have HO_5 := n0_); (have HB := n1_); clear n0_ n1_; ((try clear hb)); ((try clear hb2)); ((try clear hk)); ((try clear hi)); (refine hK.out _ _ ⟨HS0_, HS1_, HS2_⟩ (fun hHeld => ?_)); clear hK K; (refine norm_ (a' := ?_) ?_ ?_); (rotate_left)
                 ·(show Act.put _ (some 68) _ = _); (simp only [Act.put, sTA, sCZ, sCS, i64_w, i32_w]); (rfl)
                 (refine pu_ (i := 11) (N := some 57) (v := ?_) (a' := ?_) #[I,I,I,I,I,I,I,I,I,I,I,I,O,O,O,O] rfl rfl HT_.out (by kernel_rfl) (fun _ _ _ h => h) (Or.inl ⟨by rfl, ?_⟩) ?_ ?_); (rotate_left)
                 ·(intro w'); (go_simp); (with_reducible rfl)
                 rotate_left
                 ·(simp only [Act.put, sTA, sCZ, sCS, i64_w, i32_w]); (rfl)
                 (refine pu_ (i := 12) (N := some 69) (v := ?_) (a' := ?_) #[I,I,I,I,I,I,I,I,I,I,I,I,I,O,O,O] rfl rfl HT_.out (by kernel_rfl) (fun _ _ _ h => h) (Or.inl ⟨by rfl, ?_⟩) ?_ ?_); (rotate_left)
                 ·(intro w'); (go_simp); (with_reducible rfl)
                 rotate_left
                 ·(simp only [Act.put, sTA, sCZ, sCS, i64_w, i32_w]); (rfl)
                 (refine pu_ (i := 13) (N := some 70) (v := ?_) (a' := ?_) #[I,I,I,I,I,I,I,I,I,I,I,I,I,I,O,O] rfl rfl HT_.out (by kernel_rfl) (fun _ _ _ h => h) (Or.inl ⟨by rfl, ?_⟩) ?_ ?_); (rotate_left)
                 ·(intro w'); (go_simp); (with_reducible rfl)
                 rotate_left
                 ·(simp only [Act.put, sTA, sCZ, sCS, i64_w, i32_w]); (rfl)
                 (refine pu_ (i := 14) (N := some 7) (v := ?_) (a' := ?_) #[I,I,I,I,I,I,I,I,I,I,I,I,I,I,I,O] rfl rfl HT_.out (by kernel_rfl) (fun _ _ _ h => h) (Or.inl ⟨by rfl, ?_⟩) ?_ ?_); (rotate_left)
                 ·(intro w'); (go_simp); (with_reducible rfl)
                 rotate_left
                 ·(simp only [Act.put, sTA, sCZ, sCS, i64_w, i32_w]); (rfl)
                 (refine pu_ (i := 15) (N := some 4) (v := ?_) (a' := ?_) #[I,I,I,I,I,I,I,I,I,I,I,I,I,I,I,I] rfl rfl HT_.out (by kernel_rfl) (fun _ _ _ h => h) (Or.inl ⟨by rfl, ?_⟩) ?_ ?_); (rotate_left)
                 ·(intro w'); (go_simp); (with_reducible rfl)
                 rotate_left
                 ·(simp only [Act.put, sTA, sCZ, sCS, i64_w, i32_w]); (rfl)
                 (refine done_ (done_of HT_.out (by kernel_rfl)) ?_); (try go_wp2); (go_ret3); (exact ⟨by first | rfl | (simp [errW_none, errW_some] <;> rfl) | (simp [*, errW_none, errW_some] <;> rfl), by with_reducible repeat (first | exact HB.out | apply lA | apply lN | apply lW)⟩)
               ·(rw [if_neg c34] at H); (exact absurd H (by simp))
              ·(rw [if_neg c33] at H); (exact absurd H (by simp))
             ·(rw [if_neg c32] at H); (exact absurd H (by simp))
        ·(rw [if_neg c11] at H); (exact absurd H (by simp))
       ·(rw [if_neg c10] at H); (exact absurd H (by simp))
      ·(rw [if_neg c9] at H); (exact absurd H (by simp))
     ·(rw [if_neg c8] at H); (exact absurd H (by simp))
end Go.Proofs.YtjanombhdnoemaaGreatDoor.PRec
