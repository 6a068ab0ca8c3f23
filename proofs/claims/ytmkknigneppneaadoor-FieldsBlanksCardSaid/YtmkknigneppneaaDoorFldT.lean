/- The walk of fields.reader's method ends, by contract: its region draws its order. No condition. -/
import Derived.Test.YtmkknigneppneaaDoorFldR
namespace Go.Proofs.YtmkknigneppneaaDoor.FldR
open Go.RowKit Go.Proofs.YtmkknigneppneaaDoorW.PrintWords Go.Proofs.YtmkknigneppneaaDoorW.PrintLast Go.Proofs.YtmkknigneppneaaDoorW.PrintMore
attribute [local go_sem] max2_int min2_int max_two min_two max_three min_three max_four min_four   -- for this text's walks alone
set_option linter.unusedVariables false
set_option linter.unusedSimpArgs false
def ends_.T1 : Bool × List (List Nat × List Nat) := (true, [([], []), ([], []), ([1], [1]), ([2], [2]), ([3], [3]), ([], []), ([5], [5]), ([6], [6]), ([7], [7]), ([8], [8]), ([9], [9]), ([4, 10], [4, 10]), ([0, 0, 1, 2, 3, 4, 5, 6, 7, 8, 9, 10, 11], [0]), ([12, 0, 1, 2, 3, 4, 5, 6, 7, 8, 9, 10, 11], [12]), ([13, 11, 11, 0, 1, 2, 3, 4, 5, 6, 7, 8, 9, 10, 11], [11, 13])])
def ends_.B1 : List Nat := [0, 0, 2, 6, 14, 0, 32, 96, 224, 480, 992, 2046, 4095, 8191, 16383]
theorem ends_.tab1 : rtab .any (opsOf Tryd.f16 1) = ends_.T1 := by kernel_rfl
theorem ends_.bits1 : waitsOk ends_.T1.2 ends_.B1 = true := by kernel_rfl
set_option maxHeartbeats 8000000 in
set_option maxRecDepth 100000 in
theorem ends_shut (B g : Nat) (w0 w : World) (vo vf : Value) (out : List ByteArray) (fld : List Int) (qu : Bool) (H : Rdr B w g vo vf out fld false qu) (HB : Below B w0 w) :
    Calls Tryd.prog 16 #[.pointer (some ⟨g, 0, none⟩)] w fun e w' => e = .returned (.tuple #[]) ∧ Rdr B w' g vo (.slice none 0 0) out [] false qu ∧ Below B w0 w' := by
  have A1 := Aside0.mk H
  have A2 := Aside0.mk HB
  have c2 : w.cell? ⟨g, 2, none⟩ = some (.bool false) := (blk_cell H.b 2).trans rfl
  have c1 : w.cell? ⟨g, 1, none⟩ = some vf := (blk_cell H.b 1).trans rfl
  have f1 := blk_frozen H.b 1
  have f2 := blk_frozen H.b 2
  clear H HB
  go_enter Tryd.func16, Tryd.ntmps16
  go_wp2
  go_end0
  exact ⟨rfl, (A1.out.nil1).set2 false, (A2.out.setCell A1.out.g _).setCell A1.out.g _⟩
set_option maxHeartbeats 8000000 in
set_option maxRecDepth 100000 in
theorem ends_open (B g : Nat) (w0 w : World) (vo vf : Value) (out : List ByteArray) (fld : List Int) (qu : Bool) (hl : out.length < 1000000) (H : Rdr B w g vo vf out fld true qu) (HB : Below B w0 w) (hBw : B ≤ w.heap.size) :
    Calls Tryd.prog 16 #[.pointer (some ⟨g, 0, none⟩)] w fun e w' => e = .returned (.tuple #[]) ∧ (∃ v1, Rdr B w' g v1 (.slice none 0 0) (out ++ [strOfNums fld]) [] false qu) ∧ Below B w0 w' := by
  obtain ⟨Af, cf, ef⟩ := Kd.R_slice H.f
  subst ef
  have A1 := Aside0.mk H
  have A2 := Aside0.mk HB
  have A3 := Aside0.mk hl
  have A4 := Aside0.mk hBw
  have c2 : w.cell? ⟨g, 2, none⟩ = some (.bool true) := (blk_cell H.b 2).trans rfl
  have c0 : w.drew.cell? ⟨g, 0, none⟩ = some vo := (blk_cell H.b 0).trans rfl
  have c1 : w.drew.cell? ⟨g, 1, none⟩ = some (.slice Af fld.length cf) := (blk_cell H.b 1).trans rfl
  clear H HB hl hBw
  go_enter Tryd.func16, Tryd.ntmps16
  go_wp2
  replace A1 := Aside0.mk (A1.out.drew)
  replace A2 := Aside0.mk (below_drew A2.out)
  replace A4 : Aside0 (B ≤ w.drew.heap.size) := A4
  refine start_ (n := 15) (S := fun w' => w'.cell? ⟨g, 0, none⟩ = some vo ∧ w'.cell? ⟨g, 1, none⟩ = some (.slice Af fld.length cf)) (ds := [14]) #[false, false, false, false, false, false, false, false, false, false, false, false, false, false, false] (by kernel_rfl) rfl rfl ⟨c0, c1⟩ (fun hHeld => ?_); refine with_tabW ends_.tab1 ends_.bits1 (fun HT_ HW_ => ?_)
  generalize w.drew = wd at A1 A2 A4 hHeld ⊢
  refine pure_ (i := 0) (N := some 6) (v := ?_) (a' := ?_) #[true, false, false, false, false, false, false, false, false, false, false, false, false, false, false] rfl rfl (any_of HT_.out (by kernel_rfl)) (fun _ _ _ h => h) (Or.inl ⟨by rfl, ?_⟩) ?_ ?_
  rotate_left
  · intro w'
    go_simp
    with_reducible rfl
  rotate_left
  · simp only [Act.put, List.setIfInBounds_toArray, List.set_cons_zero, List.set_cons_succ, i64_w, i32_w]
    rfl
  refine pure_ (i := 1) (N := some 7) (v := ?_) (a' := ?_) #[true, true, false, false, false, false, false, false, false, false, false, false, false, false, false] rfl rfl (any_of HT_.out (by kernel_rfl)) (fun _ _ _ h => h) (Or.inl ⟨by rfl, ?_⟩) ?_ ?_
  rotate_left
  · intro w'
    go_simp
    with_reducible rfl
  rotate_left
  · simp only [Act.put, List.setIfInBounds_toArray, List.set_cons_zero, List.set_cons_succ, i64_w, i32_w]
    rfl
  refine pure_ (i := 2) (N := some 8) (v := ?_) (a' := ?_) #[true, true, true, false, false, false, false, false, false, false, false, false, false, false, false] rfl rfl (any_of HT_.out (by kernel_rfl)) (fun _ _ _ h => h) (Or.inl ⟨by rfl, ?_⟩) ?_ ?_
  rotate_left
  · intro w'
    go_simp
    with_reducible rfl
  rotate_left
  · simp only [Act.put, List.setIfInBounds_toArray, List.set_cons_zero, List.set_cons_succ, i64_w, i32_w]
    rfl
  refine pure_ (i := 3) (N := some 9) (v := ?_) (a' := ?_) #[true, true, true, true, false, false, false, false, false, false, false, false, false, false, false] rfl rfl (any_of HT_.out (by kernel_rfl)) (fun _ _ _ h => h) (Or.inl ⟨by rfl, ?_⟩) ?_ ?_
  rotate_left
  · intro w'
    go_simp
    with_reducible rfl
  rotate_left
  · simp only [Act.put, List.setIfInBounds_toArray, List.set_cons_zero, List.set_cons_succ, i64_w, i32_w]
    rfl
  refine pure_ (i := 5) (N := some 11) (v := ?_) (a' := ?_) #[true, true, true, true, false, true, false, false, false, false, false, false, false, false, false] rfl rfl (any_of HT_.out (by kernel_rfl)) (fun _ _ _ h => h) (Or.inl ⟨by rfl, ?_⟩) ?_ ?_
  rotate_left
  · intro w'
    go_simp
    with_reducible rfl
  rotate_left
  · simp only [Act.put, List.setIfInBounds_toArray, List.set_cons_zero, List.set_cons_succ, i64_w, i32_w]
    rfl
  refine pure_ (i := 6) (N := some 12) (v := ?_) (a' := ?_) #[true, true, true, true, false, true, true, false, false, false, false, false, false, false, false] rfl rfl (any_of HT_.out (by kernel_rfl)) (fun _ _ _ h => h) (Or.inl ⟨by rfl, ?_⟩) ?_ ?_
  rotate_left
  · intro w'
    go_simp
    with_reducible rfl
  rotate_left
  · simp only [Act.put, List.setIfInBounds_toArray, List.set_cons_zero, List.set_cons_succ, i64_w, i32_w]
    rfl
  refine pure_ (i := 7) (N := some 13) (v := ?_) (a' := ?_) #[true, true, true, true, false, true, true, true, false, false, false, false, false, false, false] rfl rfl (any_of HT_.out (by kernel_rfl)) (fun _ _ _ h => h) (Or.inl ⟨by rfl, ?_⟩) ?_ ?_
  rotate_left
  · intro w'
    go_simp
    with_reducible rfl
  rotate_left
  · simp only [Act.put, List.setIfInBounds_toArray, List.set_cons_zero, List.set_cons_succ, i64_w, i32_w]
    rfl
  refine take_ (i := 4) (N := some 10) (v := ?_) (a' := ?_) #[true, true, true, true, true, true, true, true, false, false, false, false, false, false, false] rfl rfl (take_ofW HT_.out HW_.out (by kernel_rfl)) (fun _ _ _ h => h) (Or.inl ⟨by rfl, ?_⟩) hHeld ?_ ?_
  rotate_left
  · rintro w' ⟨s0, s1⟩
    go_simp
    with_reducible rfl
  rotate_left
  · simp only [Act.put, List.setIfInBounds_toArray, List.set_cons_zero, List.set_cons_succ, i64_w, i32_w]
    rfl
  refine take_ (i := 8) (N := some 14) (v := ?_) (a' := ?_) #[true, true, true, true, true, true, true, true, true, false, false, false, false, false, false] rfl rfl (take_ofW HT_.out HW_.out (by kernel_rfl)) (fun _ _ _ h => h) (Or.inl ⟨by rfl, ?_⟩) hHeld ?_ ?_
  rotate_left
  · rintro w' ⟨s0, s1⟩
    go_simp
    with_reducible rfl
  rotate_left
  · simp only [Act.put, List.setIfInBounds_toArray, List.set_cons_zero, List.set_cons_succ, i64_w, i32_w]
    rfl
  refine one_ (i := 9) (N := some 15) #[true, true, true, true, true, true, true, true, true, true, false, false, false, false, false] rfl rfl (one_of HT_.out (by kernel_rfl)) (by decide) (fun K hK => ?_)
  refine value_ (w1 := wd) (v := .string (strOfNums fld)) (by rfl) rfl ?_ ?_
  rotate_left 2
  · have hr := Kd.C_string (P := Tryd.prog) (c := cf) Tryd.underlying38 Tryd.underlying5 Tryd.underlying9 (Kd.R_reads' A1.out.f).2.2
    go_simp
    try exact hr
  refine hK.out _ _ hHeld (fun hHeld => ?_)
  clear hK K
  refine norm_ (a' := ?_) ?_ ?_
  rotate_left
  · show Act.put _ (some 15) _ = _
    simp only [Act.put, List.setIfInBounds_toArray, List.set_cons_zero, List.set_cons_succ, i64_w, i32_w]
    rfl
  refine one_ (i := 10) (N := some 16) #[true, true, true, true, true, true, true, true, true, true, true, false, false, false, false] rfl rfl (one_of HT_.out (by kernel_rfl)) (by decide) (fun K hK => ?_)
  refine value_ (w1 := ?_) (v := ?_) (by rfl) rfl ?_ ?_
  rotate_left 2
  · go_simp
    constructor
    · rfl
    · rfl
  refine hK.out _ _ ⟨(World.cell?_alloc_past _ _ _ A1.out.lt).trans hHeld.1, (World.cell?_alloc_past _ _ _ A1.out.lt).trans hHeld.2⟩ (fun hHeld => ?_)
  clear hK K
  refine norm_ (a' := ?_) ?_ ?_
  rotate_left
  · show Act.put _ (some 16) _ = _
    simp only [Act.put, List.setIfInBounds_toArray, List.set_cons_zero, List.set_cons_succ, i64_w, i32_w]
    rfl
  refine one_ (i := 11) (N := some 17) #[true, true, true, true, true, true, true, true, true, true, true, true, false, false, false] rfl rfl (one_of HT_.out (by kernel_rfl)) (by decide) (fun K hK => ?_)
  refine Kd.R_append_step Kd.string (w0 := w0) B (by rfl) (.tmp 10) (.tmp 16) 22 9 (.string ByteArray.empty) 16 rfl Tryd.underlying22 r_info9 rfl (by decide) (by omega) vo out (strOfNums fld) [.string (strOfNums fld)] (fun _ => True) (fun _ => False) rfl rfl rfl (fun _ hk => hk.elim) (fun _ _ => trivial) A1.out.o A2.out A4.out (by have := A3.out; omega) ?_
  intro v1 w1 ho hb hg hat
  obtain ⟨Ao, co, eo⟩ := Kd.R_slice ho
  rw [List.length_append, List.length_singleton] at eo
  subst eo
  have B0 := Aside0.mk (blk_grown A1.out.b hg A1.out.neO)
  have B1 := Aside0.mk (A1.out.ogrow hg ho)
  have B2 := Aside0.mk hb
  clear ho hb hg hat
  refine hK.out _ _ ⟨(blk_cell B0.out 0).trans rfl, (blk_cell B0.out 1).trans rfl⟩ (fun hHeld => ?_)
  clear hK K
  refine norm_ (a' := ?_) ?_ ?_
  rotate_left
  · show Act.put _ (some 17) _ = _
    simp only [Act.put, List.setIfInBounds_toArray, List.set_cons_zero, List.set_cons_succ, i64_w, i32_w]
    rfl
  refine pure_ (i := 12) (N := some 18) (v := ?_) (a' := ?_) #[true, true, true, true, true, true, true, true, true, true, true, true, true, false, false] rfl rfl (any_of HT_.out (by kernel_rfl)) (fun _ _ _ h => h) (Or.inl ⟨by rfl, ?_⟩) ?_ ?_
  rotate_left
  · intro w'
    go_simp
    with_reducible rfl
  rotate_left
  · simp only [Act.put, List.setIfInBounds_toArray, List.set_cons_zero, List.set_cons_succ, i64_w, i32_w]
    rfl
  refine pure_ (i := 13) (N := some 19) (v := ?_) (a' := ?_) #[true, true, true, true, true, true, true, true, true, true, true, true, true, true, false] rfl rfl (any_of HT_.out (by kernel_rfl)) (fun _ _ _ h => h) (Or.inl ⟨by rfl, ?_⟩) ?_ ?_
  rotate_left
  · intro w'
    go_simp
    with_reducible rfl
  rotate_left
  · simp only [Act.put, List.setIfInBounds_toArray, List.set_cons_zero, List.set_cons_succ, i64_w, i32_w]
    rfl
  refine last_ (i := 14) (N := none) #[true, true, true, true, true, true, true, true, true, true, true, true, true, true, true] rfl rfl (one_of HT_.out (by kernel_rfl)) (by decide) (fun K hK => ?_)
  have f0 := blk_frozen B0.out 0
  have c0' : w1.cell? ⟨g, 0, none⟩ = some vo := (blk_cell B0.out 0).trans rfl
  refine skip_ (w1 := ?_) (by rfl) rfl ?_ ?_
  rotate_left
  · go_simp
    rfl
  refine hK.out _ _ ?_
  clear hK K
  refine done_ (done_of HT_.out (by kernel_rfl)) ?_
  have c2' := (blk_cell B1.out.b 2).trans rfl
  have c1' := (blk_cell B1.out.b 1).trans rfl
  have f1 := blk_frozen B1.out.b 1
  have f2 := blk_frozen B1.out.b 2
  go_wp2
  go_end0
  exact ⟨rfl, ⟨_, (B1.out.nil1).set2 false⟩, ((B2.out.setCell A1.out.g _).setCell A1.out.g _).setCell A1.out.g _⟩
end Go.Proofs.YtmkknigneppneaaDoor.FldR
