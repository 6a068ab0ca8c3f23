-- Printed by a program of this session's over the kit's printer; library functions by contracts off the shelf.
import Derived.Test.YtdgeokpbedllaaaDoorGP
import Derived.Test.YtdgeokpbedllaaaDoorPTrex0
import Derived.Test.YtdgeokpbedllaaaDoorPTrex9
import Derived.Test.YtdgeokpbedllaaaDoorPTrex10
import Derived.Test.YtdgeokpbedllaaaDoorPTrex11
namespace Go.Proofs.YtdgeokpbedllaaaDoor.PTre
open Go.RowKit Go.Proofs.YtdgeokpbedllaaaDoorW.PrintWords Go.Proofs.YtdgeokpbedllaaaDoorW.PrintLast Go.Proofs.YtdgeokpbedllaaaDoorW.PrintMore Go.Proofs.YtdgeokpbedllaaaDoor.Base
attribute [local go_sem] max2_int min2_int max_two min_two max_three min_three max_four min_four   -- for this text's walks alone
set_option linter.unusedVariables false
set_option linter.unusedSimpArgs false

/-! ### tree_Text: function 10 -/
theorem tw_info9 : (Tryd.prog.info? 9).map (fun i => (i.zero, i.size, i.bytes)) = some (some (.string ByteArray.empty), 1, 16) := by kernel_rfl
/-- A writer at block g: what it has written. -/
structure Wr (B : Nat) (w : World) (g : Nat) (vo : Value) (out : List ByteArray) (n e : Int) : Prop where
  b : w.heap[g]? = some (.cells #[vo, .int .i64 n, .int .i64 e] 51 (0, 0))
  g : B ≤ g
  o : Kd.R Kd.string 9 w B (fun _ => True) vo out
section
variable {B g : Nat} {w w1 : World} {vo v1 : Value} {out : List ByteArray} {n e : Int}
theorem Wr.lt (h : Wr B w g vo out n e) : g < w.heap.size := blk_lt h.b
theorem Wr.neO (h : Wr B w g vo out n e) : some g ≠ vo.ownBlock := Kd.R_ne h.o h.b (by decide)
theorem Wr.set1 (h : Wr B w g vo out n e) (m : Int) : Wr B (w.setCell ⟨g, 1, none⟩ (.int .i64 m)) g vo out m e := ⟨by simpa using blk_set h.b 1 (.int .i64 m), h.g, Kd.R_set h.o h.b (by decide) _ _⟩
theorem Wr.set2 (h : Wr B w g vo out n e) (m : Int) : Wr B (w.setCell ⟨g, 2, none⟩ (.int .i64 m)) g vo out n m := ⟨by simpa using blk_set h.b 2 (.int .i64 m), h.g, Kd.R_set h.o h.b (by decide) _ _⟩
theorem Wr.grow (h : Wr B w g vo out n e) (hg : w.grownBy w1 vo.ownBlock) {out' : List ByteArray} (ho : Kd.R Kd.string 9 w1 B (fun _ => True) v1 out') : Wr B (w1.setCell ⟨g, 0, none⟩ v1) g v1 out' n e := by
  (have hb := blk_grown h.b hg h.neO); (exact ⟨by simpa using blk_set hb 0 v1, h.g, Kd.R_set ho hb (by decide) _ _⟩)
theorem Wr.drew (h : Wr B w g vo out n e) : Wr B w.drew g vo out n e := ⟨h.b, h.g, Kd.R_drew h.o⟩
theorem Wr.below (h : Wr B w g vo out n e) (hb : Below w.heap.size w w1) : Wr B w1 g vo out n e := ⟨blk_below h.b hb, h.g, Kd.R_below h.o hb⟩
end
def wline_.T5 : Bool × List (List Nat × List Nat) := (true, [([], []), ([], []), ([], []), ([2], [2]), ([3], [3]), ([4], [4]), ([], []), ([6], [6]), ([5, 7], [5, 7]), ([], []), ([9], [9]), ([10], [10]), ([11], [11]), ([], []), ([13], [13]), ([12, 14], [12, 14]), ([0, 0, 2, 3, 4, 5, 6, 7, 8, 12], [0]), ([16, 0, 2, 3, 4, 5, 6, 7, 8, 12], [16]), ([17, 8, 8, 0, 2, 3, 4, 5, 6, 7, 8, 12], [8, 17]), ([1, 0, 1, 2, 3, 4, 5, 6, 7, 8, 9, 10, 11, 12, 13, 14, 15, 16, 17, 18], [1]), ([19, 0, 1, 2, 3, 4, 5, 6, 7, 8, 9, 10, 11, 12, 13, 14, 15, 16, 17, 18], [19]), ([20, 15, 18, 0, 1, 2, 3, 4, 5, 6, 7, 8, 9, 10, 11, 12, 13, 14, 15, 16, 17, 18], [15, 20])])
def wline_.B5 : List Nat := [0, 0, 0, 4, 12, 28, 0, 64, 252, 0, 512, 1536, 3584, 0, 8192, 32256, 8189, 73725, 204797, 524287, 1048575, 2097151]
theorem wline_.tab5 : rtab .any (opsOf Tryd.f23 5) = wline_.T5 := by kernel_rfl
theorem wline_.bits5 : waitsOk wline_.T5.2 wline_.B5 = true := by kernel_rfl
set_option maxHeartbeats 8000000 in
set_option maxRecDepth 100000 in
theorem wline_calls (k : Nat) (B g : Nat) (w0 w : World) (vo : Value) (out : List ByteArray) (n e : Int) (nm : ByteArray) (Ax : Option Addr) (cx : Nat) (px : List S70) (v s x : ByteArray) (e1 e2 : Int) (hx : Kd.C k70 w Ax px.length px) (hcx : px.length ≤ cx) (hT : line_Text.f k nm px v = some (s, e1)) (hF : fold_Line.f k s = some (x, e2)) (hl : out.length < 1000000000)
    (H : Wr B w g vo out n e) (HB : Below B w0 w) (hBw : B ≤ w.heap.size) :
    Calls Tryd.prog 23 #[.pointer (some ⟨g, 0, none⟩), .agg #[.string nm, .slice Ax px.length cx, .string v]] w fun en w' => en = .returned (.tuple #[]) ∧ (∃ v1, Wr B w' g v1 (out ++ [x]) (wrap64 (n + (x.size : Int))) (if e2 = 0 then e else e2)) ∧ Below B w0 w' ∧ Kept w w' (fun j => j = g ∨ vo.ownBlock = some j) := by
  (have A1 := aM H); (have A2 := aM HB); (have A3 := aM hl); (have A4 := aM hBw); (have A5 := aM hx); (have A6 := aM hcx); (have A7 := aM hT); (have A8 := aM hF); (have hu44 := Tryd.underlying44); clear H HB hl hBw hx hcx hT hF; (by_cases h2 : e2 = 0)
  · rw [if_pos h2]
    (have c2 : (e2 == 0) = true := beq_iff_eq.mpr h2); (have c2' : (e2 != 0) = false := bne_eq_false_iff_eq.mpr h2); clear h2; (go_enter Tryd.func23, Tryd.ntmps23); (go_wp2_with (first | ((with_reducible refine gate_dst (N := 3) rfl ?_); refine box_event ?hg (N := 3) ?hd (cs := #[.string nm, .slice Ax px.length cx, .string v]) (t := 44) ?hr ?_; (case hd => rfl); (case hg => rfl); (case hr => first | (go_simp; done) | (go_simp; rfl)); intro gb hg w3 hbox hb; have B1 := aM (A1.out.below hb); have B2 := aM (below_then A2.out A4.out hb); have B4 : Aside0 (B ≤ w3.heap.size) := ⟨Nat.le_trans A4.out hb.size⟩; have B5 := aM (Kd.C_below A5.out hb); have B6 := aM (Kept.of_below hb (fun j => j = g ∨ vo.ownBlock = some j)); have z0 : w3.cell? ⟨gb, 0, none⟩ = some (.string nm) := (qC hbox 0).trans rfl; have z1 : w3.cell? ⟨gb, 1, none⟩ = some (.slice Ax px.length cx) := (qC hbox 1).trans rfl; have z2 : w3.cell? ⟨gb, 2, none⟩ = some (.string v) := (qC hbox 2).trans rfl; clear hb hbox hg) | (go_at_call 40; (with_reducible refine (line_Text.calls k nm Ax cx px v s e1 _ B5.out A6.out A7.out).mono ?_); rintro en w4 ⟨rfl, hb⟩; have C1 := aM (B1.out.below hb); have C2 := aM (below_then B2.out B4.out hb); have C4 : Aside0 (B ≤ w4.heap.size) := ⟨Nat.le_trans B4.out hb.size⟩; have C6 := aM (B6.out.below hb); clear hb z0 z1 z2) | (go_at_call 41; (with_reducible refine (fold_Line.calls k s x e2 _ A8.out).mono ?_); rintro en w5 ⟨rfl, hb⟩; have D1 := aM (C1.out.below hb); have D2 := aM (below_then C2.out C4.out hb); have D4 : Aside0 (B ≤ w5.heap.size) := ⟨Nat.le_trans C4.out hb.size⟩; have D6 := aM (C6.out.below hb); have f2 := qF D1.out.b 2; have c9 : w5.cell? ⟨g, 2, none⟩ = some (.int .i64 e) := (qC D1.out.b 2).trans rfl; clear hb))); (have E1 := D1); (have E2 := D2); (have E4 := D4); (have E6 := D6); clear D1 D2 D4 D6 f2 c9; (generalize w5 = W at E1 E2 E4 E6 ⊢); (replace E1 := aM E1.out.drew); (replace E2 := aM (below_drew E2.out)); (replace E4 : Aside0 (B ≤ W.drew.heap.size) := E4); (replace E6 := aM E6.out.drew); (have c0 : W.drew.cell? ⟨g, 0, none⟩ = some vo := (qC E1.out.b 0).trans rfl); (have c1 : W.drew.cell? ⟨g, 1, none⟩ = some (.int .i64 n) := (qC E1.out.b 1).trans rfl); (refine start_ (n := 22) (S := fun w' => w'.cell? ⟨g, 0, none⟩ = some vo ∧ w'.cell? ⟨g, 1, none⟩ = some (.int .i64 n)) (ds := [18, 21]) #[O,O,O,O,O,O,O,O,O,O,O,O,O,O,O,O,O,O,O,O,O,O] (by kernel_rfl) rfl rfl ⟨c0, c1⟩ (fun hHeld => ?_); refine with_tabW wline_.tab5 wline_.bits5 (fun HT_ HW_ => ?_)); (generalize W.drew = wd at E1 E2 E4 E6 hHeld ⊢); (refine pu_ (i := 0) (N := some 24) (v := ?_) (a' := ?_) #[I,O,O,O,O,O,O,O,O,O,O,O,O,O,O,O,O,O,O,O,O,O] rfl rfl HT_.out (by kernel_rfl) (fun _ _ _ h => h) (Or.inl ⟨by rfl, ?_⟩) ?_ ?_); (rotate_left)
    · intro w'
      (go_simp); (with_reducible rfl)
    rotate_left
    · simp only [Act.put, sTA, sCZ, sCS, i64_w, i32_w]
      rfl
    (refine pu_ (i := 1) (N := some 25) (v := ?_) (a' := ?_) #[I,I,O,O,O,O,O,O,O,O,O,O,O,O,O,O,O,O,O,O,O,O] rfl rfl HT_.out (by kernel_rfl) (fun _ _ _ h => h) (Or.inl ⟨by rfl, ?_⟩) ?_ ?_); (rotate_left)
    · intro w'
      (go_simp); (with_reducible rfl)
    rotate_left
    · simp only [Act.put, sTA, sCZ, sCS, i64_w, i32_w]
      rfl
    (refine pu_ (i := 2) (N := some 26) (v := ?_) (a' := ?_) #[I,I,I,O,O,O,O,O,O,O,O,O,O,O,O,O,O,O,O,O,O,O] rfl rfl HT_.out (by kernel_rfl) (fun _ _ _ h => h) (Or.inl ⟨by rfl, ?_⟩) ?_ ?_); (rotate_left)
    · intro w'
      (go_simp); (with_reducible rfl)
    rotate_left
    · simp only [Act.put, sTA, sCZ, sCS, i64_w, i32_w]
      rfl
    (refine pu_ (i := 3) (N := some 27) (v := ?_) (a' := ?_) #[I,I,I,I,O,O,O,O,O,O,O,O,O,O,O,O,O,O,O,O,O,O] rfl rfl HT_.out (by kernel_rfl) (fun _ _ _ h => h) (Or.inl ⟨by rfl, ?_⟩) ?_ ?_); (rotate_left)
    · intro w'
      (go_simp); (with_reducible rfl)
    rotate_left
    · simp only [Act.put, sTA, sCZ, sCS, i64_w, i32_w]
      rfl
    (refine pu_ (i := 4) (N := some 28) (v := ?_) (a' := ?_) #[I,I,I,I,I,O,O,O,O,O,O,O,O,O,O,O,O,O,O,O,O,O] rfl rfl HT_.out (by kernel_rfl) (fun _ _ _ h => h) (Or.inl ⟨by rfl, ?_⟩) ?_ ?_); (rotate_left)
    · intro w'
      (go_simp); (with_reducible rfl)
    rotate_left
    · simp only [Act.put, sTA, sCZ, sCS, i64_w, i32_w]
      rfl
    (refine pu_ (i := 6) (N := some 30) (v := ?_) (a' := ?_) #[I,I,I,I,I,O,I,O,O,O,O,O,O,O,O,O,O,O,O,O,O,O] rfl rfl HT_.out (by kernel_rfl) (fun _ _ _ h => h) (Or.inl ⟨by rfl, ?_⟩) ?_ ?_); (rotate_left)
    · intro w'
      (go_simp); (with_reducible rfl)
    rotate_left
    · simp only [Act.put, sTA, sCZ, sCS, i64_w, i32_w]
      rfl
    (refine pu_ (i := 9) (N := some 33) (v := ?_) (a' := ?_) #[I,I,I,I,I,O,I,O,O,I,O,O,O,O,O,O,O,O,O,O,O,O] rfl rfl HT_.out (by kernel_rfl) (fun _ _ _ h => h) (Or.inl ⟨by rfl, ?_⟩) ?_ ?_); (rotate_left)
    · intro w'
      (go_simp); (with_reducible rfl)
    rotate_left
    · simp only [Act.put, sTA, sCZ, sCS, i64_w, i32_w]
      rfl
    (refine pu_ (i := 10) (N := some 34) (v := ?_) (a' := ?_) #[I,I,I,I,I,O,I,O,O,I,I,O,O,O,O,O,O,O,O,O,O,O] rfl rfl HT_.out (by kernel_rfl) (fun _ _ _ h => h) (Or.inl ⟨by rfl, ?_⟩) ?_ ?_); (rotate_left)
    · intro w'
      (go_simp); (with_reducible rfl)
    rotate_left
    · simp only [Act.put, sTA, sCZ, sCS, i64_w, i32_w]
      rfl
    (refine pu_ (i := 11) (N := some 35) (v := ?_) (a' := ?_) #[I,I,I,I,I,O,I,O,O,I,I,I,O,O,O,O,O,O,O,O,O,O] rfl rfl HT_.out (by kernel_rfl) (fun _ _ _ h => h) (Or.inl ⟨by rfl, ?_⟩) ?_ ?_); (rotate_left)
    · intro w'
      (go_simp); (with_reducible rfl)
    rotate_left
    · simp only [Act.put, sTA, sCZ, sCS, i64_w, i32_w]
      rfl
    (refine pu_ (i := 13) (N := some 37) (v := ?_) (a' := ?_) #[I,I,I,I,I,O,I,O,O,I,I,I,O,I,O,O,O,O,O,O,O,O] rfl rfl HT_.out (by kernel_rfl) (fun _ _ _ h => h) (Or.inl ⟨by rfl, ?_⟩) ?_ ?_); (rotate_left)
    · intro w'
      (go_simp); (with_reducible rfl)
    rotate_left
    · simp only [Act.put, sTA, sCZ, sCS, i64_w, i32_w]
      rfl
    (refine pu_ (i := 14) (N := some 38) (v := ?_) (a' := ?_) #[I,I,I,I,I,O,I,O,O,I,I,I,O,I,I,O,O,O,O,O,O,O] rfl rfl HT_.out (by kernel_rfl) (fun _ _ _ h => h) (Or.inl ⟨by rfl, ?_⟩) ?_ ?_); (rotate_left)
    · intro w'
      (go_simp); (with_reducible rfl)
    rotate_left
    · simp only [Act.put, sTA, sCZ, sCS, i64_w, i32_w]
      rfl
    (refine take_ (i := 5) (N := some 29) (v := ?_) (a' := ?_) #[I,I,I,I,I,I,I,O,O,I,I,I,O,I,I,O,O,O,O,O,O,O] rfl rfl (take_ofW HT_.out HW_.out (by kernel_rfl)) (fun _ _ _ h => h) (Or.inl ⟨by rfl, ?_⟩) hHeld ?_ ?_); (rotate_left)
    · rintro w' ⟨s0, s1⟩
      (go_simp); (with_reducible rfl)
    rotate_left
    · simp only [Act.put, sTA, sCZ, sCS, i64_w, i32_w]
      rfl
    (refine take_ (i := 12) (N := some 36) (v := ?_) (a' := ?_) #[I,I,I,I,I,I,I,O,O,I,I,I,I,I,I,O,O,O,O,O,O,O] rfl rfl (take_ofW HT_.out HW_.out (by kernel_rfl)) (fun _ _ _ h => h) (Or.inl ⟨by rfl, ?_⟩) hHeld ?_ ?_); (rotate_left)
    · rintro w' ⟨s0, s1⟩
      (go_simp); (with_reducible rfl)
    rotate_left
    · simp only [Act.put, sTA, sCZ, sCS, i64_w, i32_w]
      rfl
    (refine pu_ (i := 15) (N := some 39) (v := ?_) (a' := ?_) #[I,I,I,I,I,I,I,O,O,I,I,I,I,I,I,I,O,O,O,O,O,O] rfl rfl HT_.out (by kernel_rfl) (fun _ _ _ h => h) (Or.inl ⟨by rfl, ?_⟩) ?_ ?_); (rotate_left)
    · intro w'
      (go_simp); (with_reducible rfl)
    rotate_left
    · simp only [Act.put, sTA, sCZ, sCS, i64_w, i32_w]
      rfl
    (refine one_ (i := 7) (N := some 31) #[I,I,I,I,I,I,I,I,O,I,I,I,I,I,I,I,O,O,O,O,O,O] rfl rfl (one_of HT_.out (by kernel_rfl)) (by decide) (fun K hK => ?_)); (refine value_ (w1 := ?_) (v := ?_) (by rfl) rfl ?_ ?_); (rotate_left 2)
    · go_simp
      constructor
      · rfl
      · rfl
    (refine hK.out _ _ ⟨(World.cell?_alloc_past _ _ _ E1.out.lt).trans hHeld.1, (World.cell?_alloc_past _ _ _ E1.out.lt).trans hHeld.2⟩ (fun hHeld => ?_)); clear hK K; (refine norm_ (a' := ?_) ?_ ?_); (rotate_left)
    · show Act.put _ (some 31) _ = _
      (simp only [Act.put, sTA, sCZ, sCS, i64_w, i32_w]); (rfl)
    (refine one_ (i := 8) (N := some 32) #[I,I,I,I,I,I,I,I,I,I,I,I,I,I,I,I,O,O,O,O,O,O] rfl rfl (one_of HT_.out (by kernel_rfl)) (by decide) (fun K hK => ?_)); (refine Kd.R_append_step Kd.string (w0 := w0) B (by rfl) (.tmp 29) (.tmp 31) 49 9 (.string ByteArray.empty) 16 rfl Tryd.underlying49 tw_info9 rfl (by decide) (by omega) vo out x [.string x] (fun _ => True) (fun _ => False) rfl rfl rfl (fun _ hk => hk.elim) (fun _ _ => trivial) E1.out.o E2.out E4.out (by have := A3.out; omega) ?_); (intro v1 w1 ho hb hg hat); (obtain ⟨Ao, co, eo⟩ := Kd.R_slice ho); (rw [List.length_append, List.length_singleton] at eo); subst eo; (have F0 := aM (blk_grown E1.out.b hg E1.out.neO)); (have F1 := aM (E1.out.grow hg ho)); (have F2 := aM hb); (have F6 := aM (Kept.of_grown hg E6.out (fun j hj => Or.inl (Or.inr hj)))); clear ho hb hg hat; (refine hK.out _ _ ⟨(qC F0.out 0).trans rfl, (qC F0.out 1).trans rfl⟩ (fun hHeld => ?_)); clear hK K; (refine norm_ (a' := ?_) ?_ ?_); (rotate_left)
    · show Act.put _ (some 32) _ = _
      (simp only [Act.put, sTA, sCZ, sCS, i64_w, i32_w]); (rfl)
    (refine pu_ (i := 16) (N := some 40) (v := ?_) (a' := ?_) #[I,I,I,I,I,I,I,I,I,I,I,I,I,I,I,I,I,O,O,O,O,O] rfl rfl HT_.out (by kernel_rfl) (fun _ _ _ h => h) (Or.inl ⟨by rfl, ?_⟩) ?_ ?_); (rotate_left)
    · intro w'
      (go_simp); (with_reducible rfl)
    rotate_left
    · simp only [Act.put, sTA, sCZ, sCS, i64_w, i32_w]
      rfl
    (refine pu_ (i := 17) (N := some 41) (v := ?_) (a' := ?_) #[I,I,I,I,I,I,I,I,I,I,I,I,I,I,I,I,I,I,O,O,O,O] rfl rfl HT_.out (by kernel_rfl) (fun _ _ _ h => h) (Or.inl ⟨by rfl, ?_⟩) ?_ ?_); (rotate_left)
    · intro w'
      (go_simp); (with_reducible rfl)
    rotate_left
    · simp only [Act.put, sTA, sCZ, sCS, i64_w, i32_w]
      rfl
    (refine last_ (i := 18) (N := none) #[I,I,I,I,I,I,I,I,I,I,I,I,I,I,I,I,I,I,I,O,O,O] rfl rfl (one_of HT_.out (by kernel_rfl)) (by decide) (fun K hK => ?_)); (have f0 := qF F0.out 0); (have c0' : w1.cell? ⟨g, 0, none⟩ = some vo := (qC F0.out 0).trans rfl); (refine skip_ (w1 := ?_) (by rfl) rfl ?_ ?_); (rotate_left)
    · go_simp
      rfl
    (refine hK.out _ _ ?_); clear hK K; (refine pu_ (i := 19) (N := some 42) (v := ?_) (a' := ?_) #[I,I,I,I,I,I,I,I,I,I,I,I,I,I,I,I,I,I,I,I,O,O] rfl rfl HT_.out (by kernel_rfl) (fun _ _ _ h => h) (Or.inl ⟨by rfl, ?_⟩) ?_ ?_); (rotate_left)
    · intro w'
      (go_simp); (with_reducible rfl)
    rotate_left
    · simp only [Act.put, sTA, sCZ, sCS, i64_w, i32_w]
      rfl
    (refine pu_ (i := 20) (N := some 43) (v := ?_) (a' := ?_) #[I,I,I,I,I,I,I,I,I,I,I,I,I,I,I,I,I,I,I,I,I,O] rfl rfl HT_.out (by kernel_rfl) (fun _ _ _ h => h) (Or.inl ⟨by rfl, ?_⟩) ?_ ?_); (rotate_left)
    · intro w'
      (go_simp); (with_reducible rfl)
    rotate_left
    · simp only [Act.put, sTA, sCZ, sCS, i64_w, i32_w]
      rfl
    (refine last_ (i := 21) (N := none) #[I,I,I,I,I,I,I,I,I,I,I,I,I,I,I,I,I,I,I,I,I,I] rfl rfl (one_of HT_.out (by kernel_rfl)) (by decide) (fun K hK => ?_)); (have f1 := qF F1.out.b 1); (have c1' := (qC F1.out.b 1).trans rfl); (refine skip_ (w1 := ?_) (by rfl) rfl ?_ ?_); (rotate_left)
    · go_simp
      rfl
    (refine hK.out _ _ ?_); clear hK K; (refine done_ (done_of HT_.out (by kernel_rfl)) ?_); (go_wp2); (go_end0); (exact ⟨rfl, ⟨_, F1.out.set1 _⟩, (F2.out.setCell E1.out.g _).setCell E1.out.g _, (F6.out.setCell (Or.inl (Or.inl rfl)) _).setCell (Or.inl (Or.inl rfl)) _⟩)
  · rw [if_neg h2]
    (have c2 : (e2 == 0) = false := beq_eq_false_iff_ne.mpr h2); (have c2' : (e2 != 0) = true := bne_iff_ne.mpr h2); clear h2; (go_enter Tryd.func23, Tryd.ntmps23); (go_wp2_with (first | ((with_reducible refine gate_dst (N := 3) rfl ?_); refine box_event ?hg (N := 3) ?hd (cs := #[.string nm, .slice Ax px.length cx, .string v]) (t := 44) ?hr ?_; (case hd => rfl); (case hg => rfl); (case hr => first | (go_simp; done) | (go_simp; rfl)); intro gb hg w3 hbox hb; have B1 := aM (A1.out.below hb); have B2 := aM (below_then A2.out A4.out hb); have B4 : Aside0 (B ≤ w3.heap.size) := ⟨Nat.le_trans A4.out hb.size⟩; have B5 := aM (Kd.C_below A5.out hb); have B6 := aM (Kept.of_below hb (fun j => j = g ∨ vo.ownBlock = some j)); have z0 : w3.cell? ⟨gb, 0, none⟩ = some (.string nm) := (qC hbox 0).trans rfl; have z1 : w3.cell? ⟨gb, 1, none⟩ = some (.slice Ax px.length cx) := (qC hbox 1).trans rfl; have z2 : w3.cell? ⟨gb, 2, none⟩ = some (.string v) := (qC hbox 2).trans rfl; clear hb hbox hg) | (go_at_call 40; (with_reducible refine (line_Text.calls k nm Ax cx px v s e1 _ B5.out A6.out A7.out).mono ?_); rintro en w4 ⟨rfl, hb⟩; have C1 := aM (B1.out.below hb); have C2 := aM (below_then B2.out B4.out hb); have C4 : Aside0 (B ≤ w4.heap.size) := ⟨Nat.le_trans B4.out hb.size⟩; have C6 := aM (B6.out.below hb); clear hb z0 z1 z2) | (go_at_call 41; (with_reducible refine (fold_Line.calls k s x e2 _ A8.out).mono ?_); rintro en w5 ⟨rfl, hb⟩; have D1 := aM (C1.out.below hb); have D2 := aM (below_then C2.out C4.out hb); have D4 : Aside0 (B ≤ w5.heap.size) := ⟨Nat.le_trans C4.out hb.size⟩; have D6 := aM (C6.out.below hb); have f2 := qF D1.out.b 2; have c9 : w5.cell? ⟨g, 2, none⟩ = some (.int .i64 e) := (qC D1.out.b 2).trans rfl; clear hb))); (have E1 := aM (D1.out.set2 e2)); (have E2 := aM (D2.out.setCell D1.out.g (.int .i64 e2) (p := ⟨g, 2, none⟩))); (have E4 : Aside0 (B ≤ (w5.setCell ⟨g, 2, none⟩ (.int .i64 e2)).heap.size) := ⟨by simpa using D4.out⟩); (have E6 := aM (D6.out.setCell (p := ⟨g, 2, none⟩) (Or.inl (Or.inl rfl)) (.int .i64 e2))); clear D1 D2 D4 D6 f2 c9; (generalize w5.setCell ⟨g, 2, none⟩ (.int .i64 e2) = W at E1 E2 E4 E6 ⊢); (replace E1 := aM E1.out.drew); (replace E2 := aM (below_drew E2.out)); (replace E4 : Aside0 (B ≤ W.drew.heap.size) := E4); (replace E6 := aM E6.out.drew); (have c0 : W.drew.cell? ⟨g, 0, none⟩ = some vo := (qC E1.out.b 0).trans rfl); (have c1 : W.drew.cell? ⟨g, 1, none⟩ = some (.int .i64 n) := (qC E1.out.b 1).trans rfl); (refine start_ (n := 22) (S := fun w' => w'.cell? ⟨g, 0, none⟩ = some vo ∧ w'.cell? ⟨g, 1, none⟩ = some (.int .i64 n)) (ds := [18, 21]) #[O,O,O,O,O,O,O,O,O,O,O,O,O,O,O,O,O,O,O,O,O,O] (by kernel_rfl) rfl rfl ⟨c0, c1⟩ (fun hHeld => ?_); refine with_tabW wline_.tab5 wline_.bits5 (fun HT_ HW_ => ?_)); (generalize W.drew = wd at E1 E2 E4 E6 hHeld ⊢); (refine pu_ (i := 0) (N := some 24) (v := ?_) (a' := ?_) #[I,O,O,O,O,O,O,O,O,O,O,O,O,O,O,O,O,O,O,O,O,O] rfl rfl HT_.out (by kernel_rfl) (fun _ _ _ h => h) (Or.inl ⟨by rfl, ?_⟩) ?_ ?_); (rotate_left)
    · intro w'
      (go_simp); (with_reducible rfl)
    rotate_left
    · simp only [Act.put, sTA, sCZ, sCS, i64_w, i32_w]
      rfl
    (refine pu_ (i := 1) (N := some 25) (v := ?_) (a' := ?_) #[I,I,O,O,O,O,O,O,O,O,O,O,O,O,O,O,O,O,O,O,O,O] rfl rfl HT_.out (by kernel_rfl) (fun _ _ _ h => h) (Or.inl ⟨by rfl, ?_⟩) ?_ ?_); (rotate_left)
    · intro w'
      (go_simp); (with_reducible rfl)
    rotate_left
    · simp only [Act.put, sTA, sCZ, sCS, i64_w, i32_w]
      rfl
    (refine pu_ (i := 2) (N := some 26) (v := ?_) (a' := ?_) #[I,I,I,O,O,O,O,O,O,O,O,O,O,O,O,O,O,O,O,O,O,O] rfl rfl HT_.out (by kernel_rfl) (fun _ _ _ h => h) (Or.inl ⟨by rfl, ?_⟩) ?_ ?_); (rotate_left)
    · intro w'
      (go_simp); (with_reducible rfl)
    rotate_left
    · simp only [Act.put, sTA, sCZ, sCS, i64_w, i32_w]
      rfl
    (refine pu_ (i := 3) (N := some 27) (v := ?_) (a' := ?_) #[I,I,I,I,O,O,O,O,O,O,O,O,O,O,O,O,O,O,O,O,O,O] rfl rfl HT_.out (by kernel_rfl) (fun _ _ _ h => h) (Or.inl ⟨by rfl, ?_⟩) ?_ ?_); (rotate_left)
    · intro w'
      (go_simp); (with_reducible rfl)
    rotate_left
    · simp only [Act.put, sTA, sCZ, sCS, i64_w, i32_w]
      rfl
    (refine pu_ (i := 4) (N := some 28) (v := ?_) (a' := ?_) #[I,I,I,I,I,O,O,O,O,O,O,O,O,O,O,O,O,O,O,O,O,O] rfl rfl HT_.out (by kernel_rfl) (fun _ _ _ h => h) (Or.inl ⟨by rfl, ?_⟩) ?_ ?_); (rotate_left)
    · intro w'
      (go_simp); (with_reducible rfl)
    rotate_left
    · simp only [Act.put, sTA, sCZ, sCS, i64_w, i32_w]
      rfl
    (refine pu_ (i := 6) (N := some 30) (v := ?_) (a' := ?_) #[I,I,I,I,I,O,I,O,O,O,O,O,O,O,O,O,O,O,O,O,O,O] rfl rfl HT_.out (by kernel_rfl) (fun _ _ _ h => h) (Or.inl ⟨by rfl, ?_⟩) ?_ ?_); (rotate_left)
    · intro w'
      (go_simp); (with_reducible rfl)
    rotate_left
    · simp only [Act.put, sTA, sCZ, sCS, i64_w, i32_w]
      rfl
    (refine pu_ (i := 9) (N := some 33) (v := ?_) (a' := ?_) #[I,I,I,I,I,O,I,O,O,I,O,O,O,O,O,O,O,O,O,O,O,O] rfl rfl HT_.out (by kernel_rfl) (fun _ _ _ h => h) (Or.inl ⟨by rfl, ?_⟩) ?_ ?_); (rotate_left)
    · intro w'
      (go_simp); (with_reducible rfl)
    rotate_left
    · simp only [Act.put, sTA, sCZ, sCS, i64_w, i32_w]
      rfl
    (refine pu_ (i := 10) (N := some 34) (v := ?_) (a' := ?_) #[I,I,I,I,I,O,I,O,O,I,I,O,O,O,O,O,O,O,O,O,O,O] rfl rfl HT_.out (by kernel_rfl) (fun _ _ _ h => h) (Or.inl ⟨by rfl, ?_⟩) ?_ ?_); (rotate_left)
    · intro w'
      (go_simp); (with_reducible rfl)
    rotate_left
    · simp only [Act.put, sTA, sCZ, sCS, i64_w, i32_w]
      rfl
    (refine pu_ (i := 11) (N := some 35) (v := ?_) (a' := ?_) #[I,I,I,I,I,O,I,O,O,I,I,I,O,O,O,O,O,O,O,O,O,O] rfl rfl HT_.out (by kernel_rfl) (fun _ _ _ h => h) (Or.inl ⟨by rfl, ?_⟩) ?_ ?_); (rotate_left)
    · intro w'
      (go_simp); (with_reducible rfl)
    rotate_left
    · simp only [Act.put, sTA, sCZ, sCS, i64_w, i32_w]
      rfl
    (refine pu_ (i := 13) (N := some 37) (v := ?_) (a' := ?_) #[I,I,I,I,I,O,I,O,O,I,I,I,O,I,O,O,O,O,O,O,O,O] rfl rfl HT_.out (by kernel_rfl) (fun _ _ _ h => h) (Or.inl ⟨by rfl, ?_⟩) ?_ ?_); (rotate_left)
    · intro w'
      (go_simp); (with_reducible rfl)
    rotate_left
    · simp only [Act.put, sTA, sCZ, sCS, i64_w, i32_w]
      rfl
    (refine pu_ (i := 14) (N := some 38) (v := ?_) (a' := ?_) #[I,I,I,I,I,O,I,O,O,I,I,I,O,I,I,O,O,O,O,O,O,O] rfl rfl HT_.out (by kernel_rfl) (fun _ _ _ h => h) (Or.inl ⟨by rfl, ?_⟩) ?_ ?_); (rotate_left)
    · intro w'
      (go_simp); (with_reducible rfl)
    rotate_left
    · simp only [Act.put, sTA, sCZ, sCS, i64_w, i32_w]
      rfl
    (refine take_ (i := 5) (N := some 29) (v := ?_) (a' := ?_) #[I,I,I,I,I,I,I,O,O,I,I,I,O,I,I,O,O,O,O,O,O,O] rfl rfl (take_ofW HT_.out HW_.out (by kernel_rfl)) (fun _ _ _ h => h) (Or.inl ⟨by rfl, ?_⟩) hHeld ?_ ?_); (rotate_left)
    · rintro w' ⟨s0, s1⟩
      (go_simp); (with_reducible rfl)
    rotate_left
    · simp only [Act.put, sTA, sCZ, sCS, i64_w, i32_w]
      rfl
    (refine take_ (i := 12) (N := some 36) (v := ?_) (a' := ?_) #[I,I,I,I,I,I,I,O,O,I,I,I,I,I,I,O,O,O,O,O,O,O] rfl rfl (take_ofW HT_.out HW_.out (by kernel_rfl)) (fun _ _ _ h => h) (Or.inl ⟨by rfl, ?_⟩) hHeld ?_ ?_); (rotate_left)
    · rintro w' ⟨s0, s1⟩
      (go_simp); (with_reducible rfl)
    rotate_left
    · simp only [Act.put, sTA, sCZ, sCS, i64_w, i32_w]
      rfl
    (refine pu_ (i := 15) (N := some 39) (v := ?_) (a' := ?_) #[I,I,I,I,I,I,I,O,O,I,I,I,I,I,I,I,O,O,O,O,O,O] rfl rfl HT_.out (by kernel_rfl) (fun _ _ _ h => h) (Or.inl ⟨by rfl, ?_⟩) ?_ ?_); (rotate_left)
    · intro w'
      (go_simp); (with_reducible rfl)
    rotate_left
    · simp only [Act.put, sTA, sCZ, sCS, i64_w, i32_w]
      rfl
    (refine one_ (i := 7) (N := some 31) #[I,I,I,I,I,I,I,I,O,I,I,I,I,I,I,I,O,O,O,O,O,O] rfl rfl (one_of HT_.out (by kernel_rfl)) (by decide) (fun K hK => ?_)); (refine value_ (w1 := ?_) (v := ?_) (by rfl) rfl ?_ ?_); (rotate_left 2)
    · go_simp
      constructor
      · rfl
      · rfl
    (refine hK.out _ _ ⟨(World.cell?_alloc_past _ _ _ E1.out.lt).trans hHeld.1, (World.cell?_alloc_past _ _ _ E1.out.lt).trans hHeld.2⟩ (fun hHeld => ?_)); clear hK K; (refine norm_ (a' := ?_) ?_ ?_); (rotate_left)
    · show Act.put _ (some 31) _ = _
      (simp only [Act.put, sTA, sCZ, sCS, i64_w, i32_w]); (rfl)
    (refine one_ (i := 8) (N := some 32) #[I,I,I,I,I,I,I,I,I,I,I,I,I,I,I,I,O,O,O,O,O,O] rfl rfl (one_of HT_.out (by kernel_rfl)) (by decide) (fun K hK => ?_)); (refine Kd.R_append_step Kd.string (w0 := w0) B (by rfl) (.tmp 29) (.tmp 31) 49 9 (.string ByteArray.empty) 16 rfl Tryd.underlying49 tw_info9 rfl (by decide) (by omega) vo out x [.string x] (fun _ => True) (fun _ => False) rfl rfl rfl (fun _ hk => hk.elim) (fun _ _ => trivial) E1.out.o E2.out E4.out (by have := A3.out; omega) ?_); (intro v1 w1 ho hb hg hat); (obtain ⟨Ao, co, eo⟩ := Kd.R_slice ho); (rw [List.length_append, List.length_singleton] at eo); subst eo; (have F0 := aM (blk_grown E1.out.b hg E1.out.neO)); (have F1 := aM (E1.out.grow hg ho)); (have F2 := aM hb); (have F6 := aM (Kept.of_grown hg E6.out (fun j hj => Or.inl (Or.inr hj)))); clear ho hb hg hat; (refine hK.out _ _ ⟨(qC F0.out 0).trans rfl, (qC F0.out 1).trans rfl⟩ (fun hHeld => ?_)); clear hK K; (refine norm_ (a' := ?_) ?_ ?_); (rotate_left)
    · show Act.put _ (some 32) _ = _
      (simp only [Act.put, sTA, sCZ, sCS, i64_w, i32_w]); (rfl)
    (refine pu_ (i := 16) (N := some 40) (v := ?_) (a' := ?_) #[I,I,I,I,I,I,I,I,I,I,I,I,I,I,I,I,I,O,O,O,O,O] rfl rfl HT_.out (by kernel_rfl) (fun _ _ _ h => h) (Or.inl ⟨by rfl, ?_⟩) ?_ ?_); (rotate_left)
    · intro w'
      (go_simp); (with_reducible rfl)
    rotate_left
    · simp only [Act.put, sTA, sCZ, sCS, i64_w, i32_w]
      rfl
    (refine pu_ (i := 17) (N := some 41) (v := ?_) (a' := ?_) #[I,I,I,I,I,I,I,I,I,I,I,I,I,I,I,I,I,I,O,O,O,O] rfl rfl HT_.out (by kernel_rfl) (fun _ _ _ h => h) (Or.inl ⟨by rfl, ?_⟩) ?_ ?_); (rotate_left)
    · intro w'
      (go_simp); (with_reducible rfl)
    rotate_left
    · simp only [Act.put, sTA, sCZ, sCS, i64_w, i32_w]
      rfl
    (refine last_ (i := 18) (N := none) #[I,I,I,I,I,I,I,I,I,I,I,I,I,I,I,I,I,I,I,O,O,O] rfl rfl (one_of HT_.out (by kernel_rfl)) (by decide) (fun K hK => ?_)); (have f0 := qF F0.out 0); (have c0' : w1.cell? ⟨g, 0, none⟩ = some vo := (qC F0.out 0).trans rfl); (refine skip_ (w1 := ?_) (by rfl) rfl ?_ ?_); (rotate_left)
    · go_simp
      rfl
    (refine hK.out _ _ ?_); clear hK K; (refine pu_ (i := 19) (N := some 42) (v := ?_) (a' := ?_) #[I,I,I,I,I,I,I,I,I,I,I,I,I,I,I,I,I,I,I,I,O,O] rfl rfl HT_.out (by kernel_rfl) (fun _ _ _ h => h) (Or.inl ⟨by rfl, ?_⟩) ?_ ?_); (rotate_left)
    · intro w'
      (go_simp); (with_reducible rfl)
    rotate_left
    · simp only [Act.put, sTA, sCZ, sCS, i64_w, i32_w]
      rfl
    (refine pu_ (i := 20) (N := some 43) (v := ?_) (a' := ?_) #[I,I,I,I,I,I,I,I,I,I,I,I,I,I,I,I,I,I,I,I,I,O] rfl rfl HT_.out (by kernel_rfl) (fun _ _ _ h => h) (Or.inl ⟨by rfl, ?_⟩) ?_ ?_); (rotate_left)
    · intro w'
      (go_simp); (with_reducible rfl)
    rotate_left
    · simp only [Act.put, sTA, sCZ, sCS, i64_w, i32_w]
      rfl
    (refine last_ (i := 21) (N := none) #[I,I,I,I,I,I,I,I,I,I,I,I,I,I,I,I,I,I,I,I,I,I] rfl rfl (one_of HT_.out (by kernel_rfl)) (by decide) (fun K hK => ?_)); (have f1 := qF F1.out.b 1); (have c1' := (qC F1.out.b 1).trans rfl); (refine skip_ (w1 := ?_) (by rfl) rfl ?_ ?_); (rotate_left)
    · go_simp
      rfl
    (refine hK.out _ _ ?_); clear hK K; (refine done_ (done_of HT_.out (by kernel_rfl)) ?_); (go_wp2); (go_end0); (exact ⟨rfl, ⟨_, F1.out.set1 _⟩, (F2.out.setCell E1.out.g _).setCell E1.out.g _, (F6.out.setCell (Or.inl (Or.inl rfl)) _).setCell (Or.inl (Or.inl rfl)) _⟩)
def tree_wl.f (k : Nat) (a0 : List ByteArray) (a1 : Int) (a2 : Int) (a3 : ByteArray) (a4 : List (S70)) (a5 : ByteArray) : Option (List ByteArray × Int × Int) := if a0.length < 1000000000 then ((line_Text.f k a3 a4 a5).bind fun t1 => ((fold_Line.f k t1.1).bind fun t2 => (some (a0 ++ [t2.1], wrap64 (a1 + (t2.1.size : Int)), if t2.2 = 0 then a2 else t2.2)))) else (none)
theorem tree_wl.mono : ∀ a0 a1 a2 a3 a4 a5 k, LeO (tree_wl.f k a0 a1 a2 a3 a4 a5) (tree_wl.f (k + 1) a0 a1 a2 a3 a4 a5) := by
  (intro a0 a1 a2 a3 a4 a5 k); (unfold tree_wl.f)
  repeat' first | (with_reducible first | exact line_Text.mono _ _ _ _ | exact fold_Line.mono _ _ | exact LeO.refl _ | exact LeO.none _ | refine LeO.ite ?_ ?_ | refine LeO.bind ?_ (fun _ => ?_))
mutual
def tree_Text.l0 : Nat → List (S40) → List ByteArray → Int → Int → List Int → Int → Option (ByteArray × Int)
 | 0, _, _, _, _, _, _ => none
 | k + 1, x0, x1, x2, x3, x4, x5 => if x5 < (wrap64 ((x0.length : Int) + 1)) then (tree_Text.l1 k x0 x1 x2 x3 x4 x5) else (tree_Text.j1 k x1 x2 x3)
def tree_Text.l1 : Nat → List (S40) → List ByteArray → Int → Int → List Int → Int → Option (ByteArray × Int)
 | 0, _, _, _, _, _, _ => none
 | k + 1, x0, x1, x2, x3, x4, x5 => if (x4.length : Int) > 0 then (tree_Text.j2 k x0 x1 x2 x3 x4 x5 (rd x4 ((x4.length : Int) - 1))) else (tree_Text.j0 k x0 x1 x2 x3 x4 x5)
def tree_Text.j2 : Nat → List (S40) → List ByteArray → Int → Int → List Int → Int → Int → Option (ByteArray × Int)
 | 0, _, _, _, _, _, _, _ => none
 | k + 1, x0, x1, x2, x3, x4, x5, x6 => if 0 ≤ x6 then (if x6 < (x0.length : Int) then (if (wrap64 (x6 + (rd_T40 x0 x6).f2)) ≥ x5 then (tree_Text.j0 k x0 x1 x2 x3 x4 x5) else ((tree_wl.f k x1 x2 x3 (⟨#[69, 78, 68]⟩ : ByteArray) ([] : List (S70)) (rd_T40 x0 x6).f0).bind fun t3 => (tree_Text.l1 k x0 t3.1 t3.2.1 t3.2.2 (x4.take (x4.length - 1)) x5))) else (none)) else (none)
def tree_Text.j0 : Nat → List (S40) → List ByteArray → Int → Int → List Int → Int → Option (ByteArray × Int)
 | 0, _, _, _, _, _, _ => none
 | k + 1, x0, x1, x2, x3, x4, x5 => if x5 = (x0.length : Int) then (tree_Text.j1 k x1 x2 x3) else (if 0 ≤ x5 then (if x5 < (x0.length : Int) then ((tree_wl.f k x1 x2 x3 (⟨#[66, 69, 71, 73, 78]⟩ : ByteArray) ([] : List (S70)) (rd_T40 x0 x5).f0).bind fun t4 => (tree_Text.l2 k x0 t4.1 t4.2.1 t4.2.2 x4 x5 0)) else (none)) else (none))
def tree_Text.l2 : Nat → List (S40) → List ByteArray → Int → Int → List Int → Int → Int → Option (ByteArray × Int)
 | 0, _, _, _, _, _, _, _ => none
 | k + 1, x0, x1, x2, x3, x4, x5, x6 => if x6 < (((rd_T40 x0 x5).f1).length : Int) then (if 0 ≤ x6 then ((tree_wl.f k x1 x2 x3 (rd_T44 (rd_T40 x0 x5).f1 x6).f0 (rd_T44 (rd_T40 x0 x5).f1 x6).f1 (rd_T44 (rd_T40 x0 x5).f1 x6).f2).bind fun t5 => (tree_Text.l2 k x0 t5.1 t5.2.1 t5.2.2 x4 x5 (wrap64 (x6 + 1)))) else (none)) else (if x4.length < 17592186044416 then (tree_Text.l0 k x0 x1 x2 x3 (x4 ++ [x5]) (wrap64 (x5 + 1))) else (none))
def tree_Text.j1 : Nat → List ByteArray → Int → Int → Option (ByteArray × Int)
 | 0, _, _, _ => none
 | k + 1, x1, x2, x3 => if x3 = 0 then (if x2 > 600000 then (some ((⟨#[]⟩ : ByteArray), 2)) else ((strings_Join.f x1 (⟨#[]⟩ : ByteArray)).bind fun t6 => (some (t6, 0)))) else (some ((⟨#[]⟩ : ByteArray), 2))
end
def tree_Text.f (k : Nat) (l0 : List (S40)) : Option (ByteArray × Int) := (tree_Check.f k l0).bind fun t7 => (if t7 = 0 then (tree_Text.l0 k l0 ([] : List ByteArray) 0 0 ([] : List Int) 0) else (some ((⟨#[]⟩ : ByteArray), t7)))
theorem tree_Text.mono_l : ∀ k, (∀ y0 y1 y2 y3 y4 y5, LeO (tree_Text.l0 k y0 y1 y2 y3 y4 y5) (tree_Text.l0 (k + 1) y0 y1 y2 y3 y4 y5)) ∧ (∀ y0 y1 y2 y3 y4 y5, LeO (tree_Text.l1 k y0 y1 y2 y3 y4 y5) (tree_Text.l1 (k + 1) y0 y1 y2 y3 y4 y5)) ∧ (∀ y0 y1 y2 y3 y4 y5 y6, LeO (tree_Text.j2 k y0 y1 y2 y3 y4 y5 y6) (tree_Text.j2 (k + 1) y0 y1 y2 y3 y4 y5 y6)) ∧ (∀ y0 y1 y2 y3 y4 y5, LeO (tree_Text.j0 k y0 y1 y2 y3 y4 y5) (tree_Text.j0 (k + 1) y0 y1 y2 y3 y4 y5)) ∧ (∀ y0 y1 y2 y3 y4 y5 y6, LeO (tree_Text.l2 k y0 y1 y2 y3 y4 y5 y6) (tree_Text.l2 (k + 1) y0 y1 y2 y3 y4 y5 y6)) ∧ (∀ y0 y1 y2, LeO (tree_Text.j1 k y0 y1 y2) (tree_Text.j1 (k + 1) y0 y1 y2))
  | 0 => ⟨fun _ _ _ _ _ _ r h => by simp [tree_Text.l0] at h, fun _ _ _ _ _ _ r h => by simp [tree_Text.l1] at h, fun _ _ _ _ _ _ _ r h => by simp [tree_Text.j2] at h, fun _ _ _ _ _ _ r h => by simp [tree_Text.j0] at h, fun _ _ _ _ _ _ _ r h => by simp [tree_Text.l2] at h, fun _ _ _ r h => by simp [tree_Text.j1] at h⟩
  | k + 1 => by
    obtain ⟨ih0, ih1, ih2, ih3, ih4, ih5⟩ := tree_Text.mono_l k
    refine ⟨?_, ?_, ?_, ?_, ?_, ?_⟩ <;> intros
    all_goals first | unfold tree_Text.l0 | unfold tree_Text.l1 | unfold tree_Text.j2 | unfold tree_Text.j0 | unfold tree_Text.l2 | unfold tree_Text.j1
    all_goals repeat' first | (with_reducible first | exact ih0 _ _ _ _ _ _ | exact ih1 _ _ _ _ _ _ | exact ih2 _ _ _ _ _ _ _ | exact ih3 _ _ _ _ _ _ | exact ih4 _ _ _ _ _ _ _ | exact ih5 _ _ _ | exact tree_Check.mono _ _ | exact tree_wl.mono _ _ _ _ _ _ _ | exact LeO.refl _ | exact LeO.none _ | refine LeO.ite ?_ ?_ | refine LeO.bind ?_ (fun _ => ?_))
theorem tree_Text.mono : ∀ a0 k, LeO (tree_Text.f k a0) (tree_Text.f (k + 1) a0) := by
  (intro a0 k); (obtain ⟨ih0, ih1, ih2, ih3, ih4, ih5⟩ := tree_Text.mono_l k); (unfold tree_Text.f)
  repeat' first | (with_reducible first | exact ih0 _ _ _ _ _ _ | exact ih1 _ _ _ _ _ _ | exact ih2 _ _ _ _ _ _ _ | exact ih3 _ _ _ _ _ _ | exact ih4 _ _ _ _ _ _ _ | exact ih5 _ _ _ | exact tree_Check.mono _ _ | exact tree_wl.mono _ _ _ _ _ _ _ | exact LeO.refl _ | exact LeO.none _ | refine LeO.ite ?_ ?_ | refine LeO.bind ?_ (fun _ => ?_))
theorem tree_wl.calls (k : Nat) (B g : Nat) (w0 w : World) (out : List ByteArray) (n e : Int) (nm : ByteArray) (Ax : Option Addr) (cx : Nat) (px : List (S70)) (v : ByteArray) (r : List ByteArray × Int × Int) (u : Value) (us : List Int) (hx : Kd.C k70 w Ax px.length px) (hcx : px.length ≤ cx) (h : tree_wl.f k out n e nm px v = some r)
    (H : ∃ vo, Wr B w g vo out n e) (HO : Kd.R (Kd.int .i64) 3 w B (fun _ => True) u us) (HB : Below B w0 w) (hBw : B ≤ w.heap.size) :
    Calls Tryd.prog 23 #[.pointer (some ⟨g, 0, none⟩), .agg #[.string nm, .slice Ax px.length cx, .string v]] w fun en w' => en = .returned (.tuple #[]) ∧ (∃ vo, Wr B w' g vo r.1 r.2.1 r.2.2) ∧ Kd.R (Kd.int .i64) 3 w' B (fun _ => True) u us ∧ Below B w0 w' ∧ w.heap.size ≤ w'.heap.size := by
  (unfold tree_wl.f at h); (split at h)
  · rename_i hl
    (obtain ⟨⟨s, e1⟩, h1, h⟩ := Option.bind_eq_some_iff.1 h); (obtain ⟨⟨x, e2⟩, h2, h⟩ := Option.bind_eq_some_iff.1 h); (obtain rfl := Option.some.inj h); (obtain ⟨vo, H⟩ := H); (refine (wline_calls k B g w0 w vo out n e nm Ax cx px v s x e1 e2 hx hcx h1 h2 hl H HB hBw).mono fun en w' ⟨he, ⟨v1, hW⟩, hb, hk⟩ => ⟨he, ⟨v1, hW⟩, ?_, hb, hk.1⟩); (have h3 := Kd.R_apartR (Kd.R_types HO H.b (by decide)) H.o (by decide)); (exact Kd.R_mono (Kd.R_kept h3 hk (fun j hj hs => hs.elim hj.1.2 (fun h => hj.2 h.symm))) (fun _ _ => trivial))
  · cases h
theorem tree_wl.calls0 (k : Nat) (B g : Nat) (w0 w : World) (out : List ByteArray) (n e : Int) (nm : ByteArray) (v : ByteArray) (r : List ByteArray × Int × Int) (u : Value) (us : List Int) (h : tree_wl.f k out n e nm ([] : List (S70)) v = some r)
    (H : ∃ vo, Wr B w g vo out n e) (HO : Kd.R (Kd.int .i64) 3 w B (fun _ => True) u us) (HB : Below B w0 w) (hBw : B ≤ w.heap.size) :
    Calls Tryd.prog 23 #[.pointer (some ⟨g, 0, none⟩), .agg #[.string nm, .slice none 0 0, .string v]] w fun en w' => en = .returned (.tuple #[]) ∧ (∃ vo, Wr B w' g vo r.1 r.2.1 r.2.2) ∧ Kd.R (Kd.int .i64) 3 w' B (fun _ => True) u us ∧ Below B w0 w' ∧ w.heap.size ≤ w'.heap.size :=
  tree_wl.calls k B g w0 w out n e nm none 0 [] v r u us (Kd.C_nil _ _) (Nat.le_refl _) h H HO HB hBw
theorem tw_info3 : (Tryd.prog.info? 3).map (fun i => (i.zero, i.size, i.bytes)) = some (some (.int .i64 0), 1, 8) := by kernel_rfl
theorem Wr.over {B g : Nat} {w w1 : World} {vo u : Value} {out : List ByteArray} {n e : Int} {us : List Int} (h : Wr B w g vo out n e) (hu : Kd.R (Kd.int .i64) 3 w B (fun _ => True) u us) (hg : w.grownBy w1 u.ownBlock) : Wr B w1 g vo out n e :=
  ⟨blk_grown h.b hg (Kd.R_ne hu h.b (by decide)), h.g, Kd.R_over h.o hu (by decide) hg⟩
set_option maxHeartbeats 16000000 in
set_option maxRecDepth 100000 in
theorem tree_Text.calls (k : Nat) (A0 : Option Addr) (c0 : Nat) (l0 : List (S40)) (r1 : ByteArray) (r2 : Int) (w : World) (hr0 : Kd.C k40 w A0 l0.length l0) (hc0 : l0.length ≤ c0) (h : tree_Text.f k l0 = some (r1, r2)) :
  Calls Tryd.prog 10 #[.slice A0 l0.length c0] w fun e w' => e = .returned (.tuple #[.string r1, .int .i64 r2]) ∧ Below w.heap.size w w' := by
 (have HR0 := aM hr0); (have HC0 := aM hc0); (unfold tree_Text.f at h); (obtain ⟨t, ht, H⟩ := Option.bind_eq_some_iff.1 h); (have HT := aM ht); clear h hr0 hc0 ht; (by_cases c1 : t = 0); (rotate_left)
 · rw [if_neg c1] at H
   (obtain ⟨rfl, rfl⟩ := Prod.mk.inj (Option.some.inj H)); (have c1b0 : (t == 0) = false := beq_eq_false_iff_ne.mpr c1); (have c1b1 : (t != 0) = true := bne_iff_ne.mpr c1); clear c1 H; (go_enter Tryd.func10, Tryd.ntmps10); (go_wp2_with (go_at_call 18; (with_reducible refine (tree_Check.calls k _ _ l0 _ _ HR0.out HC0.out HT.out).mono ?_); rintro e w1 ⟨rfl, hb⟩; have HB1 := aM hb; clear hb)); (go_ret2); (exact ⟨rfl, HB1.out⟩)
 · subst c1
   (rw [if_pos rfl] at H); (have HH := aM H); clear H; (go_enter Tryd.func10, Tryd.ntmps10); (go_wp2_with (go_at_call 18; (with_reducible refine (tree_Check.calls k _ _ l0 _ _ HR0.out HC0.out HT.out).mono ?_); rintro e w1 ⟨rfl, hb⟩; have HB1 := aM hb; clear hb)); (go_loopg [6, 21] k (fun kq v6 v21 w' => ∃ (y1 : List ByteArray) (y2 y3 : Int) (y4 : List Int) (x5 : Int), v21 = .int .i64 x5 ∧ Aside0 (tree_Text.l0 kq l0 y1 y2 y3 y4 x5 = some (r1, r2)) ∧ Aside0 (kq ≤ k) ∧ Aside0 (∃ vo, Wr w.heap.size w' w1.heap.size vo y1 y2 y3) ∧ Aside0 (Kd.R (Kd.int .i64) 3 w' w.heap.size (fun _ => True) v6 y4) ∧ Aside0 (Below w.heap.size w w')))
   case atStart => exact ⟨[], 0, 0, [], 0, by rfl, HH, ⟨Nat.le_refl _⟩, ⟨_, ⟨blk_new _ _, HB1.out.size, Kd.R_nil _ _ _ _ _⟩⟩, ⟨Kd.R_nil _ _ _ _ _⟩, ⟨lA HB1.out _⟩⟩
   case round =>
     as_aux_lemma =>
      (obtain ⟨y1, y2, y3, y4, x5, rfl, HA, HK, HW, HO, HB⟩ := hrel); clear HH
      cases gk with
      | zero => exact absurd HA.out (by simp [tree_Text.l0])
      | succ k1 =>
       (have H := HA.out); clear HA; (simp only [tree_Text.l0] at H); (by_cases c2 : x5 < wrap64 ((l0.length : Int) + 1))
       · rw [if_pos c2] at H
         (have c2b0 : decide (x5 < wrap64 ((l0.length : Int) + 1)) = true := dE c2); (have HH := aM H); clear c2 H; (go_upto_block 2 with (fail)); (go_cut [6] (fun v6 w' => ∃ (kq : Nat) (y1 : List ByteArray) (y2 y3 : Int) (y4 : List Int), Aside0 (tree_Text.j0 kq l0 y1 y2 y3 y4 x5 = some (r1, r2)) ∧ Aside0 (kq ≤ k1) ∧ Aside0 (∃ vo, Wr w.heap.size w' w1.heap.size vo y1 y2 y3) ∧ Aside0 (Kd.R (Kd.int .i64) 3 w' w.heap.size (fun _ => True) v6 y4) ∧ Aside0 (Below w.heap.size w w')))
         case first =>
          (go_wp2); (go_loopg [6] k1 (fun kq v6 w' => ∃ (y1 : List ByteArray) (y2 y3 : Int) (y4 : List Int), Aside0 (tree_Text.l1 kq l0 y1 y2 y3 y4 x5 = some (r1, r2)) ∧ Aside0 (kq ≤ k1) ∧ Aside0 (∃ vo, Wr w.heap.size w' w1.heap.size vo y1 y2 y3) ∧ Aside0 (Kd.R (Kd.int .i64) 3 w' w.heap.size (fun _ => True) v6 y4) ∧ Aside0 (Below w.heap.size w w')))
          case atStart => exact ⟨y1, y2, y3, y4, HH, ⟨Nat.le_refl _⟩, HW, HO, HB⟩
          case round =>
           clear HH HW HO HB y1 y2 y3 y4; (obtain ⟨y1, y2, y3, y4, HA, HJ, HW, HO, HB⟩ := hrel)
           cases gk with
           | zero => exact absurd HA.out (by simp [tree_Text.l1])
           | succ k2 =>
            (have H := HA.out); clear HA; (simp only [tree_Text.l1] at H); (obtain ⟨A6, c6, e6⟩ := Kd.R_slice HO.out); subst e6; (by_cases c3 : (y4.length : Int) > 0)
            · rw [if_pos c3] at H
              (have c3b0 : decide (0 < (y4.length : Int)) = true := dE c3); (have c3b1 : decide (0 < y4.length) = true := dE (by omega)); (have hC := (Kd.R_reads' HO.out).2.2); (have hcap := (Kd.R_reads' HO.out).2.1); (have hmx := Kd.C_max hC)
              cases k2 with
              | zero => exact absurd H (by simp [tree_Text.j2])
              | succ k3 =>
               (simp only [tree_Text.j2] at H); (obtain ⟨adp, ep, hxp⟩ := Kd.at_int hC ((y4.length : Int) - 1) (by omega) (by omega))
               cases ep
               (rw [show ((y4.length : Int) - 1).toNat = y4.length - 1 by omega] at hxp); (generalize rd y4 ((y4.length : Int) - 1) = p4 at H hxp); (by_cases q0 : 0 ≤ p4); (rotate_left)
               · rw [if_neg q0] at H; cases H
               (rw [if_pos q0] at H); (by_cases q1 : p4 < (l0.length : Int)); (rotate_left)
               · rw [if_neg q1] at H; cases H
               (rw [if_pos q1] at H); (obtain ⟨ad, A1, d1, ea, hx0, hx1, hx2, hl1, hi1⟩ := at_T40 HR0.out p4 q0 q1)
               cases ea
               (replace hx0 := cl_ HB.out hx0); (replace hx2 := cl_ HB.out hx2); (have hw : wrap64 ((y4.length : Int) - 1) = (y4.length : Int) - 1 := by unfold wrap64; omega); (have pa := eq_true (show 0 ≤ (y4.length : Int) - 1 by omega)); (have pa' := eq_true (show 1 ≤ (y4.length : Int) by omega)); (have pa2 := eq_true (show 1 ≤ y4.length by omega)); (have pb := eq_true (show (y4.length : Int) - 1 < (y4.length : Int) by omega)); (have pc := eq_true (show (y4.length : Int) - 1 ≤ (c6 : Int) by omega)); (have pd := eq_true q0); (have pe := eq_true q1); (have HP : Aside0 (0 < y4.length) := ⟨by omega⟩); clear q0 q1 c3 hC hi1 hl1 hx1 hmx hcap; (by_cases c4 : wrap64 (p4 + (rd_T40 l0 p4).f2) ≥ x5)
               · rw [if_pos c4] at H
                 (have c4b0 : decide (x5 ≤ wrap64 (p4 + (rd_T40 l0 p4).f2)) = true := dE c4); (have HH := aM H); clear c4 H; (go_wp2); (go_meet)
                 case rel => exact ⟨k3, y1, y2, y3, y4, HH, ⟨by have := HJ.out; omega⟩, HW, HO, HB⟩
               · rw [if_neg c4] at H
                 (have c4b0 : decide (x5 ≤ wrap64 (p4 + (rd_T40 l0 p4).f2)) = false := decide_eq_false c4); (replace H := Option.bind_eq_some_iff.1 H; obtain ⟨t3, ht3, H⟩ := H); (have HT3 := aM ht3); (have HH := aM H); clear c4 H ht3; (go_wp2_with (go_at_call 23; (with_reducible refine (tree_wl.calls0 k3 w.heap.size w1.heap.size w _ y1 y2 y3 _ _ t3 _ y4 HT3.out HW.out HO.out HB.out HB.out.size).mono ?_); rintro en w5 ⟨rfl, hW, hO, hB, hs⟩; have HW1 := aM hW; have HO1 := aM hO; have HB1_ := aM hB; clear hW hO hB hs)); (go_roundg k3)
                 case measure => omega
                 case rel => exact ⟨t3.1, t3.2.1, t3.2.2, y4.take (y4.length - 1), HH, ⟨by have := HJ.out; omega⟩, HW1, ⟨by
                   have h9 : (((y4.length : Int) - 1).toNat) = (y4.take (y4.length - 1)).length := by rw [lT]; have := HP.out; omega
                   first | exact Kd.R_take HO1.out (by omega) | (have h8 := Kd.R_take (m := y4.length - 1) HO1.out (by omega); have h7 : (((y4.length : Int) - 1).toNat) = y4.length - 1 := by omega
                                                                 rw [h7]; exact h8)⟩, HB1_⟩
            · rw [if_neg c3] at H
              (have c3b0 : decide (0 < (y4.length : Int)) = false := decide_eq_false c3); (have c3b1 : decide (0 < y4.length) = false := decide_eq_false (by omega)); (have HH := aM H); clear c3 H; (go_wp2); (go_meet)
              case rel => exact ⟨k2, y1, y2, y3, y4, HH, ⟨by have := HJ.out; omega⟩, HW, HO, HB⟩
         case rest =>
           as_aux_lemma =>
            clear HH HW HO HB y1 y2 y3 y4; (obtain ⟨kq, y1, y2, y3, y4, HA, HJ, HW, HO, HB⟩ := hcut)
            cases kq with
            | zero => exact absurd HA.out (by simp [tree_Text.j0])
            | succ k2 =>
             (have H := HA.out); clear HA; (simp only [tree_Text.j0] at H); (obtain ⟨A6, c6, e6⟩ := Kd.R_slice HO.out); subst e6; (by_cases c3 : x5 = (l0.length : Int))
             · rw [if_pos c3] at H
               (have c3b0 : (x5 == (l0.length : Int)) = true := beq_iff_eq.mpr c3); clear c3; (have HA := aM H); clear H
               cases k2 with
               | zero => exact absurd HA.out (by simp [tree_Text.j1])
               | succ kt =>
                 (have H := HA.out); clear HA; (simp only [tree_Text.j1] at H); (obtain ⟨vo, hW⟩ := HW.out); (obtain ⟨Av, cv, ev⟩ := Kd.R_slice hW.o); subst ev; (have HX := aM hW); (have c90 : wc.cell? ⟨w1.heap.size, 0, none⟩ = some (.slice Av y1.length cv) := (qC hW.b 0).trans rfl); (have c91 : wc.cell? ⟨w1.heap.size, 1, none⟩ = some (.int .i64 y2) := (qC hW.b 1).trans rfl); (have c92 : wc.cell? ⟨w1.heap.size, 2, none⟩ = some (.int .i64 y3) := (qC hW.b 2).trans rfl); clear hW; (by_cases c7 : y3 = 0)
                 · subst c7
                   (rw [if_pos rfl] at H); (by_cases c8 : y2 > 600000)
                   · rw [if_pos c8] at H
                     (have c8b0 : decide (600000 < y2) = true := dE c8); (obtain ⟨rfl, rfl⟩ := Prod.mk.inj (Option.some.inj H)); clear c8 H; (go_wp2); (go_ret2); (exact ⟨rfl, HB.out⟩)
                   · rw [if_neg c8] at H
                     (have c8b0 : decide (600000 < y2) = false := decide_eq_false c8); (replace H := Option.bind_eq_some_iff.1 H; obtain ⟨t6, ht6, H⟩ := H); (obtain ⟨rfl, rfl⟩ := Prod.mk.inj (Option.some.inj H)); (have HT6 := aM ht6); (have hrd := Kd.R_reads' HX.out.o); (have HRD := aM hrd); clear c8 H ht6 hrd; (go_wp2_with (go_at_call 24; (with_reducible refine (strings_Join.calls _ _ y1 _ _ _ HRD.out.2.2 HRD.out.2.1 HT6.out).mono ?_); rintro en w9 ⟨rfl, hb⟩; have HB9 := aM (below_step HB.out hb); clear hb)); (go_ret2); (exact ⟨rfl, HB9.out⟩)
                 · rw [if_neg c7] at H
                   (have c7b0 : (y3 == 0) = false := beq_eq_false_iff_ne.mpr c7); (have c7b1 : (y3 != 0) = true := bne_iff_ne.mpr c7); (obtain ⟨rfl, rfl⟩ := Prod.mk.inj (Option.some.inj H)); clear c7 H; (go_wp2); (go_ret2); (exact ⟨rfl, HB.out⟩)
             · rw [if_neg c3] at H
               (have c3b0 : (x5 == (l0.length : Int)) = false := beq_eq_false_iff_ne.mpr c3); clear c3; (by_cases q0 : 0 ≤ x5); (rotate_left)
               · rw [if_neg q0] at H; cases H
               (rw [if_pos q0] at H); (by_cases q1 : x5 < (l0.length : Int)); (rotate_left)
               · rw [if_neg q1] at H; cases H
               (rw [if_pos q1] at H); (obtain ⟨ad, A1, d1, ea, hx0, hx1, hx2, hl1, hi1⟩ := at_T40 HR0.out x5 q0 q1)
               cases ea
               (have HY0 := aM hx0); (have HY1 := aM hx1); (have HL1 := aM hl1); (have HI1 := aM hi1); (replace hx0 := cl_ HB.out hx0); clear hx1 hx2 hl1 hi1; (have pd := eq_true q0); (have pe := eq_true q1); clear q0 q1; (replace H := Option.bind_eq_some_iff.1 H; obtain ⟨t4, ht4, H⟩ := H); (have HT4 := aM ht4); (have HH := aM H); clear H ht4; (go_wp2_with (go_at_call 23; (with_reducible refine (tree_wl.calls0 k2 w.heap.size w1.heap.size w _ y1 y2 y3 _ _ t4 _ y4 HT4.out HW.out HO.out HB.out HB.out.size).mono ?_); rintro en w5 ⟨rfl, hW, hO, hB, hs⟩; clear HW HO HB; have HW := aM hW; have HO := aM hO; have HB := aM hB; clear hW hO hB hs hx0; have hx1 := (HB.out.cell (World.block_lt_of_cell? w _ HY1.out)).trans HY1.out)); (go_loopg [73] k2 (fun kq v73 w' => ∃ (y1 : List ByteArray) (y2 y3 : Int) (x6 : Int), v73 = .int .i64 x6 ∧ Aside0 (tree_Text.l2 kq l0 y1 y2 y3 y4 x5 x6 = some (r1, r2)) ∧ Aside0 (kq ≤ k2) ∧ Aside0 (∃ vo, Wr w.heap.size w' w1.heap.size vo y1 y2 y3) ∧ Aside0 (Kd.R (Kd.int .i64) 3 w' w.heap.size (fun _ => True) (.slice A6 y4.length c6) y4) ∧ Aside0 (Below w.heap.size w w')))
               case atStart => exact ⟨t4.1, t4.2.1, t4.2.2, 0, by rfl, HH, ⟨Nat.le_refl _⟩, HW, HO, HB⟩
               case round =>
                clear HH HW HO HB HT4 hx1 y1 y2 y3; (obtain ⟨y1, y2, y3, x6, rfl, HA, HJ2, HW, HO, HB⟩ := hrel)
                cases gk with
                | zero => exact absurd HA.out (by simp [tree_Text.l2])
                | succ k3 =>
                 (have H := HA.out); clear HA; (simp only [tree_Text.l2] at H); (by_cases c4 : x6 < (((rd_T40 l0 x5).f1).length : Int))
                 · rw [if_pos c4] at H
                   (have c4b0 : decide (x6 < (((rd_T40 l0 x5).f1).length : Int)) = true := dE c4); (by_cases q0 : 0 ≤ x6); (rotate_left)
                   · rw [if_neg q0] at H; cases H
                   (rw [if_pos q0] at H); (obtain ⟨ad2, A2, d2, ea2, hz0, hz1, hz2, hl2, hi2⟩ := at_T44 HI1.out x6 q0 c4)
                   cases ea2
                   (have HL2 := aM hl2); (have HI2 := aM hi2); (replace hz0 := cl_ HB.out hz0); (replace hz1 := cl_ HB.out hz1); (replace hz2 := cl_ HB.out hz2); (have pf := eq_true q0); (have pg := eq_true c4); (replace H := Option.bind_eq_some_iff.1 H; obtain ⟨t5, ht5, H⟩ := H); (have HT5 := aM ht5); (have HH := aM H); clear H ht5 c4 q0 hl2 hi2; (go_wp2_with (first | ((with_reducible refine gate_dst (N := 10) rfl ?_); (try (refine gate_guard (by rfl) ?_; dsimp only)); refine box_event ?hg (N := 10) ?hd (cs := #[.string (⟨#[]⟩ : ByteArray), .slice none 0 0, .string (⟨#[]⟩ : ByteArray)]) (t := 44) ?hr ?_; (case hd => rfl); (case hg => rfl); (case hr => first | (go_simp; done) | (go_simp; rfl)); intro gb hg w13 hbox hb; have HBX := aM hb; have HGB : Aside0 (wr.heap.size ≤ gb) := ⟨by rw [hg]; exact Nat.le_refl _⟩; have zc0 : w13.cell? ⟨gb, 0, none⟩ = some (.string (⟨#[]⟩ : ByteArray)) := (qC hbox 0).trans rfl; have zc1 : w13.cell? ⟨gb, 1, none⟩ = some (.slice none 0 0) := (qC hbox 1).trans rfl; have zc2 : w13.cell? ⟨gb, 2, none⟩ = some (.string (⟨#[]⟩ : ByteArray)) := (qC hbox 2).trans rfl; have zf0 := qF hbox 0; have zf1 := qF hbox 1; have zf2 := qF hbox 2; clear hbox hg hb) | (go_at_call 23; have hbw := aM (((HBX.out.setCell HGB.out (.string (rd_T44 (rd_T40 l0 x5).f1 x6).f0) (p := ⟨gb, 0, none⟩)).setCell HGB.out (.slice A2 ((rd_T44 (rd_T40 l0 x5).f1 x6).f1).length d2) (p := ⟨gb, 1, none⟩)).setCell HGB.out (.string (rd_T44 (rd_T40 l0 x5).f1 x6).f2) (p := ⟨gb, 2, none⟩)); (with_reducible refine (tree_wl.calls k3 w.heap.size w1.heap.size w _ y1 y2 y3 _ _ _ _ _ t5 (.slice A6 y4.length c6) y4 (Kd.C_below HI2.out (below_step HB.out hbw.out)) HL2.out HT5.out (HW.out.imp fun _ h => h.below hbw.out) (Kd.R_below HO.out hbw.out) (below_step HB.out hbw.out) (below_step HB.out hbw.out).size).mono ?_); rintro en w5 ⟨rfl, hW, hO, hB, hs⟩; have HW1 := aM hW; have HO1 := aM hO; have HB1_ := aM hB; clear hW hO hB hs))); (go_roundg k3)
                   case measure => omega
                   case rel => exact ⟨t5.1, t5.2.1, t5.2.2, _, by rfl, HH, ⟨by have := HJ2.out; omega⟩, HW1, HO1, HB1_⟩
                 · rw [if_neg c4] at H
                   (have c4b0 : decide (x6 < (((rd_T40 l0 x5).f1).length : Int)) = false := decide_eq_false c4); (by_cases c5 : y4.length < 17592186044416); (rotate_left)
                   · rw [if_neg c5] at H; cases H
                   (rw [if_pos c5] at H); (have HH := aM H); (have HL := aM c5); clear H c4 c5; (go_wp2_with (at_builtin; refine Kd.R_append (Kd.int .i64) (w0 := w) w.heap.size rfl (.tmp 81) (.tmp 83) 32 3 (.int .i64 0) 8 rfl Tryd.underlying32 tw_info3 rfl (by decide) (by omega) (.slice A6 y4.length c6) y4 x5 [.int .i64 x5] (fun _ => True) (fun _ => False) rfl rfl rfl (fun _ hk => hk.elim) (fun _ _ => trivial) HO.out HB.out HB.out.size (by have := HL.out; omega) ?_; intro v1 w7 ho hb hg hat; have HW1 : Aside0 (∃ vo, Wr w.heap.size w7 w1.heap.size vo y1 y2 y3) := ⟨HW.out.imp fun _ h => h.over HO.out hg⟩; have HO1 := aM ho; have HB1_ := aM hb; clear ho hb hg hat)); (go_roundg k3)
                   case measure => have := HJ.out; have := HJ2.out; omega
                   case rel => exact ⟨y1, y2, y3, y4 ++ [x5], _, by rfl, HH, ⟨by have := HJ.out; have := HJ2.out; have := HK.out; omega⟩, HW1, HO1, HB1_⟩
       · rw [if_neg c2] at H
         (have c2b0 : decide (x5 < wrap64 ((l0.length : Int) + 1)) = false := decide_eq_false c2); clear c2; (have HA := aM H); clear H
         cases k1 with
         | zero => exact absurd HA.out (by simp [tree_Text.j1])
         | succ kt =>
           (have H := HA.out); clear HA; (simp only [tree_Text.j1] at H); (obtain ⟨vo, hW⟩ := HW.out); (obtain ⟨Av, cv, ev⟩ := Kd.R_slice hW.o); subst ev; (have HX := aM hW); (have c90 : wr.cell? ⟨w1.heap.size, 0, none⟩ = some (.slice Av y1.length cv) := (qC hW.b 0).trans rfl); (have c91 : wr.cell? ⟨w1.heap.size, 1, none⟩ = some (.int .i64 y2) := (qC hW.b 1).trans rfl); (have c92 : wr.cell? ⟨w1.heap.size, 2, none⟩ = some (.int .i64 y3) := (qC hW.b 2).trans rfl); clear hW; (by_cases c7 : y3 = 0)
           · subst c7
             (rw [if_pos rfl] at H); (by_cases c8 : y2 > 600000)
             · rw [if_pos c8] at H
               (have c8b0 : decide (600000 < y2) = true := dE c8); (obtain ⟨rfl, rfl⟩ := Prod.mk.inj (Option.some.inj H)); clear c8 H; (go_wp2); (go_ret2); (exact ⟨rfl, HB.out⟩)
             · rw [if_neg c8] at H
               (have c8b0 : decide (600000 < y2) = false := decide_eq_false c8); (replace H := Option.bind_eq_some_iff.1 H; obtain ⟨t6, ht6, H⟩ := H); (obtain ⟨rfl, rfl⟩ := Prod.mk.inj (Option.some.inj H)); (have HT6 := aM ht6); (have hrd := Kd.R_reads' HX.out.o); (have HRD := aM hrd); clear c8 H ht6 hrd; (go_wp2_with (go_at_call 24; (with_reducible refine (strings_Join.calls _ _ y1 _ _ _ HRD.out.2.2 HRD.out.2.1 HT6.out).mono ?_); rintro en w9 ⟨rfl, hb⟩; have HB9 := aM (below_step HB.out hb); clear hb)); (go_ret2); (exact ⟨rfl, HB9.out⟩)
           · rw [if_neg c7] at H
             (have c7b0 : (y3 == 0) = false := beq_eq_false_iff_ne.mpr c7); (have c7b1 : (y3 != 0) = true := bne_iff_ne.mpr c7); (obtain ⟨rfl, rfl⟩ := Prod.mk.inj (Option.some.inj H)); clear c7 H; (go_wp2); (go_ret2); (exact ⟨rfl, HB.out⟩)

end Go.Proofs.YtdgeokpbedllaaaDoor.PTre
