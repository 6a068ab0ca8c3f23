-- A text of the kit's tools for this claim, its remarks left out.
import Derived.Test.YtjanombhdnoemaaGreatDoorRecB
import Derived.Deep.MidRow
import Derived.Test.YtjanombhdnoemaaGreatDoorPRecx7
namespace Go.Proofs.YtjanombhdnoemaaGreatDoor.PRec
open Go.RowKit Go.Proofs.YtjanombhdnoemaaGreatDoorW.PrintWords Go.Proofs.YtjanombhdnoemaaGreatDoorW.PrintLast Go.Proofs.YtjanombhdnoemaaGreatDoorW.PrintMore Go.Proofs.YtjanombhdnoemaaGreatDoor.Base
attribute [local go_sem] max2_int min2_int max_two min_two max_three min_three max_four min_four
set_option linter.unusedVariables false
set_option linter.unusedSimpArgs false
def recur_byDay.f (k : Nat) (a0 : ByteArray) : Option (Int × Int × Bool) := if a0.size ≤ 9223372036854775807 then (recur_weekdays.f.bind fun wd => (recur_word.f k wd (a0.extract (a0.size - 2) a0.size)).bind fun t => if a0.size - 2 = 0 then some (0, t.1, t.2) else if t.2 = true then ((recur_number.f k (a0.extract 0 (a0.size - 2)) true).bind fun t2 => some (t2.1, t.1, if t2.2 = true then t2.1 != 0 else false)) else some (0, t.1, t.2)) else none
theorem recur_byDay.mono : ∀ a0 k, LeO (recur_byDay.f k a0) (recur_byDay.f (k + 1) a0) := by
 intro a0 k
 unfold recur_byDay.f
 repeat' first | (with_reducible first | exact recur_word.mono _ _ _ | exact recur_number.mono _ _ _ | exact LeO.refl _ | exact LeO.none _ | refine LeO.ite ?_ ?_ | refine LeO.bind ?_ (fun _ => ?_))
def bd_.T2 : Bool × List (List Nat × List Nat) := (true, [([], []), ([], []), ([], []), ([1, 2], [1, 2]), ([0, 3, 0], [0, 3]), ([4], [4]), ([5], [5]), ([5], [5]), ([6, 4, 0, 1, 2, 3, 4, 5, 6], [6]), ([7, 8, 0, 1, 2, 3, 4, 5, 6, 7, 8], [7])])
def bd_.B2 : List Nat := [0, 0, 0, 6, 15, 31, 63, 63, 127, 511]
theorem bd_.tab2 : rtab .any (opsOf Tryz.f110 2) = bd_.T2 := by kernel_rfl
theorem bd_.bits2 : waitsOk bd_.T2.2 bd_.B2 = true := by kernel_rfl
theorem setCells_blk {b : Nat} {t : TypeId} : ∀ (vs : List Value) (o : Nat) (w : World) {cs : Array Value}, w.heap[b]? = some (.cells cs t (0, 0)) → ∃ cs', (w.setCells b o vs).heap[b]? = some (.cells cs' t (0, 0)) ∧ cs'.size = cs.size
 | [], _, _, cs, h => ⟨cs, h, rfl⟩
 | v :: vs, o, w, cs, h => by
  obtain ⟨c', h1, h2⟩ := setCells_blk vs (o + 1) (w.setCell ⟨b, o, none⟩ v) (blk_set h o v)
  exact ⟨c', h1, by rw [h2]; simp⟩
theorem setCells_below {B b : Nat} {w0 : World} (hB : B ≤ b) : ∀ (vs : List Value) (o : Nat) (w : World), Below B w0 w → Below B w0 (w.setCells b o vs)
 | [], _, _, h => h
 | v :: vs, o, w, h => setCells_below hB vs (o + 1) _ (h.setCell hB v)
theorem setCells_far {b k : Nat} (hk : k ≠ b) : ∀ (vs : List Value) (o : Nat) (w : World), (w.setCells b o vs).heap[k]? = w.heap[k]?
 | [], _, _ => rfl
 | v :: vs, o, w => (setCells_far hk vs (o + 1) _).trans (Below.heap_setCell w ⟨b, o, none⟩ v k hk)
theorem store_whole {P : Program} {ops : Array Oper} {rest : List Oper} {o : Oper} {a : Act} {Q : Exit → Act → World → Prop} {w : World} (hgd : o.guard = none) {t : TypeId} {p : Tmp} {y : Operand} (ho : o.op = .store t (.tmp p) y) (hN : o.dst = none)
  (b : Nat) (cells : Array Value) (hx : a.eval (.tmp p) = .pointer (some ⟨b, 0, none⟩)) (hy : a.eval y = .agg cells) {cs : Array Value} (hb : w.heap[b]? = some (.cells cs t (0, 0))) (hs : cs.size = cells.size)
  (hi : (P.info? t).map (·.size) = some cells.size) (h1 : cells.all (·.oneCell') = true)
  (h : ∀ w', w'.heap[b]? = some (.cells cells t (0, 0)) → (∀ k, k ≠ b → w'.heap[k]? = w.heap[k]?) → (∀ (B : Nat) (w0 : World), B ≤ b → Below B w0 w → Below B w0 w') → wpList P ops Q rest a w') : wpList P ops Q (o :: rest) a w := by
 have ht : w.there b 0 cells.size := fun j hj => ⟨by rw [Nat.zero_add, blk_cell hb j, Array.getElem?_eq_getElem (by omega)]; rfl, blk_frozen hb _⟩
 refine wpList_store_mid hgd t (.tmp p) y ho b 0 cells hx hy ht hi h1 ?_
 have e : a.put o.dst undef = a := by rw [hN]; rfl
 rw [e]
 refine h _ ?_ (fun k hk => setCells_far hk _ _ _) (fun B w0 hB hw => setCells_below hB _ _ _ hw)
 obtain ⟨cs', h2, h3⟩ := setCells_blk cells.toList 0 w hb
 have h4 := World.rangeAt_setCells_same w b 0 cells.toList (by simpa using ht)
 rw [h2]
 congr 2
 refine Array.ext (by omega) fun i hi1 hi2 => ?_
 have h5 := h4 i cells[i] (by simp [hi2])
 rw [Nat.zero_add, blk_cell h2 i, Array.getElem?_eq_getElem hi1] at h5
 exact Option.some.inj h5
theorem bd_info : (Tryz.prog.info? 38).map (·.size) = some 2 := by kernel_rfl
set_option maxHeartbeats 8000000 in
set_option maxRecDepth 100000 in
theorem recur_byDay.calls (k : Nat) (a0 : ByteArray) (r1 : Int) (r2 : Int) (r3 : Bool) (w : World) (h : recur_byDay.f k a0 = some (r1, r2, r3)) :
 Calls Tryz.prog 110 #[.string a0] w fun e w' => e = .returned (.tuple #[.agg #[.int .i64 r1, .int .i64 r2], .bool r3]) ∧ Below w.heap.size w w' := by
 have hu38 := Tryz.underlying38
 unfold recur_byDay.f at h
 by_cases hmx : a0.size ≤ 9223372036854775807
 rotate_left
 ·rw [if_neg hmx] at h; cases h
 rw [if_pos hmx] at h
 obtain ⟨wd, hwd, h⟩ := Option.bind_eq_some_iff.1 h
 obtain ⟨⟨q1, q2⟩, hq, h⟩ := Option.bind_eq_some_iff.1 h
 obtain ⟨n, hn⟩ : ∃ n : Nat, n = a0.size - 2 := ⟨_, rfl⟩
 rw [← hn] at h hq
 have WD := Aside0.mk hwd
 have HQ := Aside0.mk hq
 have H' := Aside0.mk h
 have HN := Aside0.mk hn
 have HM := Aside0.mk hmx
 have n1 : ((n : Int) ≤ (a0.size : Int)) = True := eq_true (by omega)
 have n2 : (n ≤ a0.size) = True := eq_true (by omega)
 clear hwd hq h hn
 go_enter Tryz.func110, Tryz.ntmps110
 go_upto_region 2 with (first | ((with_reducible refine gate_dst (N := 2) rfl ?_); refine box_event ?hg (N := 2) ?hd (cs := #[.int .i64 0, .int .i64 0]) (t := 38) ?hr ?_; (case hd => rfl); (case hg => rfl); (case hr => first | (go_simp; done) | (go_simp; rfl)); intro gb hg w3 hbox hb; have HB0 := Aside0.mk hb; have BK0 := Aside0.mk hbox; have HGE := Aside0.mk (show w.heap.size ≤ gb by rw [hg]; exact Nat.le_refl _); clear hb hbox hg))
 rw [show (if ((a0.size : Int) - 2) < 0 then (0 : Int) else ((a0.size : Int) - 2)) = (n : Int) by have := HN.out; split <;> omega]
 clear hmx
 refine start_ (n := 10) (S := fun w' => True) (ds := []) #[false, false, false, false, false, false, false, false, false, false] (by kernel_rfl) rfl rfl trivial (fun hHeld => ?_); refine with_tabW bd_.tab2 bd_.bits2 (fun HT_ HW_ => ?_)
 refine pure_ (i := 1) (N := some 14) (v := ?_) (a' := ?_) #[false, true, false, false, false, false, false, false, false, false] rfl rfl (any_of HT_.out (by kernel_rfl)) (fun _ _ _ h => h) (Or.inl ⟨by rfl, ?_⟩) ?_ ?_
 rotate_left
 ·intro w'
  go_simp
  with_reducible rfl
 rotate_left
 ·simp only [Act.put, List.setIfInBounds_toArray, List.set_cons_zero, List.set_cons_succ, i64_w, i32_w]
  rfl
 refine pure_ (i := 2) (N := some 15) (v := ?_) (a' := ?_) #[false, true, true, false, false, false, false, false, false, false] rfl rfl (any_of HT_.out (by kernel_rfl)) (fun _ _ _ h => h) (Or.inl ⟨by rfl, ?_⟩) ?_ ?_
 rotate_left
 ·intro w'
  go_simp
  with_reducible rfl
 rotate_left
 ·simp only [Act.put, List.setIfInBounds_toArray, List.set_cons_zero, List.set_cons_succ, i64_w, i32_w]
  rfl
 refine pure_ (i := 3) (N := some 16) (v := ?_) (a' := ?_) #[false, true, true, true, false, false, false, false, false, false] rfl rfl (any_of HT_.out (by kernel_rfl)) (fun _ _ _ h => h) (Or.inl ⟨by rfl, ?_⟩) ?_ ?_
 rotate_left
 ·intro w'
  go_simp
  with_reducible rfl
 rotate_left
 ·simp only [Act.put, List.setIfInBounds_toArray, List.set_cons_zero, List.set_cons_succ, i64_w, i32_w]
  rfl
 refine one_ (i := 0) (N := some 13) #[true, true, true, true, false, false, false, false, false, false] rfl rfl (one_of HT_.out (by kernel_rfl)) (by decide) (fun K hK => ?_)
 refine goes_ Tryz.func28 (by kernel_rfl) rfl #[] (by rfl) rfl rfl (by (try simp only [List.map_toArray, List.map_cons, List.map_nil]); first | done | rfl) ?_
 (with_reducible refine (recur_weekdays.calls wd _ WD.out).mono ?_)
 rintro e w5 ⟨v5, rfl, ho, hb⟩
 refine ⟨_, rfl, ?_⟩
 have HB1 := Aside0.mk (below_then (below_drew1 HB0.out) HB0.out.size hb); have BK1 := Aside0.mk (blk_below (blk_drew BK0.out) hb)
 have O5 := Aside0.mk ho
 obtain ⟨Af, cf, ef⟩ := Kd.R_slice ho
 subst ef
 clear ho hb
 refine hK.out _ _ trivial (fun hHeld => ?_)
 clear hK K
 refine norm_ (a' := ?_) ?_ ?_
 rotate_left
 ·show Act.put _ (some 13) _ = _
  simp only [Act.put, List.setIfInBounds_toArray, List.set_cons_zero, List.set_cons_succ, i64_w, i32_w]
  rfl
 refine one_ (i := 4) (N := some 17) #[true, true, true, true, true, false, false, false, false, false] rfl rfl (one_of HT_.out (by kernel_rfl)) (by decide) (fun K hK => ?_)
 refine goes_ Tryz.func71 (by kernel_rfl) rfl #[.slice Af wd.length cf, .string (a0.extract n a0.size)] (by rfl) rfl rfl (by (try simp only [List.map_toArray, List.map_cons, List.map_nil]); first | done | rfl) ?_
 (with_reducible refine (recur_word.calls k Af cf wd _ q1 q2 _ (Kd.R_reads' O5.out).2.2 (Kd.R_reads' O5.out).2.1 HQ.out).mono ?_)
 rintro e w6 ⟨rfl, hb⟩
 refine ⟨_, rfl, ?_⟩
 have HB2 := Aside0.mk (below_then HB1.out HB1.out.size hb); have BK2 := Aside0.mk (blk_below BK1.out hb)
 clear hb
 refine hK.out _ _ trivial (fun hHeld => ?_)
 clear hK K
 refine norm_ (a' := ?_) ?_ ?_
 rotate_left
 ·show Act.put _ (some 17) _ = _
  simp only [Act.put, List.setIfInBounds_toArray, List.set_cons_zero, List.set_cons_succ, i64_w, i32_w]
  rfl
 refine pure_ (i := 5) (N := some 12) (v := ?_) (a' := ?_) #[true, true, true, true, true, true, false, false, false, false] rfl rfl (any_of HT_.out (by kernel_rfl)) (fun _ _ _ h => h) (Or.inl ⟨by rfl, ?_⟩) ?_ ?_
 rotate_left
 ·intro w'
  go_simp
  with_reducible rfl
 rotate_left
 ·simp only [Act.put, List.setIfInBounds_toArray, List.set_cons_zero, List.set_cons_succ, i64_w, i32_w]
  rfl
 refine pure_ (i := 6) (N := some 18) (v := ?_) (a' := ?_) #[true, true, true, true, true, true, true, false, false, false] rfl rfl (any_of HT_.out (by kernel_rfl)) (fun _ _ _ h => h) (Or.inl ⟨by rfl, ?_⟩) ?_ ?_
 rotate_left
 ·intro w'
  go_simp
  with_reducible rfl
 rotate_left
 ·simp only [Act.put, List.setIfInBounds_toArray, List.set_cons_zero, List.set_cons_succ, i64_w, i32_w]
  rfl
 refine pure_ (i := 7) (N := some 19) (v := ?_) (a' := ?_) #[true, true, true, true, true, true, true, true, false, false] rfl rfl (any_of HT_.out (by kernel_rfl)) (fun _ _ _ h => h) (Or.inl ⟨by rfl, ?_⟩) ?_ ?_
 rotate_left
 ·intro w'
  go_simp
  with_reducible rfl
 rotate_left
 ·simp only [Act.put, List.setIfInBounds_toArray, List.set_cons_zero, List.set_cons_succ, i64_w, i32_w]
  rfl
 refine pure_ (i := 8) (N := some 5) (v := ?_) (a' := ?_) #[true, true, true, true, true, true, true, true, true, false] rfl rfl (any_of HT_.out (by kernel_rfl)) (fun _ _ _ h => h) (Or.inl ⟨by rfl, ?_⟩) ?_ ?_
 rotate_left
 ·intro w'
  go_simp
  with_reducible rfl
 rotate_left
 ·simp only [Act.put, List.setIfInBounds_toArray, List.set_cons_zero, List.set_cons_succ, i64_w, i32_w]
  rfl
 refine pure_ (i := 9) (N := some 6) (v := ?_) (a' := ?_) #[true, true, true, true, true, true, true, true, true, true] rfl rfl (any_of HT_.out (by kernel_rfl)) (fun _ _ _ h => h) (Or.inl ⟨by rfl, ?_⟩) ?_ ?_
 rotate_left
 ·intro w'
  go_simp
  with_reducible rfl
 rotate_left
 ·simp only [Act.put, List.setIfInBounds_toArray, List.set_cons_zero, List.set_cons_succ, i64_w, i32_w]
  rfl
 refine done_ (done_of HT_.out (by kernel_rfl)) ?_
 clear HT_ HW_ O5 HB0 HB1 BK0 BK1 hHeld HQ WD
 have h := H'.out
 clear H'
 by_cases d0 : n = 0
 ·rw [if_pos d0] at h
  simp only [Option.some.injEq, Prod.mk.injEq] at h
  obtain ⟨rfl, rfl, rfl⟩ := h
  subst d0
  as_aux_lemma =>
   go_wp2_with (first | ((with_reducible refine gate_store (t := 38) (p := 2) rfl ?_); refine store_whole (y := .tmp 27) ?hg (t := 38) (p := 2) ?ho ?hn gb #[.int .i64 0, .int .i64 q1] ?hx ?hy BK2.out ?hs bd_info ?h1 ?_; (case hs => rfl); (case h1 => simp [Value.oneCell']); (case hg => rfl); (case ho => rfl); (case hn => rfl); (case hx => rfl); (case hy => first | rfl | (go_simp; done) | (go_simp; rfl)); intro w9 h1 h2 h3; have HB9 := Aside0.mk (h3 _ _ HGE.out HB2.out); have BK9 := Aside0.mk h1; clear h1 h2 h3))
   refine bodyPost_ret (results_ct rfl _ _ gb 38 #[.int .i64 0, .int .i64 q1] (0, 0) _ rfl (by exact BK9.out) Tryz.underlying38 rfl (by kernel_rfl)) rfl ?_; exact ⟨by first | rfl | simp, HB9.out⟩
 ·rw [if_neg d0] at h
  have d1 : ((n : Int) == 0) = false := beq_eq_false_iff_ne.mpr (by omega)
  have d2 : ((n : Int) = 0) = False := eq_false (by omega)
  have d3 : (n = 0) = False := eq_false d0
  cases q2 with
  | false =>
   rw [if_neg Bool.false_ne_true] at h
   simp only [Option.some.injEq, Prod.mk.injEq] at h
   obtain ⟨rfl, rfl, rfl⟩ := h
   clear d0
   as_aux_lemma =>
    go_wp2_with (first | ((with_reducible refine gate_store (t := 38) (p := 2) rfl ?_); refine store_whole (y := .tmp 27) ?hg (t := 38) (p := 2) ?ho ?hn gb #[.int .i64 0, .int .i64 q1] ?hx ?hy BK2.out ?hs bd_info ?h1 ?_; (case hs => rfl); (case h1 => simp [Value.oneCell']); (case hg => rfl); (case ho => rfl); (case hn => rfl); (case hx => rfl); (case hy => first | rfl | (go_simp; done) | (go_simp; rfl)); intro w9 h1 h2 h3; have HB9 := Aside0.mk (h3 _ _ HGE.out HB2.out); have BK9 := Aside0.mk h1; clear h1 h2 h3))
    refine bodyPost_ret (results_ct rfl _ _ gb 38 #[.int .i64 0, .int .i64 q1] (0, 0) _ rfl (by exact BK9.out) Tryz.underlying38 rfl (by kernel_rfl)) rfl ?_; exact ⟨by first | rfl | simp, HB9.out⟩
  | true =>
   rw [if_pos rfl] at h
   obtain ⟨⟨s1, s2⟩, ht2, h⟩ := Option.bind_eq_some_iff.1 h
   have HT2 := Aside0.mk ht2
   simp only [Option.some.injEq, Prod.mk.injEq] at h
   obtain ⟨rfl, rfl, rfl⟩ := h
   clear ht2 d0
   cases s2 with
   | false =>
    as_aux_lemma =>
     go_wp2_with (first | (go_at_call 72; (refine (recur_number.calls k (a0.extract 0 n) true s1 _ _ HT2.out).mono ?_); rintro e w8 ⟨rfl, hd⟩; have hb := hd.below; clear hd; have HB3 := Aside0.mk (below_then HB2.out HB2.out.size hb); have BK3 := Aside0.mk (blk_below BK2.out hb); clear hb) | ((with_reducible refine gate_store (t := 38) (p := 2) rfl ?_); refine store_whole (y := .tmp 38) ?hg (t := 38) (p := 2) ?ho ?hn gb #[.int .i64 s1, .int .i64 q1] ?hx ?hy BK3.out ?hs bd_info ?h1 ?_; (case hs => rfl); (case h1 => simp [Value.oneCell']); (case hg => rfl); (case ho => rfl); (case hn => rfl); (case hx => rfl); (case hy => first | rfl | (go_simp; done) | (go_simp; rfl)); intro w9 h1 h2 h3; have HB9 := Aside0.mk (h3 _ _ HGE.out HB3.out); have BK9 := Aside0.mk h1; clear h1 h2 h3))
     refine bodyPost_ret (results_ct rfl _ _ gb 38 #[.int .i64 s1, .int .i64 q1] (0, 0) _ rfl (by exact BK9.out) Tryz.underlying38 rfl (by kernel_rfl)) rfl ?_; exact ⟨by first | rfl | simp, HB9.out⟩
   | true =>
    as_aux_lemma =>
     go_wp2_with (first | (go_at_call 72; (refine (recur_number.calls k (a0.extract 0 n) true s1 _ _ HT2.out).mono ?_); rintro e w8 ⟨rfl, hd⟩; have hb := hd.below; clear hd; have HB3 := Aside0.mk (below_then HB2.out HB2.out.size hb); have BK3 := Aside0.mk (blk_below BK2.out hb); clear hb) | ((with_reducible refine gate_store (t := 38) (p := 2) rfl ?_); refine store_whole (y := .tmp 38) ?hg (t := 38) (p := 2) ?ho ?hn gb #[.int .i64 s1, .int .i64 q1] ?hx ?hy BK3.out ?hs bd_info ?h1 ?_; (case hs => rfl); (case h1 => simp [Value.oneCell']); (case hg => rfl); (case ho => rfl); (case hn => rfl); (case hx => rfl); (case hy => first | rfl | (go_simp; done) | (go_simp; rfl)); intro w9 h1 h2 h3; have HB9 := Aside0.mk (h3 _ _ HGE.out HB3.out); have BK9 := Aside0.mk h1; clear h1 h2 h3))
     refine bodyPost_ret (results_ct rfl _ _ gb 38 #[.int .i64 s1, .int .i64 q1] (0, 0) _ rfl (by exact BK9.out) Tryz.underlying38 rfl (by kernel_rfl)) rfl ?_; exact ⟨by first | rfl | simp, HB9.out⟩
end Go.Proofs.YtjanombhdnoemaaGreatDoor.PRec
