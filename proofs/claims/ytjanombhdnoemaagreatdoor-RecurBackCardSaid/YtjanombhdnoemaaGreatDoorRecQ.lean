-- A text of the kit's tools for this claim, its remarks left out.
import Derived.Test.YtjanombhdnoemaaGreatDoorRecE
import Derived.Test.YtjanombhdnoemaaGreatDoorRecL
import Derived.Test.YtjanombhdnoemaaGreatDoorRecF
import Derived.Test.YtjanombhdnoemaaGreatDoorRecP
import Derived.Test.YtjanombhdnoemaaGreatDoorRecV
import Derived.Test.YtjanombhdnoemaaGreatDoorPRecx7
import Derived.Deep.MidRow
namespace Go.Proofs.YtjanombhdnoemaaGreatDoor.PRec
open Go.RowKit Go.Proofs.YtjanombhdnoemaaGreatDoorW.PrintWords Go.Proofs.YtjanombhdnoemaaGreatDoorW.PrintLast Go.Proofs.YtjanombhdnoemaaGreatDoorW.PrintMore Go.Proofs.YtjanombhdnoemaaGreatDoor.Base
attribute [local go_sem] max2_int min2_int max_two min_two max_three min_three max_four min_four
set_option linter.unusedVariables false
set_option linter.unusedSimpArgs false
structure RV where
  n : Nat → Int
  u : Bool
  t : Int
  z : Bool
  d : List S38
  l : Nat → List Int
def RV.zero : RV := ⟨fun _ => 0, false, 0, false, [], fun _ => []⟩
def RV.one : RV := ⟨fun c => if c = 1 then 1 else if c = 15 then 1 else 0, false, 0, false, [], fun _ => []⟩
def RV.upd (x : RV) : Upd → RV
  | .no => x
  | .lst c l => { x with l := fun n => if n = c then l else x.l n }
  | .num c i => { x with n := fun n => if n = c then i else x.n n }
  | .til t b => { x with u := true, t := t, z := b }
  | .dys l => { x with d := l }
def RV.flat (x : RV) (e : Int) : Int × Int × Int × Bool × Int × Bool × (List Int) × (List Int) × (List Int) × (List (S38)) × (List Int) × (List Int) × (List Int) × (List Int) × (List Int) × Int × Int := (x.n 0, x.n 1, x.n 2, x.u, x.t, x.z, (x.l 6), (x.l 7), (x.l 8), x.d, (x.l 10), (x.l 11), (x.l 12), (x.l 13), (x.l 14), x.n 15, e)
def pa_end (k : Nat) (x : RV) (y : List ByteArray) : Option (RV × Int) := (recur_twice_string.f k y).bind fun t => if t = true then some (RV.zero, (21 : Int)) else ((recur_Check.f k (x.n 0) (x.n 1) (x.n 2) x.u x.t x.z (x.l 6) (x.l 7) (x.l 8) x.d (x.l 10) (x.l 11) (x.l 12) (x.l 13) (x.l 14) (x.n 15)).bind fun e => if e = 0 then some (x, (0 : Int)) else some (RV.zero, (21 : Int)))
def recur_Parse.l0 : Nat → List ByteArray → RV → List ByteArray → Int → Option (RV × Int)
 | 0, _, _, _, _ => none
 | k + 1, x0, x, y, i => if i < (x0.length : Int) then (if 0 ≤ i then ((strings_Cut.f (rdOf ByteArray.empty x0 i) (⟨#[61]⟩ : ByteArray)).bind fun t => (if t.2.2 = true then ((recur_part.f k t.1 t.2.1).bind fun t2 => (if t2.1 = true then ((recur_large.f t.1).bind fun t3 => (if y.length < 8796093022208 then recur_Parse.l0 k x0 (x.upd t2.2) (y ++ [t3]) (wrap64 (i + 1)) else none)) else some (RV.zero, (21 : Int)))) else some (RV.zero, (21 : Int)))) else none) else pa_end k x y
def recur_Parse.f (k : Nat) (a0 : ByteArray) : Option (Int × Int × Int × Bool × Int × Bool × (List Int) × (List Int) × (List Int) × (List (S38)) × (List Int) × (List Int) × (List Int) × (List Int) × (List Int) × Int × Int) := (strings_Split.f a0 (⟨#[59]⟩ : ByteArray)).bind fun t => (recur_Parse.l0 k t RV.one ([] : List ByteArray) 0).bind fun p => some (p.1.flat p.2)
theorem pa_end.mono : ∀ x y k, LeO (pa_end k x y) (pa_end (k + 1) x y) := by
  intro x y k
  unfold pa_end
  exact LeO.bind (recur_twice_string.mono _ _) (fun _ => LeO.ite (LeO.refl _) (LeO.bind (recur_Check.mono _ _ _ _ _ _ _ _ _ _ _ _ _ _ _ _ _) (fun _ => LeO.refl _)))
theorem recur_Parse.mono_l : ∀ k, (∀ y0 y1 y2 y3, LeO (recur_Parse.l0 k y0 y1 y2 y3) (recur_Parse.l0 (k + 1) y0 y1 y2 y3))
  | 0 => fun _ _ _ _ r h => by simp [recur_Parse.l0] at h
  | k + 1 => by
    have ih0 := recur_Parse.mono_l k
    intro y0 y1 y2 y3
    unfold recur_Parse.l0
    repeat' first | (with_reducible first | exact ih0 _ _ _ _ | exact pa_end.mono _ _ _ | exact recur_part.mono _ _ _ | exact LeO.refl _ | exact LeO.none _ | refine LeO.ite ?_ ?_ | refine LeO.bind ?_ (fun _ => ?_))
theorem recur_Parse.mono : ∀ a0 k, LeO (recur_Parse.f k a0) (recur_Parse.f (k + 1) a0) := by
  intro a0 k
  unfold recur_Parse.f
  exact LeO.bind (LeO.refl _) (fun _ => LeO.bind (recur_Parse.mono_l k _ _ _ _) (fun _ => LeO.refl _))
def rvCells (x : RV) (v : Nat → Value) (vd : Value) : Array Value := #[Value.int .i64 (x.n 0), Value.int .i64 (x.n 1), Value.int .i64 (x.n 2), Value.bool x.u, Value.int .i64 x.t, Value.bool x.z, v 6, v 7, v 8, vd, v 10, v 11, v 12, v 13, v 14, Value.int .i64 (x.n 15)]
structure RecAt (B : Nat) (w : World) (g : Nat) (x : RV) (v : Nat → Value) (vd : Value) : Prop where
  b : w.heap[g]? = some (.cells (rvCells x v vd) 25 (0, 0))
  l : ∀ c, Kd.R (Kd.int .i64) 3 w B (fun _ => True) (v c) (x.l c)
  d : Kd.R k38 38 w B (fun _ => True) vd x.d
  a : ∀ c c' k, c ≠ c' → (v c).ownBlock = some k → (v c').ownBlock ≠ some k
section
variable {B g : Nat} {w w1 : World} {x : RV} {v : Nat → Value} {vd : Value}
theorem RecAt.below (h : RecAt B w g x v vd) (hb : Below w.heap.size w w1) : RecAt B w1 g x v vd := ⟨blk_below h.b hb, fun c => Kd.R_below (h.l c) hb, Kd.R_below h.d hb, h.a⟩
theorem RecAt.grown {M : Nat} {ok : Nat → Prop} {vm : Value} {ys : List ByteArray} (h : RecAt B w g x v vd) (hv : Kd.R Kd.string 9 w M ok vm ys) (hg : w.grownBy w1 vm.ownBlock) : RecAt B w1 g x v vd :=
  ⟨blk_grown h.b hg (Kd.R_ne hv h.b (by decide)), fun c => Kd.R_over (h.l c) hv (by decide) hg, Kd.R_over h.d hv (by decide) hg, h.a⟩
theorem RecAt.set (h : RecAt B w g x v vd) (i : Nat) (u : Value) {x' : RV} (he : (rvCells x v vd).setIfInBounds i u = rvCells x' v vd) (hl : x'.l = x.l) (hd : x'.d = x.d) : RecAt B (w.setCell ⟨g, i, none⟩ u) g x' v vd :=
  ⟨blk_put h.b i u he, fun c => by rw [hl]; exact Kd.R_set (h.l c) h.b (by decide) i u, by rw [hd]; exact Kd.R_set h.d h.b (by decide) i u, h.a⟩
theorem RecAt.part {u : Upd} (h : RecAt B w g x v vd) (hp : PartW g w w1 u) (hB : B ≤ w.heap.size) : ∃ v' vd', RecAt B w1 g (x.upd u) v' vd' := by
  cases u with
  | no => exact ⟨v, vd, h.below hp⟩
  | lst c l =>
    obtain ⟨W, vn, hc, hb, hr, rfl⟩ := hp
    have h1 := h.below hb
    refine ⟨fun n => if n = c then vn else v n, vd, ⟨blk_put h1.b c vn ?_, fun c' => ?_, Kd.R_set h1.d h1.b (by decide) c vn, fun c1 c2 k hne h2 h3 => ?_⟩⟩
    · simp only [ptC, List.mem_cons, List.not_mem_nil, or_false] at hc
      rcases hc with rfl | rfl | rfl | rfl | rfl | rfl | rfl | rfl <;> rfl
    · by_cases e : c' = c
      · subst e
        simp only [RV.upd, if_pos]
        exact Kd.R_set (Kd.R_lower hr hB) h1.b (by decide) _ vn
      · simp only [RV.upd, if_neg e]
        exact Kd.R_set (h1.l c') h1.b (by decide) c vn
    · by_cases e1 : c1 = c
      · subst e1
        rw [if_pos rfl] at h2
        rw [if_neg (Ne.symm hne)] at h3
        have h4 := Kd.R_base hr k h2
        have h5 := Kd.R_lt (h.l c2) k h3
        omega
      · rw [if_neg e1] at h2
        by_cases e2 : c2 = c
        · subst e2
          rw [if_pos rfl] at h3
          have h4 := Kd.R_base hr k h3
          have h5 := Kd.R_lt (h.l c1) k h2
          omega
        · rw [if_neg e2] at h3
          exact h.a c1 c2 k hne h2 h3
  | num c n =>
    obtain ⟨W, hc, hb, rfl⟩ := hp
    refine ⟨v, vd, (h.below hb).set c _ ?_ rfl rfl⟩
    simp only [List.mem_cons, List.not_mem_nil, or_false] at hc
    rcases hc with rfl | rfl | rfl | rfl <;> rfl
  | til t b =>
    obtain ⟨W, hb, rfl⟩ := hp
    exact ⟨v, vd, (((h.below hb).set 4 (.int .i64 t) (x' := ⟨x.n, x.u, t, x.z, x.d, x.l⟩) rfl rfl rfl).set 5 (.bool b) (x' := ⟨x.n, x.u, t, b, x.d, x.l⟩) rfl rfl rfl).set 3 (.bool true) (x' := ⟨x.n, true, t, b, x.d, x.l⟩) rfl rfl rfl⟩
  | dys l =>
    obtain ⟨W, vn, hb, hr, rfl⟩ := hp
    have h1 := h.below hb
    exact ⟨v, vn, ⟨blk_put h1.b 9 vn rfl, fun c => Kd.R_set (h1.l c) h1.b (by decide) 9 vn, Kd.R_set (Kd.R_lower hr hB) h1.b (by decide) 9 vn, h1.a⟩⟩
theorem PartW.below {u : Upd} {w0 : World} (hp : PartW g w w1 u) (hB : Below w0.heap.size w0 w) (hg : w0.heap.size ≤ g) : Below w0.heap.size w0 w1 := by
  cases u with
  | no => exact below_then hB hB.size hp
  | lst c l =>
    obtain ⟨W, vn, -, hb, -, rfl⟩ := hp
    exact below_set (below_then hB hB.size hb) hg
  | num c n =>
    obtain ⟨W, -, hb, rfl⟩ := hp
    exact below_set (below_then hB hB.size hb) hg
  | til t b =>
    obtain ⟨W, hb, rfl⟩ := hp
    exact below_set (below_set (below_set (below_then hB hB.size hb) hg) hg) hg
  | dys l =>
    obtain ⟨W, vn, hb, -, rfl⟩ := hp
    exact below_set (below_then hB hB.size hb) hg
theorem PartW.keep {u : Upd} (hp : PartW g w w1 u) : KeepBut w w1 g none := by
  cases u with
  | no => exact KeepBut.of_below hp g none
  | lst c l =>
    obtain ⟨W, vn, -, hb, -, rfl⟩ := hp
    exact (KeepBut.of_below hb g none).set_ _ _
  | num c n =>
    obtain ⟨W, -, hb, rfl⟩ := hp
    exact (KeepBut.of_below hb g none).set_ _ _
  | til t b =>
    obtain ⟨W, hb, rfl⟩ := hp
    exact (((KeepBut.of_below hb g none).set_ _ _).set_ _ _).set_ _ _
  | dys l =>
    obtain ⟨W, vn, hb, -, rfl⟩ := hp
    exact (KeepBut.of_below hb g none).set_ _ _
end
theorem R_apart_int {w : World} {B : Nat} {v : Value} {xs : List Int} {ok : Nat → Prop} (h : Kd.R (Kd.int .i64) 3 w B (fun _ => True) v xs) (ho : ∀ k, v.ownBlock = some k → ok k) : Kd.R (Kd.int .i64) 3 w B ok v xs := ⟨ho, h.2.imp_ (fun _ _ hp => hp)⟩
theorem blk_partw {w w1 : World} {g b : Nat} {u : Upd} {ob : Obj} (h : w.heap[b]? = some ob) (hp : PartW g w w1 u) (hne : b ≠ g) : w1.heap[b]? = some ob := hp.keep.blk h hne (by simp)
theorem R_partw {α : Type} {d : Kd α} {e B : Nat} {w w1 : World} {g : Nat} {u : Upd} {ok : Nat → Prop} {v : Value} {xs : List α} {cells : Array Value} (h : d.R e w B ok v xs) (hp : PartW g w w1 u) (hb : w.heap[g]? = some (.cells cells 25 (0, 0))) (ht : ∀ q, q ∈ e :: d.E → q ≠ 25) : d.R e w1 B ok v xs :=
  Kd.R_mono (Kd.R_keep (Kd.R_types h hb ht) hp.keep (fun k hk => hk.2)) (fun k hk => hk.1)
theorem pa_info : (Tryz.prog.info? 25).map (·.size) = some 16 := by kernel_rfl
theorem z_cells {w : World} {b : Nat} (h : w.heap[b]? = some (.cells #[Value.int .i64 0, Value.int .i64 0, Value.int .i64 0, Value.bool false, Value.int .i64 0, Value.bool false, Value.slice none 0 0, Value.slice none 0 0, Value.slice none 0 0, Value.slice none 0 0, Value.slice none 0 0, Value.slice none 0 0, Value.slice none 0 0, Value.slice none 0 0, Value.slice none 0 0, Value.int .i64 0] 25 (0, 0))) : w.cell? ⟨b, 0, none⟩ = some (Value.int .i64 0) ∧ w.cell? ⟨b, 1, none⟩ = some (Value.int .i64 0) ∧ w.cell? ⟨b, 2, none⟩ = some (Value.int .i64 0) ∧ w.cell? ⟨b, 3, none⟩ = some (Value.bool false) ∧ w.cell? ⟨b, 4, none⟩ = some (Value.int .i64 0) ∧ w.cell? ⟨b, 5, none⟩ = some (Value.bool false) ∧ w.cell? ⟨b, 6, none⟩ = some (Value.slice none 0 0) ∧ w.cell? ⟨b, 7, none⟩ = some (Value.slice none 0 0) ∧ w.cell? ⟨b, 8, none⟩ = some (Value.slice none 0 0) ∧ w.cell? ⟨b, 9, none⟩ = some (Value.slice none 0 0) ∧ w.cell? ⟨b, 10, none⟩ = some (Value.slice none 0 0) ∧ w.cell? ⟨b, 11, none⟩ = some (Value.slice none 0 0) ∧ w.cell? ⟨b, 12, none⟩ = some (Value.slice none 0 0) ∧ w.cell? ⟨b, 13, none⟩ = some (Value.slice none 0 0) ∧ w.cell? ⟨b, 14, none⟩ = some (Value.slice none 0 0) ∧ w.cell? ⟨b, 15, none⟩ = some (Value.int .i64 0) := ⟨(blk_cell h 0).trans rfl, (blk_cell h 1).trans rfl, (blk_cell h 2).trans rfl, (blk_cell h 3).trans rfl, (blk_cell h 4).trans rfl, (blk_cell h 5).trans rfl, (blk_cell h 6).trans rfl, (blk_cell h 7).trans rfl, (blk_cell h 8).trans rfl, (blk_cell h 9).trans rfl, (blk_cell h 10).trans rfl, (blk_cell h 11).trans rfl, (blk_cell h 12).trans rfl, (blk_cell h 13).trans rfl, (blk_cell h 14).trans rfl, (blk_cell h 15).trans rfl⟩
theorem RecAt.far {B g rb : Nat} {w w1 : World} {x : RV} {v : Nat → Value} {vd : Value} {cs : Array Value} (h : RecAt B w g x v vd) (hk : ∀ k, k ≠ rb → w1.heap[k]? = w.heap[k]?) (hne : rb ≠ g) (hb : w.heap[rb]? = some (.cells cs 25 (0, 0))) : RecAt B w1 g x v vd :=
  ⟨(hk g (Ne.symm hne)).trans h.b, fun c => Kd.R_mono (Kd.R_move (Kd.R_types (h.l c) hb (by decide)) (fun k hq => hk k hq.2)) (fun _ hq => hq.1), Kd.R_mono (Kd.R_move (Kd.R_types h.d hb (by decide)) (fun k hq => hk k hq.2)) (fun _ hq => hq.1), h.a⟩
set_option maxHeartbeats 16000000 in
set_option maxRecDepth 100000 in
theorem recur_Parse.calls (k : Nat) (a0 : ByteArray) (r1 : Int) (r2 : Int) (r3 : Int) (r4 : Bool) (r5 : Int) (r6 : Bool) (r7 : List Int) (r8 : List Int) (r9 : List Int) (r10 : List (S38)) (r11 : List Int) (r12 : List Int) (r13 : List Int) (r14 : List Int) (r15 : List Int) (r16 : Int) (r17 : Int) (w : World) (hG : GP w) (h : recur_Parse.f k a0 = some (r1, r2, r3, r4, r5, r6, r7, r8, r9, r10, r11, r12, r13, r14, r15, r16, r17)) :
  Calls Tryz.prog 12 #[.string a0] w fun e w' => ∃ v6_ v7_ v8_ v9_ v10_ v11_ v12_ v13_ v14_ : Value, e = .returned (.tuple #[.agg #[.int .i64 r1, .int .i64 r2, .int .i64 r3, .bool r4, .int .i64 r5, .bool r6, v6_, v7_, v8_, v9_, v10_, v11_, v12_, v13_, v14_, .int .i64 r16], .int .i64 r17]) ∧ Kd.R (Kd.int .i64) 3 w' w.heap.size (fun k_ => some k_ ≠ (v7_ : Value).ownBlock ∧ some k_ ≠ (v8_ : Value).ownBlock ∧ some k_ ≠ (v10_ : Value).ownBlock ∧ some k_ ≠ (v11_ : Value).ownBlock ∧ some k_ ≠ (v12_ : Value).ownBlock ∧ some k_ ≠ (v13_ : Value).ownBlock ∧ some k_ ≠ (v14_ : Value).ownBlock) v6_ r7 ∧ Kd.R (Kd.int .i64) 3 w' w.heap.size (fun k_ => some k_ ≠ (v6_ : Value).ownBlock ∧ some k_ ≠ (v8_ : Value).ownBlock ∧ some k_ ≠ (v10_ : Value).ownBlock ∧ some k_ ≠ (v11_ : Value).ownBlock ∧ some k_ ≠ (v12_ : Value).ownBlock ∧ some k_ ≠ (v13_ : Value).ownBlock ∧ some k_ ≠ (v14_ : Value).ownBlock) v7_ r8 ∧ Kd.R (Kd.int .i64) 3 w' w.heap.size (fun k_ => some k_ ≠ (v6_ : Value).ownBlock ∧ some k_ ≠ (v7_ : Value).ownBlock ∧ some k_ ≠ (v10_ : Value).ownBlock ∧ some k_ ≠ (v11_ : Value).ownBlock ∧ some k_ ≠ (v12_ : Value).ownBlock ∧ some k_ ≠ (v13_ : Value).ownBlock ∧ some k_ ≠ (v14_ : Value).ownBlock) v8_ r9 ∧ Kd.R k38 38 w' w.heap.size (fun _ => True) v9_ r10 ∧ Kd.R (Kd.int .i64) 3 w' w.heap.size (fun k_ => some k_ ≠ (v6_ : Value).ownBlock ∧ some k_ ≠ (v7_ : Value).ownBlock ∧ some k_ ≠ (v8_ : Value).ownBlock ∧ some k_ ≠ (v11_ : Value).ownBlock ∧ some k_ ≠ (v12_ : Value).ownBlock ∧ some k_ ≠ (v13_ : Value).ownBlock ∧ some k_ ≠ (v14_ : Value).ownBlock) v10_ r11 ∧ Kd.R (Kd.int .i64) 3 w' w.heap.size (fun k_ => some k_ ≠ (v6_ : Value).ownBlock ∧ some k_ ≠ (v7_ : Value).ownBlock ∧ some k_ ≠ (v8_ : Value).ownBlock ∧ some k_ ≠ (v10_ : Value).ownBlock ∧ some k_ ≠ (v12_ : Value).ownBlock ∧ some k_ ≠ (v13_ : Value).ownBlock ∧ some k_ ≠ (v14_ : Value).ownBlock) v11_ r12 ∧ Kd.R (Kd.int .i64) 3 w' w.heap.size (fun k_ => some k_ ≠ (v6_ : Value).ownBlock ∧ some k_ ≠ (v7_ : Value).ownBlock ∧ some k_ ≠ (v8_ : Value).ownBlock ∧ some k_ ≠ (v10_ : Value).ownBlock ∧ some k_ ≠ (v11_ : Value).ownBlock ∧ some k_ ≠ (v13_ : Value).ownBlock ∧ some k_ ≠ (v14_ : Value).ownBlock) v12_ r13 ∧ Kd.R (Kd.int .i64) 3 w' w.heap.size (fun k_ => some k_ ≠ (v6_ : Value).ownBlock ∧ some k_ ≠ (v7_ : Value).ownBlock ∧ some k_ ≠ (v8_ : Value).ownBlock ∧ some k_ ≠ (v10_ : Value).ownBlock ∧ some k_ ≠ (v11_ : Value).ownBlock ∧ some k_ ≠ (v12_ : Value).ownBlock ∧ some k_ ≠ (v14_ : Value).ownBlock) v13_ r14 ∧ Kd.R (Kd.int .i64) 3 w' w.heap.size (fun k_ => some k_ ≠ (v6_ : Value).ownBlock ∧ some k_ ≠ (v7_ : Value).ownBlock ∧ some k_ ≠ (v8_ : Value).ownBlock ∧ some k_ ≠ (v10_ : Value).ownBlock ∧ some k_ ≠ (v11_ : Value).ownBlock ∧ some k_ ≠ (v12_ : Value).ownBlock ∧ some k_ ≠ (v13_ : Value).ownBlock) v14_ r15 ∧ Below w.heap.size w w' := by
  have HG := Aside0.mk hG
  have hu25 := Tryz.underlying25
  clear hG
  unfold recur_Parse.f at h
  obtain ⟨ps, hps, h⟩ := Option.bind_eq_some_iff.1 h
  have HP := Aside0.mk hps
  obtain ⟨⟨x9, e9⟩, hl0, h⟩ := Option.bind_eq_some_iff.1 h
  have H' := Aside0.mk hl0
  have HE9 := Aside0.mk (Option.some.inj h)
  clear hps hl0 h
  go_enter Tryz.func12, Tryz.ntmps12
  go_wp2_with (first | ((with_reducible refine gate_dst (N := 2) rfl ?_); refine box_event ?hg (N := 2) ?hd (cs := #[Value.int .i64 0, Value.int .i64 0, Value.int .i64 0, Value.bool false, Value.int .i64 0, Value.bool false, Value.slice none 0 0, Value.slice none 0 0, Value.slice none 0 0, Value.slice none 0 0, Value.slice none 0 0, Value.slice none 0 0, Value.slice none 0 0, Value.slice none 0 0, Value.slice none 0 0, Value.int .i64 0]) (t := 25) ?hr ?_; (case hd => rfl); (case hg => rfl); (case hr => first | (go_simp; done) | (go_simp; rfl)); intro rb hrb w1 hbox hb; have HB1 := Aside0.mk hb; have RB1 := Aside0.mk hbox; have HRB := Aside0.mk (show w.heap.size ≤ rb by rw [hrb]; exact Nat.le_refl _); clear hb hbox hrb) | ((with_reducible refine gate_dst (N := 4) rfl ?_); refine box_event ?hg (N := 4) ?hd (cs := #[Value.int .i64 0, Value.int .i64 0, Value.int .i64 0, Value.bool false, Value.int .i64 0, Value.bool false, Value.slice none 0 0, Value.slice none 0 0, Value.slice none 0 0, Value.slice none 0 0, Value.slice none 0 0, Value.slice none 0 0, Value.slice none 0 0, Value.slice none 0 0, Value.slice none 0 0, Value.int .i64 0]) (t := 25) ?hr ?_; (case hd => rfl); (case hg => rfl); (case hr => first | (go_simp; done) | (go_simp; rfl)); intro g hgg w2 hbox hb; have HB2 := Aside0.mk (below_then HB1.out HB1.out.size hb); have GB2 := Aside0.mk hbox; have RB2 := Aside0.mk (blk_below RB1.out hb); have HGB := Aside0.mk (show w.heap.size ≤ g ∧ rb ≠ g by have h1 := HB1.out.size; have h2 := blk_lt RB1.out; omega); clear hb hbox hgg) | ((with_reducible refine gate_store (t := 25) (p := 4) rfl ?_); refine store_whole (y := .tmp 11) ?hg (t := 25) (p := 4) ?ho ?hn g #[Value.int .i64 0, Value.int .i64 1, Value.int .i64 0, Value.bool false, Value.int .i64 0, Value.bool false, Value.slice none 0 0, Value.slice none 0 0, Value.slice none 0 0, Value.slice none 0 0, Value.slice none 0 0, Value.slice none 0 0, Value.slice none 0 0, Value.slice none 0 0, Value.slice none 0 0, Value.int .i64 1] ?hx ?hy GB2.out ?hs pa_info ?h1 ?_; (case hs => rfl); (case h1 => simp [Value.oneCell']); (case hg => rfl); (case ho => rfl); (case hn => rfl); (case hx => rfl); (case hy => first | rfl | (go_simp; done) | (go_simp; rfl)); intro w3 h1 h2 h3; have GB3 := Aside0.mk h1; have RB3 := Aside0.mk ((h2 rb HGB.out.2).trans RB2.out); have HB3 := Aside0.mk (h3 _ _ HGB.out.1 HB2.out); clear h1 h2 h3) | (go_at_call 32; (refine (strings_Split.calls a0 (⟨#[59]⟩ : ByteArray) ps _ (GP_below HG.out HB3.out) HP.out).mono ?_); rintro e w4 ⟨v4, rfl, ho, hb⟩; have HB4 := Aside0.mk (below_then HB3.out HB3.out.size hb); have RB4 := Aside0.mk (blk_below RB3.out hb); have GB4 := Aside0.mk (blk_below GB3.out hb); have HPS := Aside0.mk (Kd.R_lower ho HB3.out.size); obtain ⟨Ap, cp, ep⟩ := Kd.R_slice ho; subst ep; clear hb ho))
  clear HB1 HB2 HB3 RB1 RB2 RB3 GB2 GB3 HP
  obtain ⟨M, hM⟩ : ∃ M : Nat, M = w4.heap.size := ⟨_, rfl⟩
  have EM := Aside0.mk hM
  have hMw := Aside0.mk (show w.heap.size ≤ M by rw [hM]; exact HB4.out.size)
  have HR0 := Aside0.mk (show RecAt w.heap.size w4 g RV.one (fun _ => .slice none 0 0) (.slice none 0 0) from ⟨GB4.out, fun _ => Kd.R_nil _ _ _ _ _, Kd.R_nil _ _ _ _ _, fun _ _ _ _ h1 => by simp [Value.ownBlock] at h1⟩)
  clear hM GB4
  go_loopg [5, 15] k (fun kq v5 v15 w' => ∃ (x : RV) (v : Nat → Value) (vd : Value) (y : List ByteArray) (i : Int), v15 = .int .i64 i ∧ Aside0 (recur_Parse.l0 kq ps x y i = some (x9, e9)) ∧ Aside0 (kq ≤ k) ∧ Aside0 (RecAt w.heap.size w' g x v vd) ∧ Aside0 (w'.heap[rb]? = some (.cells #[Value.int .i64 0, Value.int .i64 0, Value.int .i64 0, Value.bool false, Value.int .i64 0, Value.bool false, Value.slice none 0 0, Value.slice none 0 0, Value.slice none 0 0, Value.slice none 0 0, Value.slice none 0 0, Value.slice none 0 0, Value.slice none 0 0, Value.slice none 0 0, Value.slice none 0 0, Value.int .i64 0] 25 (0, 0))) ∧ Aside0 (Kd.R Kd.string 9 w' w.heap.size (fun k => k < M) (.slice Ap ps.length cp) ps) ∧ Aside0 (Kd.R Kd.string 9 w' M (fun _ => True) v5 y) ∧ Aside0 (M ≤ w'.heap.size) ∧ Aside0 (Below w.heap.size w w'))
  case atStart => exact ⟨RV.one, _, _, [], 0, by rfl, H', ⟨Nat.le_refl _⟩, HR0, RB4, ⟨Kd.R_mono (Kd.R_bound HPS.out) (fun k hk => by rw [EM.out]; exact hk.2.2.1)⟩, ⟨Kd.R_nil _ _ _ _ _⟩, ⟨by rw [EM.out]; exact Nat.le_refl _⟩, HB4⟩
  case round =>
    clear H' HR0 RB4 HPS HB4
    obtain ⟨x, v, vd, y, i, rfl, HA, HK1, HR, RBr, HPr, HM, HSZ, HB⟩ := hrel
    cases gk with
    | zero => exact absurd HA.out (by simp [recur_Parse.l0])
    | succ k1 =>
      have H := HA.out
      clear HA
      simp only [recur_Parse.l0] at H
      by_cases c4 : i < (ps.length : Int)
      · rw [if_pos c4] at H
        have c4b0 : decide (i < (ps.length : Int)) = true := decide_eq_true c4
        by_cases c5 : 0 ≤ i
        rotate_left
        · rw [if_neg c5] at H; cases H
        rw [if_pos c5] at H
        have c5b1 : (0 ≤ i) = True := eq_true c5
        have c4b1 : (i < (ps.length : Int)) = True := eq_true c4
        obtain ⟨ad, e0, hx0⟩ := Kd.at_string (Kd.R_reads' HPr.out).2.2 i c5 c4
        cases e0
        generalize rdOf ByteArray.empty ps i = sx at hx0 H
        obtain ⟨⟨s1, s2, s3b⟩, hc, H⟩ := Option.bind_eq_some_iff.1 H
        have HC := Aside0.mk hc
        clear hc c4 c5
        dsimp only at H
        cases s3b with
        | false =>
          rw [if_neg (by decide)] at H
          simp only [Option.some.injEq, Prod.mk.injEq] at H
          obtain ⟨rfl, rfl⟩ := H
          have he := HE9.out
          simp only [RV.flat, RV.zero, Prod.mk.injEq] at he
          obtain ⟨rfl, rfl, rfl, rfl, rfl, rfl, rfl, rfl, rfl, rfl, rfl, rfl, rfl, rfl, rfl, rfl, rfl⟩ := he
          clear HE9
          as_aux_lemma =>
            go_wp2_with (first | (go_at_call 33; (with_reducible refine (strings_Cut.calls sx (⟨#[61]⟩ : ByteArray) s1 s2 _ _ (GP_below HG.out HB.out) HC.out).mono ?_); rintro e w5 ⟨rfl, ⟨nd, rfl⟩⟩) | ((with_reducible refine gate_store (t := 25) (p := 2) rfl ?_); refine store_whole (y := .tmp 33) ?hg (t := 25) (p := 2) ?ho ?hn rb #[Value.int .i64 0, Value.int .i64 0, Value.int .i64 0, Value.bool false, Value.int .i64 0, Value.bool false, Value.slice none 0 0, Value.slice none 0 0, Value.slice none 0 0, Value.slice none 0 0, Value.slice none 0 0, Value.slice none 0 0, Value.slice none 0 0, Value.slice none 0 0, Value.slice none 0 0, Value.int .i64 0] ?hx ?hy (blk_drewN RBr.out nd) ?hs pa_info ?h1 ?_; (case hs => rfl); (case h1 => simp [Value.oneCell']); (case hg => rfl); (case ho => rfl); (case hn => rfl); (case hx => rfl); (case hy => first | rfl | (go_simp; done) | (go_simp; rfl)); intro w9 h1 h2 h3; have HB9 := Aside0.mk (h3 _ _ HRB.out (pw_below_drewN HB.out nd)); obtain ⟨Y0, Y1, Y2, Y3, Y4, Y5, Y6, Y7, Y8, Y9, Y10, Y11, Y12, Y13, Y14, Y15⟩ := z_cells h1; clear h1 h2 h3))
            exact bodyPost_ret (v := .tuple #[.agg #[Value.int .i64 0, Value.int .i64 0, Value.int .i64 0, Value.bool false, Value.int .i64 0, Value.bool false, Value.slice none 0 0, Value.slice none 0 0, Value.slice none 0 0, Value.slice none 0 0, Value.slice none 0 0, Value.slice none 0 0, Value.slice none 0 0, Value.slice none 0 0, Value.slice none 0 0, Value.int .i64 0], .int .i64 21]) (by simp [results, Tryz.results12, go_sem, Y0, Y1, Y2, Y3, Y4, Y5, Y6, Y7, Y8, Y9, Y10, Y11, Y12, Y13, Y14, Y15]) rfl ⟨.slice none 0 0, .slice none 0 0, .slice none 0 0, .slice none 0 0, .slice none 0 0, .slice none 0 0, .slice none 0 0, .slice none 0 0, .slice none 0 0, by rfl, Kd.R_nil _ _ _ _ _, Kd.R_nil _ _ _ _ _, Kd.R_nil _ _ _ _ _, Kd.R_nil _ _ _ _ _, Kd.R_nil _ _ _ _ _, Kd.R_nil _ _ _ _ _, Kd.R_nil _ _ _ _ _, Kd.R_nil _ _ _ _ _, Kd.R_nil _ _ _ _ _, HB9.out⟩
        | true =>
          rw [if_pos rfl] at H
          obtain ⟨⟨bX, u⟩, ht2, H⟩ := Option.bind_eq_some_iff.1 H
          have HT2 := Aside0.mk ht2
          clear ht2
          dsimp only at H
          cases bX with
          | false =>
            rw [if_neg (by decide)] at H
            simp only [Option.some.injEq, Prod.mk.injEq] at H
            obtain ⟨rfl, rfl⟩ := H
            have he := HE9.out
            simp only [RV.flat, RV.zero, Prod.mk.injEq] at he
            obtain ⟨rfl, rfl, rfl, rfl, rfl, rfl, rfl, rfl, rfl, rfl, rfl, rfl, rfl, rfl, rfl, rfl, rfl⟩ := he
            clear HE9
            as_aux_lemma =>
              go_wp2_with (first | (go_at_call 33; (with_reducible refine (strings_Cut.calls sx (⟨#[61]⟩ : ByteArray) s1 s2 _ _ (GP_below HG.out HB.out) HC.out).mono ?_); rintro e w5 ⟨rfl, ⟨nd, rfl⟩⟩) | (go_at_call 34; (refine (recur_part.calls k1 g s1 s2 _ u _ _ (GP_below HG.out (pw_below_drewN HB.out nd)) ((HR.out.below (pw_below_drewN (Below.refl _ _) nd)).b) rfl HT2.out).mono ?_); rintro e w6 ⟨rfl, hp⟩; obtain ⟨v', vd', hr'⟩ := (HR.out.below (pw_below_drewN (Below.refl _ _) nd)).part hp (by have := HB.out.size; exact this); have HR6 := Aside0.mk hr'; have HB6 := Aside0.mk (hp.below (pw_below_drewN HB.out nd) HGB.out.1); have RB6 := Aside0.mk (blk_partw (blk_below RBr.out (pw_below_drewN (Below.refl _ _) nd)) hp HGB.out.2); have HPS6 := Aside0.mk (R_partw (Kd.R_below HPr.out (pw_below_drewN (Below.refl _ _) nd)) hp ((HR.out.below (pw_below_drewN (Below.refl _ _) nd)).b) (by decide)); have HM6 := Aside0.mk (R_partw (Kd.R_below HM.out (pw_below_drewN (Below.refl _ _) nd)) hp ((HR.out.below (pw_below_drewN (Below.refl _ _) nd)).b) (by decide)); have HSZ6 := Aside0.mk (show M ≤ w6.heap.size from Nat.le_trans HSZ.out hp.keep.1); clear hp hr') | ((with_reducible refine gate_store (t := 25) (p := 2) rfl ?_); refine store_whole (y := .tmp 33) ?hg (t := 25) (p := 2) ?ho ?hn rb #[Value.int .i64 0, Value.int .i64 0, Value.int .i64 0, Value.bool false, Value.int .i64 0, Value.bool false, Value.slice none 0 0, Value.slice none 0 0, Value.slice none 0 0, Value.slice none 0 0, Value.slice none 0 0, Value.slice none 0 0, Value.slice none 0 0, Value.slice none 0 0, Value.slice none 0 0, Value.int .i64 0] ?hx ?hy RB6.out ?hs pa_info ?h1 ?_; (case hs => rfl); (case h1 => simp [Value.oneCell']); (case hg => rfl); (case ho => rfl); (case hn => rfl); (case hx => rfl); (case hy => first | rfl | (go_simp; done) | (go_simp; rfl)); intro w9 h1 h2 h3; have HB9 := Aside0.mk (h3 _ _ HRB.out HB6.out); obtain ⟨Y0, Y1, Y2, Y3, Y4, Y5, Y6, Y7, Y8, Y9, Y10, Y11, Y12, Y13, Y14, Y15⟩ := z_cells h1; clear h1 h2 h3))
              exact bodyPost_ret (v := .tuple #[.agg #[Value.int .i64 0, Value.int .i64 0, Value.int .i64 0, Value.bool false, Value.int .i64 0, Value.bool false, Value.slice none 0 0, Value.slice none 0 0, Value.slice none 0 0, Value.slice none 0 0, Value.slice none 0 0, Value.slice none 0 0, Value.slice none 0 0, Value.slice none 0 0, Value.slice none 0 0, Value.int .i64 0], .int .i64 21]) (by simp [results, Tryz.results12, go_sem, Y0, Y1, Y2, Y3, Y4, Y5, Y6, Y7, Y8, Y9, Y10, Y11, Y12, Y13, Y14, Y15]) rfl ⟨.slice none 0 0, .slice none 0 0, .slice none 0 0, .slice none 0 0, .slice none 0 0, .slice none 0 0, .slice none 0 0, .slice none 0 0, .slice none 0 0, by rfl, Kd.R_nil _ _ _ _ _, Kd.R_nil _ _ _ _ _, Kd.R_nil _ _ _ _ _, Kd.R_nil _ _ _ _ _, Kd.R_nil _ _ _ _ _, Kd.R_nil _ _ _ _ _, Kd.R_nil _ _ _ _ _, Kd.R_nil _ _ _ _ _, Kd.R_nil _ _ _ _ _, HB9.out⟩
          | true =>
            rw [if_pos rfl] at H
            obtain ⟨t3, ht3, H⟩ := Option.bind_eq_some_iff.1 H
            have HL := Aside0.mk ht3
            by_cases c8 : y.length < 8796093022208
            rotate_left
            · rw [if_neg c8] at H; cases H
            rw [if_pos c8] at H
            have L2 := Aside0.mk c8
            have H' := Aside0.mk H
            clear H ht3 c8
            as_aux_lemma =>
              go_wp2_with (first | (go_at_call 33; (with_reducible refine (strings_Cut.calls sx (⟨#[61]⟩ : ByteArray) s1 s2 _ _ (GP_below HG.out HB.out) HC.out).mono ?_); rintro e w5 ⟨rfl, ⟨nd, rfl⟩⟩) | (go_at_call 34; (refine (recur_part.calls k1 g s1 s2 _ u _ _ (GP_below HG.out (pw_below_drewN HB.out nd)) ((HR.out.below (pw_below_drewN (Below.refl _ _) nd)).b) rfl HT2.out).mono ?_); rintro e w6 ⟨rfl, hp⟩; obtain ⟨v', vd', hr'⟩ := (HR.out.below (pw_below_drewN (Below.refl _ _) nd)).part hp (by have := HB.out.size; exact this); have HR6 := Aside0.mk hr'; have HB6 := Aside0.mk (hp.below (pw_below_drewN HB.out nd) HGB.out.1); have RB6 := Aside0.mk (blk_partw (blk_below RBr.out (pw_below_drewN (Below.refl _ _) nd)) hp HGB.out.2); have HPS6 := Aside0.mk (R_partw (Kd.R_below HPr.out (pw_below_drewN (Below.refl _ _) nd)) hp ((HR.out.below (pw_below_drewN (Below.refl _ _) nd)).b) (by decide)); have HM6 := Aside0.mk (R_partw (Kd.R_below HM.out (pw_below_drewN (Below.refl _ _) nd)) hp ((HR.out.below (pw_below_drewN (Below.refl _ _) nd)).b) (by decide)); have HSZ6 := Aside0.mk (show M ≤ w6.heap.size from Nat.le_trans HSZ.out hp.keep.1); clear hp hr') | (go_at_call 35; (with_reducible refine (recur_large.calls s1 t3 _ HL.out).mono ?_); rintro e w7 ⟨rfl, hb⟩; have HB7 := Aside0.mk (below_then HB6.out HB6.out.size hb); have HR7 := Aside0.mk (HR6.out.below hb); have RB7 := Aside0.mk (blk_below RB6.out hb); have HPS7 := Aside0.mk (Kd.R_below HPS6.out hb); have HM7 := Aside0.mk (Kd.R_below HM6.out hb); have HSZ7 := Aside0.mk (Nat.le_trans HSZ6.out hb.size); clear hb) | ((with_reducible refine gate_builtin (b := .append) (xs := #[.tmp 34, .tmp 37]) rfl ?_); (first | at_builtin | (refine gate_guard (by rfl) ?_; dsimp only; at_builtin)); refine Kd.R_append Kd.string (w0 := w7) M rfl (.tmp 34) (.tmp 37) 35 9 (.string ⟨#[]⟩) 16 rfl Tryz.underlying35 info9 rfl (by decide) (by omega) _ y t3 [.string t3] (fun _ => True) (fun _ => False) rfl rfl ?aP (fun _ hk => hk.elim) ?aF ?aO ?aB ?aS ?aL ?_; (case aP => exact rfl); (case aB => exact Below.refl _ _); (case aF => exact (fun _ _ => trivial)); (case aO => exact HM7.out); (case aS => exact HSZ7.out); (case aL => have := L2.out; omega); intro v8 w8 ho hb hg hat; have HM8 := Aside0.mk ho; have HR8 := Aside0.mk (HR7.out.grown HM7.out hg); have RB8 := Aside0.mk (blk_grown RB7.out hg (Kd.R_ne HM7.out RB7.out (by decide))); have HPS8 := Aside0.mk (grown_ok HPS7.out HM7.out hg); have HSZ8 := Aside0.mk (Nat.le_trans HSZ7.out hg.size); have HB8 := Aside0.mk (Below.grown HB7.out hg HB7.out.size (fun kk hkk => Nat.le_trans hMw.out (own_base (Kd.R_own HM7.out).choose_spec kk hkk))); clear ho hb hg hat))
              go_roundg k1
              case measure => omega
              case rel => exact ⟨x.upd u, v', vd', y ++ [t3], wrap64 (i + 1), by rfl, H', ⟨by have := HK1.out; omega⟩, HR8, RB8, HPS8, HM8, HSZ8, HB8⟩
      · rw [if_neg c4] at H
        have c4b0 : decide (i < (ps.length : Int)) = false := decide_eq_false c4
        clear c4
        unfold pa_end at H
        obtain ⟨bt, ht, H⟩ := Option.bind_eq_some_iff.1 H
        have HT := Aside0.mk ht
        clear ht
        obtain ⟨Am, cm, em⟩ := Kd.R_slice HM.out
        subst em
        have hr0 := HR.out
        obtain ⟨hb_, hl_, hd_, ha_⟩ := hr0
        have HAP := Aside0.mk ha_
        obtain ⟨A6, c6, e6⟩ := Kd.R_slice (hl_ 6)
        obtain ⟨A7, c7, e7⟩ := Kd.R_slice (hl_ 7)
        obtain ⟨A8, c8, e8⟩ := Kd.R_slice (hl_ 8)
        obtain ⟨A9, c9, e9⟩ := Kd.R_slice (hd_)
        obtain ⟨A10, c10, e10⟩ := Kd.R_slice (hl_ 10)
        obtain ⟨A11, c11, e11⟩ := Kd.R_slice (hl_ 11)
        obtain ⟨A12, c12, e12⟩ := Kd.R_slice (hl_ 12)
        obtain ⟨A13, c13, e13⟩ := Kd.R_slice (hl_ 13)
        obtain ⟨A14, c14, e14⟩ := Kd.R_slice (hl_ 14)
        unfold rvCells at hb_
        rw [e6, e7, e8, e9, e10, e11, e12, e13, e14] at hb_
        have HX6 := Aside0.mk (e6 ▸ hl_ 6 : Kd.R (Kd.int .i64) 3 wr w.heap.size (fun _ => True) (.slice A6 (x.l 6).length c6) (x.l 6))
        have HX7 := Aside0.mk (e7 ▸ hl_ 7 : Kd.R (Kd.int .i64) 3 wr w.heap.size (fun _ => True) (.slice A7 (x.l 7).length c7) (x.l 7))
        have HX8 := Aside0.mk (e8 ▸ hl_ 8 : Kd.R (Kd.int .i64) 3 wr w.heap.size (fun _ => True) (.slice A8 (x.l 8).length c8) (x.l 8))
        have HX9 := Aside0.mk (e9 ▸ hd_ : Kd.R k38 38 wr w.heap.size (fun _ => True) (.slice A9 x.d.length c9) x.d)
        have HX10 := Aside0.mk (e10 ▸ hl_ 10 : Kd.R (Kd.int .i64) 3 wr w.heap.size (fun _ => True) (.slice A10 (x.l 10).length c10) (x.l 10))
        have HX11 := Aside0.mk (e11 ▸ hl_ 11 : Kd.R (Kd.int .i64) 3 wr w.heap.size (fun _ => True) (.slice A11 (x.l 11).length c11) (x.l 11))
        have HX12 := Aside0.mk (e12 ▸ hl_ 12 : Kd.R (Kd.int .i64) 3 wr w.heap.size (fun _ => True) (.slice A12 (x.l 12).length c12) (x.l 12))
        have HX13 := Aside0.mk (e13 ▸ hl_ 13 : Kd.R (Kd.int .i64) 3 wr w.heap.size (fun _ => True) (.slice A13 (x.l 13).length c13) (x.l 13))
        have HX14 := Aside0.mk (e14 ▸ hl_ 14 : Kd.R (Kd.int .i64) 3 wr w.heap.size (fun _ => True) (.slice A14 (x.l 14).length c14) (x.l 14))
        have E6 := Aside0.mk e6
        have E7 := Aside0.mk e7
        have E8 := Aside0.mk e8
        have E9 := Aside0.mk e9
        have E10 := Aside0.mk e10
        have E11 := Aside0.mk e11
        have E12 := Aside0.mk e12
        have E13 := Aside0.mk e13
        have E14 := Aside0.mk e14
        have BKX := Aside0.mk hb_
        clear hb_ hl_ hd_ ha_ e6 e7 e8 e9 e10 e11 e12 e13 e14
        cases bt with
        | true =>
          rw [if_pos rfl] at H
          simp only [Option.some.injEq, Prod.mk.injEq] at H
          obtain ⟨rfl, rfl⟩ := H
          have he := HE9.out
          simp only [RV.flat, RV.zero, Prod.mk.injEq] at he
          obtain ⟨rfl, rfl, rfl, rfl, rfl, rfl, rfl, rfl, rfl, rfl, rfl, rfl, rfl, rfl, rfl, rfl, rfl⟩ := he
          clear HE9
          as_aux_lemma =>
            go_wp2_with (first | (go_at_call 36; (with_reducible refine (recur_twice_string.calls k1 Am cm y _ _ (Kd.R_reads' HM.out).2.2 (Kd.R_reads' HM.out).2.1 HT.out).mono ?_); rintro e w5 ⟨rfl, hb⟩; have HB5 := Aside0.mk (below_then HB.out HB.out.size hb); have RB5 := Aside0.mk (blk_below RBr.out hb); have HR5 := Aside0.mk (HR.out.below hb); have BK5 := Aside0.mk (blk_below BKX.out hb); obtain ⟨W0, W1, W2, W3, W4, W5, W6, W7, W8, W9, W10, W11, W12, W13, W14, W15⟩ := rc_cells (x.n 0) (x.n 1) (x.n 2) x.u x.t x.z A6 c6 (x.l 6) A7 c7 (x.l 7) A8 c8 (x.l 8) A9 c9 x.d A10 c10 (x.l 10) A11 c11 (x.l 11) A12 c12 (x.l 12) A13 c13 (x.l 13) A14 c14 (x.l 14) (x.n 15) BK5.out; have HBT := Aside0.mk hb; clear hb) | ((with_reducible refine gate_store (t := 25) (p := 2) rfl ?_); refine store_whole (y := .tmp 47) ?hg (t := 25) (p := 2) ?ho ?hn rb #[Value.int .i64 0, Value.int .i64 0, Value.int .i64 0, Value.bool false, Value.int .i64 0, Value.bool false, Value.slice none 0 0, Value.slice none 0 0, Value.slice none 0 0, Value.slice none 0 0, Value.slice none 0 0, Value.slice none 0 0, Value.slice none 0 0, Value.slice none 0 0, Value.slice none 0 0, Value.int .i64 0] ?hx ?hy RB5.out ?hs pa_info ?h1 ?_; (case hs => rfl); (case h1 => simp [Value.oneCell']); (case hg => rfl); (case ho => rfl); (case hn => rfl); (case hx => rfl); (case hy => first | rfl | (go_simp; done) | (go_simp; rfl)); intro w9 h1 h2 h3; have HB9 := Aside0.mk (h3 _ _ HRB.out HB5.out); obtain ⟨Y0, Y1, Y2, Y3, Y4, Y5, Y6, Y7, Y8, Y9, Y10, Y11, Y12, Y13, Y14, Y15⟩ := z_cells h1; clear h1 h2 h3))
            exact bodyPost_ret (v := .tuple #[.agg #[Value.int .i64 0, Value.int .i64 0, Value.int .i64 0, Value.bool false, Value.int .i64 0, Value.bool false, Value.slice none 0 0, Value.slice none 0 0, Value.slice none 0 0, Value.slice none 0 0, Value.slice none 0 0, Value.slice none 0 0, Value.slice none 0 0, Value.slice none 0 0, Value.slice none 0 0, Value.int .i64 0], .int .i64 21]) (by simp [results, Tryz.results12, go_sem, Y0, Y1, Y2, Y3, Y4, Y5, Y6, Y7, Y8, Y9, Y10, Y11, Y12, Y13, Y14, Y15]) rfl ⟨.slice none 0 0, .slice none 0 0, .slice none 0 0, .slice none 0 0, .slice none 0 0, .slice none 0 0, .slice none 0 0, .slice none 0 0, .slice none 0 0, by rfl, Kd.R_nil _ _ _ _ _, Kd.R_nil _ _ _ _ _, Kd.R_nil _ _ _ _ _, Kd.R_nil _ _ _ _ _, Kd.R_nil _ _ _ _ _, Kd.R_nil _ _ _ _ _, Kd.R_nil _ _ _ _ _, Kd.R_nil _ _ _ _ _, Kd.R_nil _ _ _ _ _, HB9.out⟩
        | false =>
          rw [if_neg (by decide)] at H
          obtain ⟨ce, hce, H⟩ := Option.bind_eq_some_iff.1 H
          have HE := Aside0.mk hce
          clear hce
          by_cases d0 : ce = 0
          · rw [if_pos d0] at H
            subst d0
            simp only [Option.some.injEq, Prod.mk.injEq] at H
            obtain ⟨rfl, rfl⟩ := H
            have he := HE9.out
            simp only [RV.flat, Prod.mk.injEq] at he
            obtain ⟨rfl, rfl, rfl, rfl, rfl, rfl, rfl, rfl, rfl, rfl, rfl, rfl, rfl, rfl, rfl, rfl, rfl⟩ := he
            clear HE9
            as_aux_lemma =>
              go_wp2_with (first | (go_at_call 36; (with_reducible refine (recur_twice_string.calls k1 Am cm y _ _ (Kd.R_reads' HM.out).2.2 (Kd.R_reads' HM.out).2.1 HT.out).mono ?_); rintro e w5 ⟨rfl, hb⟩; have HB5 := Aside0.mk (below_then HB.out HB.out.size hb); have RB5 := Aside0.mk (blk_below RBr.out hb); have HR5 := Aside0.mk (HR.out.below hb); have BK5 := Aside0.mk (blk_below BKX.out hb); obtain ⟨W0, W1, W2, W3, W4, W5, W6, W7, W8, W9, W10, W11, W12, W13, W14, W15⟩ := rc_cells (x.n 0) (x.n 1) (x.n 2) x.u x.t x.z A6 c6 (x.l 6) A7 c7 (x.l 7) A8 c8 (x.l 8) A9 c9 x.d A10 c10 (x.l 10) A11 c11 (x.l 11) A12 c12 (x.l 12) A13 c13 (x.l 13) A14 c14 (x.l 14) (x.n 15) BK5.out; have HBT := Aside0.mk hb; clear hb) | (go_at_call 18; (refine (recur_Check.calls k1 (x.n 0) (x.n 1) (x.n 2) x.u x.t x.z A6 c6 (x.l 6) A7 c7 (x.l 7) A8 c8 (x.l 8) A9 c9 x.d A10 c10 (x.l 10) A11 c11 (x.l 11) A12 c12 (x.l 12) A13 c13 (x.l 13) A14 c14 (x.l 14) (x.n 15) _ _ (Kd.R_reads' (Kd.R_below HX6.out HBT.out)).2.2 (Kd.R_reads' HX6.out).2.1 (Kd.R_reads' (Kd.R_below HX7.out HBT.out)).2.2 (Kd.R_reads' HX7.out).2.1 (Kd.R_reads' (Kd.R_below HX8.out HBT.out)).2.2 (Kd.R_reads' HX8.out).2.1 (Kd.R_reads' (Kd.R_below HX9.out HBT.out)).2.2 (Kd.R_reads' HX9.out).2.1 (Kd.R_reads' (Kd.R_below HX10.out HBT.out)).2.2 (Kd.R_reads' HX10.out).2.1 (Kd.R_reads' (Kd.R_below HX11.out HBT.out)).2.2 (Kd.R_reads' HX11.out).2.1 (Kd.R_reads' (Kd.R_below HX12.out HBT.out)).2.2 (Kd.R_reads' HX12.out).2.1 (Kd.R_reads' (Kd.R_below HX13.out HBT.out)).2.2 (Kd.R_reads' HX13.out).2.1 (Kd.R_reads' (Kd.R_below HX14.out HBT.out)).2.2 (Kd.R_reads' HX14.out).2.1 HE.out).mono ?_); rintro e w6 ⟨rfl, hb⟩; have HB6 := Aside0.mk (below_then HB5.out HB5.out.size hb); have RB6 := Aside0.mk (blk_below RB5.out hb); have HR6 := Aside0.mk (HR5.out.below hb); have BK6 := Aside0.mk (blk_below BK5.out hb); obtain ⟨V0, V1, V2, V3, V4, V5, V6, V7, V8, V9, V10, V11, V12, V13, V14, V15⟩ := rc_cells (x.n 0) (x.n 1) (x.n 2) x.u x.t x.z A6 c6 (x.l 6) A7 c7 (x.l 7) A8 c8 (x.l 8) A9 c9 x.d A10 c10 (x.l 10) A11 c11 (x.l 11) A12 c12 (x.l 12) A13 c13 (x.l 13) A14 c14 (x.l 14) (x.n 15) BK6.out; clear hb) | ((with_reducible refine gate_store (t := 25) (p := 2) rfl ?_); refine store_whole (y := .tmp 48) ?hg (t := 25) (p := 2) ?ho ?hn rb #[Value.int .i64 (x.n 0), Value.int .i64 (x.n 1), Value.int .i64 (x.n 2), Value.bool x.u, Value.int .i64 x.t, Value.bool x.z, Value.slice A6 (x.l 6).length c6, Value.slice A7 (x.l 7).length c7, Value.slice A8 (x.l 8).length c8, Value.slice A9 x.d.length c9, Value.slice A10 (x.l 10).length c10, Value.slice A11 (x.l 11).length c11, Value.slice A12 (x.l 12).length c12, Value.slice A13 (x.l 13).length c13, Value.slice A14 (x.l 14).length c14, Value.int .i64 (x.n 15)] ?hx ?hy RB6.out ?hs pa_info ?h1 ?_; (case hs => rfl); (case h1 => simp [Value.oneCell']); (case hg => rfl); (case ho => rfl); (case hn => rfl); (case hx => rfl); (case hy => first | rfl | (go_simp; done) | (go_simp; rfl)); intro w9 h1 h2 h3; have HB9 := Aside0.mk (h3 _ _ HRB.out HB6.out); have HR9 := Aside0.mk (RecAt.far HR6.out h2 HGB.out.2 RB6.out); obtain ⟨Y0, Y1, Y2, Y3, Y4, Y5, Y6, Y7, Y8, Y9, Y10, Y11, Y12, Y13, Y14, Y15⟩ := rc_cells (x.n 0) (x.n 1) (x.n 2) x.u x.t x.z A6 c6 (x.l 6) A7 c7 (x.l 7) A8 c8 (x.l 8) A9 c9 x.d A10 c10 (x.l 10) A11 c11 (x.l 11) A12 c12 (x.l 12) A13 c13 (x.l 13) A14 c14 (x.l 14) (x.n 15) h1; clear h1 h2 h3))
              exact bodyPost_ret (v := .tuple #[.agg #[Value.int .i64 (x.n 0), Value.int .i64 (x.n 1), Value.int .i64 (x.n 2), Value.bool x.u, Value.int .i64 x.t, Value.bool x.z, Value.slice A6 (x.l 6).length c6, Value.slice A7 (x.l 7).length c7, Value.slice A8 (x.l 8).length c8, Value.slice A9 x.d.length c9, Value.slice A10 (x.l 10).length c10, Value.slice A11 (x.l 11).length c11, Value.slice A12 (x.l 12).length c12, Value.slice A13 (x.l 13).length c13, Value.slice A14 (x.l 14).length c14, Value.int .i64 (x.n 15)], .int .i64 0]) (by simp [results, Tryz.results12, go_sem, Y0, Y1, Y2, Y3, Y4, Y5, Y6, Y7, Y8, Y9, Y10, Y11, Y12, Y13, Y14, Y15]) rfl ⟨_, _, _, _, _, _, _, _, _, by rfl, R_apart_int (show Kd.R _ _ _ _ _ (.slice A6 (x.l 6).length c6) _ from E6.out ▸ HR9.out.l 6) (fun k_ hk => ⟨fun hz => HAP.out 6 7 k_ (by decide) (by rw [E6.out]; exact hk) (by rw [E7.out]; exact hz.symm), fun hz => HAP.out 6 8 k_ (by decide) (by rw [E6.out]; exact hk) (by rw [E8.out]; exact hz.symm), fun hz => HAP.out 6 10 k_ (by decide) (by rw [E6.out]; exact hk) (by rw [E10.out]; exact hz.symm), fun hz => HAP.out 6 11 k_ (by decide) (by rw [E6.out]; exact hk) (by rw [E11.out]; exact hz.symm), fun hz => HAP.out 6 12 k_ (by decide) (by rw [E6.out]; exact hk) (by rw [E12.out]; exact hz.symm), fun hz => HAP.out 6 13 k_ (by decide) (by rw [E6.out]; exact hk) (by rw [E13.out]; exact hz.symm), fun hz => HAP.out 6 14 k_ (by decide) (by rw [E6.out]; exact hk) (by rw [E14.out]; exact hz.symm)⟩), R_apart_int (show Kd.R _ _ _ _ _ (.slice A7 (x.l 7).length c7) _ from E7.out ▸ HR9.out.l 7) (fun k_ hk => ⟨fun hz => HAP.out 7 6 k_ (by decide) (by rw [E7.out]; exact hk) (by rw [E6.out]; exact hz.symm), fun hz => HAP.out 7 8 k_ (by decide) (by rw [E7.out]; exact hk) (by rw [E8.out]; exact hz.symm), fun hz => HAP.out 7 10 k_ (by decide) (by rw [E7.out]; exact hk) (by rw [E10.out]; exact hz.symm), fun hz => HAP.out 7 11 k_ (by decide) (by rw [E7.out]; exact hk) (by rw [E11.out]; exact hz.symm), fun hz => HAP.out 7 12 k_ (by decide) (by rw [E7.out]; exact hk) (by rw [E12.out]; exact hz.symm), fun hz => HAP.out 7 13 k_ (by decide) (by rw [E7.out]; exact hk) (by rw [E13.out]; exact hz.symm), fun hz => HAP.out 7 14 k_ (by decide) (by rw [E7.out]; exact hk) (by rw [E14.out]; exact hz.symm)⟩), R_apart_int (show Kd.R _ _ _ _ _ (.slice A8 (x.l 8).length c8) _ from E8.out ▸ HR9.out.l 8) (fun k_ hk => ⟨fun hz => HAP.out 8 6 k_ (by decide) (by rw [E8.out]; exact hk) (by rw [E6.out]; exact hz.symm), fun hz => HAP.out 8 7 k_ (by decide) (by rw [E8.out]; exact hk) (by rw [E7.out]; exact hz.symm), fun hz => HAP.out 8 10 k_ (by decide) (by rw [E8.out]; exact hk) (by rw [E10.out]; exact hz.symm), fun hz => HAP.out 8 11 k_ (by decide) (by rw [E8.out]; exact hk) (by rw [E11.out]; exact hz.symm), fun hz => HAP.out 8 12 k_ (by decide) (by rw [E8.out]; exact hk) (by rw [E12.out]; exact hz.symm), fun hz => HAP.out 8 13 k_ (by decide) (by rw [E8.out]; exact hk) (by rw [E13.out]; exact hz.symm), fun hz => HAP.out 8 14 k_ (by decide) (by rw [E8.out]; exact hk) (by rw [E14.out]; exact hz.symm)⟩), (show Kd.R _ _ _ _ _ (.slice A9 x.d.length c9) _ from E9.out ▸ HR9.out.d), R_apart_int (show Kd.R _ _ _ _ _ (.slice A10 (x.l 10).length c10) _ from E10.out ▸ HR9.out.l 10) (fun k_ hk => ⟨fun hz => HAP.out 10 6 k_ (by decide) (by rw [E10.out]; exact hk) (by rw [E6.out]; exact hz.symm), fun hz => HAP.out 10 7 k_ (by decide) (by rw [E10.out]; exact hk) (by rw [E7.out]; exact hz.symm), fun hz => HAP.out 10 8 k_ (by decide) (by rw [E10.out]; exact hk) (by rw [E8.out]; exact hz.symm), fun hz => HAP.out 10 11 k_ (by decide) (by rw [E10.out]; exact hk) (by rw [E11.out]; exact hz.symm), fun hz => HAP.out 10 12 k_ (by decide) (by rw [E10.out]; exact hk) (by rw [E12.out]; exact hz.symm), fun hz => HAP.out 10 13 k_ (by decide) (by rw [E10.out]; exact hk) (by rw [E13.out]; exact hz.symm), fun hz => HAP.out 10 14 k_ (by decide) (by rw [E10.out]; exact hk) (by rw [E14.out]; exact hz.symm)⟩), R_apart_int (show Kd.R _ _ _ _ _ (.slice A11 (x.l 11).length c11) _ from E11.out ▸ HR9.out.l 11) (fun k_ hk => ⟨fun hz => HAP.out 11 6 k_ (by decide) (by rw [E11.out]; exact hk) (by rw [E6.out]; exact hz.symm), fun hz => HAP.out 11 7 k_ (by decide) (by rw [E11.out]; exact hk) (by rw [E7.out]; exact hz.symm), fun hz => HAP.out 11 8 k_ (by decide) (by rw [E11.out]; exact hk) (by rw [E8.out]; exact hz.symm), fun hz => HAP.out 11 10 k_ (by decide) (by rw [E11.out]; exact hk) (by rw [E10.out]; exact hz.symm), fun hz => HAP.out 11 12 k_ (by decide) (by rw [E11.out]; exact hk) (by rw [E12.out]; exact hz.symm), fun hz => HAP.out 11 13 k_ (by decide) (by rw [E11.out]; exact hk) (by rw [E13.out]; exact hz.symm), fun hz => HAP.out 11 14 k_ (by decide) (by rw [E11.out]; exact hk) (by rw [E14.out]; exact hz.symm)⟩), R_apart_int (show Kd.R _ _ _ _ _ (.slice A12 (x.l 12).length c12) _ from E12.out ▸ HR9.out.l 12) (fun k_ hk => ⟨fun hz => HAP.out 12 6 k_ (by decide) (by rw [E12.out]; exact hk) (by rw [E6.out]; exact hz.symm), fun hz => HAP.out 12 7 k_ (by decide) (by rw [E12.out]; exact hk) (by rw [E7.out]; exact hz.symm), fun hz => HAP.out 12 8 k_ (by decide) (by rw [E12.out]; exact hk) (by rw [E8.out]; exact hz.symm), fun hz => HAP.out 12 10 k_ (by decide) (by rw [E12.out]; exact hk) (by rw [E10.out]; exact hz.symm), fun hz => HAP.out 12 11 k_ (by decide) (by rw [E12.out]; exact hk) (by rw [E11.out]; exact hz.symm), fun hz => HAP.out 12 13 k_ (by decide) (by rw [E12.out]; exact hk) (by rw [E13.out]; exact hz.symm), fun hz => HAP.out 12 14 k_ (by decide) (by rw [E12.out]; exact hk) (by rw [E14.out]; exact hz.symm)⟩), R_apart_int (show Kd.R _ _ _ _ _ (.slice A13 (x.l 13).length c13) _ from E13.out ▸ HR9.out.l 13) (fun k_ hk => ⟨fun hz => HAP.out 13 6 k_ (by decide) (by rw [E13.out]; exact hk) (by rw [E6.out]; exact hz.symm), fun hz => HAP.out 13 7 k_ (by decide) (by rw [E13.out]; exact hk) (by rw [E7.out]; exact hz.symm), fun hz => HAP.out 13 8 k_ (by decide) (by rw [E13.out]; exact hk) (by rw [E8.out]; exact hz.symm), fun hz => HAP.out 13 10 k_ (by decide) (by rw [E13.out]; exact hk) (by rw [E10.out]; exact hz.symm), fun hz => HAP.out 13 11 k_ (by decide) (by rw [E13.out]; exact hk) (by rw [E11.out]; exact hz.symm), fun hz => HAP.out 13 12 k_ (by decide) (by rw [E13.out]; exact hk) (by rw [E12.out]; exact hz.symm), fun hz => HAP.out 13 14 k_ (by decide) (by rw [E13.out]; exact hk) (by rw [E14.out]; exact hz.symm)⟩), R_apart_int (show Kd.R _ _ _ _ _ (.slice A14 (x.l 14).length c14) _ from E14.out ▸ HR9.out.l 14) (fun k_ hk => ⟨fun hz => HAP.out 14 6 k_ (by decide) (by rw [E14.out]; exact hk) (by rw [E6.out]; exact hz.symm), fun hz => HAP.out 14 7 k_ (by decide) (by rw [E14.out]; exact hk) (by rw [E7.out]; exact hz.symm), fun hz => HAP.out 14 8 k_ (by decide) (by rw [E14.out]; exact hk) (by rw [E8.out]; exact hz.symm), fun hz => HAP.out 14 10 k_ (by decide) (by rw [E14.out]; exact hk) (by rw [E10.out]; exact hz.symm), fun hz => HAP.out 14 11 k_ (by decide) (by rw [E14.out]; exact hk) (by rw [E11.out]; exact hz.symm), fun hz => HAP.out 14 12 k_ (by decide) (by rw [E14.out]; exact hk) (by rw [E12.out]; exact hz.symm), fun hz => HAP.out 14 13 k_ (by decide) (by rw [E14.out]; exact hk) (by rw [E13.out]; exact hz.symm)⟩), HB9.out⟩
          · rw [if_neg d0] at H
            simp only [Option.some.injEq, Prod.mk.injEq] at H
            obtain ⟨rfl, rfl⟩ := H
            have he := HE9.out
            simp only [RV.flat, RV.zero, Prod.mk.injEq] at he
            obtain ⟨rfl, rfl, rfl, rfl, rfl, rfl, rfl, rfl, rfl, rfl, rfl, rfl, rfl, rfl, rfl, rfl, rfl⟩ := he
            clear HE9
            have d1 : (ce == 0) = false := beq_eq_false_iff_ne.mpr d0
            have d2 : (ce != 0) = true := bne_iff_ne.mpr d0
            clear d0
            as_aux_lemma =>
              go_wp2_with (first | (go_at_call 36; (with_reducible refine (recur_twice_string.calls k1 Am cm y _ _ (Kd.R_reads' HM.out).2.2 (Kd.R_reads' HM.out).2.1 HT.out).mono ?_); rintro e w5 ⟨rfl, hb⟩; have HB5 := Aside0.mk (below_then HB.out HB.out.size hb); have RB5 := Aside0.mk (blk_below RBr.out hb); have HR5 := Aside0.mk (HR.out.below hb); have BK5 := Aside0.mk (blk_below BKX.out hb); obtain ⟨W0, W1, W2, W3, W4, W5, W6, W7, W8, W9, W10, W11, W12, W13, W14, W15⟩ := rc_cells (x.n 0) (x.n 1) (x.n 2) x.u x.t x.z A6 c6 (x.l 6) A7 c7 (x.l 7) A8 c8 (x.l 8) A9 c9 x.d A10 c10 (x.l 10) A11 c11 (x.l 11) A12 c12 (x.l 12) A13 c13 (x.l 13) A14 c14 (x.l 14) (x.n 15) BK5.out; have HBT := Aside0.mk hb; clear hb) | (go_at_call 18; (refine (recur_Check.calls k1 (x.n 0) (x.n 1) (x.n 2) x.u x.t x.z A6 c6 (x.l 6) A7 c7 (x.l 7) A8 c8 (x.l 8) A9 c9 x.d A10 c10 (x.l 10) A11 c11 (x.l 11) A12 c12 (x.l 12) A13 c13 (x.l 13) A14 c14 (x.l 14) (x.n 15) _ _ (Kd.R_reads' (Kd.R_below HX6.out HBT.out)).2.2 (Kd.R_reads' HX6.out).2.1 (Kd.R_reads' (Kd.R_below HX7.out HBT.out)).2.2 (Kd.R_reads' HX7.out).2.1 (Kd.R_reads' (Kd.R_below HX8.out HBT.out)).2.2 (Kd.R_reads' HX8.out).2.1 (Kd.R_reads' (Kd.R_below HX9.out HBT.out)).2.2 (Kd.R_reads' HX9.out).2.1 (Kd.R_reads' (Kd.R_below HX10.out HBT.out)).2.2 (Kd.R_reads' HX10.out).2.1 (Kd.R_reads' (Kd.R_below HX11.out HBT.out)).2.2 (Kd.R_reads' HX11.out).2.1 (Kd.R_reads' (Kd.R_below HX12.out HBT.out)).2.2 (Kd.R_reads' HX12.out).2.1 (Kd.R_reads' (Kd.R_below HX13.out HBT.out)).2.2 (Kd.R_reads' HX13.out).2.1 (Kd.R_reads' (Kd.R_below HX14.out HBT.out)).2.2 (Kd.R_reads' HX14.out).2.1 HE.out).mono ?_); rintro e w6 ⟨rfl, hb⟩; have HB6 := Aside0.mk (below_then HB5.out HB5.out.size hb); have RB6 := Aside0.mk (blk_below RB5.out hb); have HR6 := Aside0.mk (HR5.out.below hb); have BK6 := Aside0.mk (blk_below BK5.out hb); obtain ⟨V0, V1, V2, V3, V4, V5, V6, V7, V8, V9, V10, V11, V12, V13, V14, V15⟩ := rc_cells (x.n 0) (x.n 1) (x.n 2) x.u x.t x.z A6 c6 (x.l 6) A7 c7 (x.l 7) A8 c8 (x.l 8) A9 c9 x.d A10 c10 (x.l 10) A11 c11 (x.l 11) A12 c12 (x.l 12) A13 c13 (x.l 13) A14 c14 (x.l 14) (x.n 15) BK6.out; clear hb) | ((with_reducible refine gate_store (t := 25) (p := 2) rfl ?_); refine store_whole (y := .tmp 47) ?hg (t := 25) (p := 2) ?ho ?hn rb #[Value.int .i64 0, Value.int .i64 0, Value.int .i64 0, Value.bool false, Value.int .i64 0, Value.bool false, Value.slice none 0 0, Value.slice none 0 0, Value.slice none 0 0, Value.slice none 0 0, Value.slice none 0 0, Value.slice none 0 0, Value.slice none 0 0, Value.slice none 0 0, Value.slice none 0 0, Value.int .i64 0] ?hx ?hy RB6.out ?hs pa_info ?h1 ?_; (case hs => rfl); (case h1 => simp [Value.oneCell']); (case hg => rfl); (case ho => rfl); (case hn => rfl); (case hx => rfl); (case hy => first | rfl | (go_simp; done) | (go_simp; rfl)); intro w9 h1 h2 h3; have HB9 := Aside0.mk (h3 _ _ HRB.out HB6.out); obtain ⟨Y0, Y1, Y2, Y3, Y4, Y5, Y6, Y7, Y8, Y9, Y10, Y11, Y12, Y13, Y14, Y15⟩ := z_cells h1; clear h1 h2 h3))
              exact bodyPost_ret (v := .tuple #[.agg #[Value.int .i64 0, Value.int .i64 0, Value.int .i64 0, Value.bool false, Value.int .i64 0, Value.bool false, Value.slice none 0 0, Value.slice none 0 0, Value.slice none 0 0, Value.slice none 0 0, Value.slice none 0 0, Value.slice none 0 0, Value.slice none 0 0, Value.slice none 0 0, Value.slice none 0 0, Value.int .i64 0], .int .i64 21]) (by simp [results, Tryz.results12, go_sem, Y0, Y1, Y2, Y3, Y4, Y5, Y6, Y7, Y8, Y9, Y10, Y11, Y12, Y13, Y14, Y15]) rfl ⟨.slice none 0 0, .slice none 0 0, .slice none 0 0, .slice none 0 0, .slice none 0 0, .slice none 0 0, .slice none 0 0, .slice none 0 0, .slice none 0 0, by rfl, Kd.R_nil _ _ _ _ _, Kd.R_nil _ _ _ _ _, Kd.R_nil _ _ _ _ _, Kd.R_nil _ _ _ _ _, Kd.R_nil _ _ _ _ _, Kd.R_nil _ _ _ _ _, Kd.R_nil _ _ _ _ _, Kd.R_nil _ _ _ _ _, Kd.R_nil _ _ _ _ _, HB9.out⟩
end Go.Proofs.YtjanombhdnoemaaGreatDoor.PRec
