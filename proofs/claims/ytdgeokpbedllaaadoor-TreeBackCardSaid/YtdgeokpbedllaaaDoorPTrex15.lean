-- Printed by a program of this session's over the kit's printer; library functions by contracts off the shelf.
import Derived.Test.YtdgeokpbedllaaaDoorGP
import Derived.Test.YtdgeokpbedllaaaDoorPTrex0
import Derived.Test.YtdgeokpbedllaaaDoorPTrex7
import Derived.Test.YtdgeokpbedllaaaDoorPTrex9
import Derived.Test.YtdgeokpbedllaaaDoorPTrex13
import Derived.Test.YtdgeokpbedllaaaDoorPTrex14
namespace Go.Proofs.YtdgeokpbedllaaaDoor.PTre
open Go.RowKit Go.Proofs.YtdgeokpbedllaaaDoorW.PrintWords Go.Proofs.YtdgeokpbedllaaaDoorW.PrintLast Go.Proofs.YtdgeokpbedllaaaDoorW.PrintMore Go.Proofs.YtdgeokpbedllaaaDoor.Base
attribute [local go_sem] max2_int min2_int max_two min_two max_three min_three max_four min_four   -- for this text's walks alone
set_option linter.unusedVariables false
set_option linter.unusedSimpArgs false

/-! ### tree_Parse: function 11 -/
theorem tr_info3 : (Tryd.prog.info? 3).map (fun i => (i.zero, i.size, i.bytes)) = some (some (.int .i64 0), 1, 8) := by kernel_rfl
theorem tr_info40 : (Tryd.prog.info? 40).map (fun i => (i.zero, i.size, i.bytes)) = some (some (.agg #[.string ByteArray.empty, .slice none 0 0, .int .i64 0]), 3, 48) := by kernel_rfl
theorem tr_info44 : (Tryd.prog.info? 44).map (fun i => (i.zero, i.size, i.bytes)) = some (some (.agg #[.string ByteArray.empty, .slice none 0 0, .string ByteArray.empty]), 3, 56) := by kernel_rfl
/-- A component's three cells, its lines' slice as it lies. -/
def kC : Kd (S40 × Value) where
  sz := 3
  E := []
  K := fun _ x cs => cs = [.string x.1.f0, x.2, .int .i64 x.1.f2] ∧ x.2.oneCell' = true
  M := fun _ _ _ x cs => cs = [.string x.1.f0, x.2, .int .i64 x.1.f2] ∧ x.2.oneCell' = true
  K_len := by rintro w x cs ⟨rfl, _⟩; rfl
  K_one := by
    rintro w x cs ⟨rfl, h⟩ u hu
    rcases List.mem_cons.1 hu with rfl | hu
    · rfl
    · rcases List.mem_cons.1 hu with rfl | hu
      · exact h
      · rw [List.mem_singleton.1 hu]; rfl
  K_below := fun _ h => h
  K_of_M := fun h => h
  M_mono := fun _ h => h
  M_bound := fun h => h
  M_move := fun _ h => h
  M_lower := fun _ h => h
def zC : S40 × Value := (⟨⟨#[]⟩, [], 0⟩, .slice none 0 0)
def rdC (ps : List (S40 × Value)) (i : Int) : S40 × Value := ps.getD i.toNat zC
/-- A reader at block g: what it has read. Its own rows begin at B, what they lead to at B0. -/
structure Tre (B0 B : Nat) (w : World) (g : Nat) (vl vo : Value) (ps : List (S40 × Value)) (op : List Int) : Prop where
  b : w.heap[g]? = some (.cells #[vl, vo] 60 (0, 0))
  g : B ≤ g
  l : Kd.R kC 40 w B (fun _ => True) vl ps
  n : ∀ p ∈ ps, Kd.R k44 44 w B0 (fun _ => True) p.2 p.1.f1 ∧ ∀ k, p.2.ownBlock = some k → B ≤ k
  a : ps.Pairwise (fun p q => ∀ k, p.2.ownBlock = some k → q.2.ownBlock ≠ some k)
  o : Kd.R (Kd.int .i64) 3 w B (fun _ => True) vo op
section
variable {B0 B g : Nat} {w w1 : World} {vl vo v1 : Value} {ps : List (S40 × Value)} {op : List Int}
theorem Tre.lt (h : Tre B0 B w g vl vo ps op) : g < w.heap.size := blk_lt h.b
theorem Tre.neO (h : Tre B0 B w g vl vo ps op) : some g ≠ vo.ownBlock := Kd.R_ne h.o h.b (by decide)
theorem Tre.neL (h : Tre B0 B w g vl vo ps op) : some g ≠ vl.ownBlock := Kd.R_ne h.l h.b (by decide)
theorem Tre.below (h : Tre B0 B w g vl vo ps op) (hb : Below w.heap.size w w1) : Tre B0 B w1 g vl vo ps op := ⟨blk_below h.b hb, h.g, Kd.R_below h.l hb, fun p hp => ⟨Kd.R_below (h.n p hp).1 hb, (h.n p hp).2⟩, h.a, Kd.R_below h.o hb⟩
theorem Tre.drew (h : Tre B0 B w g vl vo ps op) : Tre B0 B w.drew g vl vo ps op := h.below (below_drew (Below.refl _ _))
theorem Tre.drewN (h : Tre B0 B w g vl vo ps op) (m : Nat) : Tre B0 B (w.drewN m) g vl vo ps op := h.below (lN (Below.refl _ _) m)
theorem Tre.openGrow (h : Tre B0 B w g vl vo ps op) (hg : w.grownBy w1 vo.ownBlock) {op' : List Int} (ho : Kd.R (Kd.int .i64) 3 w1 B (fun _ => True) v1 op') : Tre B0 B (w1.setCell ⟨g, 1, none⟩ v1) g vl v1 ps op' := by
  (have hb := blk_grown h.b hg h.neO); (exact ⟨by simpa using blk_set hb 1 v1, h.g, Kd.R_set (Kd.R_over h.l h.o (by decide) hg) hb (by decide) _ _, fun p hp => ⟨Kd.R_set (Kd.R_over (h.n p hp).1 h.o (by decide) hg) hb (by decide) _ _, (h.n p hp).2⟩, h.a, Kd.R_set ho hb (by decide) _ _⟩)
theorem Tre.openTake (h : Tre B0 B w g vl vo ps op) {A : Option Addr} {n c m : Nat} (hv : vo = .slice A n c) (hm : m ≤ op.length) : Tre B0 B (w.setCell ⟨g, 1, none⟩ (.slice A m c)) g vl (.slice A m c) ps (op.take m) := by
  (have hb := h.b); subst hv; (exact ⟨by simpa using blk_set hb 1 (.slice A m c), h.g, Kd.R_set h.l hb (by decide) _ _, fun p hp => ⟨Kd.R_set (h.n p hp).1 hb (by decide) _ _, (h.n p hp).2⟩, h.a, Kd.R_set (Kd.R_take h.o hm) hb (by decide) _ _⟩)
theorem Tre.lGrow (h : Tre B0 B w g vl vo ps op) (hg : w.grownBy w1 vl.ownBlock) {c : S40} (hc : c.f1 = []) (hl : Kd.R kC 40 w1 B (fun _ => True) v1 (ps ++ [(c, .slice none 0 0)])) : Tre B0 B (w1.setCell ⟨g, 0, none⟩ v1) g v1 vo (ps ++ [(c, .slice none 0 0)]) op := by
  (have hb := blk_grown h.b hg h.neL); (refine ⟨by simpa using blk_set hb 0 v1, h.g, Kd.R_set hl hb (by decide) _ _, fun p hp => ?_, ?_, Kd.R_set (Kd.R_over h.o h.l (by decide) hg) hb (by decide) _ _⟩)
  · rcases List.mem_append.1 hp with hp | hp
    · exact ⟨Kd.R_set (Kd.R_over (h.n p hp).1 h.l (by decide) hg) hb (by decide) _ _, (h.n p hp).2⟩
    · rw [List.mem_singleton.1 hp]
      (refine ⟨?_, fun k hk => by simp [Value.ownBlock] at hk⟩); (show Kd.R k44 44 _ _ _ (.slice none 0 0) c.f1); (rw [hc]); (exact Kd.R_nil _ _ _ _ _)
  · rw [List.pairwise_append]
    (refine ⟨h.a, List.pairwise_singleton _ _, fun p _ q hq k _ => ?_⟩); (rw [List.mem_singleton.1 hq]); (simp [Value.ownBlock])
/-- Component i's cells. -/
theorem Tre.elem {gl n cap : Nat} (h : Tre B0 B w g (.slice (some ⟨gl, 0, none⟩) n cap) vo ps op) (i : Int) (h0 : 0 ≤ i) (h1 : i < (ps.length : Int)) :
    w.cell? ⟨gl, i.toNat * 3, none⟩ = some (.string (rdC ps i).1.f0) ∧ w.cell? ⟨gl, i.toNat * 3 + 1, none⟩ = some (rdC ps i).2 ∧ w.cell? ⟨gl, i.toNat * 3 + 2, none⟩ = some (.int .i64 (rdC ps i).1.f2) ∧ (rdC ps i).2.oneCell' = true ∧ ∀ j, w.frozen? ⟨gl, i.toNat * 3 + j, none⟩ = false := by
  have hn := (Kd.R_reads' h.l).1
  obtain ⟨c, hc, ⟨rfl, hone⟩, hcell, hf⟩ := Kd.R_elem h.l zC i h0 (by omega)
  exact ⟨hcell 0 _ rfl, hcell 1 _ rfl, hcell 2 _ rfl, hone, hf⟩
theorem rdC_mem {i : Int} (h0 : 0 ≤ i) (h1 : i < (ps.length : Int)) : rdC ps i ∈ ps := by
  (unfold rdC); (have hi : i.toNat < ps.length := by omega); (rw [List.getD_eq_getElem?_getD, List.getElem?_eq_getElem hi]); (exact List.getElem_mem hi)
/-- A row whose own block is another one, and whose elements lead to no block of that type. -/
theorem R_apartB {α : Type} {d : Kd α} {e base kb t : Nat} {ok : Nat → Prop} {v : Value} {xs : List α} {cells : Array Value} (h : d.R e w base ok v xs) (hb : w.heap[kb]? = some (.cells cells t (0, 0))) (hE : ∀ q, q ∈ d.E → q ≠ t) (hne : v.ownBlock ≠ some kb) : d.R e w base (fun k => ok k ∧ k ≠ kb) v xs :=
  ⟨fun k hk => ⟨h.1 k hk, fun e => hne (by rw [← e]; exact hk)⟩, h.2.imp_ (fun _ _ hp => d.M_mono (fun k hk => ⟨⟨hk.1.1, hk.2⟩, hk.1.2⟩) (Kd.M_types hp hb hE))⟩
theorem set_ne {α : Type} {xs : List α} {i j : Nat} {y z : α} (hj : (xs.set i y)[j]? = some z) (hne : j ≠ i) : xs[j]? = some z := by rwa [List.getElem?_set_ne (fun e => hne e.symm)] at hj
/-- Component i's lines are others. -/
theorem Tre.lines {gl n cap : Nat} (h : Tre B0 B w g (.slice (some ⟨gl, 0, none⟩) n cap) vo ps op) (i : Int) (h0 : 0 ≤ i) (h1 : i < (ps.length : Int)) (hg : w.grownBy w1 (rdC ps i).2.ownBlock) {ls : List S44} (hv : Kd.R k44 44 w1 B0 (fun _ => True) v1 ls) (hone : v1.oneCell' = true) (hB : B ≤ w.heap.size)
    (hat : v1.ownBlock = (rdC ps i).2.ownBlock ∨ ∃ b, v1.ownBlock = some b ∧ w.heap.size ≤ b) : Tre B0 B (w1.setCell ⟨gl, i.toNat * 3 + 1, none⟩ v1) g (.slice (some ⟨gl, 0, none⟩) n cap) vo (ps.set i.toNat (⟨(rdC ps i).1.f0, ls, (rdC ps i).1.f2⟩, v1)) op := by
  have hm := rdC_mem h0 h1
  have hp := h.n _ hm
  have hlen : i.toNat < ps.length := by omega
  obtain ⟨cgl, hcgl⟩ := Kd.R_typed h.l gl (by simp [Value.ownBlock])
  have hgl1 : ∃ c, w1.heap[gl]? = some (.cells c 40 (0, 0)) := ⟨cgl, blk_grown hcgl hg (Kd.R_ne hp.1 hcgl (by decide))⟩
  obtain ⟨c1, hc1⟩ := hgl1
  have hb1 := blk_grown h.b hg (Kd.R_ne hp.1 h.b (by decide))
  have hgne : g ≠ gl := blk_ne h.b hcgl (by decide)
  have hl1 := Kd.R_over h.l hp.1 (by decide) hg
  obtain ⟨c, hc, ⟨rfl, hone0⟩, hcell, hf⟩ := Kd.R_elem hl1 zC i h0 (by have := (Kd.R_reads' hl1).1; omega)
  have hseg := (Kd.R_seg (okp := fun _ => False) hl1 i h0 (by have := (Kd.R_reads' hl1).1; omega) (c := [.string (rdC ps i).1.f0, (rdC ps i).2, .int .i64 (rdC ps i).1.f2]) (seg := [v1]) (j := 1) rfl hcell (show 1 + 1 ≤ 3 by decide) (x' := (⟨(rdC ps i).1.f0, ls, (rdC ps i).1.f2⟩, v1)) ⟨rfl, hone⟩ (fun _ hk => hk.elim)).1
  have eset : w1.setCells gl (i.toNat * kC.sz + 1) [v1] = w1.setCell ⟨gl, i.toNat * 3 + 1, none⟩ v1 := rfl
  rw [eset] at hseg
  have far : ∀ {α : Type} {d : Kd α} {e base : Nat} {ok : Nat → Prop} {v : Value} {xs : List α}, d.R e w1 base ok v xs → (∀ q, q ∈ e :: d.E → q ≠ 40) → d.R e (w1.setCell ⟨gl, i.toNat * 3 + 1, none⟩ v1) base ok v xs := fun h ht => Kd.R_set h hc1 ht _ _
  refine ⟨blk_far hb1 hgne v1, h.g, hseg, ?_, ?_, far (Kd.R_over h.o hp.1 (by decide) hg) (by decide)⟩
  · intro q hq
    obtain ⟨j, hj⟩ := List.getElem?_of_mem hq
    by_cases e : j = i.toNat
    · subst e
      rw [List.getElem?_set_self hlen] at hj
      obtain rfl := Option.some.inj hj
      refine ⟨far hv (by decide), fun k hk => ?_⟩
      rcases hat with hat | ⟨b, hb, hle⟩
      · exact hp.2 k (hat ▸ hk)
      · have hk2 : v1.ownBlock = some k := hk
        rw [hb] at hk2
        injection hk2 with hk2
        omega
    · have hj' := set_ne hj e
      have hqm := List.mem_of_getElem? hj'
      refine ⟨far ?_ (by decide), (h.n q hqm).2⟩
      cases ho : (rdC ps i).2.ownBlock with
      | none =>
        rw [ho] at hg
        exact Kd.R_grown (h.n q hqm).1 hg (fun k _ => by simp)
      | some kb =>
        obtain ⟨cells, hcb⟩ := Kd.R_typed hp.1 kb ho
        have hne : q.2.ownBlock ≠ some kb := by
          have hi : ps[i.toNat]? = some (rdC ps i) := by
            unfold rdC
            rw [List.getD_eq_getElem?_getD, List.getElem?_eq_getElem hlen]
            rfl
          rcases Nat.lt_or_gt_of_ne e with hlt | hlt
          · have := List.pairwise_iff_getElem.1 h.a j i.toNat (by have := (List.getElem?_eq_some_iff.1 hj').1; omega) hlen hlt
            rw [(List.getElem?_eq_some_iff.1 hj').2, (List.getElem?_eq_some_iff.1 hi).2] at this
            exact fun hk => this kb hk ho
          · have := List.pairwise_iff_getElem.1 h.a i.toNat j hlen (List.getElem?_eq_some_iff.1 hj').1 hlt
            rw [(List.getElem?_eq_some_iff.1 hj').2, (List.getElem?_eq_some_iff.1 hi).2] at this
            exact this kb ho
        rw [ho] at hg
        exact Kd.R_mono (Kd.R_grown (R_apartB (h.n q hqm).1 hcb (by decide) hne) hg (fun k hk e => hk.2 (by injection e))) (fun _ _ => trivial)
  · rw [List.pairwise_iff_getElem]
    intro a b ha hb hlt k hk hk'
    rw [List.length_set] at ha hb
    have old := List.pairwise_iff_getElem.1 h.a a b ha hb hlt
    have hi : ps[i.toNat]'hlen = rdC ps i := by
      unfold rdC
      rw [List.getD_eq_getElem?_getD, List.getElem?_eq_getElem hlen]
      rfl
    have ltk : ∀ q ∈ ps, ∀ k, q.2.ownBlock = some k → k < w.heap.size := fun q hq k hk => Kd.R_lt (h.n q hq).1 k hk
    rw [List.getElem_set] at hk hk'
    split at hk
    · rename_i e1
      subst e1
      rw [if_neg (by omega)] at hk'
      rcases hat with hat | ⟨b', hb', hle⟩
      · rw [hi] at old
        exact old k (hat ▸ hk) hk'
      · have hk2 : v1.ownBlock = some k := hk
        rw [hb'] at hk2
        injection hk2 with hk2
        have := ltk _ (List.getElem_mem hb) k hk'
        omega
    · split at hk'
      · rename_i e1
        subst e1
        rcases hat with hat | ⟨b', hb', hle⟩
        · rw [hi] at old
          exact old k hk (hat ▸ hk')
        · have hk2 : v1.ownBlock = some k := hk'
          rw [hb'] at hk2
          injection hk2 with hk2
          have := ltk _ (List.getElem_mem ha) k hk
          omega
      · exact old k hk hk'
/-- Component i's own count is another. -/
theorem Tre.count {gl n cap : Nat} (h : Tre B0 B w g (.slice (some ⟨gl, 0, none⟩) n cap) vo ps op) (i : Int) (h0 : 0 ≤ i) (h1 : i < (ps.length : Int)) (m : Int) : Tre B0 B (w.setCell ⟨gl, i.toNat * 3 + 2, none⟩ (.int .i64 m)) g (.slice (some ⟨gl, 0, none⟩) n cap) vo (ps.set i.toNat (⟨(rdC ps i).1.f0, (rdC ps i).1.f1, m⟩, (rdC ps i).2)) op := by
  (have hm := rdC_mem h0 h1); (have hlen : i.toNat < ps.length := by omega); (obtain ⟨cgl, hcgl⟩ := Kd.R_typed h.l gl (by simp [Value.ownBlock])); (have hgne : g ≠ gl := blk_ne h.b hcgl (by decide)); (obtain ⟨c, hc, ⟨rfl, hone0⟩, hcell, hf⟩ := Kd.R_elem h.l zC i h0 (by have := (Kd.R_reads' h.l).1; omega)); (have hseg := (Kd.R_seg (okp := fun _ => False) h.l i h0 (by have := (Kd.R_reads' h.l).1; omega) (c := [.string (rdC ps i).1.f0, (rdC ps i).2, .int .i64 (rdC ps i).1.f2]) (seg := [.int .i64 m]) (j := 2) rfl hcell (show 2 + 1 ≤ 3 by decide) (x' := (⟨(rdC ps i).1.f0, (rdC ps i).1.f1, m⟩, (rdC ps i).2)) ⟨rfl, hone0⟩ (fun _ hk => hk.elim)).1); (have eset : w.setCells gl (i.toNat * kC.sz + 2) [.int .i64 m] = w.setCell ⟨gl, i.toNat * 3 + 2, none⟩ (.int .i64 m) := rfl); (rw [eset] at hseg)
  have hi : ps[i.toNat]'hlen = rdC ps i := by
    (unfold rdC); (rw [List.getD_eq_getElem?_getD, List.getElem?_eq_getElem hlen]); (rfl)
  refine ⟨blk_far h.b hgne _, h.g, hseg, ?_, ?_, Kd.R_set h.o hcgl (by decide) _ _⟩
  · intro q hq
    (obtain ⟨j, hj⟩ := List.getElem?_of_mem hq); (by_cases e : j = i.toNat)
    · subst e
      (rw [List.getElem?_set_self hlen] at hj); (obtain rfl := Option.some.inj hj); (exact ⟨Kd.R_set (h.n _ hm).1 hcgl (by decide) _ _, (h.n _ hm).2⟩)
    · have hqm := List.mem_of_getElem? (set_ne hj e)
      exact ⟨Kd.R_set (h.n q hqm).1 hcgl (by decide) _ _, (h.n q hqm).2⟩
  · rw [List.pairwise_iff_getElem]
    (intro a b ha hb hlt k hk hk'); (rw [List.length_set] at ha hb); (have old := List.pairwise_iff_getElem.1 h.a a b ha hb hlt); (rw [List.getElem_set] at hk hk'); (split at hk)
    · rename_i e1
      subst e1; (rw [if_neg (by omega)] at hk'); (rw [hi] at old); (exact old k hk hk')
    · split at hk'
      · rename_i e1
        subst e1; (rw [hi] at old); (exact old k hk hk')
      · exact old k hk hk'
/-- The components as a row of their kind. -/
theorem Tre.row (h : Tre B0 B w g vl vo ps op) (hB : B0 ≤ B) : Kd.R k40 40 w B0 (fun _ => True) vl (ps.map (·.1)) := by
  (obtain ⟨_, inner, ho, hr⟩ := h.l); (refine ⟨fun _ _ => trivial, inner, by rw [List.length_map]; exact own_weaken ho hB, ?_⟩); (refine ⟨by rw [List.length_map]; exact hr.1, fun j p hj => ?_⟩); (rw [List.getElem?_map] at hj); (obtain ⟨q, hq, rfl⟩ := Option.map_eq_some_iff.1 hj); (obtain ⟨hcs, _⟩ := hr.2 j q hq); (have hqm := List.mem_of_getElem? hq); (have hne : ∀ k, vl.ownBlock = some k → ∃ cells, w.heap[k]? = some (.cells cells 40 (0, 0)) := fun k hk => Kd.R_typed h.l k hk); (have hcs' : (inner.drop (j * k40.sz)).take k40.sz = [.string q.1.f0, q.2, .int .i64 q.1.f2] := hcs); (rw [hcs']); (refine k40_mkM w B0 _ q.1 (Kd.R_mono (Kd.R_apart' (v := vl) (h.n q hqm).1 hne (by decide)) (fun k hk => ⟨trivial, hk.2⟩)))
end
/-- A call of the reader's line: its memory and the boxed line's. -/
structure Ls (B0 B : Nat) (w W : World) (g gb : Nat) (vl vo : Value) (ps : List (S40 × Value)) (op : List Int) (nm : ByteArray) (vx : Value) (px : List (S70)) (v : ByteArray) : Prop where
  t : Tre B0 B W g vl vo ps op
  x : W.heap[gb]? = some (.cells #[.string nm, vx, .string v] 44 (0, 0))
  p : Kd.R k70 70 W B0 (fun _ => True) vx px
  bb : Below B w W
  hb : B ≤ W.heap.size
  n : ∀ p ∈ ps, p.2.ownBlock ≠ some gb
theorem Ls.drewN {B0 B : Nat} {w W : World} {g gb : Nat} {vl vo : Value} {ps : List (S40 × Value)} {op : List Int} {nm : ByteArray} {vx : Value} {px : List (S70)} {v : ByteArray} (h : Ls B0 B w W g gb vl vo ps op nm vx px v) (m : Nat) : Ls B0 B w (W.drewN m) g gb vl vo ps op nm vx px v :=
  ⟨h.t.drewN m, h.x, Kd.R_drewN h.p m, lN h.bb m, h.hb, h.n⟩
theorem Ls.drew {B0 B : Nat} {w W : World} {g gb : Nat} {vl vo : Value} {ps : List (S40 × Value)} {op : List Int} {nm : ByteArray} {vx : Value} {px : List (S70)} {v : ByteArray} (h : Ls B0 B w W g gb vl vo ps op nm vx px v) : Ls B0 B w W.drew g gb vl vo ps op nm vx px v :=
  ⟨h.t.drew, h.x, Kd.R_drew h.p, below_drew h.bb, h.hb, h.n⟩
theorem Ls.openGrow {B0 B : Nat} {w W w1 : World} {g gb : Nat} {vl vo v1 : Value} {ps : List (S40 × Value)} {op op' : List Int} {nm : ByteArray} {vx : Value} {px : List (S70)} {v : ByteArray} (h : Ls B0 B w W g gb vl vo ps op nm vx px v) (hg : W.grownBy w1 vo.ownBlock) (ho : Kd.R (Kd.int .i64) 3 w1 B (fun _ => True) v1 op') : Ls B0 B w (w1.setCell ⟨g, 1, none⟩ v1) g gb vl v1 ps op' nm vx px v :=
  ⟨h.t.openGrow hg ho, blk_far (blk_grown h.x hg (Kd.R_ne h.t.o h.x (by decide))) (blk_ne h.x h.t.b (by decide)) v1, Kd.R_set (Kd.R_over h.p h.t.o (by decide) hg) (blk_grown h.t.b hg h.t.neO) (by decide) _ _, (h.bb.grown hg h.hb (fun k hk => (Kd.R_base h.t.o k hk))).setCell h.t.g v1, by simpa using Nat.le_trans h.hb hg.size, h.n⟩
theorem Tre.lastCell {B0 B : Nat} {W : World} {g n co : Nat} {vl : Value} {adp : Addr} {ps : List (S40 × Value)} {op : List Int} (h : Tre B0 B W g vl (.slice (some adp) n co) ps op) (h0 : 0 < op.length) : W.cell? (adp.add (op.length - 1)) = some (.int .i64 (rd op ((op.length : Int) - 1))) := by
  obtain ⟨ad, e, hx⟩ := Kd.at_int (Kd.R_reads' h.o).2.2 ((op.length : Int) - 1) (by omega) (by have := (Kd.R_reads' h.o).1; omega)
  cases e
  rwa [show ((op.length : Int) - 1).toNat = op.length - 1 by omega] at hx
theorem below_to {B0 B : Nat} {w w1 : World} (h : Below B w w1) (hb : B0 ≤ B) : Below B0 w w1 := ⟨h.os, h.tape, h.output, h.size, fun k hk => h.block k (by omega)⟩
theorem rdC_fst (ps : List (S40 × Value)) (i : Int) : (rdC ps i).1 = rd_T40 (ps.map (·.1)) i := by
  (unfold rdC rd_T40); (rw [List.getD_eq_getElem?_getD, List.getD_eq_getElem?_getD, List.getElem?_map])
  cases ps[i.toNat]? <;> rfl
def tree_rl2.f (k : Nat) (a0 : List (S40)) (a1 : List Int) (a2 : ByteArray) (a3 : List (S70)) (a4 : ByteArray) (a5 : Int) : Option (Bool × List (S40) × List Int) := if 0 ≤ a5 then (if a5 < (a0.length : Int) then ((line_Alike.f k a2 (⟨#[69, 78, 68]⟩ : ByteArray)).bind fun t1 => (if t1 = true then (if (a3.length : Int) > 0 then (some (false, a0, a1)) else ((line_Alike.f k a4 (rd_T40 a0 a5).f0).bind fun t2 => (if t2 = true then (some (true, a0.set a5.toNat (⟨(rd_T40 a0 a5).f0, (rd_T40 a0 a5).f1, wrap64 (wrap64 ((a0.length : Int) - 1) - a5)⟩ : S40), a1.take (a1.length - 1))) else (some (false, a0, a1))))) else (if ((rd_T40 a0 a5).f1).length < 1000000000 then (some (true, a0.set a5.toNat (⟨(rd_T40 a0 a5).f0, (rd_T40 a0 a5).f1 ++ [(⟨a2, a3, a4⟩ : S44)], (rd_T40 a0 a5).f2⟩ : S40), a1)) else (none)))) else (none)) else (none)
theorem tree_rl2.mono : ∀ a0 a1 a2 a3 a4 a5 k, LeO (tree_rl2.f k a0 a1 a2 a3 a4 a5) (tree_rl2.f (k + 1) a0 a1 a2 a3 a4 a5) := by
  (intro a0 a1 a2 a3 a4 a5 k); (unfold tree_rl2.f)
  repeat' first | (with_reducible first | exact line_Alike.mono _ _ _ | exact LeO.refl _ | exact LeO.none _ | refine LeO.ite ?_ ?_ | refine LeO.bind ?_ (fun _ => ?_))
def tree_rl1.f (k : Nat) (a0 : List (S40)) (a1 : List Int) (a2 : ByteArray) (a3 : List (S70)) (a4 : ByteArray) : Option (Bool × List (S40) × List Int) := (line_Alike.f k a2 (⟨#[66, 69, 71, 73, 78]⟩ : ByteArray)).bind fun t1 => (if t1 = true then (if (a3.length : Int) > 0 then (some (false, a0, a1)) else (if a1.length < 17592186044416 then (if a0.length < 1000000000 then (some (true, a0 ++ [(⟨a4, [], 0⟩ : S40)], a1 ++ [(a0.length : Int)])) else (none)) else (none))) else (if (a1.length : Int) = 0 then (some (false, a0, a1)) else (tree_rl2.f k a0 a1 a2 a3 a4 (rd a1 ((a1.length : Int) - 1)))))
theorem tree_rl1.mono : ∀ a0 a1 a2 a3 a4 k, LeO (tree_rl1.f k a0 a1 a2 a3 a4) (tree_rl1.f (k + 1) a0 a1 a2 a3 a4) := by
  (intro a0 a1 a2 a3 a4 k); (unfold tree_rl1.f)
  repeat' first | (with_reducible first | exact line_Alike.mono _ _ _ | exact tree_rl2.mono _ _ _ _ _ _ _ | exact LeO.refl _ | exact LeO.none _ | refine LeO.ite ?_ ?_ | refine LeO.bind ?_ (fun _ => ?_))
def tree_rl.f (k : Nat) (a0 : List (S40)) (a1 : List Int) (a2 : ByteArray) (a3 : List (S70)) (a4 : ByteArray) : Option (Bool × List (S40) × List Int) := if (a1.length : Int) = 0 then (if (a0.length : Int) > 0 then (some (false, a0, a1)) else (tree_rl1.f k a0 a1 a2 a3 a4)) else (tree_rl1.f k a0 a1 a2 a3 a4)
theorem tree_rl.mono : ∀ a0 a1 a2 a3 a4 k, LeO (tree_rl.f k a0 a1 a2 a3 a4) (tree_rl.f (k + 1) a0 a1 a2 a3 a4) := by
  (intro a0 a1 a2 a3 a4 k); (unfold tree_rl.f)
  repeat' first | (with_reducible first | exact tree_rl1.mono _ _ _ _ _ _ | exact LeO.refl _ | exact LeO.none _ | refine LeO.ite ?_ ?_ | refine LeO.bind ?_ (fun _ => ?_))
def rl_.T14 : Bool × List (List Nat × List Nat) := (true, [([], []), ([0], [0]), ([1], [1]), ([2], [2]), ([], []), ([], []), ([5], [5]), ([6], [6]), ([7], [7]), ([], []), ([8, 9], [8, 9]), ([10], [10]), ([11], [11]), ([], []), ([13], [13]), ([12, 14], [12, 14]), ([3, 4, 0, 1, 2, 3, 4, 5, 6, 7, 8, 9, 10, 11, 12, 13, 14, 15], [3, 4]), ([16, 0, 1, 2, 3, 4, 5, 6, 7, 8, 9, 10, 11, 12, 13, 14, 15], [16]), ([17, 15, 15, 0, 1, 2, 3, 4, 5, 6, 7, 8, 9, 10, 11, 12, 13, 14, 15], [15, 17])])
def rl_.B14 : List Nat := [0, 1, 3, 7, 0, 0, 32, 96, 224, 0, 992, 2016, 4064, 0, 8192, 32736, 65535, 131071, 262143]
theorem rl_.tab14 : rtab .any (opsOf Tryd.f27 14) = rl_.T14 := by kernel_rfl
theorem rl_.bits14 : waitsOk rl_.T14.2 rl_.B14 = true := by kernel_rfl
def rl_.T18 : Bool × List (List Nat × List Nat) := (true, [([], []), ([0], [0]), ([1], [1]), ([2], [2]), ([], []), ([], []), ([], []), ([6], [6]), ([7], [7]), ([8], [8]), ([9], [9]), ([10], [10]), ([], []), ([11, 12], [11, 12]), ([], []), ([14], [14]), ([15], [15]), ([16], [16]), ([], []), ([18], [18]), ([17, 19], [17, 19]), ([3, 4, 0, 1, 2, 3, 4, 6, 7, 8, 9, 10, 11, 12, 13, 17], [3, 4]), ([21, 0, 1, 2, 3, 4, 6, 7, 8, 9, 10, 11, 12, 13, 17], [21]), ([22, 13, 0, 1, 2, 3, 4, 6, 7, 8, 9, 10, 11, 12, 13, 17], [13, 22]), ([5, 0, 1, 2, 3, 4, 5, 6, 7, 8, 9, 10, 11, 12, 13, 14, 15, 16, 17, 18, 19, 20, 21, 22, 23], [5]), ([24, 0, 1, 2, 3, 4, 5, 6, 7, 8, 9, 10, 11, 12, 13, 14, 15, 16, 17, 18, 19, 20, 21, 22, 23], [24]), ([25, 20, 23, 0, 1, 2, 3, 4, 5, 6, 7, 8, 9, 10, 11, 12, 13, 14, 15, 16, 17, 18, 19, 20, 21, 22, 23], [20, 25])])
def rl_.B18 : List Nat := [0, 1, 3, 7, 0, 0, 0, 64, 192, 448, 960, 1984, 0, 8128, 0, 16384, 49152, 114688, 0, 262144, 1032192, 262111, 2359263, 6553567, 16777215, 33554431, 67108863]
theorem rl_.tab18 : rtab .any (opsOf Tryd.f27 18) = rl_.T18 := by kernel_rfl
theorem rl_.bits18 : waitsOk rl_.T18.2 rl_.B18 = true := by kernel_rfl

def rl_.T7 : Bool × List (List Nat × List Nat) := (true, [([], []), ([], []), ([1], [1]), ([2], [2]), ([3], [3]), ([], []), ([5], [5]), ([6], [6]), ([7], [7]), ([8], [8]), ([9], [9]), ([4, 10], [4, 10]), ([0, 0, 1, 2, 3, 4, 5, 6, 7, 8, 9, 10, 11], [0]), ([12, 0, 1, 2, 3, 4, 5, 6, 7, 8, 9, 10, 11], [12]), ([13, 11, 11, 0, 1, 2, 3, 4, 5, 6, 7, 8, 9, 10, 11], [11, 13])])
def rl_.B7 : List Nat := [0, 0, 2, 6, 14, 0, 32, 96, 224, 480, 992, 2046, 4095, 8191, 16383]
theorem rl_.tab7 : rtab .any (opsOf Tryd.f27 7) = rl_.T7 := by kernel_rfl
theorem rl_.bits7 : waitsOk rl_.T7.2 rl_.B7 = true := by kernel_rfl
def rl_.T8 : Bool × List (List Nat × List Nat) := (true, [([], []), ([], []), ([1], [1]), ([2], [2]), ([3], [3]), ([], []), ([5], [5]), ([6], [6]), ([7], [7]), ([4, 8], [4, 8]), ([0, 0, 1, 2, 3, 4, 5, 6, 7, 8, 9], [0]), ([10, 0, 1, 2, 3, 4, 5, 6, 7, 8, 9], [10]), ([11, 9, 9, 0, 1, 2, 3, 4, 5, 6, 7, 8, 9], [9, 11])])
def rl_.B8 : List Nat := [0, 0, 2, 6, 14, 0, 32, 96, 224, 510, 1023, 2047, 4095]
theorem rl_.tab8 : rtab .any (opsOf Tryd.f27 8) = rl_.T8 := by kernel_rfl
theorem rl_.bits8 : waitsOk rl_.T8.2 rl_.B8 = true := by kernel_rfl

set_option maxHeartbeats 16000000 in
set_option maxRecDepth 100000 in
theorem rl_one (k : Nat) (B0 B g : Nat) (w : World) (vl vo : Value) (ps : List (S40 × Value)) (op : List Int) (nm : ByteArray) (Ax : Option Addr) (cx : Nat) (px : List (S70)) (v : ByteArray) (H : Tre B0 B w g vl vo ps op) (hx : Kd.R k70 70 w B0 (fun _ => True) (.slice Ax px.length cx) px) (hB : B0 ≤ B) (hBw : B ≤ w.heap.size) (hq_op : (op.length : Int) = 0) (hl : 0 < ps.length) :
    Calls Tryd.prog 27 #[.pointer (some ⟨g, 0, none⟩), .agg #[.string nm, .slice Ax px.length cx, .string v]] w fun en w' => en = .returned (.bool false) ∧ Below B w w' := by
  (obtain ⟨Ao, co, eo⟩ := Kd.R_slice H.o); subst eo; (obtain ⟨Al, cl, el⟩ := Kd.R_slice H.l); subst el; (have A1 := aM H); (have A4 := aM hBw); (have A5 := aM hx); (have A6 := aM hB); (have hu44 := Tryd.underlying44); clear H hBw hx hB; (have qop0 : ((op.length : Int) == 0) = true := by rw [beq_iff_eq]; exact hq_op); (have qop1 : (op.length == 0) = true := by rw [beq_iff_eq]; omega); (have qop2 : decide (op.length = 0) = true := by rw [decide_eq_true_eq]; omega); (have pps0 : decide (0 < (ps.length : Int)) = true := dE (by omega)); (have pps1 : decide (0 < ps.length) = true := dE (by omega)); clear hq_op hl; (go_enter Tryd.func27, Tryd.ntmps27); (go_wp2_with (first | ((with_reducible refine gate_dst (N := 3) rfl ?_); refine box_event ?hg (N := 3) ?hd (cs := #[.string nm, .slice Ax px.length cx, .string v]) (t := 44) ?hr ?_; (case hd => rfl); (case hg => rfl); (case hr => first | (go_simp; done) | (go_simp; rfl)); intro gb hg w3 hbox hb; have HGB : Aside0 (w.heap.size ≤ gb) := ⟨by rw [hg]; exact Nat.le_refl _⟩; have L1 : Aside0 (Ls B0 B w w3 g gb (.slice Al ps.length cl) (.slice Ao op.length co) ps op nm (.slice Ax px.length cx) px v) := ⟨⟨A1.out.below hb, hbox, Kd.R_below A5.out hb, hb.mono A4.out, Nat.le_trans A4.out hb.size, fun p hp e => by have := Kd.R_lt (A1.out.n p hp).1 gb e; have := HGB.out; omega⟩⟩; have g0 : w3.cell? ⟨g, 0, none⟩ = some (.slice Al ps.length cl) := (qC L1.out.t.b 0).trans rfl; have g1 : w3.cell? ⟨g, 1, none⟩ = some (.slice Ao op.length co) := (qC L1.out.t.b 1).trans rfl; have z0 : w3.cell? ⟨gb, 0, none⟩ = some (.string nm) := (qC L1.out.x 0).trans rfl; have z1 : w3.cell? ⟨gb, 1, none⟩ = some (.slice Ax px.length cx) := (qC L1.out.x 1).trans rfl; have z2 : w3.cell? ⟨gb, 2, none⟩ = some (.string v) := (qC L1.out.x 2).trans rfl; clear hb hbox hg))); (go_ret); (exact ⟨rfl, by (repeat (first | exact L1.out.bb | apply lN | apply below_drew))⟩)
set_option maxHeartbeats 16000000 in
set_option maxRecDepth 100000 in
theorem rl_two_a (k : Nat) (B0 B g : Nat) (w : World) (vl vo : Value) (ps : List (S40 × Value)) (op : List Int) (nm : ByteArray) (Ax : Option Addr) (cx : Nat) (px : List (S70)) (v : ByteArray) (H : Tre B0 B w g vl vo ps op) (hx : Kd.R k70 70 w B0 (fun _ => True) (.slice Ax px.length cx) px) (hB : B0 ≤ B) (hBw : B ≤ w.heap.size) (hq_op : ¬ (op.length : Int) = 0) (h1 : line_Alike.f k nm (⟨#[66, 69, 71, 73, 78]⟩ : ByteArray) = some true) (hp : 0 < px.length) :
    Calls Tryd.prog 27 #[.pointer (some ⟨g, 0, none⟩), .agg #[.string nm, .slice Ax px.length cx, .string v]] w fun en w' => en = .returned (.bool false) ∧ Below B w w' := by
  (obtain ⟨Ao, co, eo⟩ := Kd.R_slice H.o); subst eo; (obtain ⟨Al, cl, el⟩ := Kd.R_slice H.l); subst el; (have A1 := aM H); (have A4 := aM hBw); (have A5 := aM hx); (have A6 := aM hB); (have hu44 := Tryd.underlying44); clear H hBw hx hB; (have qop0 : ((op.length : Int) == 0) = false := by rw [beq_eq_false_iff_ne]; exact hq_op); (have qop1 : (op.length == 0) = false := by rw [beq_eq_false_iff_ne]; omega); (have qop2 : decide (op.length = 0) = false := by rw [decide_eq_false_iff_not]; omega); (have ppx0 : decide (0 < (px.length : Int)) = true := dE (by omega)); (have ppx1 : decide (0 < px.length) = true := dE (by omega)); (have HT1 := aM h1); clear h1 hp hq_op; (go_enter Tryd.func27, Tryd.ntmps27); (go_wp2_with (first | ((with_reducible refine gate_dst (N := 3) rfl ?_); refine box_event ?hg (N := 3) ?hd (cs := #[.string nm, .slice Ax px.length cx, .string v]) (t := 44) ?hr ?_; (case hd => rfl); (case hg => rfl); (case hr => first | (go_simp; done) | (go_simp; rfl)); intro gb hg w3 hbox hb; have HGB : Aside0 (w.heap.size ≤ gb) := ⟨by rw [hg]; exact Nat.le_refl _⟩; have L1 : Aside0 (Ls B0 B w w3 g gb (.slice Al ps.length cl) (.slice Ao op.length co) ps op nm (.slice Ax px.length cx) px v) := ⟨⟨A1.out.below hb, hbox, Kd.R_below A5.out hb, hb.mono A4.out, Nat.le_trans A4.out hb.size, fun p hp e => by have := Kd.R_lt (A1.out.n p hp).1 gb e; have := HGB.out; omega⟩⟩; have g0 : w3.cell? ⟨g, 0, none⟩ = some (.slice Al ps.length cl) := (qC L1.out.t.b 0).trans rfl; have g1 : w3.cell? ⟨g, 1, none⟩ = some (.slice Ao op.length co) := (qC L1.out.t.b 1).trans rfl; have z0 : w3.cell? ⟨gb, 0, none⟩ = some (.string nm) := (qC L1.out.x 0).trans rfl; have z1 : w3.cell? ⟨gb, 1, none⟩ = some (.slice Ax px.length cx) := (qC L1.out.x 1).trans rfl; have z2 : w3.cell? ⟨gb, 2, none⟩ = some (.string v) := (qC L1.out.x 2).trans rfl; clear hb hbox hg) | (go_at_call 52; (with_reducible refine (line_Alike.calls k _ _ _ _ HT1.out).mono ?_); rintro en wa1 ⟨rfl, hd⟩; obtain ⟨nd, hq⟩ := hd.out; have L2 : Aside0 (Ls B0 B w wa1 g gb (.slice Al ps.length cl) (.slice Ao op.length co) ps op nm (.slice Ax px.length cx) px v) := ⟨by rw [hq]; exact L1.out.drewN nd⟩; clear g0 g1 z0 z1 z2; have g0 : wa1.cell? ⟨g, 0, none⟩ = some (.slice Al ps.length cl) := (qC L2.out.t.b 0).trans rfl; have g1 : wa1.cell? ⟨g, 1, none⟩ = some (.slice Ao op.length co) := (qC L2.out.t.b 1).trans rfl; have z0 : wa1.cell? ⟨gb, 0, none⟩ = some (.string nm) := (qC L2.out.x 0).trans rfl; have z1 : wa1.cell? ⟨gb, 1, none⟩ = some (.slice Ax px.length cx) := (qC L2.out.x 1).trans rfl; have z2 : wa1.cell? ⟨gb, 2, none⟩ = some (.string v) := (qC L2.out.x 2).trans rfl; clear hd hq))); (go_ret); (exact ⟨rfl, by (repeat (first | exact L2.out.bb | apply lN | apply below_drew))⟩)
set_option maxHeartbeats 16000000 in
set_option maxRecDepth 100000 in
theorem rl_two_b (k : Nat) (B0 B g : Nat) (w : World) (vl vo : Value) (ps : List (S40 × Value)) (op : List Int) (nm : ByteArray) (Ax : Option Addr) (cx : Nat) (px : List (S70)) (v : ByteArray) (H : Tre B0 B w g vl vo ps op) (hx : Kd.R k70 70 w B0 (fun _ => True) (.slice Ax px.length cx) px) (hB : B0 ≤ B) (hBw : B ≤ w.heap.size) (hq_op : (op.length : Int) = 0) (hl : ps.length = 0) (h1 : line_Alike.f k nm (⟨#[66, 69, 71, 73, 78]⟩ : ByteArray) = some true) (hp : 0 < px.length) :
    Calls Tryd.prog 27 #[.pointer (some ⟨g, 0, none⟩), .agg #[.string nm, .slice Ax px.length cx, .string v]] w fun en w' => en = .returned (.bool false) ∧ Below B w w' := by
  (obtain ⟨Ao, co, eo⟩ := Kd.R_slice H.o); subst eo; (obtain ⟨Al, cl, el⟩ := Kd.R_slice H.l); subst el; (have A1 := aM H); (have A4 := aM hBw); (have A5 := aM hx); (have A6 := aM hB); (have hu44 := Tryd.underlying44); clear H hBw hx hB; (have qop0 : ((op.length : Int) == 0) = true := by rw [beq_iff_eq]; exact hq_op); (have qop1 : (op.length == 0) = true := by rw [beq_iff_eq]; omega); (have qop2 : decide (op.length = 0) = true := by rw [decide_eq_true_eq]; omega); (have pps0 : decide (0 < (ps.length : Int)) = false := decide_eq_false (by omega)); (have pps1 : decide (0 < ps.length) = false := decide_eq_false (by omega)); (have ppx0 : decide (0 < (px.length : Int)) = true := dE (by omega)); (have ppx1 : decide (0 < px.length) = true := dE (by omega)); (have HT1 := aM h1); clear h1 hp hl hq_op; (go_enter Tryd.func27, Tryd.ntmps27); (go_wp2_with (first | ((with_reducible refine gate_dst (N := 3) rfl ?_); refine box_event ?hg (N := 3) ?hd (cs := #[.string nm, .slice Ax px.length cx, .string v]) (t := 44) ?hr ?_; (case hd => rfl); (case hg => rfl); (case hr => first | (go_simp; done) | (go_simp; rfl)); intro gb hg w3 hbox hb; have HGB : Aside0 (w.heap.size ≤ gb) := ⟨by rw [hg]; exact Nat.le_refl _⟩; have L1 : Aside0 (Ls B0 B w w3 g gb (.slice Al ps.length cl) (.slice Ao op.length co) ps op nm (.slice Ax px.length cx) px v) := ⟨⟨A1.out.below hb, hbox, Kd.R_below A5.out hb, hb.mono A4.out, Nat.le_trans A4.out hb.size, fun p hp e => by have := Kd.R_lt (A1.out.n p hp).1 gb e; have := HGB.out; omega⟩⟩; have g0 : w3.cell? ⟨g, 0, none⟩ = some (.slice Al ps.length cl) := (qC L1.out.t.b 0).trans rfl; have g1 : w3.cell? ⟨g, 1, none⟩ = some (.slice Ao op.length co) := (qC L1.out.t.b 1).trans rfl; have z0 : w3.cell? ⟨gb, 0, none⟩ = some (.string nm) := (qC L1.out.x 0).trans rfl; have z1 : w3.cell? ⟨gb, 1, none⟩ = some (.slice Ax px.length cx) := (qC L1.out.x 1).trans rfl; have z2 : w3.cell? ⟨gb, 2, none⟩ = some (.string v) := (qC L1.out.x 2).trans rfl; clear hb hbox hg) | (go_at_call 52; (with_reducible refine (line_Alike.calls k _ _ _ _ HT1.out).mono ?_); rintro en wa1 ⟨rfl, hd⟩; obtain ⟨nd, hq⟩ := hd.out; have L2 : Aside0 (Ls B0 B w wa1 g gb (.slice Al ps.length cl) (.slice Ao op.length co) ps op nm (.slice Ax px.length cx) px v) := ⟨by rw [hq]; exact L1.out.drewN nd⟩; clear g0 g1 z0 z1 z2; have g0 : wa1.cell? ⟨g, 0, none⟩ = some (.slice Al ps.length cl) := (qC L2.out.t.b 0).trans rfl; have g1 : wa1.cell? ⟨g, 1, none⟩ = some (.slice Ao op.length co) := (qC L2.out.t.b 1).trans rfl; have z0 : wa1.cell? ⟨gb, 0, none⟩ = some (.string nm) := (qC L2.out.x 0).trans rfl; have z1 : wa1.cell? ⟨gb, 1, none⟩ = some (.slice Ax px.length cx) := (qC L2.out.x 1).trans rfl; have z2 : wa1.cell? ⟨gb, 2, none⟩ = some (.string v) := (qC L2.out.x 2).trans rfl; clear hd hq))); (go_ret); (exact ⟨rfl, by (repeat (first | exact L2.out.bb | apply lN | apply below_drew))⟩)
set_option maxHeartbeats 16000000 in
set_option maxRecDepth 100000 in
theorem rl_four (k : Nat) (B0 B g : Nat) (w : World) (vl vo : Value) (ps : List (S40 × Value)) (op : List Int) (nm : ByteArray) (Ax : Option Addr) (cx : Nat) (px : List (S70)) (v : ByteArray) (H : Tre B0 B w g vl vo ps op) (hx : Kd.R k70 70 w B0 (fun _ => True) (.slice Ax px.length cx) px) (hB : B0 ≤ B) (hBw : B ≤ w.heap.size) (hq_op : (op.length : Int) = 0) (hl : ps.length = 0) (h1 : line_Alike.f k nm (⟨#[66, 69, 71, 73, 78]⟩ : ByteArray) = some false) :
    Calls Tryd.prog 27 #[.pointer (some ⟨g, 0, none⟩), .agg #[.string nm, .slice Ax px.length cx, .string v]] w fun en w' => en = .returned (.bool false) ∧ Below B w w' := by
  (obtain ⟨Ao, co, eo⟩ := Kd.R_slice H.o); subst eo; (obtain ⟨Al, cl, el⟩ := Kd.R_slice H.l); subst el; (have A1 := aM H); (have A4 := aM hBw); (have A5 := aM hx); (have A6 := aM hB); (have hu44 := Tryd.underlying44); clear H hBw hx hB; (have qop0 : ((op.length : Int) == 0) = true := by rw [beq_iff_eq]; exact hq_op); (have qop1 : (op.length == 0) = true := by rw [beq_iff_eq]; omega); (have qop2 : decide (op.length = 0) = true := by rw [decide_eq_true_eq]; omega); (have pps0 : decide (0 < (ps.length : Int)) = false := decide_eq_false (by omega)); (have pps1 : decide (0 < ps.length) = false := decide_eq_false (by omega)); (have HT1 := aM h1); clear h1 hl hq_op; (go_enter Tryd.func27, Tryd.ntmps27); (go_wp2_with (first | ((with_reducible refine gate_dst (N := 3) rfl ?_); refine box_event ?hg (N := 3) ?hd (cs := #[.string nm, .slice Ax px.length cx, .string v]) (t := 44) ?hr ?_; (case hd => rfl); (case hg => rfl); (case hr => first | (go_simp; done) | (go_simp; rfl)); intro gb hg w3 hbox hb; have HGB : Aside0 (w.heap.size ≤ gb) := ⟨by rw [hg]; exact Nat.le_refl _⟩; have L1 : Aside0 (Ls B0 B w w3 g gb (.slice Al ps.length cl) (.slice Ao op.length co) ps op nm (.slice Ax px.length cx) px v) := ⟨⟨A1.out.below hb, hbox, Kd.R_below A5.out hb, hb.mono A4.out, Nat.le_trans A4.out hb.size, fun p hp e => by have := Kd.R_lt (A1.out.n p hp).1 gb e; have := HGB.out; omega⟩⟩; have g0 : w3.cell? ⟨g, 0, none⟩ = some (.slice Al ps.length cl) := (qC L1.out.t.b 0).trans rfl; have g1 : w3.cell? ⟨g, 1, none⟩ = some (.slice Ao op.length co) := (qC L1.out.t.b 1).trans rfl; have z0 : w3.cell? ⟨gb, 0, none⟩ = some (.string nm) := (qC L1.out.x 0).trans rfl; have z1 : w3.cell? ⟨gb, 1, none⟩ = some (.slice Ax px.length cx) := (qC L1.out.x 1).trans rfl; have z2 : w3.cell? ⟨gb, 2, none⟩ = some (.string v) := (qC L1.out.x 2).trans rfl; clear hb hbox hg) | (go_at_call 52; (with_reducible refine (line_Alike.calls k _ _ _ _ HT1.out).mono ?_); rintro en wa1 ⟨rfl, hd⟩; obtain ⟨nd, hq⟩ := hd.out; have L2 : Aside0 (Ls B0 B w wa1 g gb (.slice Al ps.length cl) (.slice Ao op.length co) ps op nm (.slice Ax px.length cx) px v) := ⟨by rw [hq]; exact L1.out.drewN nd⟩; clear g0 g1 z0 z1 z2; have g0 : wa1.cell? ⟨g, 0, none⟩ = some (.slice Al ps.length cl) := (qC L2.out.t.b 0).trans rfl; have g1 : wa1.cell? ⟨g, 1, none⟩ = some (.slice Ao op.length co) := (qC L2.out.t.b 1).trans rfl; have z0 : wa1.cell? ⟨gb, 0, none⟩ = some (.string nm) := (qC L2.out.x 0).trans rfl; have z1 : wa1.cell? ⟨gb, 1, none⟩ = some (.slice Ax px.length cx) := (qC L2.out.x 1).trans rfl; have z2 : wa1.cell? ⟨gb, 2, none⟩ = some (.string v) := (qC L2.out.x 2).trans rfl; clear hd hq))); (go_ret); (exact ⟨rfl, by (repeat (first | exact L2.out.bb | apply lN | apply below_drew))⟩)
set_option maxHeartbeats 16000000 in
set_option maxRecDepth 100000 in
theorem rl_three_a (k : Nat) (B0 B g : Nat) (w : World) (vl vo : Value) (ps : List (S40 × Value)) (op : List Int) (nm : ByteArray) (Ax : Option Addr) (cx : Nat) (px : List (S70)) (v : ByteArray) (H : Tre B0 B w g vl vo ps op) (hx : Kd.R k70 70 w B0 (fun _ => True) (.slice Ax px.length cx) px) (hB : B0 ≤ B) (hBw : B ≤ w.heap.size) (hq_op : ¬ (op.length : Int) = 0) (h1 : line_Alike.f k nm (⟨#[66, 69, 71, 73, 78]⟩ : ByteArray) = some true) (hp : ¬ 0 < px.length) (hlo : op.length < 17592186044416) (hlp : ps.length < 1000000000) :
    Calls Tryd.prog 27 #[.pointer (some ⟨g, 0, none⟩), .agg #[.string nm, .slice Ax px.length cx, .string v]] w fun en w' => en = .returned (.bool true) ∧ (∃ vl' vo' ps', ps'.map (·.1) = ps.map (·.1) ++ [(⟨v, [], 0⟩ : S40)] ∧ Tre B0 B w' g vl' vo' ps' (op ++ [(ps.length : Int)])) ∧ Below B w w' := by
  (obtain ⟨Ao, co, eo⟩ := Kd.R_slice H.o); subst eo; (obtain ⟨Al, cl, el⟩ := Kd.R_slice H.l); subst el; (have A1 := aM H); (have A4 := aM hBw); (have A5 := aM hx); (have A6 := aM hB); (have hu44 := Tryd.underlying44); clear H hBw hx hB; (have qop0 : ((op.length : Int) == 0) = false := by rw [beq_eq_false_iff_ne]; exact hq_op); (have qop1 : (op.length == 0) = false := by rw [beq_eq_false_iff_ne]; omega); (have qop2 : decide (op.length = 0) = false := by rw [decide_eq_false_iff_not]; omega); (have ppx0 : decide (0 < (px.length : Int)) = false := decide_eq_false (by omega)); (have ppx1 : decide (0 < px.length) = false := decide_eq_false (by omega)); (have HT1 := aM h1); (have HL := aM hlo); (have HM := aM hlp); clear h1 hp hlo hlp hq_op; (go_enter Tryd.func27, Tryd.ntmps27); (go_wp2_with (first | ((with_reducible refine gate_dst (N := 3) rfl ?_); refine box_event ?hg (N := 3) ?hd (cs := #[.string nm, .slice Ax px.length cx, .string v]) (t := 44) ?hr ?_; (case hd => rfl); (case hg => rfl); (case hr => first | (go_simp; done) | (go_simp; rfl)); intro gb hg w3 hbox hb; have HGB : Aside0 (w.heap.size ≤ gb) := ⟨by rw [hg]; exact Nat.le_refl _⟩; have L1 : Aside0 (Ls B0 B w w3 g gb (.slice Al ps.length cl) (.slice Ao op.length co) ps op nm (.slice Ax px.length cx) px v) := ⟨⟨A1.out.below hb, hbox, Kd.R_below A5.out hb, hb.mono A4.out, Nat.le_trans A4.out hb.size, fun p hp e => by have := Kd.R_lt (A1.out.n p hp).1 gb e; have := HGB.out; omega⟩⟩; have g0 : w3.cell? ⟨g, 0, none⟩ = some (.slice Al ps.length cl) := (qC L1.out.t.b 0).trans rfl; have g1 : w3.cell? ⟨g, 1, none⟩ = some (.slice Ao op.length co) := (qC L1.out.t.b 1).trans rfl; have z0 : w3.cell? ⟨gb, 0, none⟩ = some (.string nm) := (qC L1.out.x 0).trans rfl; have z1 : w3.cell? ⟨gb, 1, none⟩ = some (.slice Ax px.length cx) := (qC L1.out.x 1).trans rfl; have z2 : w3.cell? ⟨gb, 2, none⟩ = some (.string v) := (qC L1.out.x 2).trans rfl; clear hb hbox hg) | (go_at_call 52; (with_reducible refine (line_Alike.calls k _ _ _ _ HT1.out).mono ?_); rintro en wa1 ⟨rfl, hd⟩; obtain ⟨nd, hq⟩ := hd.out; have L2 : Aside0 (Ls B0 B w wa1 g gb (.slice Al ps.length cl) (.slice Ao op.length co) ps op nm (.slice Ax px.length cx) px v) := ⟨by rw [hq]; exact L1.out.drewN nd⟩; clear g0 g1 z0 z1 z2; have g0 : wa1.cell? ⟨g, 0, none⟩ = some (.slice Al ps.length cl) := (qC L2.out.t.b 0).trans rfl; have g1 : wa1.cell? ⟨g, 1, none⟩ = some (.slice Ao op.length co) := (qC L2.out.t.b 1).trans rfl; have z0 : wa1.cell? ⟨gb, 0, none⟩ = some (.string nm) := (qC L2.out.x 0).trans rfl; have z1 : wa1.cell? ⟨gb, 1, none⟩ = some (.slice Ax px.length cx) := (qC L2.out.x 1).trans rfl; have z2 : wa1.cell? ⟨gb, 2, none⟩ = some (.string v) := (qC L2.out.x 2).trans rfl; clear hd hq))); (have M1 := aM L2.out.drew); clear g0 g1 z0 z1 z2 L1 L2 HT1; (have c0 : wa1.drew.cell? ⟨g, 0, none⟩ = some (.slice Al ps.length cl) := (qC M1.out.t.b 0).trans rfl); (have c1 : wa1.drew.cell? ⟨g, 1, none⟩ = some (.slice Ao op.length co) := (qC M1.out.t.b 1).trans rfl); (refine start_ (n := 15) (S := fun w' => w'.cell? ⟨g, 0, none⟩ = some (.slice Al ps.length cl) ∧ w'.cell? ⟨g, 1, none⟩ = some (.slice Ao op.length co)) (ds := [14]) #[O,O,O,O,O,O,O,O,O,O,O,O,O,O,O] (by kernel_rfl) rfl rfl ⟨c0, c1⟩ (fun hHeld => ?_); refine with_tabW rl_.tab7 rl_.bits7 (fun HT_ HW_ => ?_)); (generalize wa1.drew = wd at M1 hHeld ⊢); (refine pu_ (i := 0) (N := some 31) (v := ?_) (a' := ?_) #[I,O,O,O,O,O,O,O,O,O,O,O,O,O,O] rfl rfl HT_.out (by kernel_rfl) (fun _ _ _ h => h) (Or.inl ⟨by rfl, ?_⟩) ?_ ?_); (rotate_left)
  · intro w'
    (go_simp); (with_reducible rfl)
  rotate_left
  · simp only [Act.put, sTA, sCZ, sCS, i64_w, i32_w]
    rfl
  (refine pu_ (i := 1) (N := some 32) (v := ?_) (a' := ?_) #[I,I,O,O,O,O,O,O,O,O,O,O,O,O,O] rfl rfl HT_.out (by kernel_rfl) (fun _ _ _ h => h) (Or.inl ⟨by rfl, ?_⟩) ?_ ?_); (rotate_left)
  · intro w'
    (go_simp); (with_reducible rfl)
  rotate_left
  · simp only [Act.put, sTA, sCZ, sCS, i64_w, i32_w]
    rfl
  (refine pu_ (i := 2) (N := some 33) (v := ?_) (a' := ?_) #[I,I,I,O,O,O,O,O,O,O,O,O,O,O,O] rfl rfl HT_.out (by kernel_rfl) (fun _ _ _ h => h) (Or.inl ⟨by rfl, ?_⟩) ?_ ?_); (rotate_left)
  · intro w'
    (go_simp); (with_reducible rfl)
  rotate_left
  · simp only [Act.put, sTA, sCZ, sCS, i64_w, i32_w]
    rfl
  (refine pu_ (i := 3) (N := some 34) (v := ?_) (a' := ?_) #[I,I,I,I,O,O,O,O,O,O,O,O,O,O,O] rfl rfl HT_.out (by kernel_rfl) (fun _ _ _ h => h) (Or.inl ⟨by rfl, ?_⟩) ?_ ?_); (rotate_left)
  · intro w'
    (go_simp); (with_reducible rfl)
  rotate_left
  · simp only [Act.put, sTA, sCZ, sCS, i64_w, i32_w]
    rfl
  (refine pu_ (i := 5) (N := some 36) (v := ?_) (a' := ?_) #[I,I,I,I,O,I,O,O,O,O,O,O,O,O,O] rfl rfl HT_.out (by kernel_rfl) (fun _ _ _ h => h) (Or.inl ⟨by rfl, ?_⟩) ?_ ?_); (rotate_left)
  · intro w'
    (go_simp); (with_reducible rfl)
  rotate_left
  · simp only [Act.put, sTA, sCZ, sCS, i64_w, i32_w]
    rfl
  (refine pu_ (i := 6) (N := some 37) (v := ?_) (a' := ?_) #[I,I,I,I,O,I,I,O,O,O,O,O,O,O,O] rfl rfl HT_.out (by kernel_rfl) (fun _ _ _ h => h) (Or.inl ⟨by rfl, ?_⟩) ?_ ?_); (rotate_left)
  · intro w'
    (go_simp); (with_reducible rfl)
  rotate_left
  · simp only [Act.put, sTA, sCZ, sCS, i64_w, i32_w]
    rfl
  (refine pu_ (i := 7) (N := some 38) (v := ?_) (a' := ?_) #[I,I,I,I,O,I,I,I,O,O,O,O,O,O,O] rfl rfl HT_.out (by kernel_rfl) (fun _ _ _ h => h) (Or.inl ⟨by rfl, ?_⟩) ?_ ?_); (rotate_left)
  · intro w'
    (go_simp); (with_reducible rfl)
  rotate_left
  · simp only [Act.put, sTA, sCZ, sCS, i64_w, i32_w]
    rfl
  (refine take_ (i := 4) (N := some 35) (v := ?_) (a' := ?_) #[I,I,I,I,I,I,I,I,O,O,O,O,O,O,O] rfl rfl (take_ofW HT_.out HW_.out (by kernel_rfl)) (fun _ _ _ h => h) (Or.inl ⟨by rfl, ?_⟩) hHeld ?_ ?_); (rotate_left)
  · rintro w' ⟨s0, s1⟩
    (go_simp); (with_reducible rfl)
  rotate_left
  · simp only [Act.put, sTA, sCZ, sCS, i64_w, i32_w]
    rfl
  (refine take_ (i := 8) (N := some 39) (v := ?_) (a' := ?_) #[I,I,I,I,I,I,I,I,I,O,O,O,O,O,O] rfl rfl (take_ofW HT_.out HW_.out (by kernel_rfl)) (fun _ _ _ h => h) (Or.inl ⟨by rfl, ?_⟩) hHeld ?_ ?_); (rotate_left)
  · rintro w' ⟨s0, s1⟩
    (go_simp); (with_reducible rfl)
  rotate_left
  · simp only [Act.put, sTA, sCZ, sCS, i64_w, i32_w]
    rfl
  (refine pu_ (i := 9) (N := some 40) (v := ?_) (a' := ?_) #[I,I,I,I,I,I,I,I,I,I,O,O,O,O,O] rfl rfl HT_.out (by kernel_rfl) (fun _ _ _ h => h) (Or.inl ⟨by rfl, ?_⟩) ?_ ?_); (rotate_left)
  · intro w'
    (go_simp); (with_reducible rfl)
  rotate_left
  · simp only [Act.put, sTA, sCZ, sCS, i64_w, i32_w]
    rfl
  (refine one_ (i := 10) (N := some 41) #[I,I,I,I,I,I,I,I,I,I,I,O,O,O,O] rfl rfl (one_of HT_.out (by kernel_rfl)) (by decide) (fun K hK => ?_)); (refine value_ (w1 := ?_) (v := ?_) (by rfl) rfl ?_ ?_); (rotate_left 2)
  · go_simp
    constructor
    · rfl
    · rfl
  (refine hK.out _ _ ⟨(World.cell?_alloc_past _ _ _ M1.out.t.lt).trans hHeld.1, (World.cell?_alloc_past _ _ _ M1.out.t.lt).trans hHeld.2⟩ (fun hHeld => ?_)); clear hK K; (refine norm_ (a' := ?_) ?_ ?_); (rotate_left)
  · show Act.put _ (some 41) _ = _
    (simp only [Act.put, sTA, sCZ, sCS, i64_w, i32_w]); (rfl)
  (refine one_ (i := 11) (N := some 42) #[I,I,I,I,I,I,I,I,I,I,I,I,O,O,O] rfl rfl (one_of HT_.out (by kernel_rfl)) (by decide) (fun K hK => ?_)); (refine Kd.R_append_step (Kd.int .i64) (w0 := w) B (by rfl) (.tmp 35) (.tmp 41) 32 3 (.int .i64 0) 8 rfl Tryd.underlying32 tr_info3 rfl (by decide) (by omega) (.slice Ao op.length co) op (ps.length : Int) [.int .i64 (ps.length : Int)] (fun _ => True) (fun _ => False) rfl rfl rfl (fun _ hk => hk.elim) (fun _ _ => trivial) M1.out.t.o M1.out.bb M1.out.hb (by have := HL.out; omega) ?_); (intro v1 w1 ho hb hg hat); (obtain ⟨An, cn, en⟩ := Kd.R_slice ho); (rw [List.length_append, List.length_singleton] at en); subst en; (have F0 := aM (blk_grown M1.out.t.b hg M1.out.t.neO)); (have F1 := aM (M1.out.openGrow hg ho)); clear ho hb hg hat; (refine hK.out _ _ ⟨(qC F0.out 0).trans rfl, (qC F0.out 1).trans rfl⟩ (fun hHeld => ?_)); clear hK K; (refine norm_ (a' := ?_) ?_ ?_); (rotate_left)
  · show Act.put _ (some 42) _ = _
    (simp only [Act.put, sTA, sCZ, sCS, i64_w, i32_w]); (rfl)
  (refine pu_ (i := 12) (N := some 43) (v := ?_) (a' := ?_) #[I,I,I,I,I,I,I,I,I,I,I,I,I,O,O] rfl rfl HT_.out (by kernel_rfl) (fun _ _ _ h => h) (Or.inl ⟨by rfl, ?_⟩) ?_ ?_); (rotate_left)
  · intro w'
    (go_simp); (with_reducible rfl)
  rotate_left
  · simp only [Act.put, sTA, sCZ, sCS, i64_w, i32_w]
    rfl
  (refine pu_ (i := 13) (N := some 44) (v := ?_) (a' := ?_) #[I,I,I,I,I,I,I,I,I,I,I,I,I,I,O] rfl rfl HT_.out (by kernel_rfl) (fun _ _ _ h => h) (Or.inl ⟨by rfl, ?_⟩) ?_ ?_); (rotate_left)
  · intro w'
    (go_simp); (with_reducible rfl)
  rotate_left
  · simp only [Act.put, sTA, sCZ, sCS, i64_w, i32_w]
    rfl
  (refine last_ (i := 14) (N := none) #[I,I,I,I,I,I,I,I,I,I,I,I,I,I,I] rfl rfl (one_of HT_.out (by kernel_rfl)) (by decide) (fun K hK => ?_)); (have f0 := qF F0.out 1); (have c0' : w1.cell? ⟨g, 1, none⟩ = some (.slice Ao op.length co) := (qC F0.out 1).trans rfl); (refine skip_ (w1 := ?_) (by rfl) rfl ?_ ?_); (rotate_left)
  · go_simp
    rfl
  (refine hK.out _ _ ?_); clear hK K; (refine done_ (done_of HT_.out (by kernel_rfl)) ?_); (go_wp2); clear F0 M1 HL; (generalize w1.setCell ⟨g, 1, none⟩ (.slice An (op.length + 1) cn) = W at F1 ⊢); (replace F1 := aM F1.out.drew); (have c0 : W.drew.cell? ⟨g, 0, none⟩ = some (.slice Al ps.length cl) := (qC F1.out.t.b 0).trans rfl); (have c2 : W.drew.cell? ⟨gb, 2, none⟩ = some (.string v) := (qC F1.out.x 2).trans rfl); (refine start_ (n := 13) (S := fun w' => w'.cell? ⟨g, 0, none⟩ = some (.slice Al ps.length cl) ∧ w'.cell? ⟨gb, 2, none⟩ = some (.string v)) (ds := [12]) #[O,O,O,O,O,O,O,O,O,O,O,O,O] (by kernel_rfl) rfl rfl ⟨c0, c2⟩ (fun hHeld => ?_); refine with_tabW rl_.tab8 rl_.bits8 (fun HT_ HW_ => ?_)); (generalize W.drew = wd at F1 hHeld ⊢); (refine pu_ (i := 0) (N := some 45) (v := ?_) (a' := ?_) #[I,O,O,O,O,O,O,O,O,O,O,O,O] rfl rfl HT_.out (by kernel_rfl) (fun _ _ _ h => h) (Or.inl ⟨by rfl, ?_⟩) ?_ ?_); (rotate_left)
  · intro w'
    (go_simp); (with_reducible rfl)
  rotate_left
  · simp only [Act.put, sTA, sCZ, sCS, i64_w, i32_w]
    rfl
  (refine pu_ (i := 1) (N := some 46) (v := ?_) (a' := ?_) #[I,I,O,O,O,O,O,O,O,O,O,O,O] rfl rfl HT_.out (by kernel_rfl) (fun _ _ _ h => h) (Or.inl ⟨by rfl, ?_⟩) ?_ ?_); (rotate_left)
  · intro w'
    (go_simp); (with_reducible rfl)
  rotate_left
  · simp only [Act.put, sTA, sCZ, sCS, i64_w, i32_w]
    rfl
  (refine pu_ (i := 2) (N := some 47) (v := ?_) (a' := ?_) #[I,I,I,O,O,O,O,O,O,O,O,O,O] rfl rfl HT_.out (by kernel_rfl) (fun _ _ _ h => h) (Or.inl ⟨by rfl, ?_⟩) ?_ ?_); (rotate_left)
  · intro w'
    (go_simp); (with_reducible rfl)
  rotate_left
  · simp only [Act.put, sTA, sCZ, sCS, i64_w, i32_w]
    rfl
  (refine pu_ (i := 3) (N := some 48) (v := ?_) (a' := ?_) #[I,I,I,I,O,O,O,O,O,O,O,O,O] rfl rfl HT_.out (by kernel_rfl) (fun _ _ _ h => h) (Or.inl ⟨by rfl, ?_⟩) ?_ ?_); (rotate_left)
  · intro w'
    (go_simp); (with_reducible rfl)
  rotate_left
  · simp only [Act.put, sTA, sCZ, sCS, i64_w, i32_w]
    rfl
  (refine pu_ (i := 5) (N := some 50) (v := ?_) (a' := ?_) #[I,I,I,I,O,I,O,O,O,O,O,O,O] rfl rfl HT_.out (by kernel_rfl) (fun _ _ _ h => h) (Or.inl ⟨by rfl, ?_⟩) ?_ ?_); (rotate_left)
  · intro w'
    (go_simp); (with_reducible rfl)
  rotate_left
  · simp only [Act.put, sTA, sCZ, sCS, i64_w, i32_w]
    rfl
  (refine take_ (i := 4) (N := some 49) (v := ?_) (a' := ?_) #[I,I,I,I,I,I,O,O,O,O,O,O,O] rfl rfl (take_ofW HT_.out HW_.out (by kernel_rfl)) (fun _ _ _ h => h) (Or.inl ⟨by rfl, ?_⟩) hHeld ?_ ?_); (rotate_left)
  · rintro w' ⟨s0, s1⟩
    (go_simp); (with_reducible rfl)
  rotate_left
  · simp only [Act.put, sTA, sCZ, sCS, i64_w, i32_w]
    rfl
  (refine take_ (i := 6) (N := some 51) (v := ?_) (a' := ?_) #[I,I,I,I,I,I,I,O,O,O,O,O,O] rfl rfl (take_ofW HT_.out HW_.out (by kernel_rfl)) (fun _ _ _ h => h) (Or.inl ⟨by rfl, ?_⟩) hHeld ?_ ?_); (rotate_left)
  · rintro w' ⟨s0, s1⟩
    (go_simp); (with_reducible rfl)
  rotate_left
  · simp only [Act.put, sTA, sCZ, sCS, i64_w, i32_w]
    rfl
  (refine pu_ (i := 7) (N := some 52) (v := ?_) (a' := ?_) #[I,I,I,I,I,I,I,I,O,O,O,O,O] rfl rfl HT_.out (by kernel_rfl) (fun _ _ _ h => h) (Or.inl ⟨by rfl, ?_⟩) ?_ ?_); (rotate_left)
  · intro w'
    (go_simp); (with_reducible rfl)
  rotate_left
  · simp only [Act.put, sTA, sCZ, sCS, i64_w, i32_w]
    rfl
  (refine one_ (i := 8) (N := some 53) #[I,I,I,I,I,I,I,I,I,O,O,O,O] rfl rfl (one_of HT_.out (by kernel_rfl)) (by decide) (fun K hK => ?_)); (refine value_ (w1 := ?_) (v := ?_) (by rfl) rfl ?_ ?_); (rotate_left 2)
  · go_simp
    constructor
    · rfl
    · rfl
  (refine hK.out _ _ ⟨(World.cell?_alloc_past _ _ _ F1.out.t.lt).trans hHeld.1, (World.cell?_alloc_past _ _ _ (blk_lt F1.out.x)).trans hHeld.2⟩ (fun hHeld => ?_)); clear hK K; (refine norm_ (a' := ?_) ?_ ?_); (rotate_left)
  · show Act.put _ (some 53) _ = _
    (simp only [Act.put, sTA, sCZ, sCS, i64_w, i32_w]); (rfl)
  (refine one_ (i := 9) (N := some 54) #[I,I,I,I,I,I,I,I,I,I,O,O,O] rfl rfl (one_of HT_.out (by kernel_rfl)) (by decide) (fun K hK => ?_)); (refine Kd.R_append_step kC (w0 := w) B (by rfl) (.tmp 49) (.tmp 53) 22 40 (.agg #[.string ByteArray.empty, .slice none 0 0, .int .i64 0]) 48 rfl Tryd.underlying22 tr_info40 rfl (by decide) (by omega) (.slice Al ps.length cl) ps (⟨v, [], 0⟩, .slice none 0 0) [.string v, .slice none 0 0, .int .i64 0] (fun _ => True) (fun _ => False) rfl rfl ⟨rfl, rfl⟩ (fun _ hk => hk.elim) (fun _ _ => trivial) F1.out.t.l F1.out.bb F1.out.hb (by have := HM.out; omega) ?_); (intro v2 w2 ho hb hg hat); (obtain ⟨Am, cm, em⟩ := Kd.R_slice ho); (rw [List.length_append, List.length_singleton] at em); subst em; (have G0 := aM (blk_grown F1.out.t.b hg F1.out.t.neL)); (have G2 := aM (blk_grown F1.out.x hg (Kd.R_ne F1.out.t.l F1.out.x (by decide)))); (have G1 := aM (F1.out.t.lGrow hg rfl ho)); (have G3 := aM (hb.setCell F1.out.t.g (.slice Am (ps.length + 1) cm) (p := ⟨g, 0, none⟩))); clear ho hb hg hat; (refine hK.out _ _ ⟨(qC G0.out 0).trans rfl, (qC G2.out 2).trans rfl⟩ (fun hHeld => ?_)); clear hK K; (refine norm_ (a' := ?_) ?_ ?_); (rotate_left)
  · show Act.put _ (some 54) _ = _
    (simp only [Act.put, sTA, sCZ, sCS, i64_w, i32_w]); (rfl)
  (refine pu_ (i := 10) (N := some 55) (v := ?_) (a' := ?_) #[I,I,I,I,I,I,I,I,I,I,I,O,O] rfl rfl HT_.out (by kernel_rfl) (fun _ _ _ h => h) (Or.inl ⟨by rfl, ?_⟩) ?_ ?_); (rotate_left)
  · intro w'
    (go_simp); (with_reducible rfl)
  rotate_left
  · simp only [Act.put, sTA, sCZ, sCS, i64_w, i32_w]
    rfl
  (refine pu_ (i := 11) (N := some 56) (v := ?_) (a' := ?_) #[I,I,I,I,I,I,I,I,I,I,I,I,O] rfl rfl HT_.out (by kernel_rfl) (fun _ _ _ h => h) (Or.inl ⟨by rfl, ?_⟩) ?_ ?_); (rotate_left)
  · intro w'
    (go_simp); (with_reducible rfl)
  rotate_left
  · simp only [Act.put, sTA, sCZ, sCS, i64_w, i32_w]
    rfl
  (refine last_ (i := 12) (N := none) #[I,I,I,I,I,I,I,I,I,I,I,I,I] rfl rfl (one_of HT_.out (by kernel_rfl)) (by decide) (fun K hK => ?_)); (have f0 := qF G0.out 0); (have c0' : w2.cell? ⟨g, 0, none⟩ = some (.slice Al ps.length cl) := (qC G0.out 0).trans rfl); (refine skip_ (w1 := ?_) (by rfl) rfl ?_ ?_); (rotate_left)
  · go_simp
    rfl
  (refine hK.out _ _ ?_); clear hK K; (refine done_ (done_of HT_.out (by kernel_rfl)) ?_); (go_wp2); (go_ret); (exact ⟨rfl, ⟨_, _, _, by rw [List.map_append]; rfl, G1.out⟩, G3.out⟩)
set_option maxHeartbeats 16000000 in
set_option maxRecDepth 100000 in
theorem rl_three_b (k : Nat) (B0 B g : Nat) (w : World) (vl vo : Value) (ps : List (S40 × Value)) (op : List Int) (nm : ByteArray) (Ax : Option Addr) (cx : Nat) (px : List (S70)) (v : ByteArray) (H : Tre B0 B w g vl vo ps op) (hx : Kd.R k70 70 w B0 (fun _ => True) (.slice Ax px.length cx) px) (hB : B0 ≤ B) (hBw : B ≤ w.heap.size) (hq_op : (op.length : Int) = 0) (hl : ps.length = 0) (h1 : line_Alike.f k nm (⟨#[66, 69, 71, 73, 78]⟩ : ByteArray) = some true) (hp : ¬ 0 < px.length) (hlo : op.length < 17592186044416) (hlp : ps.length < 1000000000) :
    Calls Tryd.prog 27 #[.pointer (some ⟨g, 0, none⟩), .agg #[.string nm, .slice Ax px.length cx, .string v]] w fun en w' => en = .returned (.bool true) ∧ (∃ vl' vo' ps', ps'.map (·.1) = ps.map (·.1) ++ [(⟨v, [], 0⟩ : S40)] ∧ Tre B0 B w' g vl' vo' ps' (op ++ [(ps.length : Int)])) ∧ Below B w w' := by
  (obtain ⟨Ao, co, eo⟩ := Kd.R_slice H.o); subst eo; (obtain ⟨Al, cl, el⟩ := Kd.R_slice H.l); subst el; (have A1 := aM H); (have A4 := aM hBw); (have A5 := aM hx); (have A6 := aM hB); (have hu44 := Tryd.underlying44); clear H hBw hx hB; (have qop0 : ((op.length : Int) == 0) = true := by rw [beq_iff_eq]; exact hq_op); (have qop1 : (op.length == 0) = true := by rw [beq_iff_eq]; omega); (have qop2 : decide (op.length = 0) = true := by rw [decide_eq_true_eq]; omega); (have pps0 : decide (0 < (ps.length : Int)) = false := decide_eq_false (by omega)); (have pps1 : decide (0 < ps.length) = false := decide_eq_false (by omega)); (have ppx0 : decide (0 < (px.length : Int)) = false := decide_eq_false (by omega)); (have ppx1 : decide (0 < px.length) = false := decide_eq_false (by omega)); (have HT1 := aM h1); (have HL := aM hlo); (have HM := aM hlp); clear h1 hp hlo hlp hl hq_op; (go_enter Tryd.func27, Tryd.ntmps27); (go_wp2_with (first | ((with_reducible refine gate_dst (N := 3) rfl ?_); refine box_event ?hg (N := 3) ?hd (cs := #[.string nm, .slice Ax px.length cx, .string v]) (t := 44) ?hr ?_; (case hd => rfl); (case hg => rfl); (case hr => first | (go_simp; done) | (go_simp; rfl)); intro gb hg w3 hbox hb; have HGB : Aside0 (w.heap.size ≤ gb) := ⟨by rw [hg]; exact Nat.le_refl _⟩; have L1 : Aside0 (Ls B0 B w w3 g gb (.slice Al ps.length cl) (.slice Ao op.length co) ps op nm (.slice Ax px.length cx) px v) := ⟨⟨A1.out.below hb, hbox, Kd.R_below A5.out hb, hb.mono A4.out, Nat.le_trans A4.out hb.size, fun p hp e => by have := Kd.R_lt (A1.out.n p hp).1 gb e; have := HGB.out; omega⟩⟩; have g0 : w3.cell? ⟨g, 0, none⟩ = some (.slice Al ps.length cl) := (qC L1.out.t.b 0).trans rfl; have g1 : w3.cell? ⟨g, 1, none⟩ = some (.slice Ao op.length co) := (qC L1.out.t.b 1).trans rfl; have z0 : w3.cell? ⟨gb, 0, none⟩ = some (.string nm) := (qC L1.out.x 0).trans rfl; have z1 : w3.cell? ⟨gb, 1, none⟩ = some (.slice Ax px.length cx) := (qC L1.out.x 1).trans rfl; have z2 : w3.cell? ⟨gb, 2, none⟩ = some (.string v) := (qC L1.out.x 2).trans rfl; clear hb hbox hg) | (go_at_call 52; (with_reducible refine (line_Alike.calls k _ _ _ _ HT1.out).mono ?_); rintro en wa1 ⟨rfl, hd⟩; obtain ⟨nd, hq⟩ := hd.out; have L2 : Aside0 (Ls B0 B w wa1 g gb (.slice Al ps.length cl) (.slice Ao op.length co) ps op nm (.slice Ax px.length cx) px v) := ⟨by rw [hq]; exact L1.out.drewN nd⟩; clear g0 g1 z0 z1 z2; have g0 : wa1.cell? ⟨g, 0, none⟩ = some (.slice Al ps.length cl) := (qC L2.out.t.b 0).trans rfl; have g1 : wa1.cell? ⟨g, 1, none⟩ = some (.slice Ao op.length co) := (qC L2.out.t.b 1).trans rfl; have z0 : wa1.cell? ⟨gb, 0, none⟩ = some (.string nm) := (qC L2.out.x 0).trans rfl; have z1 : wa1.cell? ⟨gb, 1, none⟩ = some (.slice Ax px.length cx) := (qC L2.out.x 1).trans rfl; have z2 : wa1.cell? ⟨gb, 2, none⟩ = some (.string v) := (qC L2.out.x 2).trans rfl; clear hd hq))); (have M1 := aM L2.out.drew); clear g0 g1 z0 z1 z2 L1 L2 HT1; (have c0 : wa1.drew.cell? ⟨g, 0, none⟩ = some (.slice Al ps.length cl) := (qC M1.out.t.b 0).trans rfl); (have c1 : wa1.drew.cell? ⟨g, 1, none⟩ = some (.slice Ao op.length co) := (qC M1.out.t.b 1).trans rfl); (refine start_ (n := 15) (S := fun w' => w'.cell? ⟨g, 0, none⟩ = some (.slice Al ps.length cl) ∧ w'.cell? ⟨g, 1, none⟩ = some (.slice Ao op.length co)) (ds := [14]) #[O,O,O,O,O,O,O,O,O,O,O,O,O,O,O] (by kernel_rfl) rfl rfl ⟨c0, c1⟩ (fun hHeld => ?_); refine with_tabW rl_.tab7 rl_.bits7 (fun HT_ HW_ => ?_)); (generalize wa1.drew = wd at M1 hHeld ⊢); (refine pu_ (i := 0) (N := some 31) (v := ?_) (a' := ?_) #[I,O,O,O,O,O,O,O,O,O,O,O,O,O,O] rfl rfl HT_.out (by kernel_rfl) (fun _ _ _ h => h) (Or.inl ⟨by rfl, ?_⟩) ?_ ?_); (rotate_left)
  · intro w'
    (go_simp); (with_reducible rfl)
  rotate_left
  · simp only [Act.put, sTA, sCZ, sCS, i64_w, i32_w]
    rfl
  (refine pu_ (i := 1) (N := some 32) (v := ?_) (a' := ?_) #[I,I,O,O,O,O,O,O,O,O,O,O,O,O,O] rfl rfl HT_.out (by kernel_rfl) (fun _ _ _ h => h) (Or.inl ⟨by rfl, ?_⟩) ?_ ?_); (rotate_left)
  · intro w'
    (go_simp); (with_reducible rfl)
  rotate_left
  · simp only [Act.put, sTA, sCZ, sCS, i64_w, i32_w]
    rfl
  (refine pu_ (i := 2) (N := some 33) (v := ?_) (a' := ?_) #[I,I,I,O,O,O,O,O,O,O,O,O,O,O,O] rfl rfl HT_.out (by kernel_rfl) (fun _ _ _ h => h) (Or.inl ⟨by rfl, ?_⟩) ?_ ?_); (rotate_left)
  · intro w'
    (go_simp); (with_reducible rfl)
  rotate_left
  · simp only [Act.put, sTA, sCZ, sCS, i64_w, i32_w]
    rfl
  (refine pu_ (i := 3) (N := some 34) (v := ?_) (a' := ?_) #[I,I,I,I,O,O,O,O,O,O,O,O,O,O,O] rfl rfl HT_.out (by kernel_rfl) (fun _ _ _ h => h) (Or.inl ⟨by rfl, ?_⟩) ?_ ?_); (rotate_left)
  · intro w'
    (go_simp); (with_reducible rfl)
  rotate_left
  · simp only [Act.put, sTA, sCZ, sCS, i64_w, i32_w]
    rfl
  (refine pu_ (i := 5) (N := some 36) (v := ?_) (a' := ?_) #[I,I,I,I,O,I,O,O,O,O,O,O,O,O,O] rfl rfl HT_.out (by kernel_rfl) (fun _ _ _ h => h) (Or.inl ⟨by rfl, ?_⟩) ?_ ?_); (rotate_left)
  · intro w'
    (go_simp); (with_reducible rfl)
  rotate_left
  · simp only [Act.put, sTA, sCZ, sCS, i64_w, i32_w]
    rfl
  (refine pu_ (i := 6) (N := some 37) (v := ?_) (a' := ?_) #[I,I,I,I,O,I,I,O,O,O,O,O,O,O,O] rfl rfl HT_.out (by kernel_rfl) (fun _ _ _ h => h) (Or.inl ⟨by rfl, ?_⟩) ?_ ?_); (rotate_left)
  · intro w'
    (go_simp); (with_reducible rfl)
  rotate_left
  · simp only [Act.put, sTA, sCZ, sCS, i64_w, i32_w]
    rfl
  (refine pu_ (i := 7) (N := some 38) (v := ?_) (a' := ?_) #[I,I,I,I,O,I,I,I,O,O,O,O,O,O,O] rfl rfl HT_.out (by kernel_rfl) (fun _ _ _ h => h) (Or.inl ⟨by rfl, ?_⟩) ?_ ?_); (rotate_left)
  · intro w'
    (go_simp); (with_reducible rfl)
  rotate_left
  · simp only [Act.put, sTA, sCZ, sCS, i64_w, i32_w]
    rfl
  (refine take_ (i := 4) (N := some 35) (v := ?_) (a' := ?_) #[I,I,I,I,I,I,I,I,O,O,O,O,O,O,O] rfl rfl (take_ofW HT_.out HW_.out (by kernel_rfl)) (fun _ _ _ h => h) (Or.inl ⟨by rfl, ?_⟩) hHeld ?_ ?_); (rotate_left)
  · rintro w' ⟨s0, s1⟩
    (go_simp); (with_reducible rfl)
  rotate_left
  · simp only [Act.put, sTA, sCZ, sCS, i64_w, i32_w]
    rfl
  (refine take_ (i := 8) (N := some 39) (v := ?_) (a' := ?_) #[I,I,I,I,I,I,I,I,I,O,O,O,O,O,O] rfl rfl (take_ofW HT_.out HW_.out (by kernel_rfl)) (fun _ _ _ h => h) (Or.inl ⟨by rfl, ?_⟩) hHeld ?_ ?_); (rotate_left)
  · rintro w' ⟨s0, s1⟩
    (go_simp); (with_reducible rfl)
  rotate_left
  · simp only [Act.put, sTA, sCZ, sCS, i64_w, i32_w]
    rfl
  (refine pu_ (i := 9) (N := some 40) (v := ?_) (a' := ?_) #[I,I,I,I,I,I,I,I,I,I,O,O,O,O,O] rfl rfl HT_.out (by kernel_rfl) (fun _ _ _ h => h) (Or.inl ⟨by rfl, ?_⟩) ?_ ?_); (rotate_left)
  · intro w'
    (go_simp); (with_reducible rfl)
  rotate_left
  · simp only [Act.put, sTA, sCZ, sCS, i64_w, i32_w]
    rfl
  (refine one_ (i := 10) (N := some 41) #[I,I,I,I,I,I,I,I,I,I,I,O,O,O,O] rfl rfl (one_of HT_.out (by kernel_rfl)) (by decide) (fun K hK => ?_)); (refine value_ (w1 := ?_) (v := ?_) (by rfl) rfl ?_ ?_); (rotate_left 2)
  · go_simp
    constructor
    · rfl
    · rfl
  (refine hK.out _ _ ⟨(World.cell?_alloc_past _ _ _ M1.out.t.lt).trans hHeld.1, (World.cell?_alloc_past _ _ _ M1.out.t.lt).trans hHeld.2⟩ (fun hHeld => ?_)); clear hK K; (refine norm_ (a' := ?_) ?_ ?_); (rotate_left)
  · show Act.put _ (some 41) _ = _
    (simp only [Act.put, sTA, sCZ, sCS, i64_w, i32_w]); (rfl)
  (refine one_ (i := 11) (N := some 42) #[I,I,I,I,I,I,I,I,I,I,I,I,O,O,O] rfl rfl (one_of HT_.out (by kernel_rfl)) (by decide) (fun K hK => ?_)); (refine Kd.R_append_step (Kd.int .i64) (w0 := w) B (by rfl) (.tmp 35) (.tmp 41) 32 3 (.int .i64 0) 8 rfl Tryd.underlying32 tr_info3 rfl (by decide) (by omega) (.slice Ao op.length co) op (ps.length : Int) [.int .i64 (ps.length : Int)] (fun _ => True) (fun _ => False) rfl rfl rfl (fun _ hk => hk.elim) (fun _ _ => trivial) M1.out.t.o M1.out.bb M1.out.hb (by have := HL.out; omega) ?_); (intro v1 w1 ho hb hg hat); (obtain ⟨An, cn, en⟩ := Kd.R_slice ho); (rw [List.length_append, List.length_singleton] at en); subst en; (have F0 := aM (blk_grown M1.out.t.b hg M1.out.t.neO)); (have F1 := aM (M1.out.openGrow hg ho)); clear ho hb hg hat; (refine hK.out _ _ ⟨(qC F0.out 0).trans rfl, (qC F0.out 1).trans rfl⟩ (fun hHeld => ?_)); clear hK K; (refine norm_ (a' := ?_) ?_ ?_); (rotate_left)
  · show Act.put _ (some 42) _ = _
    (simp only [Act.put, sTA, sCZ, sCS, i64_w, i32_w]); (rfl)
  (refine pu_ (i := 12) (N := some 43) (v := ?_) (a' := ?_) #[I,I,I,I,I,I,I,I,I,I,I,I,I,O,O] rfl rfl HT_.out (by kernel_rfl) (fun _ _ _ h => h) (Or.inl ⟨by rfl, ?_⟩) ?_ ?_); (rotate_left)
  · intro w'
    (go_simp); (with_reducible rfl)
  rotate_left
  · simp only [Act.put, sTA, sCZ, sCS, i64_w, i32_w]
    rfl
  (refine pu_ (i := 13) (N := some 44) (v := ?_) (a' := ?_) #[I,I,I,I,I,I,I,I,I,I,I,I,I,I,O] rfl rfl HT_.out (by kernel_rfl) (fun _ _ _ h => h) (Or.inl ⟨by rfl, ?_⟩) ?_ ?_); (rotate_left)
  · intro w'
    (go_simp); (with_reducible rfl)
  rotate_left
  · simp only [Act.put, sTA, sCZ, sCS, i64_w, i32_w]
    rfl
  (refine last_ (i := 14) (N := none) #[I,I,I,I,I,I,I,I,I,I,I,I,I,I,I] rfl rfl (one_of HT_.out (by kernel_rfl)) (by decide) (fun K hK => ?_)); (have f0 := qF F0.out 1); (have c0' : w1.cell? ⟨g, 1, none⟩ = some (.slice Ao op.length co) := (qC F0.out 1).trans rfl); (refine skip_ (w1 := ?_) (by rfl) rfl ?_ ?_); (rotate_left)
  · go_simp
    rfl
  (refine hK.out _ _ ?_); clear hK K; (refine done_ (done_of HT_.out (by kernel_rfl)) ?_); (go_wp2); clear F0 M1 HL; (generalize w1.setCell ⟨g, 1, none⟩ (.slice An (op.length + 1) cn) = W at F1 ⊢); (replace F1 := aM F1.out.drew); (have c0 : W.drew.cell? ⟨g, 0, none⟩ = some (.slice Al ps.length cl) := (qC F1.out.t.b 0).trans rfl); (have c2 : W.drew.cell? ⟨gb, 2, none⟩ = some (.string v) := (qC F1.out.x 2).trans rfl); (refine start_ (n := 13) (S := fun w' => w'.cell? ⟨g, 0, none⟩ = some (.slice Al ps.length cl) ∧ w'.cell? ⟨gb, 2, none⟩ = some (.string v)) (ds := [12]) #[O,O,O,O,O,O,O,O,O,O,O,O,O] (by kernel_rfl) rfl rfl ⟨c0, c2⟩ (fun hHeld => ?_); refine with_tabW rl_.tab8 rl_.bits8 (fun HT_ HW_ => ?_)); (generalize W.drew = wd at F1 hHeld ⊢); (refine pu_ (i := 0) (N := some 45) (v := ?_) (a' := ?_) #[I,O,O,O,O,O,O,O,O,O,O,O,O] rfl rfl HT_.out (by kernel_rfl) (fun _ _ _ h => h) (Or.inl ⟨by rfl, ?_⟩) ?_ ?_); (rotate_left)
  · intro w'
    (go_simp); (with_reducible rfl)
  rotate_left
  · simp only [Act.put, sTA, sCZ, sCS, i64_w, i32_w]
    rfl
  (refine pu_ (i := 1) (N := some 46) (v := ?_) (a' := ?_) #[I,I,O,O,O,O,O,O,O,O,O,O,O] rfl rfl HT_.out (by kernel_rfl) (fun _ _ _ h => h) (Or.inl ⟨by rfl, ?_⟩) ?_ ?_); (rotate_left)
  · intro w'
    (go_simp); (with_reducible rfl)
  rotate_left
  · simp only [Act.put, sTA, sCZ, sCS, i64_w, i32_w]
    rfl
  (refine pu_ (i := 2) (N := some 47) (v := ?_) (a' := ?_) #[I,I,I,O,O,O,O,O,O,O,O,O,O] rfl rfl HT_.out (by kernel_rfl) (fun _ _ _ h => h) (Or.inl ⟨by rfl, ?_⟩) ?_ ?_); (rotate_left)
  · intro w'
    (go_simp); (with_reducible rfl)
  rotate_left
  · simp only [Act.put, sTA, sCZ, sCS, i64_w, i32_w]
    rfl
  (refine pu_ (i := 3) (N := some 48) (v := ?_) (a' := ?_) #[I,I,I,I,O,O,O,O,O,O,O,O,O] rfl rfl HT_.out (by kernel_rfl) (fun _ _ _ h => h) (Or.inl ⟨by rfl, ?_⟩) ?_ ?_); (rotate_left)
  · intro w'
    (go_simp); (with_reducible rfl)
  rotate_left
  · simp only [Act.put, sTA, sCZ, sCS, i64_w, i32_w]
    rfl
  (refine pu_ (i := 5) (N := some 50) (v := ?_) (a' := ?_) #[I,I,I,I,O,I,O,O,O,O,O,O,O] rfl rfl HT_.out (by kernel_rfl) (fun _ _ _ h => h) (Or.inl ⟨by rfl, ?_⟩) ?_ ?_); (rotate_left)
  · intro w'
    (go_simp); (with_reducible rfl)
  rotate_left
  · simp only [Act.put, sTA, sCZ, sCS, i64_w, i32_w]
    rfl
  (refine take_ (i := 4) (N := some 49) (v := ?_) (a' := ?_) #[I,I,I,I,I,I,O,O,O,O,O,O,O] rfl rfl (take_ofW HT_.out HW_.out (by kernel_rfl)) (fun _ _ _ h => h) (Or.inl ⟨by rfl, ?_⟩) hHeld ?_ ?_); (rotate_left)
  · rintro w' ⟨s0, s1⟩
    (go_simp); (with_reducible rfl)
  rotate_left
  · simp only [Act.put, sTA, sCZ, sCS, i64_w, i32_w]
    rfl
  (refine take_ (i := 6) (N := some 51) (v := ?_) (a' := ?_) #[I,I,I,I,I,I,I,O,O,O,O,O,O] rfl rfl (take_ofW HT_.out HW_.out (by kernel_rfl)) (fun _ _ _ h => h) (Or.inl ⟨by rfl, ?_⟩) hHeld ?_ ?_); (rotate_left)
  · rintro w' ⟨s0, s1⟩
    (go_simp); (with_reducible rfl)
  rotate_left
  · simp only [Act.put, sTA, sCZ, sCS, i64_w, i32_w]
    rfl
  (refine pu_ (i := 7) (N := some 52) (v := ?_) (a' := ?_) #[I,I,I,I,I,I,I,I,O,O,O,O,O] rfl rfl HT_.out (by kernel_rfl) (fun _ _ _ h => h) (Or.inl ⟨by rfl, ?_⟩) ?_ ?_); (rotate_left)
  · intro w'
    (go_simp); (with_reducible rfl)
  rotate_left
  · simp only [Act.put, sTA, sCZ, sCS, i64_w, i32_w]
    rfl
  (refine one_ (i := 8) (N := some 53) #[I,I,I,I,I,I,I,I,I,O,O,O,O] rfl rfl (one_of HT_.out (by kernel_rfl)) (by decide) (fun K hK => ?_)); (refine value_ (w1 := ?_) (v := ?_) (by rfl) rfl ?_ ?_); (rotate_left 2)
  · go_simp
    constructor
    · rfl
    · rfl
  (refine hK.out _ _ ⟨(World.cell?_alloc_past _ _ _ F1.out.t.lt).trans hHeld.1, (World.cell?_alloc_past _ _ _ (blk_lt F1.out.x)).trans hHeld.2⟩ (fun hHeld => ?_)); clear hK K; (refine norm_ (a' := ?_) ?_ ?_); (rotate_left)
  · show Act.put _ (some 53) _ = _
    (simp only [Act.put, sTA, sCZ, sCS, i64_w, i32_w]); (rfl)
  (refine one_ (i := 9) (N := some 54) #[I,I,I,I,I,I,I,I,I,I,O,O,O] rfl rfl (one_of HT_.out (by kernel_rfl)) (by decide) (fun K hK => ?_)); (refine Kd.R_append_step kC (w0 := w) B (by rfl) (.tmp 49) (.tmp 53) 22 40 (.agg #[.string ByteArray.empty, .slice none 0 0, .int .i64 0]) 48 rfl Tryd.underlying22 tr_info40 rfl (by decide) (by omega) (.slice Al ps.length cl) ps (⟨v, [], 0⟩, .slice none 0 0) [.string v, .slice none 0 0, .int .i64 0] (fun _ => True) (fun _ => False) rfl rfl ⟨rfl, rfl⟩ (fun _ hk => hk.elim) (fun _ _ => trivial) F1.out.t.l F1.out.bb F1.out.hb (by have := HM.out; omega) ?_); (intro v2 w2 ho hb hg hat); (obtain ⟨Am, cm, em⟩ := Kd.R_slice ho); (rw [List.length_append, List.length_singleton] at em); subst em; (have G0 := aM (blk_grown F1.out.t.b hg F1.out.t.neL)); (have G2 := aM (blk_grown F1.out.x hg (Kd.R_ne F1.out.t.l F1.out.x (by decide)))); (have G1 := aM (F1.out.t.lGrow hg rfl ho)); (have G3 := aM (hb.setCell F1.out.t.g (.slice Am (ps.length + 1) cm) (p := ⟨g, 0, none⟩))); clear ho hb hg hat; (refine hK.out _ _ ⟨(qC G0.out 0).trans rfl, (qC G2.out 2).trans rfl⟩ (fun hHeld => ?_)); clear hK K; (refine norm_ (a' := ?_) ?_ ?_); (rotate_left)
  · show Act.put _ (some 54) _ = _
    (simp only [Act.put, sTA, sCZ, sCS, i64_w, i32_w]); (rfl)
  (refine pu_ (i := 10) (N := some 55) (v := ?_) (a' := ?_) #[I,I,I,I,I,I,I,I,I,I,I,O,O] rfl rfl HT_.out (by kernel_rfl) (fun _ _ _ h => h) (Or.inl ⟨by rfl, ?_⟩) ?_ ?_); (rotate_left)
  · intro w'
    (go_simp); (with_reducible rfl)
  rotate_left
  · simp only [Act.put, sTA, sCZ, sCS, i64_w, i32_w]
    rfl
  (refine pu_ (i := 11) (N := some 56) (v := ?_) (a' := ?_) #[I,I,I,I,I,I,I,I,I,I,I,I,O] rfl rfl HT_.out (by kernel_rfl) (fun _ _ _ h => h) (Or.inl ⟨by rfl, ?_⟩) ?_ ?_); (rotate_left)
  · intro w'
    (go_simp); (with_reducible rfl)
  rotate_left
  · simp only [Act.put, sTA, sCZ, sCS, i64_w, i32_w]
    rfl
  (refine last_ (i := 12) (N := none) #[I,I,I,I,I,I,I,I,I,I,I,I,I] rfl rfl (one_of HT_.out (by kernel_rfl)) (by decide) (fun K hK => ?_)); (have f0 := qF G0.out 0); (have c0' : w2.cell? ⟨g, 0, none⟩ = some (.slice Al ps.length cl) := (qC G0.out 0).trans rfl); (refine skip_ (w1 := ?_) (by rfl) rfl ?_ ?_); (rotate_left)
  · go_simp
    rfl
  (refine hK.out _ _ ?_); clear hK K; (refine done_ (done_of HT_.out (by kernel_rfl)) ?_); (go_wp2); (go_ret); (exact ⟨rfl, ⟨_, _, _, by rw [List.map_append]; rfl, G1.out⟩, G3.out⟩)
set_option maxHeartbeats 16000000 in
set_option maxRecDepth 100000 in
theorem rl_five (k : Nat) (B0 B g : Nat) (w : World) (vl vo : Value) (ps : List (S40 × Value)) (op : List Int) (nm : ByteArray) (Ax : Option Addr) (cx : Nat) (px : List (S70)) (v : ByteArray) (H : Tre B0 B w g vl vo ps op) (hx : Kd.R k70 70 w B0 (fun _ => True) (.slice Ax px.length cx) px) (hB : B0 ≤ B) (hBw : B ≤ w.heap.size) (p4 : Int) (hp4 : rd op ((op.length : Int) - 1) = p4) (hq_op : ¬ (op.length : Int) = 0) (q0 : 0 ≤ p4) (q1 : p4 < (ps.length : Int)) (h1 : line_Alike.f k nm (⟨#[66, 69, 71, 73, 78]⟩ : ByteArray) = some false) (h2 : line_Alike.f k nm (⟨#[69, 78, 68]⟩ : ByteArray) = some false) (hl : (rdC ps p4).1.f1.length < 1000000000) :
    Calls Tryd.prog 27 #[.pointer (some ⟨g, 0, none⟩), .agg #[.string nm, .slice Ax px.length cx, .string v]] w fun en w' => en = .returned (.bool true) ∧ (∃ vl' vo' ps', ps'.map (·.1) = ((ps.map (·.1)).set p4.toNat (⟨(rdC ps p4).1.f0, (rdC ps p4).1.f1 ++ [(⟨nm, px, v⟩ : S44)], (rdC ps p4).1.f2⟩ : S40)) ∧ Tre B0 B w' g vl' vo' ps' op) ∧ Below B w w' := by
  (obtain ⟨Ao, co, eo⟩ := Kd.R_slice H.o); subst eo; (obtain ⟨gl, cl, el, hglB, hglt, cgl, hcgl⟩ := Kd.R_form H.l (by omega)); subst el; (have hC := (Kd.R_reads' H.o).2.2); (have hcap := (Kd.R_reads' H.o).2.1); (have hmx := Kd.C_max hC); (obtain ⟨adp, ep, hxp⟩ := Kd.at_int hC ((op.length : Int) - 1) (by omega) (by omega))
  cases ep
  clear hxp; (have hw : wrap64 ((op.length : Int) - 1) = (op.length : Int) - 1 := by unfold wrap64; omega); (have pa := eq_true (show 0 ≤ (op.length : Int) - 1 by omega)); (have pa' := eq_true (show 1 ≤ (op.length : Int) by omega)); (have pa2 := eq_true (show 1 ≤ op.length by omega)); (have pb := eq_true (show (op.length : Int) - 1 < (op.length : Int) by omega)); (have pc := eq_true (show (op.length : Int) - 1 ≤ (co : Int) by omega)); (have pd := eq_true q0); (have pe := eq_true q1); (have Q := aM (show 0 < op.length by omega)); (have Q0 := aM q0); (have Q1 := aM q1); (obtain ⟨Ae, ce, ee⟩ := Kd.R_slice (H.n _ (rdC_mem q0 q1)).1); (have A1 := aM H); (have A4 := aM hBw); (have A5 := aM hx); (have A6 := aM hB); (have A7 := aM ee); (have A8 := aM hglB); (have A9 := aM hp4); (have hu44 := Tryd.underlying44); clear H hBw hx hB hcap hmx hC hglt hcgl cgl hglB ee hp4 q0 q1; (have qop0 : ((op.length : Int) == 0) = false := by rw [beq_eq_false_iff_ne]; exact hq_op); (have qop1 : (op.length == 0) = false := by rw [beq_eq_false_iff_ne]; omega); (have qop2 : decide (op.length = 0) = false := by rw [decide_eq_false_iff_not]; omega); (have HT1 := aM h1); (have HT2 := aM h2); (have HL := aM hl); clear h1 h2 hl hq_op; (go_enter Tryd.func27, Tryd.ntmps27); (go_wp2_with (first | ((with_reducible refine gate_dst (N := 3) rfl ?_); refine box_event ?hg (N := 3) ?hd (cs := #[.string nm, .slice Ax px.length cx, .string v]) (t := 44) ?hr ?_; (case hd => rfl); (case hg => rfl); (case hr => first | (go_simp; done) | (go_simp; rfl)); intro gb hg w3 hbox hb; have HGB : Aside0 (w.heap.size ≤ gb) := ⟨by rw [hg]; exact Nat.le_refl _⟩; have L1 : Aside0 (Ls B0 B w w3 g gb (.slice (some ⟨gl, 0, none⟩) ps.length cl) (.slice (some adp) op.length co) ps op nm (.slice Ax px.length cx) px v) := ⟨⟨A1.out.below hb, hbox, Kd.R_below A5.out hb, hb.mono A4.out, Nat.le_trans A4.out hb.size, fun p hp e => by have := Kd.R_lt (A1.out.n p hp).1 gb e; have := HGB.out; omega⟩⟩; have g0 : w3.cell? ⟨g, 0, none⟩ = some (.slice (some ⟨gl, 0, none⟩) ps.length cl) := (qC L1.out.t.b 0).trans rfl; have g1 : w3.cell? ⟨g, 1, none⟩ = some (.slice (some adp) op.length co) := (qC L1.out.t.b 1).trans rfl; have z0 : w3.cell? ⟨gb, 0, none⟩ = some (.string nm) := (qC L1.out.x 0).trans rfl; have z1 : w3.cell? ⟨gb, 1, none⟩ = some (.slice Ax px.length cx) := (qC L1.out.x 1).trans rfl; have z2 : w3.cell? ⟨gb, 2, none⟩ = some (.string v) := (qC L1.out.x 2).trans rfl; clear hb hbox hg) | (go_at_call 52; (with_reducible refine (line_Alike.calls k _ _ _ _ HT1.out).mono ?_); rintro en wa1 ⟨rfl, hd⟩; obtain ⟨nd, hq⟩ := hd.out; have L2 : Aside0 (Ls B0 B w wa1 g gb (.slice (some ⟨gl, 0, none⟩) ps.length cl) (.slice (some adp) op.length co) ps op nm (.slice Ax px.length cx) px v) := ⟨by rw [hq]; exact L1.out.drewN nd⟩; clear g0 g1 z0 z1 z2; have g0 : wa1.cell? ⟨g, 0, none⟩ = some (.slice (some ⟨gl, 0, none⟩) ps.length cl) := (qC L2.out.t.b 0).trans rfl; have g1 : wa1.cell? ⟨g, 1, none⟩ = some (.slice (some adp) op.length co) := (qC L2.out.t.b 1).trans rfl; have z0 : wa1.cell? ⟨gb, 0, none⟩ = some (.string nm) := (qC L2.out.x 0).trans rfl; have z1 : wa1.cell? ⟨gb, 1, none⟩ = some (.slice Ax px.length cx) := (qC L2.out.x 1).trans rfl; have z2 : wa1.cell? ⟨gb, 2, none⟩ = some (.string v) := (qC L2.out.x 2).trans rfl; have hxp := L2.out.t.lastCell Q.out; rw [A9.out] at hxp; clear hd hq) | (go_at_call 52; (with_reducible refine (line_Alike.calls k _ _ _ _ HT2.out).mono ?_); rintro en wa2 ⟨rfl, hd⟩; obtain ⟨nd, hq⟩ := hd.out; have L3 : Aside0 (Ls B0 B w wa2 g gb (.slice (some ⟨gl, 0, none⟩) ps.length cl) (.slice (some adp) op.length co) ps op nm (.slice Ax px.length cx) px v) := ⟨by rw [hq]; exact L2.out.drewN nd⟩; clear g0 g1 z0 z1 z2; have g0 : wa2.cell? ⟨g, 0, none⟩ = some (.slice (some ⟨gl, 0, none⟩) ps.length cl) := (qC L3.out.t.b 0).trans rfl; have g1 : wa2.cell? ⟨g, 1, none⟩ = some (.slice (some adp) op.length co) := (qC L3.out.t.b 1).trans rfl; have z0 : wa2.cell? ⟨gb, 0, none⟩ = some (.string nm) := (qC L3.out.x 0).trans rfl; have z1 : wa2.cell? ⟨gb, 1, none⟩ = some (.slice Ax px.length cx) := (qC L3.out.x 1).trans rfl; have z2 : wa2.cell? ⟨gb, 2, none⟩ = some (.string v) := (qC L3.out.x 2).trans rfl; clear hxp; clear hd hq))); (have M1 := aM L3.out.drew); clear g0 g1 z0 z1 z2 L1 L2 L3 HT1 HT2; (have c0 : wa2.drew.cell? ⟨g, 0, none⟩ = some (.slice (some ⟨gl, 0, none⟩) ps.length cl) := (qC M1.out.t.b 0).trans rfl); (have c1 : wa2.drew.cell? ⟨gb, 0, none⟩ = some (.string nm) := (qC M1.out.x 0).trans rfl); (have c2 : wa2.drew.cell? ⟨gb, 1, none⟩ = some (.slice Ax px.length cx) := (qC M1.out.x 1).trans rfl); (have c3 : wa2.drew.cell? ⟨gb, 2, none⟩ = some (.string v) := (qC M1.out.x 2).trans rfl); (obtain ⟨-, c4, -, -, -⟩ := M1.out.t.elem p4 Q0.out Q1.out); (rw [A7.out] at c4); (refine start_ (n := 19) (S := fun w' => w'.cell? ⟨g, 0, none⟩ = some (.slice (some ⟨gl, 0, none⟩) ps.length cl) ∧ w'.cell? ⟨gb, 0, none⟩ = some (.string nm) ∧ w'.cell? ⟨gb, 1, none⟩ = some (.slice Ax px.length cx) ∧ w'.cell? ⟨gb, 2, none⟩ = some (.string v) ∧ w'.cell? ⟨gl, p4.toNat * 3 + 1, none⟩ = some (.slice Ae (rdC ps p4).1.f1.length ce)) (ds := [18]) #[O,O,O,O,O,O,O,O,O,O,O,O,O,O,O,O,O,O,O] (by kernel_rfl) rfl rfl ⟨c0, c1, c2, c3, c4⟩ (fun hHeld => ?_); refine with_tabW rl_.tab14 rl_.bits14 (fun HT_ HW_ => ?_)); (generalize wa2.drew = wd at M1 hHeld ⊢); (refine pu_ (i := 0) (N := some 72) (v := ?_) (a' := ?_) #[I,O,O,O,O,O,O,O,O,O,O,O,O,O,O,O,O,O,O] rfl rfl HT_.out (by kernel_rfl) (fun _ _ _ h => h) (Or.inl ⟨by rfl, ?_⟩) ?_ ?_); (rotate_left)
  · intro w'
    (go_simp); (with_reducible rfl)
  rotate_left
  · simp only [Act.put, sTA, sCZ, sCS, i64_w, i32_w]
    rfl
  (refine pu_ (i := 1) (N := some 73) (v := ?_) (a' := ?_) #[I,I,O,O,O,O,O,O,O,O,O,O,O,O,O,O,O,O,O] rfl rfl HT_.out (by kernel_rfl) (fun _ _ _ h => h) (Or.inl ⟨by rfl, ?_⟩) ?_ ?_); (rotate_left)
  · intro w'
    (go_simp); (with_reducible rfl)
  rotate_left
  · simp only [Act.put, sTA, sCZ, sCS, i64_w, i32_w]
    rfl
  (refine pu_ (i := 2) (N := some 74) (v := ?_) (a' := ?_) #[I,I,I,O,O,O,O,O,O,O,O,O,O,O,O,O,O,O,O] rfl rfl HT_.out (by kernel_rfl) (fun _ _ _ h => h) (Or.inl ⟨by rfl, ?_⟩) ?_ ?_); (rotate_left)
  · intro w'
    (go_simp); (with_reducible rfl)
  rotate_left
  · simp only [Act.put, sTA, sCZ, sCS, i64_w, i32_w]
    rfl
  (refine pu_ (i := 4) (N := some 76) (v := ?_) (a' := ?_) #[I,I,I,O,I,O,O,O,O,O,O,O,O,O,O,O,O,O,O] rfl rfl HT_.out (by kernel_rfl) (fun _ _ _ h => h) (Or.inl ⟨by rfl, ?_⟩) ?_ ?_); (rotate_left)
  · intro w'
    (go_simp); (with_reducible rfl)
  rotate_left
  · simp only [Act.put, sTA, sCZ, sCS, i64_w, i32_w]
    rfl
  (refine pu_ (i := 5) (N := some 77) (v := ?_) (a' := ?_) #[I,I,I,O,I,I,O,O,O,O,O,O,O,O,O,O,O,O,O] rfl rfl HT_.out (by kernel_rfl) (fun _ _ _ h => h) (Or.inl ⟨by rfl, ?_⟩) ?_ ?_); (rotate_left)
  · intro w'
    (go_simp); (with_reducible rfl)
  rotate_left
  · simp only [Act.put, sTA, sCZ, sCS, i64_w, i32_w]
    rfl
  (refine pu_ (i := 6) (N := some 78) (v := ?_) (a' := ?_) #[I,I,I,O,I,I,I,O,O,O,O,O,O,O,O,O,O,O,O] rfl rfl HT_.out (by kernel_rfl) (fun _ _ _ h => h) (Or.inl ⟨by rfl, ?_⟩) ?_ ?_); (rotate_left)
  · intro w'
    (go_simp); (with_reducible rfl)
  rotate_left
  · simp only [Act.put, sTA, sCZ, sCS, i64_w, i32_w]
    rfl
  (refine pu_ (i := 7) (N := some 79) (v := ?_) (a' := ?_) #[I,I,I,O,I,I,I,I,O,O,O,O,O,O,O,O,O,O,O] rfl rfl HT_.out (by kernel_rfl) (fun _ _ _ h => h) (Or.inl ⟨by rfl, ?_⟩) ?_ ?_); (rotate_left)
  · intro w'
    (go_simp); (with_reducible rfl)
  rotate_left
  · simp only [Act.put, sTA, sCZ, sCS, i64_w, i32_w]
    rfl
  (refine pu_ (i := 9) (N := some 81) (v := ?_) (a' := ?_) #[I,I,I,O,I,I,I,I,O,I,O,O,O,O,O,O,O,O,O] rfl rfl HT_.out (by kernel_rfl) (fun _ _ _ h => h) (Or.inl ⟨by rfl, ?_⟩) ?_ ?_); (rotate_left)
  · intro w'
    (go_simp); (with_reducible rfl)
  rotate_left
  · simp only [Act.put, sTA, sCZ, sCS, i64_w, i32_w]
    rfl
  (refine take_ (i := 3) (N := some 75) (v := ?_) (a' := ?_) #[I,I,I,I,I,I,I,I,O,I,O,O,O,O,O,O,O,O,O] rfl rfl (take_ofW HT_.out HW_.out (by kernel_rfl)) (fun _ _ _ h => h) (Or.inl ⟨by rfl, ?_⟩) hHeld ?_ ?_); (rotate_left)
  · rintro w' ⟨s0, s1, s2, s3, s4⟩
    (go_simp); (with_reducible rfl)
  rotate_left
  · simp only [Act.put, sTA, sCZ, sCS, i64_w, i32_w]
    rfl
  (refine take_ (i := 8) (N := some 80) (v := ?_) (a' := ?_) #[I,I,I,I,I,I,I,I,I,I,O,O,O,O,O,O,O,O,O] rfl rfl (take_ofW HT_.out HW_.out (by kernel_rfl)) (fun _ _ _ h => h) (Or.inl ⟨by rfl, ?_⟩) hHeld ?_ ?_); (rotate_left)
  · rintro w' ⟨s0, s1, s2, s3, s4⟩
    (go_simp); (with_reducible rfl)
  rotate_left
  · simp only [Act.put, sTA, sCZ, sCS, i64_w, i32_w]
    rfl
  (refine pu_ (i := 10) (N := some 82) (v := ?_) (a' := ?_) #[I,I,I,I,I,I,I,I,I,I,I,O,O,O,O,O,O,O,O] rfl rfl HT_.out (by kernel_rfl) (fun _ _ _ h => h) (Or.inl ⟨by rfl, ?_⟩) ?_ ?_); (rotate_left)
  · intro w'
    (go_simp); (with_reducible rfl)
  rotate_left
  · simp only [Act.put, sTA, sCZ, sCS, i64_w, i32_w]
    rfl
  (refine pu_ (i := 11) (N := some 83) (v := ?_) (a' := ?_) #[I,I,I,I,I,I,I,I,I,I,I,I,O,O,O,O,O,O,O] rfl rfl HT_.out (by kernel_rfl) (fun _ _ _ h => h) (Or.inl ⟨by rfl, ?_⟩) ?_ ?_); (rotate_left)
  · intro w'
    (go_simp); (with_reducible rfl)
  rotate_left
  · simp only [Act.put, sTA, sCZ, sCS, i64_w, i32_w]
    rfl
  (refine take_ (i := 12) (N := some 84) (v := ?_) (a' := ?_) #[I,I,I,I,I,I,I,I,I,I,I,I,I,O,O,O,O,O,O] rfl rfl (take_ofW HT_.out HW_.out (by kernel_rfl)) (fun _ _ _ h => h) (Or.inl ⟨by rfl, ?_⟩) hHeld ?_ ?_); (rotate_left)
  · rintro w' ⟨s0, s1, s2, s3, s4⟩
    (go_simp); (with_reducible rfl)
  rotate_left
  · simp only [Act.put, sTA, sCZ, sCS, i64_w, i32_w]
    rfl
  (refine take_ (i := 13) (N := some 85) (v := ?_) (a' := ?_) #[I,I,I,I,I,I,I,I,I,I,I,I,I,I,O,O,O,O,O] rfl rfl (take_ofW HT_.out HW_.out (by kernel_rfl)) (fun _ _ _ h => h) (Or.inl ⟨by rfl, ?_⟩) hHeld ?_ ?_); (rotate_left)
  · rintro w' ⟨s0, s1, s2, s3, s4⟩
    (go_simp); (with_reducible rfl)
  rotate_left
  · simp only [Act.put, sTA, sCZ, sCS, i64_w, i32_w]
    rfl
  (refine one_ (i := 14) (N := some 86) #[I,I,I,I,I,I,I,I,I,I,I,I,I,I,I,O,O,O,O] rfl rfl (one_of HT_.out (by kernel_rfl)) (by decide) (fun K hK => ?_)); (refine value_ (w1 := ?_) (v := ?_) (by rfl) rfl ?_ ?_); (rotate_left 2)
  · go_simp
    constructor
    · rfl
    · rfl
  (refine hK.out _ _ ⟨(World.cell?_alloc_past _ _ _ M1.out.t.lt).trans hHeld.1, (World.cell?_alloc_past _ _ _ (blk_lt M1.out.x)).trans hHeld.2.1, (World.cell?_alloc_past _ _ _ (blk_lt M1.out.x)).trans hHeld.2.2.1, (World.cell?_alloc_past _ _ _ (blk_lt M1.out.x)).trans hHeld.2.2.2.1, (World.cell?_alloc_past _ _ _ (Kd.R_lt M1.out.t.l gl rfl)).trans hHeld.2.2.2.2⟩ (fun hHeld => ?_)); clear hK K; (refine norm_ (a' := ?_) ?_ ?_); (rotate_left)
  · show Act.put _ (some 86) _ = _
    (simp only [Act.put, sTA, sCZ, sCS, i64_w, i32_w]); (rfl)
  (refine one_ (i := 15) (N := some 87) #[I,I,I,I,I,I,I,I,I,I,I,I,I,I,I,I,O,O,O] rfl rfl (one_of HT_.out (by kernel_rfl)) (by decide) (fun K hK => ?_)); (have hR := (M1.out.t.n _ (rdC_mem Q0.out Q1.out)).1); (rw [A7.out] at hR); (refine Kd.R_append_step k44 (w0 := w) B0 (by rfl) (.tmp 84) (.tmp 86) 38 44 (.agg #[.string ByteArray.empty, .slice none 0 0, .string ByteArray.empty]) 56 rfl Tryd.underlying38 tr_info44 rfl (by decide) (by omega) (.slice Ae (rdC ps p4).1.f1.length ce) (rdC ps p4).1.f1 (⟨nm, px, v⟩ : S44) [.string nm, .slice Ax px.length cx, .string v] (fun _ => True) (fun k => True ∧ some k ≠ (Value.ownBlock (.slice Ae (rdC ps p4).1.f1.length ce))) rfl rfl (k44_mkM _ _ _ ⟨nm, px, v⟩ (Kd.R_apartR M1.out.p hR (by decide))) (fun _ hk => hk) (fun _ _ => trivial) hR (below_to M1.out.bb A6.out) (Nat.le_trans A6.out M1.out.hb) (by have := HL.out; omega) ?_); clear hR; (intro v1 w1 ho hb hg hat); (obtain ⟨An, cn, en⟩ := Kd.R_slice ho); (rw [List.length_append, List.length_singleton] at en); subst en; (rw [← A7.out] at hg hat); (obtain ⟨cgl, hcgl⟩ := Kd.R_typed M1.out.t.l gl rfl); (have hR := M1.out.t.n _ (rdC_mem Q0.out Q1.out)); (have G0 := aM (blk_grown M1.out.t.b hg (Kd.R_ne hR.1 M1.out.t.b (by decide)))); (have G2 := aM (blk_grown M1.out.x hg (fun e => M1.out.n _ (rdC_mem Q0.out Q1.out) e.symm))); (have G4 := aM (blk_grown hcgl hg (Kd.R_ne hR.1 hcgl (by decide)))); (have G1 := aM (M1.out.t.lines p4 Q0.out Q1.out hg ho rfl M1.out.hb hat)); (have G3 := aM ((M1.out.bb.grown hg M1.out.hb (fun k hk => hR.2 k hk)).setCell A8.out (.slice An ((rdC ps p4).1.f1.length + 1) cn) (p := ⟨gl, p4.toNat * 3 + 1, none⟩))); (obtain ⟨-, c4, -, -, -⟩ := M1.out.t.elem p4 Q0.out Q1.out); (rw [A7.out] at c4); (replace c4 : w1.cell? ⟨gl, p4.toNat * 3 + 1, none⟩ = some (.slice Ae (rdC ps p4).1.f1.length ce) := by rw [qC G4.out]; rw [qC hcgl] at c4; exact c4); clear ho hb hg hat hR hcgl; (refine hK.out _ _ ⟨(qC G0.out 0).trans rfl, (qC G2.out 0).trans rfl, (qC G2.out 1).trans rfl, (qC G2.out 2).trans rfl, c4⟩ (fun hHeld => ?_)); clear hK K; (refine norm_ (a' := ?_) ?_ ?_); (rotate_left)
  · show Act.put _ (some 87) _ = _
    (simp only [Act.put, sTA, sCZ, sCS, i64_w, i32_w]); (rfl)
  (refine pu_ (i := 16) (N := some 88) (v := ?_) (a' := ?_) #[I,I,I,I,I,I,I,I,I,I,I,I,I,I,I,I,I,O,O] rfl rfl HT_.out (by kernel_rfl) (fun _ _ _ h => h) (Or.inl ⟨by rfl, ?_⟩) ?_ ?_); (rotate_left)
  · intro w'
    (go_simp); (with_reducible rfl)
  rotate_left
  · simp only [Act.put, sTA, sCZ, sCS, i64_w, i32_w]
    rfl
  (refine pu_ (i := 17) (N := some 89) (v := ?_) (a' := ?_) #[I,I,I,I,I,I,I,I,I,I,I,I,I,I,I,I,I,I,O] rfl rfl HT_.out (by kernel_rfl) (fun _ _ _ h => h) (Or.inl ⟨by rfl, ?_⟩) ?_ ?_); (rotate_left)
  · intro w'
    (go_simp); (with_reducible rfl)
  rotate_left
  · simp only [Act.put, sTA, sCZ, sCS, i64_w, i32_w]
    rfl
  (refine last_ (i := 18) (N := none) #[I,I,I,I,I,I,I,I,I,I,I,I,I,I,I,I,I,I,I] rfl rfl (one_of HT_.out (by kernel_rfl)) (by decide) (fun K hK => ?_)); (have f0 := qF G4.out (p4.toNat * 3 + 1)); (have c0' := hHeld.2.2.2.2); (refine skip_ (w1 := ?_) (by rfl) rfl ?_ ?_); (rotate_left)
  · go_simp
    rfl
  (refine hK.out _ _ ?_); clear hK K; (refine done_ (done_of HT_.out (by kernel_rfl)) ?_); (go_wp2); (go_ret); (exact ⟨rfl, ⟨_, _, _, by rw [List.map_set], G1.out⟩, G3.out⟩)
set_option maxHeartbeats 16000000 in
set_option maxRecDepth 100000 in
theorem rl_six (k : Nat) (B0 B g : Nat) (w : World) (vl vo : Value) (ps : List (S40 × Value)) (op : List Int) (nm : ByteArray) (Ax : Option Addr) (cx : Nat) (px : List (S70)) (v : ByteArray) (H : Tre B0 B w g vl vo ps op) (hx : Kd.R k70 70 w B0 (fun _ => True) (.slice Ax px.length cx) px) (hB : B0 ≤ B) (hBw : B ≤ w.heap.size) (p4 : Int) (hp4 : rd op ((op.length : Int) - 1) = p4) (hq_op : ¬ (op.length : Int) = 0) (q0 : 0 ≤ p4) (q1 : p4 < (ps.length : Int)) (h1 : line_Alike.f k nm (⟨#[66, 69, 71, 73, 78]⟩ : ByteArray) = some false) (h2 : line_Alike.f k nm (⟨#[69, 78, 68]⟩ : ByteArray) = some true) (hp : 0 < px.length) :
    Calls Tryd.prog 27 #[.pointer (some ⟨g, 0, none⟩), .agg #[.string nm, .slice Ax px.length cx, .string v]] w fun en w' => en = .returned (.bool false) ∧ Below B w w' := by
  (obtain ⟨Ao, co, eo⟩ := Kd.R_slice H.o); subst eo; (obtain ⟨gl, cl, el, hglB, hglt, cgl, hcgl⟩ := Kd.R_form H.l (by omega)); subst el; (have hC := (Kd.R_reads' H.o).2.2); (have hcap := (Kd.R_reads' H.o).2.1); (have hmx := Kd.C_max hC); (obtain ⟨adp, ep, hxp⟩ := Kd.at_int hC ((op.length : Int) - 1) (by omega) (by omega))
  cases ep
  clear hxp; (have hw : wrap64 ((op.length : Int) - 1) = (op.length : Int) - 1 := by unfold wrap64; omega); (have pa := eq_true (show 0 ≤ (op.length : Int) - 1 by omega)); (have pa' := eq_true (show 1 ≤ (op.length : Int) by omega)); (have pa2 := eq_true (show 1 ≤ op.length by omega)); (have pb := eq_true (show (op.length : Int) - 1 < (op.length : Int) by omega)); (have pc := eq_true (show (op.length : Int) - 1 ≤ (co : Int) by omega)); (have pd := eq_true q0); (have pe := eq_true q1); (have Q := aM (show 0 < op.length by omega)); (have Q0 := aM q0); (have Q1 := aM q1); (obtain ⟨Ae, ce, ee⟩ := Kd.R_slice (H.n _ (rdC_mem q0 q1)).1); (have A1 := aM H); (have A4 := aM hBw); (have A5 := aM hx); (have A6 := aM hB); (have A7 := aM ee); (have A8 := aM hglB); (have A9 := aM hp4); (have hu44 := Tryd.underlying44); clear H hBw hx hB hcap hmx hC hglt hcgl cgl hglB ee hp4 q0 q1; (have qop0 : ((op.length : Int) == 0) = false := by rw [beq_eq_false_iff_ne]; exact hq_op); (have qop1 : (op.length == 0) = false := by rw [beq_eq_false_iff_ne]; omega); (have qop2 : decide (op.length = 0) = false := by rw [decide_eq_false_iff_not]; omega); (have ppx0 : decide (0 < (px.length : Int)) = true := dE (by omega)); (have ppx1 : decide (0 < px.length) = true := dE (by omega)); (have HT1 := aM h1); (have HT2 := aM h2); clear h1 h2 hp hq_op; (go_enter Tryd.func27, Tryd.ntmps27); (go_wp2_with (first | ((with_reducible refine gate_dst (N := 3) rfl ?_); refine box_event ?hg (N := 3) ?hd (cs := #[.string nm, .slice Ax px.length cx, .string v]) (t := 44) ?hr ?_; (case hd => rfl); (case hg => rfl); (case hr => first | (go_simp; done) | (go_simp; rfl)); intro gb hg w3 hbox hb; have HGB : Aside0 (w.heap.size ≤ gb) := ⟨by rw [hg]; exact Nat.le_refl _⟩; have L1 : Aside0 (Ls B0 B w w3 g gb (.slice (some ⟨gl, 0, none⟩) ps.length cl) (.slice (some adp) op.length co) ps op nm (.slice Ax px.length cx) px v) := ⟨⟨A1.out.below hb, hbox, Kd.R_below A5.out hb, hb.mono A4.out, Nat.le_trans A4.out hb.size, fun p hp e => by have := Kd.R_lt (A1.out.n p hp).1 gb e; have := HGB.out; omega⟩⟩; have g0 : w3.cell? ⟨g, 0, none⟩ = some (.slice (some ⟨gl, 0, none⟩) ps.length cl) := (qC L1.out.t.b 0).trans rfl; have g1 : w3.cell? ⟨g, 1, none⟩ = some (.slice (some adp) op.length co) := (qC L1.out.t.b 1).trans rfl; have z0 : w3.cell? ⟨gb, 0, none⟩ = some (.string nm) := (qC L1.out.x 0).trans rfl; have z1 : w3.cell? ⟨gb, 1, none⟩ = some (.slice Ax px.length cx) := (qC L1.out.x 1).trans rfl; have z2 : w3.cell? ⟨gb, 2, none⟩ = some (.string v) := (qC L1.out.x 2).trans rfl; clear hb hbox hg) | (go_at_call 52; (with_reducible refine (line_Alike.calls k _ _ _ _ HT1.out).mono ?_); rintro en wa1 ⟨rfl, hd⟩; obtain ⟨nd, hq⟩ := hd.out; have L2 : Aside0 (Ls B0 B w wa1 g gb (.slice (some ⟨gl, 0, none⟩) ps.length cl) (.slice (some adp) op.length co) ps op nm (.slice Ax px.length cx) px v) := ⟨by rw [hq]; exact L1.out.drewN nd⟩; clear g0 g1 z0 z1 z2; have g0 : wa1.cell? ⟨g, 0, none⟩ = some (.slice (some ⟨gl, 0, none⟩) ps.length cl) := (qC L2.out.t.b 0).trans rfl; have g1 : wa1.cell? ⟨g, 1, none⟩ = some (.slice (some adp) op.length co) := (qC L2.out.t.b 1).trans rfl; have z0 : wa1.cell? ⟨gb, 0, none⟩ = some (.string nm) := (qC L2.out.x 0).trans rfl; have z1 : wa1.cell? ⟨gb, 1, none⟩ = some (.slice Ax px.length cx) := (qC L2.out.x 1).trans rfl; have z2 : wa1.cell? ⟨gb, 2, none⟩ = some (.string v) := (qC L2.out.x 2).trans rfl; have hxp := L2.out.t.lastCell Q.out; rw [A9.out] at hxp; clear hd hq) | (go_at_call 52; (with_reducible refine (line_Alike.calls k _ _ _ _ HT2.out).mono ?_); rintro en wa2 ⟨rfl, hd⟩; obtain ⟨nd, hq⟩ := hd.out; have L3 : Aside0 (Ls B0 B w wa2 g gb (.slice (some ⟨gl, 0, none⟩) ps.length cl) (.slice (some adp) op.length co) ps op nm (.slice Ax px.length cx) px v) := ⟨by rw [hq]; exact L2.out.drewN nd⟩; clear g0 g1 z0 z1 z2; have g0 : wa2.cell? ⟨g, 0, none⟩ = some (.slice (some ⟨gl, 0, none⟩) ps.length cl) := (qC L3.out.t.b 0).trans rfl; have g1 : wa2.cell? ⟨g, 1, none⟩ = some (.slice (some adp) op.length co) := (qC L3.out.t.b 1).trans rfl; have z0 : wa2.cell? ⟨gb, 0, none⟩ = some (.string nm) := (qC L3.out.x 0).trans rfl; have z1 : wa2.cell? ⟨gb, 1, none⟩ = some (.slice Ax px.length cx) := (qC L3.out.x 1).trans rfl; have z2 : wa2.cell? ⟨gb, 2, none⟩ = some (.string v) := (qC L3.out.x 2).trans rfl; clear hxp; have hxp := L3.out.t.lastCell Q.out; rw [A9.out] at hxp; obtain ⟨e0, e1, e2, _, ef⟩ := L3.out.t.elem p4 Q0.out Q1.out; rw [A7.out] at e1; clear hd hq))); (go_quiet (fail)); (go_wp2); (go_ret); (exact ⟨rfl, by (repeat (first | exact L3.out.bb | apply lN | apply below_drew))⟩)
set_option maxHeartbeats 16000000 in
set_option maxRecDepth 100000 in
theorem rl_seven (k : Nat) (B0 B g : Nat) (w : World) (vl vo : Value) (ps : List (S40 × Value)) (op : List Int) (nm : ByteArray) (Ax : Option Addr) (cx : Nat) (px : List (S70)) (v : ByteArray) (H : Tre B0 B w g vl vo ps op) (hx : Kd.R k70 70 w B0 (fun _ => True) (.slice Ax px.length cx) px) (hB : B0 ≤ B) (hBw : B ≤ w.heap.size) (p4 : Int) (hp4 : rd op ((op.length : Int) - 1) = p4) (hq_op : ¬ (op.length : Int) = 0) (q0 : 0 ≤ p4) (q1 : p4 < (ps.length : Int)) (h1 : line_Alike.f k nm (⟨#[66, 69, 71, 73, 78]⟩ : ByteArray) = some false) (h2 : line_Alike.f k nm (⟨#[69, 78, 68]⟩ : ByteArray) = some true) (hp : ¬ 0 < px.length) (h3 : line_Alike.f k v (rdC ps p4).1.f0 = some false) :
    Calls Tryd.prog 27 #[.pointer (some ⟨g, 0, none⟩), .agg #[.string nm, .slice Ax px.length cx, .string v]] w fun en w' => en = .returned (.bool false) ∧ Below B w w' := by
  (obtain ⟨Ao, co, eo⟩ := Kd.R_slice H.o); subst eo; (obtain ⟨gl, cl, el, hglB, hglt, cgl, hcgl⟩ := Kd.R_form H.l (by omega)); subst el; (have hC := (Kd.R_reads' H.o).2.2); (have hcap := (Kd.R_reads' H.o).2.1); (have hmx := Kd.C_max hC); (obtain ⟨adp, ep, hxp⟩ := Kd.at_int hC ((op.length : Int) - 1) (by omega) (by omega))
  cases ep
  clear hxp; (have hw : wrap64 ((op.length : Int) - 1) = (op.length : Int) - 1 := by unfold wrap64; omega); (have pa := eq_true (show 0 ≤ (op.length : Int) - 1 by omega)); (have pa' := eq_true (show 1 ≤ (op.length : Int) by omega)); (have pa2 := eq_true (show 1 ≤ op.length by omega)); (have pb := eq_true (show (op.length : Int) - 1 < (op.length : Int) by omega)); (have pc := eq_true (show (op.length : Int) - 1 ≤ (co : Int) by omega)); (have pd := eq_true q0); (have pe := eq_true q1); (have Q := aM (show 0 < op.length by omega)); (have Q0 := aM q0); (have Q1 := aM q1); (obtain ⟨Ae, ce, ee⟩ := Kd.R_slice (H.n _ (rdC_mem q0 q1)).1); (have A1 := aM H); (have A4 := aM hBw); (have A5 := aM hx); (have A6 := aM hB); (have A7 := aM ee); (have A8 := aM hglB); (have A9 := aM hp4); (have hu44 := Tryd.underlying44); clear H hBw hx hB hcap hmx hC hglt hcgl cgl hglB ee hp4 q0 q1; (have qop0 : ((op.length : Int) == 0) = false := by rw [beq_eq_false_iff_ne]; exact hq_op); (have qop1 : (op.length == 0) = false := by rw [beq_eq_false_iff_ne]; omega); (have qop2 : decide (op.length = 0) = false := by rw [decide_eq_false_iff_not]; omega); (have ppx0 : decide (0 < (px.length : Int)) = false := decide_eq_false (by omega)); (have ppx1 : decide (0 < px.length) = false := decide_eq_false (by omega)); (have HT1 := aM h1); (have HT2 := aM h2); (have HT3 := aM h3); clear h1 h2 h3 hp hq_op; (go_enter Tryd.func27, Tryd.ntmps27); (go_wp2_with (first | ((with_reducible refine gate_dst (N := 3) rfl ?_); refine box_event ?hg (N := 3) ?hd (cs := #[.string nm, .slice Ax px.length cx, .string v]) (t := 44) ?hr ?_; (case hd => rfl); (case hg => rfl); (case hr => first | (go_simp; done) | (go_simp; rfl)); intro gb hg w3 hbox hb; have HGB : Aside0 (w.heap.size ≤ gb) := ⟨by rw [hg]; exact Nat.le_refl _⟩; have L1 : Aside0 (Ls B0 B w w3 g gb (.slice (some ⟨gl, 0, none⟩) ps.length cl) (.slice (some adp) op.length co) ps op nm (.slice Ax px.length cx) px v) := ⟨⟨A1.out.below hb, hbox, Kd.R_below A5.out hb, hb.mono A4.out, Nat.le_trans A4.out hb.size, fun p hp e => by have := Kd.R_lt (A1.out.n p hp).1 gb e; have := HGB.out; omega⟩⟩; have g0 : w3.cell? ⟨g, 0, none⟩ = some (.slice (some ⟨gl, 0, none⟩) ps.length cl) := (qC L1.out.t.b 0).trans rfl; have g1 : w3.cell? ⟨g, 1, none⟩ = some (.slice (some adp) op.length co) := (qC L1.out.t.b 1).trans rfl; have z0 : w3.cell? ⟨gb, 0, none⟩ = some (.string nm) := (qC L1.out.x 0).trans rfl; have z1 : w3.cell? ⟨gb, 1, none⟩ = some (.slice Ax px.length cx) := (qC L1.out.x 1).trans rfl; have z2 : w3.cell? ⟨gb, 2, none⟩ = some (.string v) := (qC L1.out.x 2).trans rfl; clear hb hbox hg) | (go_at_call 52; (with_reducible refine (line_Alike.calls k _ _ _ _ HT1.out).mono ?_); rintro en wa1 ⟨rfl, hd⟩; obtain ⟨nd, hq⟩ := hd.out; have L2 : Aside0 (Ls B0 B w wa1 g gb (.slice (some ⟨gl, 0, none⟩) ps.length cl) (.slice (some adp) op.length co) ps op nm (.slice Ax px.length cx) px v) := ⟨by rw [hq]; exact L1.out.drewN nd⟩; clear g0 g1 z0 z1 z2; have g0 : wa1.cell? ⟨g, 0, none⟩ = some (.slice (some ⟨gl, 0, none⟩) ps.length cl) := (qC L2.out.t.b 0).trans rfl; have g1 : wa1.cell? ⟨g, 1, none⟩ = some (.slice (some adp) op.length co) := (qC L2.out.t.b 1).trans rfl; have z0 : wa1.cell? ⟨gb, 0, none⟩ = some (.string nm) := (qC L2.out.x 0).trans rfl; have z1 : wa1.cell? ⟨gb, 1, none⟩ = some (.slice Ax px.length cx) := (qC L2.out.x 1).trans rfl; have z2 : wa1.cell? ⟨gb, 2, none⟩ = some (.string v) := (qC L2.out.x 2).trans rfl; have hxp := L2.out.t.lastCell Q.out; rw [A9.out] at hxp; clear hd hq) | (go_at_call 52; (with_reducible refine (line_Alike.calls k _ _ _ _ HT2.out).mono ?_); rintro en wa2 ⟨rfl, hd⟩; obtain ⟨nd, hq⟩ := hd.out; have L3 : Aside0 (Ls B0 B w wa2 g gb (.slice (some ⟨gl, 0, none⟩) ps.length cl) (.slice (some adp) op.length co) ps op nm (.slice Ax px.length cx) px v) := ⟨by rw [hq]; exact L2.out.drewN nd⟩; clear g0 g1 z0 z1 z2; have g0 : wa2.cell? ⟨g, 0, none⟩ = some (.slice (some ⟨gl, 0, none⟩) ps.length cl) := (qC L3.out.t.b 0).trans rfl; have g1 : wa2.cell? ⟨g, 1, none⟩ = some (.slice (some adp) op.length co) := (qC L3.out.t.b 1).trans rfl; have z0 : wa2.cell? ⟨gb, 0, none⟩ = some (.string nm) := (qC L3.out.x 0).trans rfl; have z1 : wa2.cell? ⟨gb, 1, none⟩ = some (.slice Ax px.length cx) := (qC L3.out.x 1).trans rfl; have z2 : wa2.cell? ⟨gb, 2, none⟩ = some (.string v) := (qC L3.out.x 2).trans rfl; clear hxp; have hxp := L3.out.t.lastCell Q.out; rw [A9.out] at hxp; obtain ⟨e0, e1, e2, _, ef⟩ := L3.out.t.elem p4 Q0.out Q1.out; rw [A7.out] at e1; clear hd hq))); (go_quiet (first | (go_at_call 52; (with_reducible refine (line_Alike.calls k _ _ _ _ HT3.out).mono ?_); rintro en w' ⟨rfl, ⟨nd, rfl⟩⟩; (try first | exact ⟨rfl, _, World.drewN_drewN _ _ _⟩ | exact ⟨rfl, _, Eq.trans (World.drewN_drewN _ _ _) (congrArg (World.drewN _) (Nat.add_assoc _ _ _))⟩)))); (go_wp2); (go_ret); (exact ⟨rfl, by (repeat (first | exact L3.out.bb | apply lN | apply below_drew))⟩)
set_option maxHeartbeats 16000000 in
set_option maxRecDepth 100000 in
theorem rl_eight (k : Nat) (B0 B g : Nat) (w : World) (vl vo : Value) (ps : List (S40 × Value)) (op : List Int) (nm : ByteArray) (Ax : Option Addr) (cx : Nat) (px : List (S70)) (v : ByteArray) (H : Tre B0 B w g vl vo ps op) (hx : Kd.R k70 70 w B0 (fun _ => True) (.slice Ax px.length cx) px) (hB : B0 ≤ B) (hBw : B ≤ w.heap.size) (p4 : Int) (hp4 : rd op ((op.length : Int) - 1) = p4) (hq_op : ¬ (op.length : Int) = 0) (q0 : 0 ≤ p4) (q1 : p4 < (ps.length : Int)) (h1 : line_Alike.f k nm (⟨#[66, 69, 71, 73, 78]⟩ : ByteArray) = some false) (h2 : line_Alike.f k nm (⟨#[69, 78, 68]⟩ : ByteArray) = some true) (hp : ¬ 0 < px.length) (h3 : line_Alike.f k v (rdC ps p4).1.f0 = some true) :
    Calls Tryd.prog 27 #[.pointer (some ⟨g, 0, none⟩), .agg #[.string nm, .slice Ax px.length cx, .string v]] w fun en w' => en = .returned (.bool true) ∧ (∃ vl' vo' ps', ps'.map (·.1) = ((ps.map (·.1)).set p4.toNat (⟨(rdC ps p4).1.f0, (rdC ps p4).1.f1, wrap64 (wrap64 ((ps.length : Int) - 1) - p4)⟩ : S40)) ∧ Tre B0 B w' g vl' vo' ps' (op.take (op.length - 1))) ∧ Below B w w' := by
  (obtain ⟨Ao, co, eo⟩ := Kd.R_slice H.o); subst eo; (obtain ⟨gl, cl, el, hglB, hglt, cgl, hcgl⟩ := Kd.R_form H.l (by omega)); subst el; (have hC := (Kd.R_reads' H.o).2.2); (have hcap := (Kd.R_reads' H.o).2.1); (have hmx := Kd.C_max hC); (obtain ⟨adp, ep, hxp⟩ := Kd.at_int hC ((op.length : Int) - 1) (by omega) (by omega))
  cases ep
  clear hxp; (have hw : wrap64 ((op.length : Int) - 1) = (op.length : Int) - 1 := by unfold wrap64; omega); (have pa := eq_true (show 0 ≤ (op.length : Int) - 1 by omega)); (have pa' := eq_true (show 1 ≤ (op.length : Int) by omega)); (have pa2 := eq_true (show 1 ≤ op.length by omega)); (have pb := eq_true (show (op.length : Int) - 1 < (op.length : Int) by omega)); (have pc := eq_true (show (op.length : Int) - 1 ≤ (co : Int) by omega)); (have pd := eq_true q0); (have pe := eq_true q1); (have Q := aM (show 0 < op.length by omega)); (have Q0 := aM q0); (have Q1 := aM q1); (obtain ⟨Ae, ce, ee⟩ := Kd.R_slice (H.n _ (rdC_mem q0 q1)).1); (have A1 := aM H); (have A4 := aM hBw); (have A5 := aM hx); (have A6 := aM hB); (have A7 := aM ee); (have A8 := aM hglB); (have A9 := aM hp4); (have hu44 := Tryd.underlying44); clear H hBw hx hB hcap hmx hC hglt hcgl cgl hglB ee hp4 q0 q1; (have qop0 : ((op.length : Int) == 0) = false := by rw [beq_eq_false_iff_ne]; exact hq_op); (have qop1 : (op.length == 0) = false := by rw [beq_eq_false_iff_ne]; omega); (have qop2 : decide (op.length = 0) = false := by rw [decide_eq_false_iff_not]; omega); (have ppx0 : decide (0 < (px.length : Int)) = false := decide_eq_false (by omega)); (have ppx1 : decide (0 < px.length) = false := decide_eq_false (by omega)); (have HT1 := aM h1); (have HT2 := aM h2); (have HT3 := aM h3); clear h1 h2 h3 hp hq_op; (go_enter Tryd.func27, Tryd.ntmps27); (go_wp2_with (first | ((with_reducible refine gate_dst (N := 3) rfl ?_); refine box_event ?hg (N := 3) ?hd (cs := #[.string nm, .slice Ax px.length cx, .string v]) (t := 44) ?hr ?_; (case hd => rfl); (case hg => rfl); (case hr => first | (go_simp; done) | (go_simp; rfl)); intro gb hg w3 hbox hb; have HGB : Aside0 (w.heap.size ≤ gb) := ⟨by rw [hg]; exact Nat.le_refl _⟩; have L1 : Aside0 (Ls B0 B w w3 g gb (.slice (some ⟨gl, 0, none⟩) ps.length cl) (.slice (some adp) op.length co) ps op nm (.slice Ax px.length cx) px v) := ⟨⟨A1.out.below hb, hbox, Kd.R_below A5.out hb, hb.mono A4.out, Nat.le_trans A4.out hb.size, fun p hp e => by have := Kd.R_lt (A1.out.n p hp).1 gb e; have := HGB.out; omega⟩⟩; have g0 : w3.cell? ⟨g, 0, none⟩ = some (.slice (some ⟨gl, 0, none⟩) ps.length cl) := (qC L1.out.t.b 0).trans rfl; have g1 : w3.cell? ⟨g, 1, none⟩ = some (.slice (some adp) op.length co) := (qC L1.out.t.b 1).trans rfl; have z0 : w3.cell? ⟨gb, 0, none⟩ = some (.string nm) := (qC L1.out.x 0).trans rfl; have z1 : w3.cell? ⟨gb, 1, none⟩ = some (.slice Ax px.length cx) := (qC L1.out.x 1).trans rfl; have z2 : w3.cell? ⟨gb, 2, none⟩ = some (.string v) := (qC L1.out.x 2).trans rfl; clear hb hbox hg) | (go_at_call 52; (with_reducible refine (line_Alike.calls k _ _ _ _ HT1.out).mono ?_); rintro en wa1 ⟨rfl, hd⟩; obtain ⟨nd, hq⟩ := hd.out; have L2 : Aside0 (Ls B0 B w wa1 g gb (.slice (some ⟨gl, 0, none⟩) ps.length cl) (.slice (some adp) op.length co) ps op nm (.slice Ax px.length cx) px v) := ⟨by rw [hq]; exact L1.out.drewN nd⟩; clear g0 g1 z0 z1 z2; have g0 : wa1.cell? ⟨g, 0, none⟩ = some (.slice (some ⟨gl, 0, none⟩) ps.length cl) := (qC L2.out.t.b 0).trans rfl; have g1 : wa1.cell? ⟨g, 1, none⟩ = some (.slice (some adp) op.length co) := (qC L2.out.t.b 1).trans rfl; have z0 : wa1.cell? ⟨gb, 0, none⟩ = some (.string nm) := (qC L2.out.x 0).trans rfl; have z1 : wa1.cell? ⟨gb, 1, none⟩ = some (.slice Ax px.length cx) := (qC L2.out.x 1).trans rfl; have z2 : wa1.cell? ⟨gb, 2, none⟩ = some (.string v) := (qC L2.out.x 2).trans rfl; have hxp := L2.out.t.lastCell Q.out; rw [A9.out] at hxp; clear hd hq) | (go_at_call 52; (with_reducible refine (line_Alike.calls k _ _ _ _ HT2.out).mono ?_); rintro en wa2 ⟨rfl, hd⟩; obtain ⟨nd, hq⟩ := hd.out; have L3 : Aside0 (Ls B0 B w wa2 g gb (.slice (some ⟨gl, 0, none⟩) ps.length cl) (.slice (some adp) op.length co) ps op nm (.slice Ax px.length cx) px v) := ⟨by rw [hq]; exact L2.out.drewN nd⟩; clear g0 g1 z0 z1 z2; have g0 : wa2.cell? ⟨g, 0, none⟩ = some (.slice (some ⟨gl, 0, none⟩) ps.length cl) := (qC L3.out.t.b 0).trans rfl; have g1 : wa2.cell? ⟨g, 1, none⟩ = some (.slice (some adp) op.length co) := (qC L3.out.t.b 1).trans rfl; have z0 : wa2.cell? ⟨gb, 0, none⟩ = some (.string nm) := (qC L3.out.x 0).trans rfl; have z1 : wa2.cell? ⟨gb, 1, none⟩ = some (.slice Ax px.length cx) := (qC L3.out.x 1).trans rfl; have z2 : wa2.cell? ⟨gb, 2, none⟩ = some (.string v) := (qC L3.out.x 2).trans rfl; clear hxp; have hxp := L3.out.t.lastCell Q.out; rw [A9.out] at hxp; obtain ⟨e0, e1, e2, _, ef⟩ := L3.out.t.elem p4 Q0.out Q1.out; rw [A7.out] at e1; clear hd hq))); (go_quiet (first | (go_at_call 52; (with_reducible refine (line_Alike.calls k _ _ _ _ HT3.out).mono ?_); rintro en w' ⟨rfl, ⟨nd, rfl⟩⟩; (try first | exact ⟨rfl, _, World.drewN_drewN _ _ _⟩ | exact ⟨rfl, _, Eq.trans (World.drewN_drewN _ _ _) (congrArg (World.drewN _) (Nat.add_assoc _ _ _))⟩)))); (have M0 : Aside0 (Ls B0 B w (wa2.drewN nq) g gb (.slice (some ⟨gl, 0, none⟩) ps.length cl) (.slice (some adp) op.length co) ps op nm (.slice Ax px.length cx) px v) := ⟨L3.out.drewN nq⟩); clear g0 g1 z0 z1 z2 e0 e1 e2 ef hxp L1 L2 L3 HT1 HT2 HT3; (generalize wa2.drewN nq = W at M0 ⊢); (go_wp2); (have M1 := aM M0.out.drew); (have c0 : W.drew.cell? ⟨g, 0, none⟩ = some (.slice (some ⟨gl, 0, none⟩) ps.length cl) := (qC M1.out.t.b 0).trans rfl); (have c1 : W.drew.cell? ⟨g, 1, none⟩ = some (.slice (some adp) op.length co) := (qC M1.out.t.b 1).trans rfl); (refine start_ (n := 27) (S := fun w' => w'.cell? ⟨g, 0, none⟩ = some (.slice (some ⟨gl, 0, none⟩) ps.length cl) ∧ w'.cell? ⟨g, 1, none⟩ = some (.slice (some adp) op.length co)) (ds := [23, 26]) #[O,O,O,O,O,O,O,O,O,O,O,O,O,O,O,O,O,O,O,O,O,O,O,O,O,O,O] (by kernel_rfl) rfl rfl ⟨c0, c1⟩ (fun hHeld => ?_); refine with_tabW rl_.tab18 rl_.bits18 (fun HT_ HW_ => ?_)); (generalize W.drew = wd at M1 hHeld ⊢); (refine pu_ (i := 0) (N := some 108) (v := ?_) (a' := ?_) #[I,O,O,O,O,O,O,O,O,O,O,O,O,O,O,O,O,O,O,O,O,O,O,O,O,O,O] rfl rfl HT_.out (by kernel_rfl) (fun _ _ _ h => h) (Or.inl ⟨by rfl, ?_⟩) ?_ ?_); (rotate_left)
  · intro w'
    (go_simp); (with_reducible rfl)
  rotate_left
  · simp only [Act.put, sTA, sCZ, sCS, i64_w, i32_w]
    rfl
  (refine pu_ (i := 1) (N := some 109) (v := ?_) (a' := ?_) #[I,I,O,O,O,O,O,O,O,O,O,O,O,O,O,O,O,O,O,O,O,O,O,O,O,O,O] rfl rfl HT_.out (by kernel_rfl) (fun _ _ _ h => h) (Or.inl ⟨by rfl, ?_⟩) ?_ ?_); (rotate_left)
  · intro w'
    (go_simp); (with_reducible rfl)
  rotate_left
  · simp only [Act.put, sTA, sCZ, sCS, i64_w, i32_w]
    rfl
  (refine pu_ (i := 2) (N := some 110) (v := ?_) (a' := ?_) #[I,I,I,O,O,O,O,O,O,O,O,O,O,O,O,O,O,O,O,O,O,O,O,O,O,O,O] rfl rfl HT_.out (by kernel_rfl) (fun _ _ _ h => h) (Or.inl ⟨by rfl, ?_⟩) ?_ ?_); (rotate_left)
  · intro w'
    (go_simp); (with_reducible rfl)
  rotate_left
  · simp only [Act.put, sTA, sCZ, sCS, i64_w, i32_w]
    rfl
  (refine pu_ (i := 4) (N := some 112) (v := ?_) (a' := ?_) #[I,I,I,O,I,O,O,O,O,O,O,O,O,O,O,O,O,O,O,O,O,O,O,O,O,O,O] rfl rfl HT_.out (by kernel_rfl) (fun _ _ _ h => h) (Or.inl ⟨by rfl, ?_⟩) ?_ ?_); (rotate_left)
  · intro w'
    (go_simp); (with_reducible rfl)
  rotate_left
  · simp only [Act.put, sTA, sCZ, sCS, i64_w, i32_w]
    rfl
  (refine pu_ (i := 5) (N := some 113) (v := ?_) (a' := ?_) #[I,I,I,O,I,I,O,O,O,O,O,O,O,O,O,O,O,O,O,O,O,O,O,O,O,O,O] rfl rfl HT_.out (by kernel_rfl) (fun _ _ _ h => h) (Or.inl ⟨by rfl, ?_⟩) ?_ ?_); (rotate_left)
  · intro w'
    (go_simp); (with_reducible rfl)
  rotate_left
  · simp only [Act.put, sTA, sCZ, sCS, i64_w, i32_w]
    rfl
  (refine pu_ (i := 6) (N := some 114) (v := ?_) (a' := ?_) #[I,I,I,O,I,I,I,O,O,O,O,O,O,O,O,O,O,O,O,O,O,O,O,O,O,O,O] rfl rfl HT_.out (by kernel_rfl) (fun _ _ _ h => h) (Or.inl ⟨by rfl, ?_⟩) ?_ ?_); (rotate_left)
  · intro w'
    (go_simp); (with_reducible rfl)
  rotate_left
  · simp only [Act.put, sTA, sCZ, sCS, i64_w, i32_w]
    rfl
  (refine pu_ (i := 7) (N := some 115) (v := ?_) (a' := ?_) #[I,I,I,O,I,I,I,I,O,O,O,O,O,O,O,O,O,O,O,O,O,O,O,O,O,O,O] rfl rfl HT_.out (by kernel_rfl) (fun _ _ _ h => h) (Or.inl ⟨by rfl, ?_⟩) ?_ ?_); (rotate_left)
  · intro w'
    (go_simp); (with_reducible rfl)
  rotate_left
  · simp only [Act.put, sTA, sCZ, sCS, i64_w, i32_w]
    rfl
  (refine pu_ (i := 8) (N := some 116) (v := ?_) (a' := ?_) #[I,I,I,O,I,I,I,I,I,O,O,O,O,O,O,O,O,O,O,O,O,O,O,O,O,O,O] rfl rfl HT_.out (by kernel_rfl) (fun _ _ _ h => h) (Or.inl ⟨by rfl, ?_⟩) ?_ ?_); (rotate_left)
  · intro w'
    (go_simp); (with_reducible rfl)
  rotate_left
  · simp only [Act.put, sTA, sCZ, sCS, i64_w, i32_w]
    rfl
  (refine pu_ (i := 12) (N := some 120) (v := ?_) (a' := ?_) #[I,I,I,O,I,I,I,I,I,O,O,O,I,O,O,O,O,O,O,O,O,O,O,O,O,O,O] rfl rfl HT_.out (by kernel_rfl) (fun _ _ _ h => h) (Or.inl ⟨by rfl, ?_⟩) ?_ ?_); (rotate_left)
  · intro w'
    (go_simp); (with_reducible rfl)
  rotate_left
  · simp only [Act.put, sTA, sCZ, sCS, i64_w, i32_w]
    rfl
  (refine pu_ (i := 14) (N := some 122) (v := ?_) (a' := ?_) #[I,I,I,O,I,I,I,I,I,O,O,O,I,O,I,O,O,O,O,O,O,O,O,O,O,O,O] rfl rfl HT_.out (by kernel_rfl) (fun _ _ _ h => h) (Or.inl ⟨by rfl, ?_⟩) ?_ ?_); (rotate_left)
  · intro w'
    (go_simp); (with_reducible rfl)
  rotate_left
  · simp only [Act.put, sTA, sCZ, sCS, i64_w, i32_w]
    rfl
  (refine pu_ (i := 15) (N := some 123) (v := ?_) (a' := ?_) #[I,I,I,O,I,I,I,I,I,O,O,O,I,O,I,I,O,O,O,O,O,O,O,O,O,O,O] rfl rfl HT_.out (by kernel_rfl) (fun _ _ _ h => h) (Or.inl ⟨by rfl, ?_⟩) ?_ ?_); (rotate_left)
  · intro w'
    (go_simp); (with_reducible rfl)
  rotate_left
  · simp only [Act.put, sTA, sCZ, sCS, i64_w, i32_w]
    rfl
  (refine pu_ (i := 16) (N := some 124) (v := ?_) (a' := ?_) #[I,I,I,O,I,I,I,I,I,O,O,O,I,O,I,I,I,O,O,O,O,O,O,O,O,O,O] rfl rfl HT_.out (by kernel_rfl) (fun _ _ _ h => h) (Or.inl ⟨by rfl, ?_⟩) ?_ ?_); (rotate_left)
  · intro w'
    (go_simp); (with_reducible rfl)
  rotate_left
  · simp only [Act.put, sTA, sCZ, sCS, i64_w, i32_w]
    rfl
  (refine pu_ (i := 18) (N := some 126) (v := ?_) (a' := ?_) #[I,I,I,O,I,I,I,I,I,O,O,O,I,O,I,I,I,O,I,O,O,O,O,O,O,O,O] rfl rfl HT_.out (by kernel_rfl) (fun _ _ _ h => h) (Or.inl ⟨by rfl, ?_⟩) ?_ ?_); (rotate_left)
  · intro w'
    (go_simp); (with_reducible rfl)
  rotate_left
  · simp only [Act.put, sTA, sCZ, sCS, i64_w, i32_w]
    rfl
  (refine pu_ (i := 19) (N := some 127) (v := ?_) (a' := ?_) #[I,I,I,O,I,I,I,I,I,O,O,O,I,O,I,I,I,O,I,I,O,O,O,O,O,O,O] rfl rfl HT_.out (by kernel_rfl) (fun _ _ _ h => h) (Or.inl ⟨by rfl, ?_⟩) ?_ ?_); (rotate_left)
  · intro w'
    (go_simp); (with_reducible rfl)
  rotate_left
  · simp only [Act.put, sTA, sCZ, sCS, i64_w, i32_w]
    rfl
  (refine take_ (i := 3) (N := some 111) (v := ?_) (a' := ?_) #[I,I,I,I,I,I,I,I,I,O,O,O,I,O,I,I,I,O,I,I,O,O,O,O,O,O,O] rfl rfl (take_ofW HT_.out HW_.out (by kernel_rfl)) (fun _ _ _ h => h) (Or.inl ⟨by rfl, ?_⟩) hHeld ?_ ?_); (rotate_left)
  · rintro w' ⟨s0, s1⟩
    (go_simp); (with_reducible rfl)
  rotate_left
  · simp only [Act.put, sTA, sCZ, sCS, i64_w, i32_w]
    rfl
  (refine take_ (i := 9) (N := some 117) (v := ?_) (a' := ?_) #[I,I,I,I,I,I,I,I,I,I,O,O,I,O,I,I,I,O,I,I,O,O,O,O,O,O,O] rfl rfl (take_ofW HT_.out HW_.out (by kernel_rfl)) (fun _ _ _ h => h) (Or.inl ⟨by rfl, ?_⟩) hHeld ?_ ?_); (rotate_left)
  · rintro w' ⟨s0, s1⟩
    (go_simp); (with_reducible rfl)
  rotate_left
  · simp only [Act.put, sTA, sCZ, sCS, i64_w, i32_w]
    rfl
  (refine pu_ (i := 10) (N := some 118) (v := ?_) (a' := ?_) #[I,I,I,I,I,I,I,I,I,I,I,O,I,O,I,I,I,O,I,I,O,O,O,O,O,O,O] rfl rfl HT_.out (by kernel_rfl) (fun _ _ _ h => h) (Or.inl ⟨by rfl, ?_⟩) ?_ ?_); (rotate_left)
  · intro w'
    (go_simp); (with_reducible rfl)
  rotate_left
  · simp only [Act.put, sTA, sCZ, sCS, i64_w, i32_w]
    rfl
  (refine pu_ (i := 11) (N := some 119) (v := ?_) (a' := ?_) #[I,I,I,I,I,I,I,I,I,I,I,I,I,O,I,I,I,O,I,I,O,O,O,O,O,O,O] rfl rfl HT_.out (by kernel_rfl) (fun _ _ _ h => h) (Or.inl ⟨by rfl, ?_⟩) ?_ ?_); (rotate_left)
  · intro w'
    (go_simp); (with_reducible rfl)
  rotate_left
  · simp only [Act.put, sTA, sCZ, sCS, i64_w, i32_w]
    rfl
  (refine pu_ (i := 13) (N := some 121) (v := ?_) (a' := ?_) #[I,I,I,I,I,I,I,I,I,I,I,I,I,I,I,I,I,O,I,I,O,O,O,O,O,O,O] rfl rfl HT_.out (by kernel_rfl) (fun _ _ _ h => h) (Or.inl ⟨by rfl, ?_⟩) ?_ ?_); (rotate_left)
  · intro w'
    (go_simp); (with_reducible rfl)
  rotate_left
  · simp only [Act.put, sTA, sCZ, sCS, i64_w, i32_w]
    rfl
  (refine take_ (i := 17) (N := some 125) (v := ?_) (a' := ?_) #[I,I,I,I,I,I,I,I,I,I,I,I,I,I,I,I,I,I,I,I,O,O,O,O,O,O,O] rfl rfl (take_ofW HT_.out HW_.out (by kernel_rfl)) (fun _ _ _ h => h) (Or.inl ⟨by rfl, ?_⟩) hHeld ?_ ?_); (rotate_left)
  · rintro w' ⟨s0, s1⟩
    (go_simp); (with_reducible rfl)
  rotate_left
  · simp only [Act.put, sTA, sCZ, sCS, i64_w, i32_w]
    rfl
  (refine pu_ (i := 20) (N := some 128) (v := ?_) (a' := ?_) #[I,I,I,I,I,I,I,I,I,I,I,I,I,I,I,I,I,I,I,I,I,O,O,O,O,O,O] rfl rfl HT_.out (by kernel_rfl) (fun _ _ _ h => h) (Or.inl ⟨by rfl, ?_⟩) ?_ ?_); (rotate_left)
  · intro w'
    (go_simp); (with_reducible rfl)
  rotate_left
  · simp only [Act.put, sTA, sCZ, sCS, i64_w, i32_w]
    rfl
  (refine pu_ (i := 21) (N := some 129) (v := ?_) (a' := ?_) #[I,I,I,I,I,I,I,I,I,I,I,I,I,I,I,I,I,I,I,I,I,I,O,O,O,O,O] rfl rfl HT_.out (by kernel_rfl) (fun _ _ _ h => h) (Or.inl ⟨by rfl, ?_⟩) ?_ ?_); (rotate_left)
  · intro w'
    (go_simp); (with_reducible rfl)
  rotate_left
  · simp only [Act.put, sTA, sCZ, sCS, i64_w, i32_w]
    rfl
  (refine pu_ (i := 22) (N := some 130) (v := ?_) (a' := ?_) #[I,I,I,I,I,I,I,I,I,I,I,I,I,I,I,I,I,I,I,I,I,I,I,O,O,O,O] rfl rfl HT_.out (by kernel_rfl) (fun _ _ _ h => h) (Or.inl ⟨by rfl, ?_⟩) ?_ ?_); (rotate_left)
  · intro w'
    (go_simp); (with_reducible rfl)
  rotate_left
  · simp only [Act.put, sTA, sCZ, sCS, i64_w, i32_w]
    rfl
  (refine last_ (i := 23) (N := none) #[I,I,I,I,I,I,I,I,I,I,I,I,I,I,I,I,I,I,I,I,I,I,I,I,O,O,O] rfl rfl (one_of HT_.out (by kernel_rfl)) (by decide) (fun K hK => ?_)); (obtain ⟨-, -, c2, -, hf⟩ := M1.out.t.elem p4 Q0.out Q1.out); (have f2 := hf 2); (refine skip_ (w1 := ?_) (by rfl) rfl ?_ ?_); (rotate_left)
  · go_simp
    rfl
  (refine hK.out _ _ ?_); clear hK K; (have G1 := aM (M1.out.t.count p4 Q0.out Q1.out (wrap64 (wrap64 ((ps.length : Int) - 1) - p4)))); (have G3 := aM (M1.out.bb.setCell A8.out (.int .i64 (wrap64 (wrap64 ((ps.length : Int) - 1) - p4))) (p := ⟨gl, p4.toNat * 3 + 2, none⟩))); (generalize wd.setCell ⟨gl, p4.toNat * 3 + 2, none⟩ (.int .i64 (wrap64 (wrap64 ((ps.length : Int) - 1) - p4))) = wz at G1 G3 ⊢); (refine pu_ (i := 24) (N := some 131) (v := ?_) (a' := ?_) #[I,I,I,I,I,I,I,I,I,I,I,I,I,I,I,I,I,I,I,I,I,I,I,I,I,O,O] rfl rfl HT_.out (by kernel_rfl) (fun _ _ _ h => h) (Or.inl ⟨by rfl, ?_⟩) ?_ ?_); (rotate_left)
  · intro w'
    (go_simp); (with_reducible rfl)
  rotate_left
  · simp only [Act.put, sTA, sCZ, sCS, i64_w, i32_w]
    rfl
  (refine pu_ (i := 25) (N := some 132) (v := ?_) (a' := ?_) #[I,I,I,I,I,I,I,I,I,I,I,I,I,I,I,I,I,I,I,I,I,I,I,I,I,I,O] rfl rfl HT_.out (by kernel_rfl) (fun _ _ _ h => h) (Or.inl ⟨by rfl, ?_⟩) ?_ ?_); (rotate_left)
  · intro w'
    (go_simp); (with_reducible rfl)
  rotate_left
  · simp only [Act.put, sTA, sCZ, sCS, i64_w, i32_w]
    rfl
  (refine last_ (i := 26) (N := none) #[I,I,I,I,I,I,I,I,I,I,I,I,I,I,I,I,I,I,I,I,I,I,I,I,I,I,I] rfl rfl (one_of HT_.out (by kernel_rfl)) (by decide) (fun K hK => ?_)); (have f1 := qF G1.out.b 1); (have c1' : wz.cell? ⟨g, 1, none⟩ = some (.slice (some adp) op.length co) := (qC G1.out.b 1).trans rfl); (refine skip_ (w1 := ?_) (by rfl) rfl ?_ ?_); (rotate_left)
  · go_simp
    rfl
  (refine hK.out _ _ ?_); clear hK K; (refine done_ (done_of HT_.out (by kernel_rfl)) ?_); (go_wp2); (go_ret); (have hT := G1.out.openTake (m := op.length - 1) rfl (by omega)); (exact ⟨by first | rfl | simp, ⟨_, _, _, by rw [List.map_set], hT⟩, G3.out.setCell G1.out.g _⟩)
/-- The reader at g has read cs, of which op are open. -/
def TreS (B0 B : Nat) (w : World) (g : Nat) (cs : List (S40)) (op : List Int) : Prop := ∃ vl vo ps, ps.map (·.1) = cs ∧ Tre B0 B w g vl vo ps op
theorem rl_out {b : Bool} {cs' : List (S40)} {op' : List Int} {c : Bool} {ds : List (S40)} {oq : List Int} (h : some (c, ds, oq) = some (b, cs', op')) : c = b ∧ ds = cs' ∧ oq = op' := by
  (injection h with h); (injection h with h1 h); (injection h with h2 h3); (exact ⟨h1, h2, h3⟩)
set_option maxHeartbeats 1600000 in
theorem tree_rl.calls (k B0 B g : Nat) (w : World) (cs cs' : List (S40)) (op op' : List Int) (b : Bool) (nm : ByteArray) (Ax : Option Addr) (cx : Nat) (px : List (S70)) (v : ByteArray) (H : TreS B0 B w g cs op) (hx : Kd.R k70 70 w B0 (fun _ => True) (.slice Ax px.length cx) px) (hB : B0 ≤ B) (hBw : B ≤ w.heap.size)
    (h : tree_rl.f k cs op nm px v = some (b, cs', op')) :
    Calls Tryd.prog 27 #[.pointer (some ⟨g, 0, none⟩), .agg #[.string nm, .slice Ax px.length cx, .string v]] w fun en w' => en = .returned (.bool b) ∧ (b = true → TreS B0 B w' g cs' op') ∧ Below B w w' := by
  (obtain ⟨vl, vo, ps, rfl, H⟩ := H); (have hlen : (ps.map (·.1)).length = ps.length := List.length_map _); (have no : ∀ {en : Ending} {w' : World} {ds : List (S40)} {oq : List Int}, en = .returned (.bool false) ∧ Below B w w' → en = .returned (.bool false) ∧ (false = true → TreS B0 B w' g ds oq) ∧ Below B w w' := fun ⟨he, hb⟩ => ⟨he, fun h => (by cases h), hb⟩); (have yes : ∀ {en : Ending} {w' : World} {ds : List (S40)} {oq : List Int}, (en = .returned (.bool true) ∧ (∃ vl' vo' ps', ps'.map (·.1) = ds ∧ Tre B0 B w' g vl' vo' ps' oq) ∧ Below B w w') → en = .returned (.bool true) ∧ (true = true → TreS B0 B w' g ds oq) ∧ Below B w w' := fun ⟨he, hs, hb⟩ => ⟨he, fun _ => hs, hb⟩); (unfold tree_rl.f at h); (by_cases hq : (op.length : Int) = 0)
  · rw [if_pos hq] at h
    by_cases hl : 0 < ps.length
    · rw [if_pos (by rw [hlen]; omega)] at h
      (obtain ⟨rfl, rfl, rfl⟩ := rl_out h); (exact (rl_one k B0 B g w vl vo ps op nm Ax cx px v H hx hB hBw hq hl).mono fun _ _ h => no h)
    · rw [if_neg (by rw [hlen]; omega)] at h
      (have hl0 : ps.length = 0 := by omega); (unfold tree_rl1.f at h); (obtain ⟨t1, h1, h⟩ := Option.bind_eq_some_iff.1 h)
      cases t1 with
      | true =>
        (rw [if_pos rfl] at h); (by_cases hp : 0 < px.length)
        · rw [if_pos (by omega)] at h
          (obtain ⟨rfl, rfl, rfl⟩ := rl_out h); (exact (rl_two_b k B0 B g w vl vo ps op nm Ax cx px v H hx hB hBw hq hl0 h1 hp).mono fun _ _ h => no h)
        · rw [if_neg (by omega)] at h
          by_cases ho : op.length < 17592186044416
          · rw [if_pos ho] at h
            (rw [hlen] at h); (by_cases hs : ps.length < 1000000000)
            · rw [if_pos hs] at h
              (obtain ⟨rfl, rfl, rfl⟩ := rl_out h); (exact (rl_three_b k B0 B g w vl vo ps op nm Ax cx px v H hx hB hBw hq hl0 h1 hp ho hs).mono fun _ _ h => yes h)
            · rw [if_neg hs] at h; cases h
          · rw [if_neg ho] at h; cases h
      | false =>
        (rw [if_neg (by decide), if_pos hq] at h); (obtain ⟨rfl, rfl, rfl⟩ := rl_out h); (exact (rl_four k B0 B g w vl vo ps op nm Ax cx px v H hx hB hBw hq hl0 h1).mono fun _ _ h => no h)
  · rw [if_neg hq] at h
    (unfold tree_rl1.f at h); (obtain ⟨t1, h1, h⟩ := Option.bind_eq_some_iff.1 h)
    cases t1 with
    | true =>
      (rw [if_pos rfl] at h); (by_cases hp : 0 < px.length)
      · rw [if_pos (by omega)] at h
        (obtain ⟨rfl, rfl, rfl⟩ := rl_out h); (exact (rl_two_a k B0 B g w vl vo ps op nm Ax cx px v H hx hB hBw hq h1 hp).mono fun _ _ h => no h)
      · rw [if_neg (by omega)] at h
        by_cases ho : op.length < 17592186044416
        · rw [if_pos ho] at h
          (rw [hlen] at h); (by_cases hs : ps.length < 1000000000)
          · rw [if_pos hs] at h
            (obtain ⟨rfl, rfl, rfl⟩ := rl_out h); (exact (rl_three_a k B0 B g w vl vo ps op nm Ax cx px v H hx hB hBw hq h1 hp ho hs).mono fun _ _ h => yes h)
          · rw [if_neg hs] at h; cases h
        · rw [if_neg ho] at h; cases h
    | false =>
      (rw [if_neg (by decide), if_neg hq] at h); (unfold tree_rl2.f at h); (rw [hlen] at h); (generalize hp4 : rd op ((op.length : Int) - 1) = p4 at h); (by_cases q0 : 0 ≤ p4); (rotate_left)
      · rw [if_neg q0] at h; cases h
      (rw [if_pos q0] at h); (by_cases q1 : p4 < (ps.length : Int)); (rotate_left)
      · rw [if_neg q1] at h; cases h
      (rw [if_pos q1] at h); (rw [← rdC_fst] at h); (obtain ⟨t2, h2, h⟩ := Option.bind_eq_some_iff.1 h)
      cases t2 with
      | true =>
        (rw [if_pos rfl] at h); (by_cases hp : 0 < px.length)
        · rw [if_pos (by omega)] at h
          (obtain ⟨rfl, rfl, rfl⟩ := rl_out h); (exact (rl_six k B0 B g w vl vo ps op nm Ax cx px v H hx hB hBw p4 hp4 hq q0 q1 h1 h2 hp).mono fun _ _ h => no h)
        · rw [if_neg (by omega)] at h
          obtain ⟨t3, h3, h⟩ := Option.bind_eq_some_iff.1 h
          cases t3 with
          | true =>
            (rw [if_pos rfl] at h); (obtain ⟨rfl, rfl, rfl⟩ := rl_out h)
            exact (rl_eight k B0 B g w vl vo ps op nm Ax cx px v H hx hB hBw p4 hp4 hq q0 q1 h1 h2 hp h3).mono fun _ _ h => yes h
          | false =>
            (rw [if_neg (by decide)] at h); (obtain ⟨rfl, rfl, rfl⟩ := rl_out h)
            exact (rl_seven k B0 B g w vl vo ps op nm Ax cx px v H hx hB hBw p4 hp4 hq q0 q1 h1 h2 hp h3).mono fun _ _ h => no h
      | false =>
        (rw [if_neg (by decide)] at h); (by_cases hs : (rdC ps p4).1.f1.length < 1000000000)
        · rw [if_pos hs] at h
          (obtain ⟨rfl, rfl, rfl⟩ := rl_out h); (exact (rl_five k B0 B g w vl vo ps op nm Ax cx px v H hx hB hBw p4 hp4 hq q0 q1 h1 h2 hs).mono fun _ _ h => yes h)
        · rw [if_neg hs] at h; cases h

mutual
def tree_Parse.l0 : Nat → List ByteArray → List (S44) → Int → Option (List (S40) × Int)
 | 0, _, _, _ => none
 | k + 1, x0, x1, x2 => if x2 < (x0.length : Int) then (if 0 ≤ x2 then ((line_Parse.f k (rdOf ByteArray.empty x0 x2)).bind fun t1 => (if t1.2.2.2 = 0 then (if x1.length < 1000000000 then (tree_Parse.l0 k x0 (x1 ++ [(⟨t1.1, t1.2.1, t1.2.2.1⟩ : S44)]) (wrap64 (x2 + 1))) else (none)) else (some (([] : List (S40)), t1.2.2.2)))) else (none)) else (tree_Parse.l1 k x1 ([] : List (S40)) ([] : List Int) 0)
def tree_Parse.l1 : Nat → List (S44) → List (S40) → List Int → Int → Option (List (S40) × Int)
 | 0, _, _, _, _ => none
 | k + 1, x0, x1, x2, x3 => if x3 < (x0.length : Int) then (if 0 ≤ x3 then ((tree_rl.f k x1 x2 (rd_T44 x0 x3).f0 (rd_T44 x0 x3).f1 (rd_T44 x0 x3).f2).bind fun t2 => (if t2.1 = true then (tree_Parse.l1 k x0 t2.2.1 t2.2.2 (wrap64 (x3 + 1))) else (some (([] : List (S40)), 20)))) else (none)) else (if (x2.length : Int) > 0 then (some (([] : List (S40)), 20)) else ((tree_Check.f k x1).bind fun t3 => (if t3 = 0 then (some (x1, 0)) else (some (([] : List (S40)), 20)))))
end
def tree_Parse.f (k : Nat) (a0 : ByteArray) : Option (List (S40) × Int) := (fold_Unfold.f k a0).bind fun t4 => (if t4.2 = 0 then (tree_Parse.l0 k t4.1 ([] : List (S44)) 0) else (some (([] : List (S40)), t4.2)))
theorem tree_Parse.mono_l : ∀ k, (∀ y0 y1 y2, LeO (tree_Parse.l0 k y0 y1 y2) (tree_Parse.l0 (k + 1) y0 y1 y2)) ∧ (∀ y0 y1 y2 y3, LeO (tree_Parse.l1 k y0 y1 y2 y3) (tree_Parse.l1 (k + 1) y0 y1 y2 y3))
  | 0 => ⟨fun _ _ _ r h => by simp [tree_Parse.l0] at h, fun _ _ _ _ r h => by simp [tree_Parse.l1] at h⟩
  | k + 1 => by
    obtain ⟨ih0, ih1⟩ := tree_Parse.mono_l k
    refine ⟨?_, ?_⟩ <;> intros
    all_goals first | unfold tree_Parse.l0 | unfold tree_Parse.l1
    all_goals repeat' first | (with_reducible first | exact ih0 _ _ _ | exact ih1 _ _ _ _ | exact fold_Unfold.mono _ _ | exact line_Parse.mono _ _ | exact tree_rl.mono _ _ _ _ _ _ | exact tree_Check.mono _ _ | exact LeO.refl _ | exact LeO.none _ | refine LeO.ite ?_ ?_ | refine LeO.bind ?_ (fun _ => ?_))
theorem tree_Parse.mono : ∀ a0 k, LeO (tree_Parse.f k a0) (tree_Parse.f (k + 1) a0) := by
  (intro a0 k); (obtain ⟨ih0, ih1⟩ := tree_Parse.mono_l k); (unfold tree_Parse.f)
  repeat' first | (with_reducible first | exact ih0 _ _ _ | exact ih1 _ _ _ _ | exact fold_Unfold.mono _ _ | exact line_Parse.mono _ _ | exact tree_rl.mono _ _ _ _ _ _ | exact tree_Check.mono _ _ | exact LeO.refl _ | exact LeO.none _ | refine LeO.ite ?_ ?_ | refine LeO.bind ?_ (fun _ => ?_))
theorem TreS.below {B0 B g : Nat} {w w1 : World} {cs : List (S40)} {op : List Int} (h : TreS B0 B w g cs op) (hb : Below w.heap.size w w1) : TreS B0 B w1 g cs op := by
  (obtain ⟨vl, vo, ps, e, H⟩ := h); (exact ⟨vl, vo, ps, e, H.below hb⟩)
theorem TreS.new {B0 B g : Nat} {w : World} (hb : w.heap[g]? = some (.cells #[.slice none 0 0, .slice none 0 0] 60 (0, 0))) (hg : B ≤ g) : TreS B0 B w g [] [] :=
  ⟨.slice none 0 0, .slice none 0 0, [], rfl, ⟨hb, hg, Kd.R_nil _ _ _ _ _, fun p hp => (by cases hp), List.Pairwise.nil, Kd.R_nil _ _ _ _ _⟩⟩
set_option maxHeartbeats 16000000 in
set_option maxRecDepth 100000 in
theorem tree_Parse.calls (k : Nat) (a0 : ByteArray) (r1 : List (S40)) (r2 : Int) (w : World) (hG : GP w) (h : tree_Parse.f k a0 = some (r1, r2)) :
  Calls Tryd.prog 11 #[.string a0] w fun e w' => ∃ v0_ : Value, e = .returned (.tuple #[v0_, .int .i64 r2]) ∧ Kd.R k40 40 w' w.heap.size (fun _ => True) v0_ r1 ∧ Below w.heap.size w w' := by
 (have HG := aM hG); (have hu44 := Tryd.underlying44); (unfold tree_Parse.f at h); (obtain ⟨⟨ls, t2⟩, ht, H⟩ := Option.bind_eq_some_iff.1 h); (replace H : (if t2 = 0 then (tree_Parse.l0 k ls ([] : List (S44)) 0) else (some (([] : List (S40)), t2))) = some (r1, r2) := H); (have HT := aM ht); clear h hG ht; (by_cases c1 : t2 = 0); (rotate_left)
 · rw [if_neg c1] at H
   (obtain ⟨rfl, rfl⟩ := Prod.mk.inj (Option.some.inj H)); (have c1b0 : (t2 == 0) = false := beq_eq_false_iff_ne.mpr c1); (have c1b1 : (t2 != 0) = true := bne_iff_ne.mpr c1); clear c1 H; (go_enter Tryd.func11, Tryd.ntmps11); (go_wp2_with (go_at_call 25; (with_reducible refine (fold_Unfold.calls k a0 ls _ w HG.out HT.out).mono ?_); rintro e w1 ⟨vl, rfl, hR, hb⟩; obtain ⟨A4, c4, e4⟩ := Kd.R_slice hR; subst e4; have HLS := aM hR; have HB1 := aM hb; have HG1 := aM (GP_below HG.out hb); clear hR hb)); (go_ret2); (exact ⟨_, rfl, Kd.R_nil _ _ _ _ _, HB1.out⟩)
 · subst c1
   (rw [if_pos rfl] at H); (have HH := aM H); clear H; (go_enter Tryd.func11, Tryd.ntmps11); (go_wp2_with (go_at_call 25; (with_reducible refine (fold_Unfold.calls k a0 ls _ w HG.out HT.out).mono ?_); rintro e w1 ⟨vl, rfl, hR, hb⟩; obtain ⟨A4, c4, e4⟩ := Kd.R_slice hR; subst e4; have HLS := aM hR; have HB1 := aM hb; have HG1 := aM (GP_below HG.out hb); clear hR hb)); (go_loopg [6, 24] k (fun kq v6 v24 w' => ∃ (x1 : List (S44)) (x2 : Int), v24 = .int .i64 x2 ∧ Aside0 (tree_Parse.l0 kq ls x1 x2 = some (r1, r2)) ∧ Aside0 (kq ≤ k) ∧ Aside0 (Kd.R k44 44 w' w1.heap.size (fun _ => True) v6 x1) ∧ Aside0 (Below w1.heap.size w1 w')))
   case atStart => exact ⟨[], 0, by rfl, HH, ⟨Nat.le_refl _⟩, ⟨Kd.R_nil _ _ _ _ _⟩, ⟨Below.refl _ _⟩⟩
   case round =>
     as_aux_lemma =>
      (obtain ⟨x1, x2, rfl, HA, HK, HL, HB⟩ := hrel); clear HH; (obtain ⟨A6, c6, e6⟩ := Kd.R_slice HL.out); subst e6
      cases gk with
      | zero => exact absurd HA.out (by simp [tree_Parse.l0])
      | succ k1 =>
       (have H := HA.out); clear HA; (simp only [tree_Parse.l0] at H); (by_cases c2 : x2 < (ls.length : Int))
       · rw [if_pos c2] at H
         (by_cases c3 : 0 ≤ x2); (rotate_left)
         · rw [if_neg c3] at H; cases H
         (rw [if_pos c3] at H); (replace H := Option.bind_eq_some_iff.1 H); (obtain ⟨⟨q1, q2, q3, q4⟩, hq, H⟩ := H); (replace H : (if q4 = 0 then (if x1.length < 1000000000 then (tree_Parse.l0 k1 ls (x1 ++ [(⟨q1, q2, q3⟩ : S44)]) (wrap64 (x2 + 1))) else (none)) else (some (([] : List (S40)), q4))) = some (r1, r2) := H); (have HT2 := aM hq); (have HG2 := aM (GP_below HG1.out HB.out)); (have c2b0 : decide (x2 < (ls.length : Int)) = true := dE c2); (obtain ⟨ad, ea, hx0⟩ := Kd.at_string (Kd.R_reads' HLS.out).2.2 x2 c3 c2)
         cases ea
         (replace hx0 := (HB.out.cell (World.block_lt_of_cell? w1 _ hx0)).trans hx0); (have pd := eq_true c3); (have pe := eq_true c2); clear c2 c3 hq; (by_cases c4 : q4 = 0); (rotate_left)
         · rw [if_neg c4] at H
           (obtain ⟨rfl, rfl⟩ := Prod.mk.inj (Option.some.inj H)); (have c4b0 : (q4 == 0) = false := beq_eq_false_iff_ne.mpr c4); (have c4b1 : (q4 != 0) = true := bne_iff_ne.mpr c4); clear c4 H; (go_wp2_with (first | (go_at_call 26; (with_reducible refine (line_Parse.calls k1 _ q1 q2 q3 _ _ HG2.out HT2.out).mono ?_); rintro e w3 ⟨v1, rfl, hS, hb⟩; obtain ⟨Ax, cx, ex⟩ := Kd.S_slice hS; subst ex; have HX3 := aM (Kd.R_lower (Kd.S_R hS) HB.out.size); have HL3 := aM (Kd.R_below HL.out hb); have HB3 := aM (below_step HB.out hb); clear hS hb hx0) | ((with_reducible refine gate_dst (N := 9) rfl ?_); refine box_event ?hg (N := 9) ?hd (cs := #[.string (⟨#[]⟩ : ByteArray), .slice none 0 0, .string (⟨#[]⟩ : ByteArray)]) (t := 44) ?hr ?_; (case hd => rfl); (case hg => rfl); (case hr => first | (go_simp; done) | (go_simp; rfl)); intro gb hg w5 hbox hb; have HB5 : Aside0 (Below w3.heap.size w3 w5) := ⟨below_step (by repeat (first | exact Below.refl _ _ | apply lN | apply lW)) hb⟩; have GE5 : Aside0 (w3.heap.size ≤ gb) := ⟨by rw [hg]; exact (below_size (by repeat (first | exact Below.refl _ _ | apply lN | apply lW)))⟩; have BK5 := aM hbox; clear hb hbox hg; have z0 : w5.cell? ⟨gb, 0, none⟩ = some (.string (⟨#[]⟩ : ByteArray)) := (qC BK5.out 0).trans rfl; have z1 : w5.cell? ⟨gb, 1, none⟩ = some (.slice none 0 0) := (qC BK5.out 1).trans rfl; have z2 : w5.cell? ⟨gb, 2, none⟩ = some (.string (⟨#[]⟩ : ByteArray)) := (qC BK5.out 2).trans rfl; have f0 := qF BK5.out 0; have f1 := qF BK5.out 1; have f2 := qF BK5.out 2))); (go_ret2); (exact ⟨_, rfl, Kd.R_nil _ _ _ _ _, below_step HB1.out (below_step HB3.out (by repeat (first | (with_reducible exact HB5.out) | refine lS ?_ GE5.out | apply lN | apply lW)))⟩)
         · subst c4
           (rw [if_pos rfl] at H); (by_cases c5 : x1.length < 1000000000); (rotate_left)
           · rw [if_neg c5] at H; cases H
           (rw [if_pos c5] at H); (have HH := aM H); (have HN := aM c5); clear c5 H; (go_wp2_with (first | (go_at_call 26; (with_reducible refine (line_Parse.calls k1 _ q1 q2 q3 _ _ HG2.out HT2.out).mono ?_); rintro e w3 ⟨v1, rfl, hS, hb⟩; obtain ⟨Ax, cx, ex⟩ := Kd.S_slice hS; subst ex; have HX3 := aM (Kd.R_lower (Kd.S_R hS) HB.out.size); have HL3 := aM (Kd.R_below HL.out hb); have HB3 := aM (below_step HB.out hb); clear hS hb hx0) | ((with_reducible refine gate_dst (N := 9) rfl ?_); refine box_event ?hg (N := 9) ?hd (cs := #[.string (⟨#[]⟩ : ByteArray), .slice none 0 0, .string (⟨#[]⟩ : ByteArray)]) (t := 44) ?hr ?_; (case hd => rfl); (case hg => rfl); (case hr => first | (go_simp; done) | (go_simp; rfl)); intro gb hg w5 hbox hb; have HB5 : Aside0 (Below w3.heap.size w3 w5) := ⟨below_step (by repeat (first | exact Below.refl _ _ | apply lN | apply lW)) hb⟩; have GE5 : Aside0 (w3.heap.size ≤ gb) := ⟨by rw [hg]; exact (below_size (by repeat (first | exact Below.refl _ _ | apply lN | apply lW)))⟩; have BK5 := aM hbox; clear hb hbox hg; have z0 : w5.cell? ⟨gb, 0, none⟩ = some (.string (⟨#[]⟩ : ByteArray)) := (qC BK5.out 0).trans rfl; have z1 : w5.cell? ⟨gb, 1, none⟩ = some (.slice none 0 0) := (qC BK5.out 1).trans rfl; have z2 : w5.cell? ⟨gb, 2, none⟩ = some (.string (⟨#[]⟩ : ByteArray)) := (qC BK5.out 2).trans rfl; have f0 := qF BK5.out 0; have f1 := qF BK5.out 1; have f2 := qF BK5.out 2) | (at_builtin; refine Kd.R_append k44 (w0 := w1) w1.heap.size rfl (.tmp 36) (.tmp 38) 38 44 (.agg #[.string ByteArray.empty, .slice none 0 0, .string ByteArray.empty]) 56 rfl Tryd.underlying38 tr_info44 rfl (by decide) (by omega) (.slice A6 x1.length c6) x1 (⟨q1, q2, q3⟩ : S44) [.string q1, .slice Ax q2.length cx, .string q3] (fun _ => True) (fun k => True ∧ some k ≠ (Value.slice A6 x1.length c6).ownBlock) rfl (by first | rfl | (show Value.slice _ _ _ = _; simp)) (k44_mkM _ _ _ ⟨q1, q2, q3⟩ (Kd.R_apartR (Kd.R_below HX3.out (by repeat (first | (with_reducible exact HB5.out) | refine lS ?_ GE5.out | apply lN | apply lW))) (Kd.R_below HL3.out (by repeat (first | (with_reducible exact HB5.out) | refine lS ?_ GE5.out | apply lN | apply lW))) (by decide))) (fun _ hk => hk) (fun _ _ => trivial) (Kd.R_below HL3.out (by repeat (first | (with_reducible exact HB5.out) | refine lS ?_ GE5.out | apply lN | apply lW))) (below_step HB3.out (by repeat (first | (with_reducible exact HB5.out) | refine lS ?_ GE5.out | apply lN | apply lW))) (below_step HB3.out (by repeat (first | (with_reducible exact HB5.out) | refine lS ?_ GE5.out | apply lN | apply lW))).size (by have := HN.out; omega) ?_; intro v7 w7 ho hb hg hat; have HL7 := aM ho; have HB7 := aM hb; clear ho hb hg hat))); (go_roundg k1)
           case measure => have := HK.out; omega
           case rel => exact ⟨x1 ++ [(⟨q1, q2, q3⟩ : S44)], _, by rfl, HH, ⟨by have := HK.out; omega⟩, HL7, HB7⟩
       · rw [if_neg c2] at H
         (have c2b0 : decide (x2 < (ls.length : Int)) = false := decide_eq_false c2); (have HH := aM H); clear c2 H; (obtain ⟨W4, hW4⟩ : ∃ z, z = wr := ⟨_, rfl⟩); subst hW4; (go_wp2_with ((with_reducible refine gate_dst (N := 42) rfl ?_); refine box_event ?hg (N := 42) ?hd (cs := #[.slice none 0 0, .slice none 0 0]) (t := 60) ?hr ?_; (case hd => rfl); (case hg => rfl); (case hr => first | (go_simp; done) | (go_simp; rfl)); intro g hg w8 hbox hb; have HB8 : Aside0 (Below W4.heap.size W4 w8) := ⟨below_step (by repeat (first | exact Below.refl _ _ | apply lN | apply lW)) hb⟩; have HS8 : Aside0 (TreS w1.heap.size W4.heap.size w8 g [] []) := ⟨TreS.new hbox (by rw [hg]; exact (below_size (by repeat (first | exact Below.refl _ _ | apply lN | apply lW))))⟩; clear hb hbox hg)); (go_loopg [45] k1 (fun kq v45 w' => ∃ (y1 : List (S40)) (y2 : List Int) (x3 : Int), v45 = .int .i64 x3 ∧ Aside0 (tree_Parse.l1 kq x1 y1 y2 x3 = some (r1, r2)) ∧ Aside0 (kq ≤ k1) ∧ Aside0 (TreS w1.heap.size W4.heap.size w' g y1 y2) ∧ Aside0 (Below W4.heap.size W4 w')))
         case atStart => exact ⟨[], [], 0, by rfl, HH, ⟨Nat.le_refl _⟩, HS8, HB8⟩
         case round =>
          clear HH HS8 HB8; (obtain ⟨y1, y2, x3, rfl, HA, HJ, HS, HB8⟩ := hrel)
          cases gk with
          | zero => exact absurd HA.out (by simp [tree_Parse.l1])
          | succ k2 =>
           (have H := HA.out); clear HA; (simp only [tree_Parse.l1] at H); (by_cases c2 : x3 < (x1.length : Int))
           · rw [if_pos c2] at H
             (by_cases c3 : 0 ≤ x3); (rotate_left)
             · rw [if_neg c3] at H; cases H
             (rw [if_pos c3] at H); (replace H := Option.bind_eq_some_iff.1 H); (obtain ⟨⟨b, cs', op'⟩, hq, H⟩ := H); (replace H : (if b = true then (tree_Parse.l1 k2 x1 cs' op' (wrap64 (x3 + 1))) else (some (([] : List (S40)), 20))) = some (r1, r2) := H); (have HT3 := aM hq); (obtain ⟨gl, cl, el, _, _, _⟩ := Kd.R_form HL.out (by omega))
             cases el
             (obtain ⟨c, hc, hM, hcell, hf⟩ := Kd.R_elem HL.out z44 x3 c3 c2); (obtain ⟨v1, rfl, hX⟩ := k44_openM hM); (obtain ⟨Ax, cx, ex⟩ := Kd.R_slice hX); subst ex; (have hx0 : W4.cell? ⟨gl, x3.toNat * 3, none⟩ = some (.string (rd_T44 x1 x3).f0) := hcell 0 _ rfl); (have hx1 : W4.cell? ⟨gl, x3.toNat * 3 + 1, none⟩ = some (.slice Ax (rd_T44 x1 x3).f1.length cx) := hcell 1 _ rfl); (have hx2 : W4.cell? ⟨gl, x3.toNat * 3 + 2, none⟩ = some (.string (rd_T44 x1 x3).f2) := hcell 2 _ rfl); (replace hx0 := (HB8.out.cell (World.block_lt_of_cell? W4 _ hx0)).trans hx0); (replace hx1 := (HB8.out.cell (World.block_lt_of_cell? W4 _ hx1)).trans hx1); (replace hx2 := (HB8.out.cell (World.block_lt_of_cell? W4 _ hx2)).trans hx2); (have HX : Aside0 (Kd.R k70 70 W4 w1.heap.size (fun _ => True) (.slice Ax (rd_T44 x1 x3).f1.length cx) (rd_T44 x1 x3).f1) := ⟨Kd.R_mono hX (fun _ _ => trivial)⟩); (have c2b0 : decide (x3 < (x1.length : Int)) = true := dE c2); (have pd := eq_true c3); (have pe := eq_true c2); clear c2 c3 hq hc hM hcell hf hX
             cases b with
             | false =>
               (rw [if_neg (by decide)] at H); (obtain ⟨rfl, rfl⟩ := Prod.mk.inj (Option.some.inj H)); clear H; (go_wp2_with (first | ((with_reducible refine gate_dst (N := 13) rfl ?_); refine box_event ?hg (N := 13) ?hd (cs := #[.string (⟨#[]⟩ : ByteArray), .slice none 0 0, .string (⟨#[]⟩ : ByteArray)]) (t := 44) ?hr ?_; (case hd => rfl); (case hg => rfl); (case hr => first | (go_simp; done) | (go_simp; rfl)); intro gb hg w9 hbox hb; have HB9 : Aside0 (Below wr.heap.size wr w9) := ⟨below_step (by repeat (first | exact Below.refl _ _ | apply lN | apply lW)) hb⟩; have GE9 : Aside0 (wr.heap.size ≤ gb) := ⟨by rw [hg]; exact (below_size (by repeat (first | exact Below.refl _ _ | apply lN | apply lW)))⟩; have BK9 := aM hbox; clear hb hbox hg; have z0 : w9.cell? ⟨gb, 0, none⟩ = some (.string (⟨#[]⟩ : ByteArray)) := (qC BK9.out 0).trans rfl; have z1 : w9.cell? ⟨gb, 1, none⟩ = some (.slice none 0 0) := (qC BK9.out 1).trans rfl; have z2 : w9.cell? ⟨gb, 2, none⟩ = some (.string (⟨#[]⟩ : ByteArray)) := (qC BK9.out 2).trans rfl; have f0 := qF BK9.out 0; have f1 := qF BK9.out 1; have f2 := qF BK9.out 2) | (go_at_call 27; (with_reducible refine (tree_rl.calls k2 w1.heap.size W4.heap.size g _ y1 cs' y2 op' _ _ Ax cx _ _ (HS.out.below (by repeat (first | (with_reducible exact HB9.out) | refine lS ?_ GE9.out | apply lN | apply lW))) (Kd.R_below HX.out (below_step HB8.out (by repeat (first | (with_reducible exact HB9.out) | refine lS ?_ GE9.out | apply lN | apply lW)))) HB.out.size (below_step HB8.out (by repeat (first | (with_reducible exact HB9.out) | refine lS ?_ GE9.out | apply lN | apply lW))).size HT3.out).mono ?_); rintro e w10 ⟨rfl, hs, hb⟩; have HB10 : Aside0 (Below W4.heap.size W4 w10) := ⟨(below_step HB8.out (by repeat (first | (with_reducible exact HB9.out) | refine lS ?_ GE9.out | apply lN | apply lW))).trans hb⟩; have HS10 := aM hs; clear hs hb))); (go_ret2)
               exact ⟨_, rfl, Kd.R_nil _ _ _ _ _, below_step HB1.out (below_step HB.out HB10.out)⟩
             | true =>
               (rw [if_pos rfl] at H); (have HH := aM H); clear H; (go_wp2_with (first | ((with_reducible refine gate_dst (N := 13) rfl ?_); refine box_event ?hg (N := 13) ?hd (cs := #[.string (⟨#[]⟩ : ByteArray), .slice none 0 0, .string (⟨#[]⟩ : ByteArray)]) (t := 44) ?hr ?_; (case hd => rfl); (case hg => rfl); (case hr => first | (go_simp; done) | (go_simp; rfl)); intro gb hg w9 hbox hb; have HB9 : Aside0 (Below wr.heap.size wr w9) := ⟨below_step (by repeat (first | exact Below.refl _ _ | apply lN | apply lW)) hb⟩; have GE9 : Aside0 (wr.heap.size ≤ gb) := ⟨by rw [hg]; exact (below_size (by repeat (first | exact Below.refl _ _ | apply lN | apply lW)))⟩; have BK9 := aM hbox; clear hb hbox hg; have z0 : w9.cell? ⟨gb, 0, none⟩ = some (.string (⟨#[]⟩ : ByteArray)) := (qC BK9.out 0).trans rfl; have z1 : w9.cell? ⟨gb, 1, none⟩ = some (.slice none 0 0) := (qC BK9.out 1).trans rfl; have z2 : w9.cell? ⟨gb, 2, none⟩ = some (.string (⟨#[]⟩ : ByteArray)) := (qC BK9.out 2).trans rfl; have f0 := qF BK9.out 0; have f1 := qF BK9.out 1; have f2 := qF BK9.out 2) | (go_at_call 27; (with_reducible refine (tree_rl.calls k2 w1.heap.size W4.heap.size g _ y1 cs' y2 op' _ _ Ax cx _ _ (HS.out.below (by repeat (first | (with_reducible exact HB9.out) | refine lS ?_ GE9.out | apply lN | apply lW))) (Kd.R_below HX.out (below_step HB8.out (by repeat (first | (with_reducible exact HB9.out) | refine lS ?_ GE9.out | apply lN | apply lW)))) HB.out.size (below_step HB8.out (by repeat (first | (with_reducible exact HB9.out) | refine lS ?_ GE9.out | apply lN | apply lW))).size HT3.out).mono ?_); rintro e w10 ⟨rfl, hs, hb⟩; have HB10 : Aside0 (Below W4.heap.size W4 w10) := ⟨(below_step HB8.out (by repeat (first | (with_reducible exact HB9.out) | refine lS ?_ GE9.out | apply lN | apply lW))).trans hb⟩; have HS10 := aM hs; clear hs hb))); (go_roundg k2)
               case measure => have := HJ.out; omega
               case rel => exact ⟨cs', op', _, by rfl, HH, ⟨by have := HJ.out; omega⟩, ⟨by first | exact HS10.out rfl | exact HS10.out trivial⟩, HB10⟩
           · rw [if_neg c2] at H
             (have c2b0 : decide (x3 < (x1.length : Int)) = false := decide_eq_false c2); clear c2; (obtain ⟨vl, vo, ps, eps, HR⟩ := HS.out); (obtain ⟨Ao, co, eo⟩ := Kd.R_slice HR.o); subst eo; (have HW := aM (HR.row HB.out.size)); (rw [eps] at HW); (obtain ⟨Al, cl, el⟩ := Kd.R_slice HW.out); subst el; (have g0 : wr.cell? ⟨g, 0, none⟩ = some (.slice Al y1.length cl) := (qC HR.b 0).trans rfl); (have g1 : wr.cell? ⟨g, 1, none⟩ = some (.slice Ao y2.length co) := (qC HR.b 1).trans rfl); clear HR eps HS; (by_cases c4 : (y2.length : Int) > 0)
             · rw [if_pos c4] at H
               (obtain ⟨rfl, rfl⟩ := Prod.mk.inj (Option.some.inj H)); (have c4b0 : decide (0 < (y2.length : Int)) = true := dE c4); (have c4b1 : decide (0 < y2.length) = true := dE (by omega)); clear c4 H; (go_wp2); (go_ret2); (exact ⟨_, rfl, Kd.R_nil _ _ _ _ _, below_step HB1.out (below_step HB.out (by repeat (first | (with_reducible exact HB8.out) | apply lN | apply lW)))⟩)
             · rw [if_neg c4] at H
               (have c4b0 : decide (0 < (y2.length : Int)) = false := decide_eq_false c4); (have c4b1 : decide (0 < y2.length) = false := decide_eq_false (by omega)); clear c4; (replace H := Option.bind_eq_some_iff.1 H); (obtain ⟨t3, ht3, H⟩ := H); (have HT3 := aM ht3); clear ht3; (by_cases c5 : t3 = 0)
               · subst c5
                 (rw [if_pos rfl] at H); (obtain ⟨rfl, rfl⟩ := Prod.mk.inj (Option.some.inj H)); clear H; (go_wp2_with (first | (go_at_call 18; (with_reducible refine (tree_Check.calls k2 Al cl y1 _ _ (Kd.R_reads' HW.out).2.2 (Kd.R_reads' HW.out).2.1 HT3.out).mono ?_); rintro e w11 ⟨rfl, hb⟩; have HB11 : Aside0 (Below wr.heap.size wr w11) := ⟨hb⟩; replace g0 := (hb.cell (World.block_lt_of_cell? wr _ g0)).trans g0; clear hb g1))); (go_ret2); (exact ⟨_, rfl, Kd.R_lower (Kd.R_below HW.out (by repeat (first | (with_reducible exact HB11.out) | apply lN | apply lW))) HB1.out.size, below_step HB1.out (below_step HB.out (below_step HB8.out (by repeat (first | (with_reducible exact HB11.out) | apply lN | apply lW))))⟩)
               · rw [if_neg c5] at H
                 (obtain ⟨rfl, rfl⟩ := Prod.mk.inj (Option.some.inj H)); (have c5b0 : (t3 == 0) = false := beq_eq_false_iff_ne.mpr c5); (have c5b1 : (t3 != 0) = true := bne_iff_ne.mpr c5); clear c5 H; (go_wp2_with (first | (go_at_call 18; (with_reducible refine (tree_Check.calls k2 Al cl y1 _ _ (Kd.R_reads' HW.out).2.2 (Kd.R_reads' HW.out).2.1 HT3.out).mono ?_); rintro e w11 ⟨rfl, hb⟩; have HB11 : Aside0 (Below wr.heap.size wr w11) := ⟨hb⟩; replace g0 := (hb.cell (World.block_lt_of_cell? wr _ g0)).trans g0; clear hb g1))); (go_ret2); (exact ⟨_, rfl, Kd.R_nil _ _ _ _ _, below_step HB1.out (below_step HB.out (below_step HB8.out (by repeat (first | (with_reducible exact HB11.out) | apply lN | apply lW))))⟩)

end Go.Proofs.YtdgeokpbedllaaaDoor.PTre
