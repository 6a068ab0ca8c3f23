-- A text of the kit's tools for this claim, its remarks left out.
import Derived.Test.YtdgeokpbedllaaaDoorTreQ
namespace Go.Proofs.YtdgeokpbedllaaaDoor.TreK
open Go.RowKit Go.Proofs.YtdgeokpbedllaaaDoor.PTre Go.Proofs.YtdgeokpbedllaaaDoorW.PrintWords Go.Proofs.YtdgeokpbedllaaaDoorW.PrintLast Go.Proofs.YtdgeokpbedllaaaDoorW.PrintMore Go.Proofs.YtdgeokpbedllaaaDoor.Base
set_option linter.unusedVariables false
set_option linter.unusedSimpArgs false
set_option linter.unusedSectionVars false
def sumL : List (List Int) → Nat
 | [] => 0
 | x :: t => (x.length + 1) + sumL t
theorem sumL_spl (c : Int) : ∀ l : List Int, sumL (spl c l) = l.length + 1
 | [] => rfl
 | x :: l => by
  have ih := sumL_spl c l
  rw [spl]
  split
  ·rw [sumL, ih, List.length_nil, List.length_cons]; omega
  ·cases h : spl c l with
   | nil => exact absurd h (spl_ne c l)
   | cons y ys =>
    rw [h, sumL] at ih
    dsimp only
    rw [sumL, List.length_cons, List.length_cons]
    omega
theorem sumL_drop : ∀ l : List (List Int), sumL l.dropLast ≤ sumL l
 | [] => Nat.le_refl _
 | [x] => by simp [sumL]
 | x :: y :: t => by
  have := sumL_drop (y :: t)
  rw [List.dropLast_cons_cons, sumL, sumL]
  omega
theorem ub_len : ∀ (n : Nat) (l : List Int), l.length ≤ n → (ub l).length ≤ l.length
 | _, [], _ => Nat.le_refl _
 | _, [c], _ => Nat.le_refl _
 | 0, c :: d :: t, h => by simp at h
 | n + 1, c :: d :: t, h => by
  rw [List.length_cons, List.length_cons] at h
  rw [ub]
  split
  ·have := ub_len n t (by omega)
   rw [List.length_cons, List.length_cons]; omega
  ·have := ub_len n (d :: t) (by rw [List.length_cons]; omega)
   rw [List.length_cons, List.length_cons (a := c)]; omega
theorem unf_sum {t : List Int} {ls : List (List Int)} (h : unfS t = some ls) (hb : Bytes t) : sumL ls ≤ t.length + 1 ∧ ∀ l ∈ ls, Bytes l := by
 unfold unfS at h
 split at h
 ·simp only [Option.some.injEq] at h
  subst h
  have h1 := sumL_spl 10 (ub (rp t))
  have h2 := ub_len _ (rp t) (Nat.le_refl _)
  have h3 := rp_le t
  have h4 : ∀ l ∈ spl 10 (ub (rp t)), Bytes l := spl_bytes (ub_bytes _ (Nat.le_refl _) (rp_bytes hb))
  unfold dropE
  split
  ·have := sumL_drop (spl 10 (ub (rp t)))
   exact ⟨by omega, fun l hl => h4 l (List.dropLast_subset _ hl)⟩
  ·exact ⟨by omega, h4⟩
 ·cases h
theorem sumL_len : ∀ ls : List (List Int), ls.length ≤ sumL ls
 | [] => Nat.le_refl _
 | x :: t => by have := sumL_len t; rw [List.length_cons, sumL]; omega
theorem sumL_mem {l : List Int} : ∀ {ls : List (List Int)}, l ∈ ls → l.length ≤ sumL ls
 | y :: t, h => by
  rw [sumL]
  rcases List.mem_cons.1 h with rfl | h
  ·omega
  ·have := sumL_mem h; omega
def wt (x : S44) : Nat := x.f0.size + psum x.f1 + 1 + x.f2.size
def wts : List S44 → Nat
 | [] => 0
 | x :: t => wt x + wts t
theorem lin_sum : ∀ (ls : List (List Int)) (E : List S44), linS ls = some E → wts E ≤ 3 * sumL ls ∧ E.length ≤ sumL ls ∧ ∀ x ∈ E, lnS x.f0 x.f1 x.f2 = true
 | [], E, h => by
  simp only [linS, Option.some.injEq] at h
  subst h
  exact ⟨Nat.zero_le _, Nat.zero_le _, fun x hx => by cases hx⟩
 | l :: t, E, h => by
  rw [linS] at h
  cases hp : prsS l with
  | none => rw [hp] at h; cases h
  | some q =>
   obtain ⟨n, ps, v⟩ := q
   rw [hp] at h
   dsimp only at h
   cases hl : linS t with
   | none => rw [hl] at h; cases h
   | some r =>
    rw [hl] at h
    simp only [Option.map_some, Option.some.injEq] at h
    subst h
    obtain ⟨h1, h2, h3⟩ := lin_sum t r hl
    obtain ⟨h4, h5⟩ := prs_sum hp
    refine ⟨?_, ?_, ?_⟩
    ·rw [wts, sumL]
     show n.size + psum ps + 1 + v.size + wts r ≤ _
     omega
    ·rw [List.length_cons, sumL]
     omega
    ·intro x hx
     rcases List.mem_cons.1 hx with rfl | hx
     ·exact h4
     ·exact h3 x hx
theorem wts_mem {x : S44} : ∀ {E : List S44}, x ∈ E → wt x ≤ wts E
 | y :: t, h => by
  rw [wts]
  rcases List.mem_cons.1 h with rfl | h
  ·omega
  ·have := wts_mem h; omega
def cost : List S44 → Nat
 | [] => 0
 | x :: t => (4 * wt x + 3) + cost t
theorem cost_app : ∀ a b : List S44, cost (a ++ b) = cost a + cost b
 | [], b => by simp [cost]
 | x :: t, b => by rw [List.cons_append, cost, cost, cost_app t b]; omega
theorem cost_mem {x : S44} : ∀ {E : List S44}, x ∈ E → 4 * wt x + 3 ≤ cost E
 | y :: t, h => by
  rw [cost]
  rcases List.mem_cons.1 h with rfl | h
  ·omega
  ·have := cost_mem h; omega
theorem cost_len : ∀ E : List S44, E.length ≤ cost E
 | [] => Nat.le_refl _
 | x :: t => by have := cost_len t; rw [List.length_cons, cost]; omega
theorem foX_wt (x : S44) : (foX x).length ≤ 4 * wt x + 2 := by
 have h1 := txt_psum x.f0 x.f1 x.f2
 unfold foX
 split
 ·have := foldL_len ((txX x).length + 1) (txX x) 75 (by omega)
  have h2 : (txX x).length ≤ wt x := h1
  omega
 ·simp
theorem cost_lenS : ∀ E : List S44, lenS E ≤ cost E
 | [] => Nat.le_refl _
 | x :: t => by
  have h1 := foX_wt x
  have h2 := cost_lenS t
  rw [lenS, cost]
  omega
def costC (c : S40) : Nat := 8 * c.f0.size + 46 + cost c.f1
def costT : List S40 → Nat
 | [] => 0
 | c :: t => costC c + costT t
theorem costT_app : ∀ a b : List S40, costT (a ++ b) = costT a + costT b
 | [], b => by simp [costT]
 | x :: t, b => by rw [List.cons_append, costT, costT, costT_app t b]; omega
theorem costT_set {c : S40} : ∀ {R : List S40} {a : Nat}, a < R.length → costT (R.set a c) + costC (rd_T40 R (a : Int)) = costT R + costC c
 | y :: t, 0, h => by
  show costC c + costT t + costC y = costC y + costT t + costC c
  omega
 | y :: t, a + 1, h => by
  have h1 := costT_set (R := t) (a := a) (c := c) (by rw [List.length_cons] at h; omega)
  have e : rd_T40 (y :: t) ((a + 1 : Nat) : Int) = rd_T40 t (a : Int) := by
   unfold rd_T40
   rw [Int.toNat_natCast, Int.toNat_natCast]
   rfl
  rw [e]
  show costC y + costT (t.set a c) + _ = costC y + costT t + _
  omega
theorem costT_mem {c : S40} : ∀ {R : List S40}, c ∈ R → costC c ≤ costT R
 | y :: t, h => by
  rw [costT]
  rcases List.mem_cons.1 h with rfl | h
  ·omega
  ·have := costT_mem h; omega
theorem costT_len : ∀ R : List S40, 46 * R.length ≤ costT R
 | [] => Nat.le_refl _
 | c :: t => by
  have := costT_len t
  rw [List.length_cons, costT]
  unfold costC
  omega
theorem rl_cost {R R' : List S40} {op op' : List Nat} {x : S44} (hlt : ∀ a ∈ op, a < R.length) (h : rlS R op x = some (R', op')) : costT R' ≤ costT R + (8 * wt x + 46) := by
 have push : costT (R ++ [⟨x.f2, [], 0⟩]) ≤ costT R + (8 * wt x + 46) := by
  rw [costT_app]
  show costT R + (8 * x.f2.size + 46 + 0 + 0) ≤ _
  unfold wt
  omega
 unfold rlS at h
 cases op with
 | nil =>
  dsimp only at h
  split at h
  ·simp only [Option.some.injEq, Prod.mk.injEq] at h
   rw [← h.1]
   exact push
  ·cases h
 | cons a s =>
  have ha := hlt a (List.mem_cons_self ..)
  dsimp only at h
  split at h
  ·split at h
   ·simp only [Option.some.injEq, Prod.mk.injEq] at h
    rw [← h.1]
    exact push
   ·cases h
  ·split at h
   ·split at h
    ·simp only [Option.some.injEq, Prod.mk.injEq] at h
     rw [← h.1]
     have h1 := costT_set (R := R) (a := a) (c := ⟨nm R a, lns R a, (R.length : Int) - 1 - a⟩) ha
     have h2 : costC ⟨nm R a, lns R a, (R.length : Int) - 1 - a⟩ = costC (rd_T40 R (a : Int)) := rfl
     omega
    ·cases h
   ·simp only [Option.some.injEq, Prod.mk.injEq] at h
    rw [← h.1]
    have h1 := costT_set (R := R) (a := a) (c := ⟨nm R a, lns R a ++ [x], ow R a⟩) ha
    have h2 : costC ⟨nm R a, lns R a ++ [x], ow R a⟩ = costC (rd_T40 R (a : Int)) + (4 * wt x + 3) := by
     unfold costC
     show 8 * (nm R a).size + 46 + cost (lns R a ++ [x]) = 8 * (nm R a).size + 46 + cost (lns R a) + (4 * wt x + 3)
     rw [cost_app]
     show _ + (cost (lns R a) + (4 * wt x + 3 + 0)) = _
     omega
    omega
theorem run_inv : ∀ (E : List S44) (k : Nat) (R R' : List S40) (op op' : List Nat), Inv k R op → (∀ x ∈ E, FitL x) → runS E (R, op) = some (R', op') → Inv (k + E.length) R' op' ∧ costT R' ≤ costT R + (8 * wts E + 46 * E.length)
 | [], k, R, R', op, op', h, _, hr => by
  simp only [runS, Option.some.injEq, Prod.mk.injEq] at hr
  obtain ⟨rfl, rfl⟩ := hr
  exact ⟨h, Nat.le_add_right _ _⟩
 | x :: t, k, R, R', op, op', h, hf, hr => by
  rw [runS] at hr
  cases h1 : rlS R op x with
  | none => rw [h1] at hr; cases hr
  | some q =>
   obtain ⟨R1, op1⟩ := q
   rw [h1] at hr
   have h2 := rlS_inv h (hf x (List.mem_cons_self ..)) h1
   have h3 := rl_cost h.lt h1
   obtain ⟨h4, h5⟩ := run_inv t (k + 1) R1 R' op1 op' h2 (fun y hy => hf y (List.mem_cons_of_mem _ hy)) hr
   refine ⟨?_, ?_⟩
   ·rw [List.length_cons, show k + (t.length + 1) = k + 1 + t.length by omega]
    exact h4
   ·rw [wts, List.length_cons]
    omega
def endc (l : List S40) (a : Nat) : Nat := 4 * (nm l a).size + 19
def ends_ (l : List S40) : List Nat → Nat
 | [] => 0
 | a :: s => endc l a + ends_ l s
theorem shE_cost (l : List S40) (i : Nat) : ∀ op : List Nat, cost (shE l op i) + ends_ l (shO l op i) = ends_ l op
 | [] => rfl
 | a :: s => by
  have ih := shE_cost l i s
  rw [shE, shO]
  split
  ·rw [cost, ends_, ← ih]
   have : wt (endL (nm l a)) = 3 + 0 + 1 + (nm l a).size := rfl
   unfold endc
   omega
  ·rw [cost]
   omega
theorem drop_cost {l : List S40} {i : Nat} (h : i < l.length) : costT (l.drop i) = costC (rd_T40 l (i : Int)) + costT (l.drop (i + 1)) := by
 have e : rd_T40 l (i : Int) = l[i] := by
  unfold rd_T40
  rw [Int.toNat_natCast, List.getD_eq_getElem?_getD, List.getElem?_eq_getElem h]
  rfl
 rw [List.drop_eq_getElem_cons h, costT, e]
theorem evs_cost (l : List S40) : ∀ (d i : Nat) (op : List Nat), i + d = l.length → cost (evs l d i op) ≤ ends_ l op + costT (l.drop i)
 | 0, i, op, h => by
  have := shE_cost l i op
  rw [evs]
  omega
 | d + 1, i, op, h => by
  have h1 := shE_cost l i op
  have h2 := evs_cost l d (i + 1) (i :: shO l op i) (by omega)
  have h3 := drop_cost (l := l) (i := i) (by omega)
  have h4 : wt (begL (nm l i)) = 5 + 0 + 1 + (nm l i).size := rfl
  have h5 : costC (rd_T40 l (i : Int)) = 8 * (nm l i).size + 46 + cost (lns l i) := rfl
  rw [ends_] at h2
  unfold endc at h2
  rw [evs, cost_app, cost, cost_app]
  omega
theorem evA_cost (l : List S40) : cost (evA l) ≤ costT l := by
 have := evs_cost l l.length 0 [] (by omega)
 rw [List.drop_zero] at this
 unfold evA
 rw [show ends_ l [] = 0 from rfl] at this
 omega
theorem parse_any (s : ByteArray) (hs : s.size ≤ 3000) : ∃ l e, tree_Parse.F s = some (l, e) ∧ ((e ≠ 0 ∧ l = []) ∨ (e = 0 ∧ trS l = true ∧ costT l ≤ 230000 ∧ ∃ k, k ≤ 4000 ∧ Inv k l [])) := by
 have hz := bytesOf_length s
 rw [tree_Parse.F_eq, Unfold_eq s (by omega), bind_some_]
 cases hu : unfS (bytesOf s) with
 | none => exact ⟨[], 18, rfl, Or.inl ⟨by decide, rfl⟩⟩
 | some ls =>
  obtain ⟨u1, u2⟩ := unf_sum hu (bytes_of s)
  have u3 := sumL_len ls
  have h1 := parse_L0 ls (by omega) (fun l hl => ⟨u2 l hl, by have := sumL_mem hl; omega⟩) _ 0 [] (Nat.zero_add _) (Nat.le_refl _)
  rw [show ((0 : Nat) : Int) = 0 from rfl, List.drop_zero] at h1
  unfold encU
  dsimp only
  rw [if_pos rfl, h1]
  cases hl : linS ls with
  | none => exact ⟨[], 18, rfl, Or.inl ⟨by decide, rfl⟩⟩
  | some E =>
   obtain ⟨l1, l2, l3⟩ := lin_sum ls E hl
   have hf : ∀ x ∈ E, FitL x := fun x hx => by
    have h2 := wts_mem hx
    have h3 : Sz x.f0 x.f1 x.f2 := by
     show wt x ≤ 100000
     omega
    exact (GoodX.mk (l3 x hx) h3).fit
   have hI : Inv 0 ([] : List S40) [] := ⟨fun a ha => (by cases ha), ⟨Nat.le_refl _, Nat.le_refl _⟩, fun c hc => (by cases hc)⟩
   have h2 := parse_L1 E (by omega) hf _ 0 [] [] (Nat.zero_add _) hI
   rw [show ((0 : Nat) : Int) = 0 from rfl, List.drop_zero, show stk [] = [] from rfl] at h2
   dsimp only
   rw [List.nil_append, h2]
   cases hr : runS E ([], []) with
   | none => exact ⟨[], 20, rfl, Or.inl ⟨by decide, rfl⟩⟩
   | some q =>
    obtain ⟨R, op⟩ := q
    cases op with
    | cons a s' => exact ⟨[], 20, rfl, Or.inl ⟨by decide, rfl⟩⟩
    | nil =>
     unfold finS
     dsimp only
     by_cases ht : trS R = true
     ·rw [if_pos ht]
      obtain ⟨i1, i2⟩ := run_inv E 0 [] R [] [] hI hf hr
      refine ⟨R, 0, rfl, Or.inr ⟨rfl, ht, ?_, _, ?_, i1⟩⟩
      ·rw [show costT [] = 0 from rfl] at i2
       omega
      ·omega
     ·rw [if_neg ht]
      exact ⟨[], 20, rfl, Or.inl ⟨by decide, rfl⟩⟩
theorem costC_lines (c : S40) : 8 * c.f0.size ≤ costC c ∧ c.f1.length ≤ costC c ∧ ∀ x ∈ c.f1, 4 * wt x ≤ costC c := by
 have h1 := cost_len c.f1
 unfold costC
 refine ⟨by omega, by omega, fun x hx => ?_⟩
 have := cost_mem hx
 omega
theorem reads_back {l : List S40} {k : Nat} (hk : k ≤ 4000) (hr : trS l = true) (hc : costT l ≤ 230000) (hI : Inv k l []) : tree_Check.F l = some 0 ∧ ∃ t, tree_Text.F l = some (t, 0) ∧ tree_Parse.F t = some (l, 0) := by
 have h0 := evA_cost l
 have h1 := cost_len (evA l)
 have h2 := cost_lenS (evA l)
 have h3 := costT_len l
 obtain ⟨t1, t2⟩ := text_back (l := l) (by omega) (fun c hc' => by
  have g1 := costT_mem hc'
  obtain ⟨g2, g3, g4⟩ := costC_lines c
  obtain ⟨f1, f2, f3, f4, f5⟩ := hI.fit c hc'
  refine ⟨by omega, by omega, by omega, fun x hx => ?_⟩
  show wt x ≤ 100000
  have := g4 x hx
  omega) (fun c hc' => by
  have g1 := costT_mem hc'
  obtain ⟨g2, g3, g4⟩ := costC_lines c
  omega) (fun _ => by omega)
 rw [hr, if_pos rfl] at t1
 refine ⟨t1, ?_⟩
 have hs : (evA l).all short = true := by
  rw [List.all_eq_true]
  intro x hx
  have g1 := cost_mem hx
  have g2 := txt_psum x.f0 x.f1 x.f2
  have g3 : (txX x).length ≤ wt x := g2
  exact decide_eq_true (by omega)
 rcases t2 with h | h | h
 ·rw [hr] at h
  cases h.1
 ·exact absurd ⟨hs, by omega⟩ h.2.1
 ·exact ⟨_, h.2.2.2.1, h.2.2.2.2⟩
end Go.Proofs.YtdgeokpbedllaaaDoor.TreK
