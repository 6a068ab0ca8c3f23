-- A text of the kit's tools for this claim, its remarks left out.
import Derived.Test.YtdgeokpbedllaaaDoorTreKd
import Derived.Test.YtdgeokpbedllaaaDoorETrex19
namespace Go.Proofs.YtdgeokpbedllaaaDoor.Pure
open Go.RowKit Go.Proofs.YtdgeokpbedllaaaDoor.PTre Go.Proofs.YtdgeokpbedllaaaDoorW.PrintWords Go.Proofs.YtdgeokpbedllaaaDoorW.PrintLast Go.Proofs.YtdgeokpbedllaaaDoorW.PrintMore Go.Proofs.YtdgeokpbedllaaaDoor.Base Go.Proofs.YtdgeokpbedllaaaDoor.TreK
set_option linter.unusedVariables false
set_option linter.unusedSimpArgs false
set_option linter.unusedSectionVars false
set_option maxRecDepth 100000
theorem wakes19 : w19_wakes.F = some true := lim_of (w19_wakes.isF).mono (k := 100) (by decide +kernel)
def cnt (E : Nat → Nat) (n : Nat) : Nat → Nat → Nat
 | 0, _ => 0
 | i + 1, j => cnt E n i j + (kids E n i).count j
def tab (n : Nat) (g : Nat → Nat) : List Int := (List.range n).map fun j => ((g j : Nat) : Int)
theorem tab_length (n : Nat) (g : Nat → Nat) : (tab n g).length = n := by unfold tab; rw [List.length_map, List.length_range]
theorem tab_get (n : Nat) (g : Nat → Nat) {j : Nat} (h : j < (tab n g).length) : (tab n g)[j] = ((g j : Nat) : Int) := by simp [tab]
theorem tab_rd (n : Nat) (g : Nat → Nat) {x : Nat} (h : x < n) : rd (tab n g) (x : Int) = ((g x : Nat) : Int) := by
 unfold rd tab
 rw [Int.toNat_natCast, List.getD_eq_getElem?_getD, List.getElem?_map, List.getElem?_range h]
 rfl
theorem tab_set (n : Nat) (g : Nat → Nat) (x : Nat) : (tab n g).set x (((g x : Nat) : Int) + 1) = tab n (fun j => g j + if x = j then 1 else 0) := by
 refine List.ext_getElem (by rw [List.length_set, tab_length, tab_length]) fun j h1 h2 => ?_
 rw [List.getElem_set]
 simp only [tab_get]
 by_cases e : x = j
 ·subst e; rw [if_pos rfl, if_pos rfl]; omega
 ·rw [if_neg e, if_neg e, Nat.add_zero]
theorem up_rd (A : List Nat) (x : Nat) (B : List Nat) : rd (TreK.up (A ++ x :: B)) ((A.length : Nat) : Int) = (x : Int) := by
 unfold rd TreK.up
 rw [Int.toNat_natCast, List.getD_eq_getElem?_getD, List.getElem?_map, List.getElem?_append_right (Nat.le_refl _)]
 simp
theorem sumE_snoc (E : Nat → Nat) (x : Nat) : ∀ A : List Nat, sumE E (A ++ [x]) = sumE E A + (E x - x)
 | [] => by simp [sumE]
 | y :: A => by rw [List.cons_append, sumE, sumE, sumE_snoc E x A]; omega
theorem sumE_app (E : Nat → Nat) (B : List Nat) : ∀ A : List Nat, sumE E (A ++ B) = sumE E A + sumE E B
 | [] => by simp [sumE]
 | y :: A => by rw [List.cons_append, sumE, sumE, sumE_app E B A]; omega
theorem count_up {j : Nat} : ∀ {A : List Nat}, A.Pairwise (fun c d => c < d) → A.count j = if j ∈ A then 1 else 0
 | [], _ => rfl
 | x :: A, h => by
  rw [List.pairwise_cons] at h
  rw [List.count_cons, count_up h.2]
  by_cases e : x = j
  ·subst e
   have : x ∉ A := fun hm => by have := h.1 x hm; omega
   rw [if_neg this, if_pos (List.mem_cons_self ..)]
   simp
  ·have e1 : (x == j) = false := beq_eq_false_iff_ne.mpr e
   rw [e1]
   have e2 : (j ∈ x :: A) ↔ j ∈ A := by
    rw [List.mem_cons]
    exact ⟨fun h => h.elim (fun h => absurd h.symm e) id, Or.inr⟩
   simp [e2]
theorem len_le_of_lt {n : Nat} : ∀ (A : List Nat) (m : Nat), A.Pairwise (fun c d => c < d) → (∀ y ∈ A, m ≤ y ∧ y < n) → A.length + m ≤ max n m
 | [], m, _, _ => by simp; omega
 | x :: A, m, h, hb => by
  rw [List.pairwise_cons] at h
  have hx := hb x (List.mem_cons_self ..)
  have := len_le_of_lt A (x + 1) h.2 (fun y hy => ⟨h.1 y hy, (hb y (List.mem_cons_of_mem _ hy)).2⟩)
  rw [List.length_cons]
  omega
section
variable {l : List S40} (hN : Nest l) (hl : l.length ≤ 900)
include hN hl
theorem kids_lt {i : Nat} (hi : i < l.length) : (kids (Eo l) l.length i).Pairwise (fun c d => c < d) := by
 obtain ⟨h1, h2, h3⟩ := kids_spec hN.lam i hi
 have hn := hN.lam.up i hi
 refine List.Pairwise.imp_of_mem ?_ h2
 intro c d hc hd h
 have := h1 c hc
 have := hN.lam.up c (by omega)
 omega
theorem l1_run {i : Nat} (hi : i < l.length) : ∀ (B A : List Nat) (g : Nat → Nat), kids (Eo l) l.length i = A ++ B → (∀ j, g j + B.count j ≤ 1000) →
  w19_TreeKids.L1 l (tab l.length g) (i : Int) (TreK.up (kids (Eo l) l.length i)) ((sumE (Eo l) A : Nat) : Int) ((A.length : Nat) : Int) = w19_TreeKids.L0 l (tab l.length fun j => g j + B.count j) ((i + 1 : Nat) : Int) := by
 have hlt := kids_lt hN hl hi
 obtain ⟨h1, h2, h3⟩ := kids_spec hN.lam i hi
 have hsum := kids_sum hN.lam i hi
 have hui := hN.lam.up i hi
 intro B
 induction B with
 | nil =>
  intro A g hK hg
  rw [List.append_nil] at hK
  subst hK
  have hlen : ((TreK.up (kids (Eo l) l.length i)).length : Int) = ((kids (Eo l) l.length i).length : Nat) := by unfold TreK.up; rw [List.length_map]
  have hf := hN.f2 hi
  rw [w19_TreeKids.L1_eq, if_neg (by omega), if_pos (by omega), if_pos (by omega), if_pos (by omega), wrap64_id (by omega) (by omega)]
  rfl
 | cons x B ih =>
  intro A g hK hg
  have hx : x ∈ kids (Eo l) l.length i := by rw [hK]; exact List.mem_append_right _ (List.mem_cons_self ..)
  have hxi := h1 x hx
  have hxn : x < l.length := by omega
  have hux := hN.lam.up x hxn
  have hfx := hN.f2 hxn
  have hlen : ((TreK.up (kids (Eo l) l.length i)).length : Int) = (A.length : Int) + B.length + 1 := by rw [hK]; unfold TreK.up; rw [List.length_map, List.length_append, List.length_cons]; omega
  have hrd : rd (TreK.up (kids (Eo l) l.length i)) ((A.length : Nat) : Int) = (x : Int) := by rw [hK]; exact up_rd A x B
  have hsA : sumE (Eo l) A ≤ Eo l i := by
   have := hsum
   rw [hK, sumE_app] at this
   omega
  have hAl : A.length ≤ 1000000 := by
   have hp := hlt
   rw [hK] at hp
   have hpA := (List.pairwise_append.1 hp).1
   have hb : ∀ y ∈ A, y < l.length := fun y hy => by have := h1 y (by rw [hK]; exact List.mem_append_left _ hy); omega
   have := len_le_of_lt (n := l.length) A 0 hpA (fun y hy => ⟨Nat.zero_le _, hb y hy⟩)
   omega
  have hgx := hg x
  rw [List.count_cons_self] at hgx
  have hnext : w19_TreeKids.L1 l ((tab l.length g).set ((x : Int)).toNat (wrap64 (rd (tab l.length g) (x : Int) + 1))) (i : Int) (TreK.up (kids (Eo l) l.length i)) (wrap64 ((wrap64 (((sumE (Eo l) A : Nat) : Int) + 1)) + ((rd_T40 l (x : Int)).f2))) (wrap64 (((A.length : Nat) : Int) + 1)) = w19_TreeKids.L0 l (tab l.length fun j => g j + (x :: B).count j) ((i + 1 : Nat) : Int) := by
   rw [tab_rd _ _ hxn, Int.toNat_natCast, wrap64_id (n := ((g x : Nat) : Int) + 1) (by omega) (by omega), tab_set, wrap64_id (n := ((sumE (Eo l) A : Nat) : Int) + 1) (by omega) (by omega), hfx, wrap64_id (n := ((sumE (Eo l) A : Nat) : Int) + 1 + ((Eo l x : Int) - 1 - x)) (by omega) (by omega), wrap64_id (n := ((A.length : Nat) : Int) + 1) (by omega) (by omega)]
   have e1 : ((sumE (Eo l) A : Nat) : Int) + 1 + ((Eo l x : Int) - 1 - x) = ((sumE (Eo l) (A ++ [x]) : Nat) : Int) := by rw [sumE_snoc]; omega
   have e2 : ((A.length : Nat) : Int) + 1 = (((A ++ [x]).length : Nat) : Int) := by rw [List.length_append]; simp
   rw [e1, e2, ih (A ++ [x]) (fun j => g j + if x = j then 1 else 0) (by rw [hK]; simp) (fun j => by
    have := hg j
    rw [List.count_cons] at this
    by_cases e : x = j
    ·subst e; rw [if_pos rfl]; simp at this; omega
    ·rw [if_neg e, Nat.add_zero]; omega)]
   congr 1
   unfold tab
   refine List.map_congr_left fun j _ => ?_
   show (((g j + if x = j then 1 else 0) + B.count j : Nat) : Int) = ((g j + (x :: B).count j : Nat) : Int)
   rw [List.count_cons]
   by_cases e : x = j
   ·subst e; simp; omega
   ·have e3 : (x == j) = false := beq_eq_false_iff_ne.mpr e
    rw [if_neg e, e3, if_neg (by decide), Nat.add_zero, Nat.add_zero]
  have htl := tab_length l.length g
  rw [w19_TreeKids.L1_eq, if_pos (by omega), if_pos (by omega), hrd, if_neg (by omega), if_neg (by omega)]
  by_cases hz : A = []
  ·subst hz
   rw [if_neg (by decide), if_pos (by omega), if_pos (by omega), if_pos (by omega)]
   exact hnext
  ·obtain ⟨A', y, rfl⟩ : ∃ A' y, A = A' ++ [y] := ⟨A.dropLast, A.getLast hz, (List.dropLast_concat_getLast hz).symm⟩
   have hyl : ((A' ++ [y]).length : Int) = (A'.length : Int) + 1 := by rw [List.length_append]; simp
   have hw : wrap64 (((A' ++ [y]).length : Int) - 1) = ((A'.length : Nat) : Int) := by rw [hyl, wrap64_id (by omega) (by omega)]; omega
   have hrd' : rd (TreK.up (kids (Eo l) l.length i)) ((A'.length : Nat) : Int) = (y : Int) := by rw [hK, List.append_assoc, List.singleton_append]; exact up_rd A' y _
   have hyx : y < x := by
    have hp := hlt
    rw [hK] at hp
    exact (List.pairwise_append.1 hp).2.2 y (List.mem_append_right _ (List.mem_singleton.2 rfl)) x (List.mem_cons_self ..)
   rw [if_pos (by omega), hw, if_pos (by omega), if_pos (by omega), hrd', if_neg (by omega), if_pos (by omega), if_pos (by omega), if_pos (by omega)]
   exact hnext
theorem cnt_one (j : Nat) : ∀ i, i ≤ l.length → (cnt (Eo l) l.length i j = 0 ∧ (∀ a, a < i → j ∉ kids (Eo l) l.length a)) ∨ (cnt (Eo l) l.length i j = 1 ∧ ∃ a, a < i ∧ j ∈ kids (Eo l) l.length a) := by
 intro i
 induction i with
 | zero => intro _; left; exact ⟨rfl, fun a ha => by omega⟩
 | succ i ih =>
  intro hi
  rw [cnt, count_up (kids_lt hN hl (by omega))]
  rcases ih (by omega) with ⟨h1, h2⟩ | ⟨h1, a, h2, h3⟩
  ·by_cases hm : j ∈ kids (Eo l) l.length i
   ·right; rw [if_pos hm, h1]; exact ⟨rfl, i, by omega, hm⟩
   ·left; rw [if_neg hm, h1]
    refine ⟨rfl, fun a ha => ?_⟩
    by_cases e : a = i
    ·rw [e]; exact hm
    ·exact h2 a (by omega)
  ·right
   have hm : j ∉ kids (Eo l) l.length i := fun hm => by
    have := kids_one hN.lam (by omega) (by omega) h3 hm
    omega
   rw [if_neg hm, h1]
   exact ⟨rfl, a, by omega, h3⟩
theorem l0_run : ∀ d i, i + d = l.length → w19_TreeKids.L0 l (tab l.length (cnt (Eo l) l.length i)) (i : Int) = w19_TreeKids.L2 l (tab l.length (cnt (Eo l) l.length l.length)) 1 := by
 intro d
 induction d with
 | zero =>
  intro i h
  obtain rfl : i = l.length := by omega
  rw [w19_TreeKids.L0_eq, if_neg (by omega)]
 | succ d ih =>
  intro i h
  rw [w19_TreeKids.L0_eq, if_pos (by omega), kids_eq hN (by omega) i (by omega), bind_some_]
  have h1 := l1_run hN hl (i := i) (by omega) (kids (Eo l) l.length i) [] (cnt (Eo l) l.length i) rfl (fun j => by
   have := cnt_one hN hl j (i + 1) (by omega)
   rw [cnt] at this
   omega)
  rw [show ((sumE (Eo l) [] : Nat) : Int) = 0 from rfl, show (([] : List Nat).length : Int) = 0 from rfl] at h1
  rw [h1]
  exact ih (i + 1) (by omega)
theorem l2_run (h0 : Eo l 0 = l.length) : ∀ d i, 1 ≤ i → i + d = l.length → w19_TreeKids.L2 l (tab l.length (cnt (Eo l) l.length l.length)) (i : Int) = some true := by
 have htl := tab_length l.length (cnt (Eo l) l.length l.length)
 intro d
 induction d with
 | zero =>
  intro i h1 h
  have hc0 : cnt (Eo l) l.length l.length 0 = 0 := by
   rcases cnt_one hN hl 0 l.length (Nat.le_refl _) with h2 | ⟨_, a, h2, h3⟩
   ·exact h2.1
   ·have := (kids_spec hN.lam a h2).1 0 h3; omega
  have hr := tab_rd l.length (cnt (Eo l) l.length l.length) (x := 0) (by omega)
  rw [hc0, show ((0 : Nat) : Int) = 0 from rfl] at hr
  rw [w19_TreeKids.L2_eq, if_neg (by omega), if_pos (by omega), if_pos hr, kids_off l (Or.inl (by decide)), bind_some_, kids_off l (Or.inr (Int.le_refl _)), bind_some_, if_pos (by decide +kernel), wakes19, bind_some_]
 | succ d ih =>
  intro i h1 h
  have hc : cnt (Eo l) l.length l.length i = 1 := by
   rcases cnt_one hN hl i l.length (Nat.le_refl _) with h2 | h2
   ·obtain ⟨a, h3, h4⟩ := kids_some hN.lam h0 (j := i) (by omega) (by omega)
    exact absurd h4 (h2.2 a (by omega))
   ·exact h2.1
  have hr := tab_rd l.length (cnt (Eo l) l.length l.length) (x := i) (by omega)
  rw [hc, show ((1 : Nat) : Int) = 1 from rfl] at hr
  rw [w19_TreeKids.L2_eq, if_pos (by omega), if_pos (by omega), if_pos (by omega), if_pos hr, wrap64_id (n := (i : Int) + 1) (by omega) (by omega)]
  exact ih (i + 1) (by omega) (by omega)
end
theorem TreeKids_F (l : List S40) : w19_TreeKids.F l = some true := by
 have stop : w19_TreeKids.J0 l true = some true := by rw [w19_TreeKids.J0_eq, if_pos rfl]
 rw [w19_TreeKids.F_eq]
 rcases heavy19 l with h | ⟨h, h1, h2⟩
 ·rw [h, bind_some_, if_pos rfl, stop]
 ·rw [h, bind_some_, if_neg (by decide)]
  rcases tree_nest (told_of h2) (by omega) with h3 | ⟨h3, hN, h4, h5⟩
  ·rw [h3, bind_some_]; exact stop
  ·rw [h3, bind_some_, w19_TreeKids.J0_eq]
   rw [if_neg (by decide), if_pos (by omega), if_pos (by omega), Int.toNat_natCast]
   have e : List.replicate l.length (0 : Int) = tab l.length (cnt (Eo l) l.length 0) := by
    refine List.ext_getElem (by rw [List.length_replicate, tab_length]) fun j h8 h9 => ?_
    rw [tab_get, List.getElem_replicate]
    rfl
   have h6 := l0_run hN (by omega) l.length 0 (by omega)
   have h7 := l2_run hN (by omega) h5 (l.length - 1) 1 (Nat.le_refl _) (by omega)
   rw [show ((0 : Nat) : Int) = 0 from rfl] at h6
   rw [e, h6]
   exact h7
theorem TreeKids (l : List S40) {P : Prop} (_ : P) : ∃ k, w19_TreeKids.f k l = some true := lim_some (TreeKids_F l)
end Go.Proofs.YtdgeokpbedllaaaDoor.Pure
