-- A text of the kit's tools for this claim, its remarks left out.
import Derived.Test.YtdgeokpbedllaaaDoorTreK
import Derived.Test.YtdgeokpbedllaaaDoorStr
import Derived.Test.YtdgeokpbedllaaaDoorETrex2
namespace Go.Proofs.YtdgeokpbedllaaaDoor.TreK
open Go.RowKit Go.Proofs.YtdgeokpbedllaaaDoor.PTre Go.Proofs.YtdgeokpbedllaaaDoorW.PrintWords Go.Proofs.YtdgeokpbedllaaaDoorW.PrintLast Go.Proofs.YtdgeokpbedllaaaDoorW.PrintMore Go.Proofs.YtdgeokpbedllaaaDoor.Base
set_option linter.unusedVariables false
set_option linter.unusedSimpArgs false
def Eo (l : List S40) (a : Nat) : Nat := a + 1 + (rd_T40 l (a : Int)).f2.toNat
structure Nest (l : List S40) : Prop where
 lam : Lam (Eo l) l.length
 own : ∀ a : Nat, a < l.length → 0 ≤ (rd_T40 l (a : Int)).f2
def up (l : List Nat) : List Int := l.map fun x : Nat => (x : Int)
theorem Nest.f2 {l : List S40} (h : Nest l) {a : Nat} (ha : a < l.length) : (rd_T40 l (a : Int)).f2 = (Eo l a : Int) - 1 - a := by
 have := h.own a ha
 unfold Eo
 omega
theorem kids_L0 {l : List S40} (h : Nest l) (hl : l.length ≤ 1000) (a : Nat) (ha : a < l.length) : ∀ (f j : Nat) (acc : List Int), a < j → j ≤ Eo l a → Eo l a ≤ j + f → acc.length + f ≤ 1000000 →
  tree_Kids.L0 l (a : Int) (rd_T40 l (a : Int)).f2 acc (j : Int) = some (acc ++ up (kl (Eo l) f j (Eo l a))) := by
 intro f
 have hu := h.lam.up a ha
 have hf := h.f2 ha
 induction f with
 | zero =>
  intro j acc h1 h2 h3 h4
  rw [tree_Kids.L0_eq, wrap64_id (by omega) (by omega), if_neg (by omega)]
  simp [kl, up]
 | succ f ih =>
  intro j acc h1 h2 h3 h4
  rw [tree_Kids.L0_eq, wrap64_id (n := (a : Int) + (rd_T40 l (a : Int)).f2) (by omega) (by omega)]
  by_cases hj : j < Eo l a
  ·have hjn : j < l.length := by omega
   have hi := h.lam.inn a j h1 hj ha
   have hg := h.f2 hjn
   have huj := h.lam.up j hjn
   rw [if_pos (by omega), if_pos (by omega), if_pos (by omega), if_neg (by omega), wrap64_id (n := (a : Int) + (rd_T40 l (a : Int)).f2 - j) (by omega) (by omega), if_neg (by omega), if_pos (by omega), wrap64_id (n := 1 + (rd_T40 l (j : Int)).f2) (by omega) (by omega), wrap64_id (by omega) (by omega)]
   rw [show (j : Int) + (1 + (rd_T40 l (j : Int)).f2) = ((Eo l j : Nat) : Int) by omega, ih (Eo l j) (acc ++ [(j : Int)]) (by omega) hi (by omega) (by rw [List.length_append]; simp only [List.length_cons, List.length_nil]; omega), kl, if_pos hj]
   simp [up]
  ·rw [if_neg (by omega), kl, if_neg hj]
   simp [up]
theorem kids_eq {l : List S40} (h : Nest l) (hl : l.length ≤ 1000) (a : Nat) (ha : a < l.length) : tree_Kids.F l (a : Int) = some (up (kids (Eo l) l.length a)) := by
 have hu := h.lam.up a ha
 have hf := h.f2 ha
 rw [tree_Kids.F_eq, if_neg (by omega), decide_eq_false (by omega), tree_Kids.J0_eq, if_neg (by decide), if_pos (by omega), if_pos (by omega), if_neg (by omega), wrap64_id (by omega) (by omega), decide_eq_false (by omega), tree_Kids.J1_eq, if_neg (by decide), wrap64_id (by omega) (by omega)]
 have := kids_L0 h hl a ha l.length (a + 1) [] (by omega) (by omega) (by omega) (by simp; omega)
 rw [show ((a : Int) + 1) = ((a + 1 : Nat) : Int) by omega, this]
 rfl
theorem kids_off (l : List S40) {i : Int} (h : i < 0 ∨ (l.length : Int) ≤ i) : tree_Kids.F l i = some [] := by
 have hj : tree_Kids.J0 l i true = some [] := by rw [tree_Kids.J0_eq, if_pos rfl]
 rw [tree_Kids.F_eq]
 by_cases h0 : i < 0
 ·rw [if_pos h0, hj]
 ·rw [if_neg h0, decide_eq_true (by omega), hj]
def sumE (E : Nat → Nat) : List Nat → Nat
 | [] => 0
 | x :: t => (E x - x) + sumE E t
theorem kl_sum {E : Nat → Nat} {n : Nat} (h : Lam E n) (a : Nat) (ha : a < n) : ∀ f j, a < j → j ≤ E a → E a ≤ j + f → sumE E (kl E f j (E a)) = E a - j := by
 intro f
 induction f with
 | zero => intro j h1 h2 h3; simp [kl, sumE]; omega
 | succ f ih =>
  intro j h1 h2 h3
  rw [kl]
  by_cases hj : j < E a
  ·have hi := h.inn a j h1 hj ha
   have hn := (h.up a ha).2
   have hu := h.up j (by omega)
   rw [if_pos hj, sumE, ih (E j) (by omega) hi (by omega)]
   omega
  ·rw [if_neg hj]
   simp [sumE]
   omega
theorem kids_sum {E : Nat → Nat} {n : Nat} (h : Lam E n) (a : Nat) (ha : a < n) : sumE E (kids E n a) = E a - (a + 1) := by
 have := h.up a ha
 exact kl_sum h a ha n (a + 1) (by omega) (by omega) (by omega)
end Go.Proofs.YtdgeokpbedllaaaDoor.TreK
