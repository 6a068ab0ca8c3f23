-- A text of the kit's tools for this claim, its remarks left out.
import Derived.Test.YtdgeokpbedllaaaDoorTreV
import Derived.Test.YtdgeokpbedllaaaDoorTrLC
import Derived.Test.YtdgeokpbedllaaaDoorETrex2
namespace Go.Proofs.YtdgeokpbedllaaaDoor.TreK
open Go.RowKit Go.Proofs.YtdgeokpbedllaaaDoor.PTre Go.Proofs.YtdgeokpbedllaaaDoorW.PrintWords Go.Proofs.YtdgeokpbedllaaaDoorW.PrintLast Go.Proofs.YtdgeokpbedllaaaDoorW.PrintMore Go.Proofs.YtdgeokpbedllaaaDoor.Base
set_option linter.unusedVariables false
set_option linter.unusedSimpArgs false
def LightC (c : S40) : Prop := c.f0.size ≤ 200 ∧ c.f1.length ≤ 20 ∧ ∀ x ∈ c.f1, Light x.f0 x.f1 x.f2
theorem heavy19_L1 (l : List S40) (hl : l.length ≤ 30) (i : Nat) (hi : i < l.length) (hf : (rd_T40 l (i : Int)).f1.length ≤ 20) : ∀ d j : Nat, j + d = (rd_T40 l (i : Int)).f1.length → (∀ x ∈ (rd_T40 l (i : Int)).f1.take j, Light x.f0 x.f1 x.f2) →
  solsticelaw19_Heavy.L1 l (i : Int) (j : Int) = some true ∨ (solsticelaw19_Heavy.L1 l (i : Int) (j : Int) = solsticelaw19_Heavy.L0 l ((i + 1 : Nat) : Int) ∧ ∀ x ∈ (rd_T40 l (i : Int)).f1, Light x.f0 x.f1 x.f2) := by
 intro d
 induction d with
 | zero =>
  intro j h hp
  right
  rw [solsticelaw19_Heavy.L1_eq, if_pos (by omega), if_pos (by omega), if_neg (by omega), wrap64_id (by omega) (by omega)]
  rw [List.take_of_length_le (by omega)] at hp
  exact ⟨rfl, hp⟩
 | succ d ih =>
  intro j h hp
  have hj : j < (rd_T40 l (i : Int)).f1.length := by omega
  have e : rd_T44 (rd_T40 l (i : Int)).f1 (j : Int) = (rd_T40 l (i : Int)).f1[j] := by
   unfold rd_T44
   rw [Int.toNat_natCast, List.getD_eq_getElem?_getD, List.getElem?_eq_getElem hj]
   rfl
  rw [solsticelaw19_Heavy.L1_eq, if_pos (by omega), if_pos (by omega), if_pos (by omega), if_pos (by omega)]
  rcases Heavy_eq (rd_T44 (rd_T40 l (i : Int)).f1 (j : Int)).f0 (rd_T44 (rd_T40 l (i : Int)).f1 (j : Int)).f1 (rd_T44 (rd_T40 l (i : Int)).f1 (j : Int)).f2 with h1 | ⟨h1, h2⟩
  ·left
   rw [h1, bind_some_, if_pos rfl]
  ·rw [h1, bind_some_, if_neg (by decide), wrap64_id (n := (j : Int) + 1) (by omega) (by omega)]
   refine ih (j + 1) (by omega) fun x hx => ?_
   rw [List.take_add_one, List.getElem?_eq_getElem hj] at hx
   rcases List.mem_append.1 hx with hx | hx
   ·exact hp x hx
   ·have : x = (rd_T40 l (i : Int)).f1[j] := by simpa using hx
    rw [this, ← e]
    exact h2
theorem heavy19_L0 (l : List S40) (hl : l.length ≤ 30) : ∀ d i : Nat, i + d = l.length → (∀ c ∈ l.take i, LightC c) → solsticelaw19_Heavy.L0 l (i : Int) = some true ∨ (solsticelaw19_Heavy.L0 l (i : Int) = some false ∧ ∀ c ∈ l, LightC c) := by
 intro d
 induction d with
 | zero =>
  intro i h hp
  right
  rw [solsticelaw19_Heavy.L0_eq, if_neg (by omega)]
  rw [List.take_of_length_le (by omega)] at hp
  exact ⟨rfl, hp⟩
 | succ d ih =>
  intro i h hp
  have hi : i < l.length := by omega
  have e : rd_T40 l (i : Int) = l[i] := by
   unfold rd_T40
   rw [Int.toNat_natCast, List.getD_eq_getElem?_getD, List.getElem?_eq_getElem hi]
   rfl
  have stop : solsticelaw19_Heavy.J1 l (i : Int) true = some true := by rw [solsticelaw19_Heavy.J1_eq, if_pos rfl]
  rw [solsticelaw19_Heavy.L0_eq, if_pos (by omega), if_pos (by omega), stop]
  by_cases h1 : ((rd_T40 l (i : Int)).f0.size : Int) > 200
  ·left; rw [if_pos h1]
  ·rw [if_neg h1]
   by_cases h2 : ((rd_T40 l (i : Int)).f1.length : Int) > 20
   ·left; rw [decide_eq_true h2, stop]
   ·rw [decide_eq_false h2, solsticelaw19_Heavy.J1_eq, if_neg (by decide)]
    rcases heavy19_L1 l hl i hi (by omega) _ 0 (Nat.zero_add _) (fun x hx => by simp at hx) with h3 | ⟨h3, h4⟩
    ·left; exact h3
    ·rw [show ((0 : Nat) : Int) = 0 from rfl] at h3
     rw [h3]
     refine ih (i + 1) (by omega) fun c hc => ?_
     rw [List.take_add_one, List.getElem?_eq_getElem hi] at hc
     rcases List.mem_append.1 hc with hc | hc
     ·exact hp c hc
     ·have : c = l[i] := by simpa using hc
      rw [this, ← e]
      exact ⟨by omega, by omega, h4⟩
theorem heavy19 (l : List S40) : solsticelaw19_Heavy.F l = some true ∨ (solsticelaw19_Heavy.F l = some false ∧ l.length ≤ 30 ∧ ∀ c ∈ l, LightC c) := by
 rw [solsticelaw19_Heavy.F_eq]
 by_cases h : (l.length : Int) > 30
 ·left; rw [if_pos h]
 ·rw [if_neg h]
  rcases heavy19_L0 l (by omega) l.length 0 (by omega) (fun c hc => by simp at hc) with h1 | ⟨h1, h2⟩
  ·left; exact h1
  ·right; exact ⟨h1, by omega, h2⟩
end Go.Proofs.YtdgeokpbedllaaaDoor.TreK
