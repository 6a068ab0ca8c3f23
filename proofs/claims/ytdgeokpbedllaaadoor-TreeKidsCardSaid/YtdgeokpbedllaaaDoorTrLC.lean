-- A text of the kit's tools for this claim, its remarks left out.
import Derived.Test.YtdgeokpbedllaaaDoorTrLA
import Derived.Test.YtdgeokpbedllaaaDoorETrex1
import Derived.Test.YtdgeokpbedllaaaDoorBase
import Derived.Test.YtdgeokpbedllaaaDoorPTrex16
namespace Go.Proofs.YtdgeokpbedllaaaDoor.Base
open Go.RowKit Go.Proofs.YtdgeokpbedllaaaDoor.PTre Go.Proofs.YtdgeokpbedllaaaDoorW.PrintWords Go.Proofs.YtdgeokpbedllaaaDoorW.PrintLast Go.Proofs.YtdgeokpbedllaaaDoorW.PrintMore
set_option linter.unusedVariables false
set_option linter.unusedSimpArgs false
def st3 : List Int := [58, 59, 44]
def LightP (p : S70) : Prop := p.f0.size ≤ 200 ∧ p.f1.length ≤ 20 ∧ ∀ x ∈ p.f1, x.size ≤ 200
def Light (n : ByteArray) (ps : List S70) (v : ByteArray) : Prop := n.size ≤ 200 ∧ v.size ≤ 500 ∧ ps.length ≤ 20 ∧ ∀ p ∈ ps, LightP p
theorem light_fit {p : S70} (h : LightP p) : FitP p := ⟨by have := h.1; omega, fun x hx => by have := h.2.2 x hx; omega, by have := h.2.1; omega⟩
def Q (v q : List Int) : Prop := q = 34 :: (v ++ [34]) ∨ (q = v ∧ ∀ c ∈ v, c ∉ st3)
theorem S54_ext {p q : S70} : p = q ↔ p.f0 = q.f0 ∧ p.f1 = q.f1 := by
 cases p; cases q
 simp
instance : DecidableEq S70 := fun p q => decidable_of_iff (p.f0 = q.f0 ∧ p.f1 = q.f1) S54_ext.symm
theorem heavy_L1 (n : ByteArray) (ps : List S70) (v : ByteArray) (i : Int) (h0 : 0 ≤ i) (h1 : i < (ps.length : Int)) (hl : (rdOf z70 ps i).f1.length ≤ 20) : ∀ (d : Nat) (j : Int), d = (rdOf z70 ps i).f1.length - j.toNat → 0 ≤ j → j ≤ ((rdOf z70 ps i).f1.length : Int) →
  (w18_Heavy.L1 i j n ps v = some true) ∨ (w18_Heavy.L1 i j n ps v = w18_Heavy.L0 (wrap64 (i + 1)) n ps v ∧ ∀ x ∈ (rdOf z70 ps i).f1.drop j.toNat, x.size ≤ 200) := by
 intro d
 induction d with
 | zero =>
  intro j hd g0 g1
  have e0 : rd_T70 ps i = rdOf z70 ps i := rfl
  right
  rw [w18_Heavy.L1_eq, if_pos h0, if_pos h1, e0, if_neg (by omega), drop_nil_ (by omega)]
  exact ⟨rfl, by simp⟩
 | succ d ih =>
  intro j hd g0 g1
  have e0 : rd_T70 ps i = rdOf z70 ps i := rfl
  have hlt : j < ((rdOf z70 ps i).f1.length : Int) := by omega
  rw [w18_Heavy.L1_eq, if_pos h0, if_pos h1, e0, if_pos hlt, if_pos g0, wrap64_id (n := j + 1) (by omega) (by omega)]
  by_cases h : ((rdOf ByteArray.empty (rdOf z70 ps i).f1 j).size : Int) > 200
  ·left
   rw [if_pos h]
  ·rw [if_neg h]
   rcases ih (j + 1) (by omega) (by omega) (by omega) with h' | ⟨h', h2⟩
   ·exact Or.inl h'
   ·refine Or.inr ⟨h', ?_⟩
    rw [drop_cons_ ByteArray.empty g0 hlt]
    intro x hx
    rcases List.mem_cons.1 hx with rfl | hx
    ·omega
    ·exact h2 x hx
theorem heavy_L0 (n : ByteArray) (ps : List S70) (v : ByteArray) (hl : ps.length ≤ 20) : ∀ (d : Nat) (i : Int), d = ps.length - i.toNat → 0 ≤ i → i ≤ (ps.length : Int) →
  (w18_Heavy.L0 i n ps v = some true) ∨ (w18_Heavy.L0 i n ps v = some false ∧ ∀ p ∈ ps.drop i.toNat, LightP p) := by
 intro d
 induction d with
 | zero =>
  intro i hd h0 h1
  right
  rw [w18_Heavy.L0_eq, if_neg (by omega), drop_nil_ (by omega)]
  exact ⟨rfl, by simp⟩
 | succ d ih =>
  intro i hd h0 h1
  have hlt : i < (ps.length : Int) := by omega
  have e0 : rd_T70 ps i = rdOf z70 ps i := rfl
  have stop : w18_Heavy.J2 i true n ps v = some true := by rw [w18_Heavy.J2_eq, if_pos rfl]
  rw [w18_Heavy.L0_eq, if_pos hlt, if_pos h0, e0, stop]
  by_cases h : ((rdOf z70 ps i).f0.size : Int) > 200
  ·left
   rw [if_pos h]
  ·rw [if_neg h]
   by_cases h2 : ((rdOf z70 ps i).f1.length : Int) > 20
   ·left
    rw [decide_eq_true h2, stop]
   ·rw [decide_eq_false h2, w18_Heavy.J2_eq, if_neg (by simp)]
    rcases heavy_L1 n ps v i h0 hlt (by omega) _ 0 rfl (by omega) (by omega) with h' | ⟨h', h3⟩
    ·exact Or.inl h'
    ·rw [h', wrap64_id (n := i + 1) (by omega) (by omega)]
     rcases ih (i + 1) (by omega) (by omega) (by omega) with g | ⟨g, g2⟩
     ·exact Or.inl g
     ·refine Or.inr ⟨g, ?_⟩
      rw [drop_cons_ z70 h0 hlt]
      intro p hp
      rcases List.mem_cons.1 hp with rfl | hp
      ·exact ⟨by omega, by omega, h3⟩
      ·exact g2 p hp
theorem Heavy_eq (n : ByteArray) (ps : List S70) (v : ByteArray) : w18_Heavy.F n ps v = some true ∨ (w18_Heavy.F n ps v = some false ∧ Light n ps v) := by
 have stop : w18_Heavy.J0 true n ps v = some true := by rw [w18_Heavy.J0_eq, if_pos rfl]
 rw [w18_Heavy.F_eq, stop]
 by_cases h1 : (n.size : Int) > 200
 ·left; rw [if_pos h1]
 ·rw [if_neg h1]
  by_cases h2 : (v.size : Int) > 500
  ·left; rw [if_pos h2]
  ·rw [if_neg h2]
   by_cases h3 : (ps.length : Int) > 20
   ·left; rw [decide_eq_true h3, stop]
   ·rw [decide_eq_false h3, w18_Heavy.J0_eq, if_neg (by simp)]
    rcases heavy_L0 n ps v (by omega) _ 0 rfl (by omega) (by omega) with h | ⟨h, h'⟩
    ·exact Or.inl h
    ·exact Or.inr ⟨h, by omega, by omega, by omega, h'⟩
end Go.Proofs.YtdgeokpbedllaaaDoor.Base
