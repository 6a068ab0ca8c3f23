-- A text of the kit's tools for this claim, its remarks left out.
import Derived.Test.YtjanombhdnoemaaGreatDoorWAll
namespace Go.Proofs.YtjanombhdnoemaaGreatDoor.Base
open Go.Proofs.YtjanombhdnoemaaGreatDoorW.PrintWords
def Mono {α : Type} (g : Nat → Option α) : Prop := ∀ k, LeO (g k) (g (k + 1))
open Classical in
noncomputable def lim {α : Type} (g : Nat → Option α) : Option α := if h : ∃ k r, g k = some r then g h.choose else none
theorem mono_le {α : Type} {g : Nat → Option α} (hg : Mono g) {k j : Nat} (h : k ≤ j) : LeO (g k) (g j) := by
 obtain ⟨d, rfl⟩ := Nat.le.dest h
 induction d with
 | zero => exact LeO.refl _
 | succ d ih => exact LeO.trans (ih (by omega)) (hg _)
theorem lim_of {α : Type} {g : Nat → Option α} (hg : Mono g) {k : Nat} {r : α} (h : g k = some r) : lim g = some r := by
 have hx : ∃ k r, g k = some r := ⟨k, r, h⟩
 unfold lim
 rw [dif_pos hx]
 obtain ⟨r', hr'⟩ := hx.choose_spec
 rcases Nat.le_total k hx.choose with hk | hk
 ·exact mono_le hg hk r h
 ·have := mono_le hg hk r' hr'
  rw [h] at this
  rw [hr', ← this]
theorem lim_some {α : Type} {g : Nat → Option α} {r : α} (h : lim g = some r) : ∃ k, g k = some r := by
 unfold lim at h
 split at h
 ·exact ⟨_, h⟩
 ·cases h
theorem lim_none {α : Type} {g : Nat → Option α} (h : lim g = none) (k : Nat) : g k = none := by
 unfold lim at h
 split at h
 ·rename_i hx
  obtain ⟨r', hr'⟩ := hx.choose_spec
  rw [hr'] at h
  cases h
 ·rename_i hx
  cases hk : g k with
  | none => rfl
  | some r => exact absurd ⟨k, r, hk⟩ hx
theorem lim_never {α : Type} {g : Nat → Option α} (h : ∀ k, g k = none) : lim g = none := by
 cases hl : lim g with
 | none => rfl
 | some r =>
  obtain ⟨k, hk⟩ := lim_some hl
  rw [h k] at hk
  cases hk
structure IsLim {α : Type} (g : Nat → Option α) (v : Option α) : Prop where
 mono : Mono g
 eq : lim g = v
theorem IsLim.const {α : Type} (c : Option α) : IsLim (fun _ => c) c := by
 have hm : Mono (fun _ : Nat => c) := fun _ => LeO.refl _
 refine ⟨hm, ?_⟩
 cases c with
 | none => exact lim_never fun _ => rfl
 | some r => exact lim_of hm (k := 0) rfl
theorem IsLim.ite {α : Type} {c : Prop} [Decidable c] {f g : Nat → Option α} {u v : Option α} (hf : IsLim f u) (hg : IsLim g v) : IsLim (fun k => if c then f k else g k) (if c then u else v) := by
 by_cases hc : c
 ·simp only [if_pos hc]
  exact hf
 ·simp only [if_neg hc]
  exact hg
theorem IsLim.bind {α β : Type} {g : Nat → Option α} {u : Option α} {f : Nat → α → Option β} {v : α → Option β} (hg : IsLim g u) (hf : ∀ a, IsLim (fun k => f k a) (v a)) : IsLim (fun k => (g k).bind (f k)) (u.bind v) := by
 have hm : Mono fun k => (g k).bind (f k) := fun k => LeO.bind (hg.mono k) (fun a => (hf a).mono k)
 refine ⟨hm, ?_⟩
 cases hu : lim g with
 | none =>
  rw [hg.eq] at hu
  rw [hu]
  exact lim_never fun k => by rw [lim_none (hg.eq.trans hu) k]; rfl
 | some a =>
  have hu' := hu
  rw [hg.eq] at hu
  rw [hu]
  show lim _ = v a
  obtain ⟨K, hK⟩ := lim_some hu'
  cases hv : v a with
  | none =>
   refine lim_never fun k => ?_
   cases hk : g k with
   | none => rfl
   | some a' =>
    have e := lim_of hg.mono hk
    rw [hu'] at e
    cases e
    exact lim_none ((hf a).eq.trans hv) k
  | some r =>
   obtain ⟨J, hJ⟩ := lim_some ((hf a).eq.trans hv)
   refine lim_of hm (k := max K J) ?_
   rw [mono_le hg.mono (Nat.le_max_left K J) a hK]
   exact mono_le (hf a).mono (Nat.le_max_right K J) r hJ
theorem IsLim.cst {α : Type} {g : Nat → Option α} {v : Option α} (h : ∀ k, g k = v) : IsLim g v := by
 rw [show g = fun _ => v from funext h]
 exact IsLim.const v
theorem IsLim.via {α : Type} {f g : Nat → Option α} {v : Option α} (h : ∀ k, f k = g k) (hf : IsLim g v) : lim f = v := by
 rw [show f = g from funext h]
 exact hf.eq
theorem IsLim.step {α : Type} {g f : Nat → Option α} {v : Option α} (hg : Mono g) (h : ∀ k, g (k + 1) = f k) (hf : IsLim f v) : lim g = v := by
 cases hv : v with
 | none =>
  refine lim_never fun k => ?_
  cases hk : g k with
  | none => rfl
  | some r =>
   have h1 := hg k r hk
   rw [h k, lim_none (hf.eq.trans hv) k] at h1
   cases h1
 | some r =>
  obtain ⟨k, hk⟩ := lim_some (hf.eq.trans hv)
  exact lim_of hg (k := k + 1) ((h k).trans hk)
end Go.Proofs.YtjanombhdnoemaaGreatDoor.Base
