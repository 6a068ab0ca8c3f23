/- Which formats are right (zone.Format and the page's Format): three shapes; what the page's name of each is. No condition. -/
import Derived.Test.YtookjnpmbenheaaDoorFmtC
import Derived.Test.YtookjnpmbenheaaDoorEFmtx5
import Derived.Test.YtookjnpmbenheaaDoorEFmtx6
namespace Go.Proofs.YtookjnpmbenheaaDoor.Base
open Go.RowKit Go.Proofs.YtookjnpmbenheaaDoor.PFmt Go.Proofs.YtookjnpmbenheaaDoorW.PrintWords Go.Proofs.YtookjnpmbenheaaDoorW.PrintLast Go.Proofs.YtookjnpmbenheaaDoorW.PrintMore
set_option linter.unusedVariables false
set_option linter.unusedSimpArgs false

/-- The first byte that is no letter, digit, '+' or '-'. -/
theorem first_spec : ∀ l : List Int, l.all sgn = true ∨ ∃ A c B, l = A ++ c :: B ∧ A.all sgn = true ∧ sgn c = false
  | [] => Or.inl rfl
  | x :: l => by
    cases hx : sgn x with
    | false => exact Or.inr ⟨[], x, l, rfl, rfl, hx⟩
    | true =>
      rcases first_spec l with h | ⟨A, c, B, h1, h2, h3⟩
      · left; rw [List.all_cons, hx, h]; rfl
      · refine Or.inr ⟨x :: A, c, B, by rw [h1]; rfl, ?_, h3⟩
        rw [List.all_cons, hx, h2]; rfl
/-- The three shapes. -/
inductive Shape (l : List Int) : Prop
  | one (h : l.all sgn = true)
  | two (A B : List Int) (h : l = A ++ 47 :: B) (hA : A.all sgn = true) (hB : B.all sgn = true)
  | three (A : List Int) (d : Int) (B : List Int) (h : l = A ++ 37 :: d :: B) (hA : A.all sgn = true) (hB : B.all sgn = true) (hd : d = 115 ∨ d = 122)
theorem sgn_of_z {l : List Int} (h : l.all zsgn = true) (h1 : (37 : Int) ∉ l) (h2 : (47 : Int) ∉ l) : l.all sgn = true := by
  rw [List.all_eq_true] at h ⊢
  intro x hx
  rcases (zsgn_iff x).1 (h x hx) with h' | h' | h'
  · exact h'
  · exact absurd (h' ▸ hx) h1
  · exact absurd (h' ▸ hx) h2
theorem zone_shape {s : ByteArray} (hs : s.size ≤ 1000) (h : zone_Format.F s = some true) : (1 ≤ s.size ∧ s.size ≤ 40) ∧ Shape (bytesOf s) := by
  rw [zone_eq s hs] at h
  by_cases hz : 1 ≤ s.size ∧ s.size ≤ 40 ∧ (bytesOf s).all zsgn = true
  · rw [if_pos hz] at h
    refine ⟨⟨hz.1, hz.2.1⟩, ?_⟩
    have hzz := hz.2.2
    unfold fmtE at h
    rw [Count_eq s 47 (by omega), bind_some_] at h
    have h37 : strings_IndexByte.f s 37 = some (Lib.indexByte s.data.toList 37) := rfl
    rw [h37, bind_some_] at h
    have e47 : ((47 : UInt8).toNat : Int) = 47 := rfl
    have e37 : ((37 : UInt8).toNat : Int) = 37 := rfl
    rw [e47] at h
    rcases idx_cases s 37 with ⟨i1, i2⟩ | ⟨A, B, i1, i2, i3⟩
    · rw [e37] at i2
      rw [i1, if_pos (by omega)] at h
      have hc := Option.some.inj h
      rw [decide_eq_true_eq] at hc
      by_cases hm : (47 : Int) ∈ bytesOf s
      · rcases idx_cases s 47 with ⟨_, j2⟩ | ⟨A, B, j1, j2, _⟩
        · exact absurd hm j2
        · rw [e47] at j1 j2
          rw [j1] at hc i2 hzz
          rw [List.count_append, List.count_cons_self, List.count_eq_zero_of_not_mem j2] at hc
          have hB : (47 : Int) ∉ B := fun hb => by
            have := List.count_pos_iff.2 hb
            omega
          rw [List.all_append, List.all_cons, Bool.and_eq_true, Bool.and_eq_true] at hzz
          exact Shape.two A B j1 (sgn_of_z hzz.1 (fun hb => i2 (List.mem_append_left _ hb)) j2) (sgn_of_z hzz.2.2 (fun hb => i2 (List.mem_append_right _ (List.mem_cons_of_mem _ hb))) hB)
      · exact Shape.one (sgn_of_z hzz i2 hm)
    · rw [e37] at i1 i2
      rw [i3, if_neg (by omega)] at h
      by_cases hc : ((List.count (47 : Int) (bytesOf s) : Nat) : Int) > 0
      · rw [if_pos hc] at h
        cases h
      · rw [if_neg hc, Count_eq s 37 (by omega), bind_some_, e37] at h
        have h47 : (47 : Int) ∉ bytesOf s := fun hm => by
          have := List.count_pos_iff.2 hm
          omega
        by_cases hc2 : ((List.count (37 : Int) (bytesOf s) : Nat) : Int) > 1
        · rw [if_pos hc2] at h
          cases h
        · have hlen : (s.size : Int) = (A.length : Int) + ((B.length : Int) + 1) := by rw [size_len, i1, List.length_append, List.length_cons]; omega
          rw [if_neg hc2, wrap64_id (n := (A.length : Int) + 1) (by omega) (by omega)] at h
          have hB37 : (37 : Int) ∉ B := fun hb => by
            have := List.count_pos_iff.2 hb
            rw [i1, List.count_append, List.count_cons_self] at hc2
            omega
          cases B with
          | nil =>
            rw [if_pos (by simp at hlen; omega)] at h
            cases h
          | cons d B =>
            rw [List.length_cons] at hlen
            rw [if_neg (by omega), if_pos (by omega), if_pos (by omega)] at h
            have hb : bt s ((A.length : Int) + 1) = d := by
              have := bt_at (s := s) (A := A ++ [37]) (c := d) (B := B) (by rw [i1]; simp)
              rw [List.length_append, List.length_singleton] at this
              exact_mod_cast this
            rw [hb] at h
            have hd : d = 115 ∨ d = 122 := by
              by_cases h1 : d = 115
              · exact Or.inl h1
              · rw [if_neg h1] at h
                exact Or.inr (by simpa using h)
            rw [i1] at hzz h47
            rw [List.all_append, List.all_cons, List.all_cons, Bool.and_eq_true, Bool.and_eq_true, Bool.and_eq_true] at hzz
            exact Shape.three A d B i1 (sgn_of_z hzz.1 i2 (fun hb => h47 (List.mem_append_left _ hb))) (sgn_of_z hzz.2.2.2 (fun hb => hB37 (List.mem_cons_of_mem _ hb)) (fun hb => h47 (List.mem_append_right _ (List.mem_cons_of_mem _ (List.mem_cons_of_mem _ hb))))) hd
  · rw [if_neg hz] at h
    cases h
theorem zone_of_shape {s : ByteArray} (hl : 1 ≤ s.size ∧ s.size ≤ 40) (h : Shape (bytesOf s)) : zone_Format.F s = some true := by
  cases h with
  | one h => exact zone_1 hl h
  | two A B h hA hB => exact zone_2 hl h hA hB
  | three A d B h hA hB hd => exact zone_3 hl h hA hB hd
theorem zone_total (s : ByteArray) (hs : s.size ≤ 1000) : ∃ b, zone_Format.F s = some b := by
  rw [zone_eq s hs]
  by_cases hz : 1 ≤ s.size ∧ s.size ≤ 40 ∧ (bytesOf s).all zsgn = true
  · rw [if_pos hz]
    unfold fmtE
    have h37 : strings_IndexByte.f s 37 = some (Lib.indexByte s.data.toList 37) := rfl
    rw [Count_eq s 47 (by omega), bind_some_, h37, bind_some_, Count_eq s 37 (by omega), bind_some_]
    rcases idx_cases s 37 with ⟨i1, i2⟩ | ⟨A, B, i1, i2, i3⟩
    · rw [i1, if_pos (by omega)]
      exact ⟨_, rfl⟩
    · have hlen : (s.size : Int) = (A.length : Int) + ((B.length : Int) + 1) := by rw [size_len, i1, List.length_append, List.length_cons]; omega
      rw [i3, if_neg (by omega), wrap64_id (n := (A.length : Int) + 1) (by omega) (by omega)]
      split
      · exact ⟨_, rfl⟩
      · split
        · exact ⟨_, rfl⟩
        · by_cases hB : (A.length : Int) + 1 ≥ (s.size : Int)
          · rw [if_pos hB]; exact ⟨_, rfl⟩
          · rw [if_neg hB, if_pos (by omega), if_pos (by omega)]
            split
            · exact ⟨_, rfl⟩
            · exact ⟨_, rfl⟩
  · rw [if_neg hz]
    exact ⟨_, rfl⟩
end Go.Proofs.YtookjnpmbenheaaDoor.Base
