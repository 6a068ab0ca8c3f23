/- The page's text of a number. No condition. -/
import Derived.Test.YtlfohcjajmebjaaDoorNumT
import Derived.Test.YtlfohcjajmebjaaDoorEClkx6
namespace Go.Proofs.YtlfohcjajmebjaaDoor.Base
open Go.RowKit Go.Proofs.YtlfohcjajmebjaaDoor.PClk Go.Proofs.YtlfohcjajmebjaaDoorW.PrintWords Go.Proofs.YtlfohcjajmebjaaDoorW.PrintLast Go.Proofs.YtlfohcjajmebjaaDoorW.PrintMore
set_option linter.unusedVariables false
set_option linter.unusedSimpArgs false
theorem ref_Text_L1 (d : Int) (_hd : d ≤ 20) : ∀ (n : Nat) (l : List Int), n = d.toNat - l.length → l.length ≤ 100 → solsticeref01_Text.L1 d (strOfNums l) = some (strOfNums (List.replicate (d.toNat - l.length) 48 ++ l)) := by
  intro n
  induction n with
  | zero =>
    intro l hn _
    rw [solsticeref01_Text.L1_eq, size_strOf, if_neg (by omega), ← hn]
    rfl
  | succ n ih =>
    intro l hn hl
    rw [solsticeref01_Text.L1_eq, size_strOf, if_pos (by omega), if_pos (by omega)]
    have e : (⟨#[48]⟩ : ByteArray) ++ strOfNums l = strOfNums (48 :: l) := by
      rw [show (⟨#[48]⟩ : ByteArray) = strOfNums [48] from rfl, strOf_append]; rfl
    rw [e, ih (48 :: l) (by rw [List.length_cons]; omega) (by rw [List.length_cons]; omega), List.length_cons]
    rw [show d.toNat - l.length = (d.toNat - (l.length + 1)) + 1 by omega, List.replicate_succ']
    simp
theorem ref_Text_L0 (d : Int) (hd : d ≤ 20) : ∀ (n : Nat) (l : List Int) (k : Nat), 1 ≤ k → n < 10 ^ k → n ≤ 9223372036854775807 → l.length + k ≤ 80 → (l ≠ [] → n ≠ 0) → solsticeref01_Text.L0 n d (strOfNums l) = solsticeref01_Text.L1 d (strOfNums (digs n ++ l)) := by
  intro n
  induction n using Nat.strongRecOn with
  | _ n ih =>
    intro l k hk hn h64 hl hz
    have e1 : (wrap64 (48 + Int.tmod (n : Int) 10)) % 256 = 48 + ((n % 10 : Nat) : Int) := by
      rw [Int.tmod_eq_emod_of_nonneg (by omega), wrap64_id (by omega) (by omega)]; omega
    have e2 : wrap64 (Int.tdiv (n : Int) 10) = ((n / 10 : Nat) : Int) := by
      rw [Int.tdiv_eq_ediv_of_nonneg (by omega), wrap64_id (by omega) (by omega)]; omega
    have step : solsticeref01_Text.L0 n d (strOfNums l) = solsticeref01_Text.L0 ((n / 10 : Nat) : Int) d (strOfNums ((48 + ((n % 10 : Nat) : Int)) :: l)) := by
      have hh : ((some (([(wrap64 (48 + (Int.tmod (n : Int) 10))) % 256] : List Int) : List Int)).bind fun y144 => (if (strOfNums y144).size + (strOfNums l).size ≤ 9223372036854775807 then (solsticeref01_Text.L0 (wrap64 (Int.tdiv (n : Int) 10)) d ((strOfNums y144) ++ (strOfNums l))) else (none))) = solsticeref01_Text.L0 ((n / 10 : Nat) : Int) d (strOfNums ((48 + ((n % 10 : Nat) : Int)) :: l)) := by
        rw [bind_some_, e1, e2, size_strOf, size_strOf, if_pos (by simp; omega), strOf_append]; rfl
      rw [solsticeref01_Text.L0_eq]
      by_cases h0 : (n : Int) > 0
      · rw [if_pos h0, hh]
      · have hle : l = [] := by
          rcases l with _ | ⟨c, l⟩
          · rfl
          · exact absurd (by omega : n = 0) (hz (by simp))
        subst hle
        rw [if_neg h0, if_pos (by rw [size_strOf]; rfl), hh]
    rw [step]
    by_cases h10 : n < 10
    · rw [show n / 10 = 0 by omega, digs_small h10, solsticeref01_Text.L0_eq, if_neg (by omega), if_neg (by rw [size_strOf]; simp; omega), show n % 10 = n by omega]
      rfl
    · obtain ⟨k', rfl⟩ : ∃ k', k = k' + 2 := ⟨k - 2, by
        rcases k with _ | _ | k
        · omega
        · omega
        · omega⟩
      rw [ih (n / 10) (by omega) _ (k' + 1) (by omega) (by rw [Nat.pow_succ] at hn; omega) (by omega) (by rw [List.length_cons]; omega) (fun _ => by omega), digs_big h10]
      simp
theorem ref_Text_eq (n d : Int) (hn : -9223372036854775808 ≤ n ∧ n ≤ 9223372036854775807) : solsticeref01_Text.F n d = some (strOfNums (txt n d)) := by
  unfold txt
  rw [solsticeref01_Text.F_eq]
  by_cases h : n < 0
  · rw [if_pos h, if_pos h]; rfl
  · rw [if_neg h, if_neg h]
    have hl := digs_len20 hn.2
    have key : ∀ d' : Int, d' ≤ 20 → solsticeref01_Text.J1 n d' = some (strOfNums (List.replicate (d'.toNat - (digs n.toNat).length) 48 ++ digs n.toNat)) := by
      intro d' hd'
      have e : n = ((n.toNat : Nat) : Int) := by omega
      rw [solsticeref01_Text.J1_eq]
      have := ref_Text_L0 d' hd' n.toNat [] 20 (by omega) (by
        have : (10 : Nat) ^ 20 = 100000000000000000000 := by decide
        omega) (by omega) (by simp) (fun h => absurd rfl h)
      rw [← e, strOf_nil, List.append_nil] at this
      rw [this, ref_Text_L1 d' hd' _ _ rfl (by omega)]
    unfold wide
    by_cases h1 : d < 0
    · rw [if_pos h1, solsticeref01_Text.J0_eq, if_pos rfl, key 0 (by omega), if_pos (Or.inl h1)]
      rfl
    · rw [if_neg h1, solsticeref01_Text.J0_eq]
      by_cases h2 : d > 20
      · rw [if_pos (decide_eq_true h2), key 0 (by omega), if_pos (Or.inr h2)]
        rfl
      · rw [if_neg (by simpa using h2), key d (by omega), if_neg (show ¬ (d < 0 ∨ d > 20) by omega)]
end Go.Proofs.YtlfohcjajmebjaaDoor.Base
