/- What the printed num.Text computes. No condition. -/
import Derived.Test.YtlfohcjajmebjaaDoorNumT
import Derived.Test.YtlfohcjajmebjaaDoorPClkx3
namespace Go.Proofs.YtlfohcjajmebjaaDoor.Base
open Go.RowKit Go.Proofs.YtlfohcjajmebjaaDoor.PClk Go.Proofs.YtlfohcjajmebjaaDoorW.PrintWords Go.Proofs.YtlfohcjajmebjaaDoorW.PrintLast Go.Proofs.YtlfohcjajmebjaaDoorW.PrintMore
set_option linter.unusedVariables false
set_option linter.unusedSimpArgs false
theorem num_Text_eq (n d : Int) (hn : -9223372036854775808 ≤ n ∧ n ≤ 9223372036854775807) (_hd : -9223372036854775808 ≤ d ∧ d ≤ 9223372036854775807) : num_Text.f n d = some (strOfNums (txt n d)) := by
  unfold num_Text.f txt
  by_cases h : n < 0
  · rw [if_pos h, if_pos h]; rfl
  · rw [if_neg h, if_neg h]
    unfold strconv_Itoa.f
    rw [if_pos hn, bind_some_, itoa_eq n (by omega), size_strOf]
    have hl := digs_len20 hn.2
    have hw : wide d = if d < 0 ∨ d > 20 then 0 else d.toNat := rfl
    have hs20 : (strOfNums (digs n.toNat)).size ≤ 20 := by rw [size_strOf]; exact hl
    by_cases h1 : d < 0
    · rw [if_pos h1, hw, if_pos (Or.inl h1)]
      simp
    · rw [if_neg h1]
      by_cases h2 : d > 20
      · rw [if_pos h2, hw, if_pos (Or.inr h2)]
        simp
      · rw [if_neg h2, hw, if_neg (show ¬ (d < 0 ∨ d > 20) by omega)]
        by_cases h3 : d ≤ ((digs n.toNat).length : Int)
        · rw [if_pos h3, show d.toNat - (digs n.toNat).length = 0 by omega]
          rfl
        · rw [if_neg h3, wrap64_id (by omega) (by omega)]
          unfold strings_Repeat.f
          have e : (d - ((digs n.toNat).length : Int)).toNat = d.toNat - (digs n.toNat).length := by omega
          rw [e, if_pos ⟨by omega, by omega, by have : (⟨#[48]⟩ : ByteArray).size = 1 := rfl; rw [this]; omega⟩, bind_some_, rep_eq, size_strOf, if_pos (by rw [List.length_replicate]; omega), strOf_append]
end Go.Proofs.YtlfohcjajmebjaaDoor.Base
