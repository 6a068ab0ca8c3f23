/- What is not told to be more than is played is small. No condition. -/
import Derived.Test.YtmkknigneppneaaDoorStr
import Derived.Test.YtmkknigneppneaaDoorEFldx4
namespace Go.Proofs.YtmkknigneppneaaDoor.PFld
open Go.RowKit Go.Proofs.YtmkknigneppneaaDoorW.PrintWords Go.Proofs.YtmkknigneppneaaDoorW.PrintLast Go.Proofs.YtmkknigneppneaaDoor.Base
theorem heavy_L0 (l : List ByteArray) (hl : l.length ≤ 60) (d : Nat) : ∀ i : Int, 0 ≤ i → i + d = (l.length : Int) → ∃ b, solsticelaw05_Heavy.L0 l i = some b ∧ (b = false → ∀ x ∈ l.drop i.toNat, x.size ≤ 800) := by
  induction d with
  | zero =>
    intro i h0 h1
    refine ⟨false, by rw [solsticelaw05_Heavy.L0_eq, if_neg (by omega)], fun _ x hx => ?_⟩
    rw [drop_nil_ (by omega)] at hx
    cases hx
  | succ d ih =>
    intro i h0 h1
    obtain ⟨b, hb, hs⟩ := ih (i + 1) (by omega) (by omega)
    rw [solsticelaw05_Heavy.L0_eq, if_pos (by omega), if_pos h0, wrap64_id (by omega) (by omega), drop_cons_ ByteArray.empty h0 (by omega)]
    by_cases h : ((rdOf ByteArray.empty l i).size : Int) > 800
    · exact ⟨true, by rw [if_pos h], fun h => by cases h⟩
    · refine ⟨b, by rw [if_neg h]; exact hb, fun hf x hx => ?_⟩
      rcases List.mem_cons.1 hx with rfl | hx
      · omega
      · exact hs hf x hx
theorem heavy_F (l : List ByteArray) : ∃ b, solsticelaw05_Heavy.F l = some b ∧ (b = false → l.length ≤ 60 ∧ ∀ x ∈ l, x.size ≤ 800) := by
  rw [solsticelaw05_Heavy.F_eq]
  by_cases h : (l.length : Int) > 60
  · exact ⟨true, by rw [if_pos h], fun h => by cases h⟩
  · obtain ⟨b, hb, hs⟩ := heavy_L0 l (by omega) l.length 0 (by omega) (by omega)
    exact ⟨b, by rw [if_neg h]; exact hb, fun hf => ⟨by omega, hs hf⟩⟩
end Go.Proofs.YtmkknigneppneaaDoor.PFld
