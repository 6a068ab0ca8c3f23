/- Two lists of texts are told to be the same just where they are. No condition but on their lengths. -/
import Derived.Test.YtmkknigneppneaaDoorStr
import Derived.Test.YtmkknigneppneaaDoorEFldx1
namespace Go.Proofs.YtmkknigneppneaaDoor.PFld
open Go.RowKit Go.Proofs.YtmkknigneppneaaDoorW.PrintWords Go.Proofs.YtmkknigneppneaaDoorW.PrintLast Go.Proofs.YtmkknigneppneaaDoor.Base
theorem texts_L0 (a b : List ByteArray) (hl : a.length = b.length) (hb : a.length ≤ 4611686018427387904) (d : Nat) : ∀ i : Int, 0 ≤ i → i + d = (a.length : Int) → solsticekeep_Texts.L0 a b i = some (decide (a.drop i.toNat = b.drop i.toNat)) := by
  induction d with
  | zero =>
    intro i h0 h1
    rw [solsticekeep_Texts.L0_eq, if_neg (by omega), drop_nil_ (by omega), drop_nil_ (by omega)]
    simp
  | succ d ih =>
    intro i h0 h1
    rw [solsticekeep_Texts.L0_eq, if_pos (by omega), if_pos h0, if_pos (by omega), wrap64_id (by omega) (by omega), drop_cons_ ByteArray.empty h0 (by omega), drop_cons_ ByteArray.empty (l := b) h0 (by omega)]
    by_cases h : rdOf ByteArray.empty a i = rdOf ByteArray.empty b i
    · rw [if_pos (by rw [h]), ih _ (by omega) (by omega), h]
      simp
    · rw [if_neg (fun h2 => h (toList_iff.1 h2)), decide_eq_false (by simp [h])]
theorem texts_F (a b : List ByteArray) (hb : b.length ≤ 4611686018427387904) : solsticekeep_Texts.F a b = some (decide (a = b)) := by
  rw [solsticekeep_Texts.F_eq]
  by_cases hl : (a.length : Int) = (b.length : Int)
  · rw [if_pos hl, texts_L0 a b (by omega) (by omega) a.length 0 (by omega) (by omega)]
    simp
  · rw [if_neg hl, decide_eq_false (fun h => hl (by rw [h]))]
end Go.Proofs.YtmkknigneppneaaDoor.PFld
