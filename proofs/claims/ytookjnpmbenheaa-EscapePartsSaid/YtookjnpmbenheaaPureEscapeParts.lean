/- The law EscapeParts over numbers and lists: for all texts (each of at most 140737488351232 bytes, as every string of the model is) the law's printed function answers true. -/
import Derived.Test.YtookjnpmbenheaaEscA
import Derived.Test.YtookjnpmbenheaaEEscx3
namespace Go.Proofs.Ytookjnpmbenheaa.Pure
open Go.RowKit Go.Proofs.Ytookjnpmbenheaa.PEsc Go.Proofs.YtookjnpmbenheaaW.PrintWords Go.Proofs.YtookjnpmbenheaaW.PrintLast Go.Proofs.Ytookjnpmbenheaa.Base

theorem parts_wakes : solsticelaw17_wakes.F = some true := by
  have h : solsticelaw17_wakes.f 40 = some true := by decide +kernel
  exact lim_of solsticelaw17_wakes.isF.mono h
/-- No comma, semicolon or line end that no slash stands ahead of. -/
def shut : List Int → Prop
  | [] => True
  | [c] => c ≠ 44 ∧ c ≠ 59 ∧ c ≠ 10
  | c :: d :: t => if c = 92 then shut t else (c ≠ 44 ∧ c ≠ 59 ∧ c ≠ 10) ∧ shut (d :: t)
theorem shut_one {c : Int} {t : List Int} (h : c ≠ 92) (h1 : c ≠ 44) (h2 : c ≠ 59) (h3 : c ≠ 10) (ht : shut t) : shut (c :: t) := by
  cases t with
  | nil => exact ⟨h1, h2, h3⟩
  | cons d t => rw [shut, if_neg h]; exact ⟨⟨h1, h2, h3⟩, ht⟩
theorem shut_put : ∀ {l r : List Int}, put l = some r → shut r
  | [], r, h => by cases h; trivial
  | c :: t, r, h => by
    unfold put at h
    split at h
    · obtain ⟨q, hq, rfl⟩ := Option.map_eq_some_iff.1 h
      show shut (92 :: 110 :: q)
      rw [shut, if_pos rfl]
      exact shut_put hq
    · rename_i h10
      split at h
      · rename_i hp
        split at h
        · obtain ⟨q, hq, rfl⟩ := Option.map_eq_some_iff.1 h
          show shut (92 :: c :: q)
          rw [shut, if_pos rfl]
          exact shut_put hq
        · rename_i hm
          obtain ⟨q, hq, rfl⟩ := Option.map_eq_some_iff.1 h
          unfold sign at hm
          exact shut_one (by omega) (by omega) (by omega) (by omega) (shut_put hq)
      · cases h
theorem parts_L0 (x y z : ByteArray) (hz : z.size < 140737488355328) (hxy : x.size + y.size ≤ 9223372036854775807) (he : z = x ++ y) (d : Nat) : ∀ (i : Int), 0 ≤ i → (z.size : Int) - i ≤ d → shut (rest z i) →
    solsticelaw17_EscapeParts.L0 x y z 0 i = some true := by
  induction d with
  | zero =>
    intro i h0 h1 hs
    rw [solsticelaw17_EscapeParts.L0_eq, if_neg (by omega), if_pos rfl, if_pos hxy, if_pos (by rw [he]), parts_wakes]
    rfl
  | succ d ih =>
    intro i h0 h1 hs
    by_cases hlt : i < (z.size : Int)
    · have hw : wrap64 (i + 1) = i + 1 := wrap64_id (by omega) (by omega)
      have hw2 : wrap64 (i + 1 + 1) = i + 1 + 1 := wrap64_id (by omega) (by omega)
      rw [solsticelaw17_EscapeParts.L0_eq, if_pos hlt, if_pos h0, hw, hw2]
      rw [rest_cons h0 hlt] at hs
      by_cases h92 : bt z i = 92
      · rw [if_pos h92]
        refine ih _ (by omega) (by omega) ?_
        by_cases h2 : i + 1 < (z.size : Int)
        · rw [rest_cons (by omega) h2, shut, if_pos h92] at hs
          exact hs
        · rw [rest_nil (by omega)]
          trivial
      · rw [if_neg h92]
        have hs' : (bt z i ≠ 44 ∧ bt z i ≠ 59 ∧ bt z i ≠ 10) ∧ shut (rest z (i + 1)) := by
          by_cases h2 : i + 1 < (z.size : Int)
          · rw [rest_cons (by omega) h2, shut, if_neg h92] at hs
            rw [rest_cons (by omega) h2]
            exact hs
          · rw [rest_nil (by omega)] at hs ⊢
            exact ⟨hs, trivial⟩
        rw [if_neg hs'.1.1, if_neg hs'.1.2.1, if_neg hs'.1.2.2]
        exact ih _ (by omega) (by omega) hs'.2
    · rw [solsticelaw17_EscapeParts.L0_eq, if_neg hlt, if_pos rfl, if_pos hxy, if_pos (by rw [he]), parts_wakes]
      rfl

theorem EscapeParts : solsticelaw17_EscapeParts.Pure := by
  intro a b ha hb
  suffices h : solsticelaw17_EscapeParts.F a b = some true from lim_some h
  rw [solsticelaw17_EscapeParts.F_eq]
  by_cases h1 : (a.size : Int) > 1000
  · rw [if_pos h1, solsticelaw17_EscapeParts.J0_eq, if_pos rfl]
  · rw [if_neg h1, solsticelaw17_EscapeParts.J0_eq]
    by_cases h2 : (b.size : Int) > 1000
    · rw [if_pos (by simpa using h2)]
    · rw [if_neg (by simpa using h2), put_F a (by omega), put_F b (by omega)]
      simp only [bind_some_]
      have hz : (a ++ b).size = a.size + b.size := ByteArray.size_append
      rw [if_pos (by omega), put_F (a ++ b) (by omega), bytes_append, put_append]
      simp only [bind_some_]
      cases hx : put (bytesOf a) with
      | none =>
        rw [told_none, Option.bind_none, told_none]
        rw [if_neg (by decide), solsticelaw17_EscapeParts.J1_eq, if_pos rfl, if_pos rfl, if_pos (by decide +kernel), parts_wakes]
        rfl
      | some x =>
        cases hy : put (bytesOf b) with
        | none =>
          rw [told_none, told_some, Option.bind_some, Option.map_none, told_none]
          rw [if_pos rfl, solsticelaw17_EscapeParts.J1_eq, if_pos (by decide), if_pos rfl, if_pos (by decide +kernel), parts_wakes]
          rfl
        | some y =>
          rw [Option.bind_some, Option.map_some, told_some, told_some, told_some, List.nil_append, List.nil_append, List.nil_append]
          rw [if_pos rfl, solsticelaw17_EscapeParts.J1_eq, if_neg (show ¬ (((0 : Int) != 0) = true) by decide)]
          have lx := put_length hx
          have ly := put_length hy
          rw [bytesOf_length] at lx ly
          have hxy : put (bytesOf a ++ bytesOf b) = some (x ++ y) := by rw [put_append, hx, hy]; rfl
          refine parts_L0 (strOfNums x) (strOfNums y) (strOfNums (x ++ y)) ?_ ?_ strOf_append.symm (x ++ y).length 0 (by omega) ?_ ?_
          · rw [size_strOf, List.length_append]; omega
          · rw [size_strOf, size_strOf]; omega
          · rw [size_strOf]; omega
          · rw [rest_zero, bytes_strOf (Bytes.app (put_bytes (bytes_of a) hx) (put_bytes (bytes_of b) hy))]
            exact shut_put hxy
end Go.Proofs.Ytookjnpmbenheaa.Pure
