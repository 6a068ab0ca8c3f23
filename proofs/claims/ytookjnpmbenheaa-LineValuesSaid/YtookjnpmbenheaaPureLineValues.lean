/- The law LineValues over numbers and lists: for every text and whole number the law's printed function answers true. -/
import Derived.Test.YtookjnpmbenheaaLinC
import Derived.Test.YtookjnpmbenheaaELinx13
namespace Go.Proofs.Ytookjnpmbenheaa.Pure
open Go.RowKit Go.Proofs.Ytookjnpmbenheaa.PLin Go.Proofs.YtookjnpmbenheaaW.PrintWords Go.Proofs.YtookjnpmbenheaaW.PrintLast Go.Proofs.YtookjnpmbenheaaW.PrintMore Go.Proofs.Ytookjnpmbenheaa.Base
set_option linter.unusedVariables false
set_option linter.unusedSimpArgs false

theorem u64_mod_ (a : Int) (m : Int) (h : 0 < m) (hm : m ≤ 1000000000) : 0 ≤ wrap64 (Int.tmod (IntKind.u64.wrap a) m) ∧ wrap64 (Int.tmod (IntKind.u64.wrap a) m) < m := by
  have h2 : 0 ≤ IntKind.u64.wrap a := by unfold IntKind.wrap; simp [IntKind.signed, IntKind.bits]; omega
  have h3 := Int.emod_nonneg (IntKind.u64.wrap a) (show m ≠ 0 by omega)
  have h4 := Int.emod_lt_of_pos (IntKind.u64.wrap a) h
  rw [Int.tmod_eq_emod_of_nonneg h2, wrap64_id (by omega) (by omega)]
  exact ⟨h3, h4⟩
theorem val_parse {ps : List S54} {T : List Int} (h : PT ps T) (hp : ∀ p ∈ ps, prS p = true) (hT : Bytes T) (hl : T.length ≤ 100) (v : ByteArray) (hv : (bytesOf v).all clr = true) (hs : v.size ≤ 400) :
    line_Parse.F ((strOfNums (65 :: T) ++ (⟨#[58]⟩ : ByteArray)) ++ v) = some (strOfNums [65], ps, v, 0) := by
  have hz := bytesOf_length v
  have e58 : (⟨#[58]⟩ : ByteArray) = strOfNums [58] := rfl
  have h65 : Bytes [65] := Bytes.cons (by omega) (by omega) Bytes.nil
  have et : (strOfNums (65 :: T) ++ (⟨#[58]⟩ : ByteArray)) ++ v = strOfNums ([65] ++ (T ++ 58 :: bytesOf v)) := by
    conv => lhs; rw [← strOf_bytes v]
    rw [e58, strOf_append, strOf_append]
    simp
  have hb := prs_back (n := strOfNums [65]) (v := v) h (lnS_iff.2 ⟨by rw [bytes_strOf h65]; rfl, hv, hp⟩)
  rw [bytes_strOf h65] at hb
  rw [et, Parse_eq _ (by rw [size_strOf]; simp only [List.length_append, List.length_cons, List.length_nil]; omega), bytes_strOf (Bytes.app h65 (Bytes.app hT (Bytes.cons (by omega) (by omega) (bytes_of v)))), hb]
  rfl
theorem val_two (T : List Int) (v : ByteArray) : (strOfNums (65 :: T) ++ (⟨#[58, 58]⟩ : ByteArray)) ++ v = (strOfNums (65 :: T) ++ (⟨#[58]⟩ : ByteArray)) ++ ((⟨#[58]⟩ : ByteArray) ++ v) := by
  have e : (⟨#[58, 58]⟩ : ByteArray) = strOfNums [58] ++ strOfNums [58] := by rw [strOf_append]; rfl
  have e58 : (⟨#[58]⟩ : ByteArray) = strOfNums [58] := rfl
  conv => lhs; rw [← strOf_bytes v]
  conv => rhs; rw [← strOf_bytes v]
  rw [e, e58, strOf_append, strOf_append, strOf_append, strOf_append, strOf_append, strOf_append]
  simp
theorem heads_key (j : Int) (h0 : 0 ≤ j) (h1 : j < 4) : ∃ ps T, PT ps T ∧ (∀ p ∈ ps, prS p = true) ∧ Bytes T ∧ T.length ≤ 100 ∧ rdOf ByteArray.empty ([(⟨#[65]⟩ : ByteArray), (⟨#[65, 59, 66, 61, 99]⟩ : ByteArray), (⟨#[65, 59, 66, 61, 34, 120, 58, 121, 34]⟩ : ByteArray), (⟨#[65, 59, 66, 61, 34, 59, 44, 58, 34, 59, 67, 61, 44]⟩ : ByteArray)] : List ByteArray) j = strOfNums (65 :: T) ∧ (ps.length : Int) = rd ([0, 1, 1, 2] : List Int) j := by
  have hbt : ∀ T : List Int, T.all (fun x => decide (0 ≤ x) && decide (x ≤ 255)) = true → Bytes T := by
    intro T h x hx
    have := List.all_eq_true.1 h x hx
    simpa using this
  have q34 : ∀ (x : UInt8), Q (bytesOf (⟨#[x]⟩ : ByteArray)) (34 :: ([(x.toNat : Int)] ++ [34])) := fun x => Or.inl rfl
  have hc : j = 0 ∨ j = 1 ∨ j = 2 ∨ j = 3 := by omega
  clear h0 h1
  rcases hc with rfl | rfl | rfl | rfl
  · exact ⟨[], [], PT.nil, by simp, Bytes.nil, by simp, rfl, rfl⟩
  · refine ⟨[⟨⟨#[66]⟩, [⟨#[99]⟩]⟩], [59, 66, 61, 99], ?_, ?_, hbt _ (by decide), by simp, rfl, rfl⟩
    · exact PT.cons ⟨⟨#[66]⟩, [⟨#[99]⟩]⟩ [] [[99]] [] (QL.cons _ _ _ _ (Or.inr ⟨rfl, by decide⟩) QL.nil) PT.nil
    · intro p hp
      rw [List.mem_singleton.1 hp]
      decide
  · refine ⟨[⟨⟨#[66]⟩, [⟨#[120, 58, 121]⟩]⟩], [59, 66, 61, 34, 120, 58, 121, 34], ?_, ?_, hbt _ (by decide), by simp, rfl, rfl⟩
    · exact PT.cons ⟨⟨#[66]⟩, [⟨#[120, 58, 121]⟩]⟩ [] [[34, 120, 58, 121, 34]] [] (QL.cons _ _ _ _ (Or.inl rfl) QL.nil) PT.nil
    · intro p hp
      rw [List.mem_singleton.1 hp]
      decide
  · refine ⟨[⟨⟨#[66]⟩, [⟨#[59, 44, 58]⟩]⟩, ⟨⟨#[67]⟩, [⟨#[]⟩, ⟨#[]⟩]⟩], [59, 66, 61, 34, 59, 44, 58, 34, 59, 67, 61, 44], ?_, ?_, hbt _ (by decide), by simp, rfl, rfl⟩
    · exact PT.cons ⟨⟨#[66]⟩, [⟨#[59, 44, 58]⟩]⟩ [⟨⟨#[67]⟩, [⟨#[]⟩, ⟨#[]⟩]⟩] [[34, 59, 44, 58, 34]] [59, 67, 61, 44] (QL.cons _ _ _ _ (Or.inl rfl) QL.nil) (PT.cons ⟨⟨#[67]⟩, [⟨#[]⟩, ⟨#[]⟩]⟩ [] [[], []] [] (QL.cons _ _ _ _ (Or.inr ⟨rfl, by decide⟩) (QL.cons _ _ _ _ (Or.inr ⟨rfl, by decide⟩) QL.nil)) PT.nil)
    · intro p hp
      rcases List.mem_cons.1 hp with rfl | hp
      · decide
      · rw [List.mem_singleton.1 hp]
        decide
theorem val_L0 (v : ByteArray) (b : Int) (hs : v.size ≤ 300) : ∀ (d : Nat) (i : Int), d = v.size - i.toNat → 0 ≤ i → i ≤ (v.size : Int) → ((bytesOf v).take i.toNat).all clr = true →
    solsticelaw18_LineValues.L0 v b i = some true := by
  intro d
  induction d with
  | zero =>
    intro i hd h0 h1 hc
    rw [List.take_of_length_le (by rw [bytesOf_length]; omega)] at hc
    obtain ⟨j0, j1⟩ := u64_mod_ b 4 (by omega) (by omega)
    rw [solsticelaw18_LineValues.L0_eq, if_neg (by omega), bind_some_]
    generalize wrap64 (Int.tmod (IntKind.u64.wrap b) 4) = j at *
    obtain ⟨ps, T, k1, k2, k3, k4, k5, k6⟩ := heads_key j j0 j1
    have hz := bytesOf_length v
    have s0 : (strOfNums (65 :: T)).size = T.length + 1 := by rw [size_strOf, List.length_cons]
    have s1 : (strOfNums (65 :: T) ++ (⟨#[58]⟩ : ByteArray)).size = T.length + 2 := by rw [ByteArray.size_append, s0]; rfl
    have s2 : (strOfNums (65 :: T) ++ (⟨#[58, 58]⟩ : ByteArray)).size = T.length + 3 := by rw [ByteArray.size_append, s0]; rfl
    have s3 : ((⟨#[58]⟩ : ByteArray) ++ v).size = 1 + v.size := by rw [ByteArray.size_append]; rfl
    have c2 : (bytesOf ((⟨#[58]⟩ : ByteArray) ++ v)).all clr = true := by
      rw [bytes_append, List.all_append, hc]
      rfl
    have e65 : (strOfNums [65]).toList = ([65] : List UInt8) := by rw [ByteArray.toList_eq]; rfl
    have p1 := val_parse k1 k2 k3 k4 v hc (by omega)
    have p2 := val_parse k1 k2 k3 k4 ((⟨#[58]⟩ : ByteArray) ++ v) c2 (by omega)
    rw [← val_two] at p2
    rw [k5, if_pos j0, if_pos (by simp only [List.length_cons, List.length_nil]; omega), if_pos (by omega), if_pos (by omega), p1, bind_some_, if_pos (by omega), if_pos (by omega), p2, bind_some_]
    dsimp only
    rw [if_pos rfl, if_pos rfl, if_pos e65, bind_some_, if_pos (by simp only [List.length_cons, List.length_nil]; omega), if_pos k6, if_pos rfl, if_pos (by omega), if_pos rfl, wakes18, bind_some_]
  | succ d ih =>
    intro i hd h0 h1 hc
    have hlt : i < (v.size : Int) := by omega
    have hr := rest_cons h0 hlt
    unfold rest at hr
    have hl : i.toNat < (bytesOf v).length := by rw [bytesOf_length]; omega
    rw [List.drop_eq_getElem_cons hl] at hr
    simp only [List.cons.injEq] at hr
    have ht : (bytesOf v).take (i + 1).toNat = (bytesOf v).take i.toNat ++ [bt v i] := by
      rw [show (i + 1).toNat = i.toNat + 1 by omega, List.take_add_one, List.getElem?_eq_getElem hl, hr.1]
      rfl
    have next : clr (bt v i) = true → solsticelaw18_LineValues.L0 v b (i + 1) = some true := by
      intro h
      refine ih (i + 1) (by omega) (by omega) (by omega) ?_
      rw [ht, List.all_append, hc, List.all_cons, h]
      rfl
    rw [solsticelaw18_LineValues.L0_eq, if_pos hlt, if_pos h0, wrap64_id (n := i + 1) (by omega) (by omega)]
    generalize bt v i = c at *
    by_cases hcl : clr c = true
    · have hn := next hcl
      have hc' := (clr_iff c).1 hcl
      repeat' split
      all_goals first | exact hn | rfl
    · have hc' : ¬ ((32 ≤ c ∧ c ≠ 127) ∨ c = 9) := fun h => hcl ((clr_iff c).2 h)
      repeat' split
      all_goals first | rfl | (exfalso; omega)
theorem LineValues : solsticelaw18_LineValues.Pure := by
  intro v b _ _
  suffices h : solsticelaw18_LineValues.F v b = some true from lim_some h
  rw [solsticelaw18_LineValues.F_eq]
  by_cases h : (v.size : Int) > 300
  · rw [if_pos h]
  · rw [if_neg h]
    exact val_L0 v b (by omega) _ 0 rfl (by omega) (by omega) (by simp)
end Go.Proofs.Ytookjnpmbenheaa.Pure
