/- An offset's text: what the printed functions of value read and write; what is written is read. No condition. -/
import Derived.Test.YtligbecmbefclaaDoorValU
import Derived.Test.YtligbecmbefclaaDoorEVexx7
import Derived.Test.YtligbecmbefclaaDoorEVexx8
namespace Go.Proofs.YtligbecmbefclaaDoor.Base
open Go.RowKit Go.Proofs.YtligbecmbefclaaDoor.PVex Go.Proofs.YtligbecmbefclaaDoorW.PrintWords Go.Proofs.YtligbecmbefclaaDoorW.PrintLast Go.Proofs.YtligbecmbefclaaDoorW.PrintMore
set_option linter.unusedVariables false
set_option linter.unusedSimpArgs false
def otxN (n : Int) : List Int := txt (n / 3600) 2 ++ (txt (n % 3600 / 60) 2 ++ (if n % 60 = 0 then [] else txt (n % 60) 2))
def otx (o : Int) : List Int := (if o < 0 then 45 else 43) :: otxN (ab o)
theorem otx_bytes (o : Int) : Bytes (otx o) := by
  unfold otx otxN
  refine Bytes.cons (by split <;> omega) (by split <;> omega) (Bytes.app (txt_bytes _ _) (Bytes.app (txt_bytes _ _) ?_))
  split
  · exact Bytes.nil
  · exact txt_bytes _ _
theorem Offset_J1 (n c : Int) (h : 0 ≤ n ∧ n < 86400) : value_Offset.J1 n (strOfNums [c]) = some (strOfNums (c :: otxN n), 0) := by
  have lh := (two_dig (n := n / 3600) (by omega)).2.2
  have li := (two_dig (n := n % 3600 / 60) (by omega)).2.2
  have ls := (two_dig (n := n % 60) (by omega)).2.2
  rw [value_Offset.J1_eq, Int.tmod_eq_emod_of_nonneg h.1, Int.tdiv_eq_ediv_of_nonneg h.1, Int.tdiv_eq_ediv_of_nonneg (by omega), wrap64_id (n := n / 3600) (by omega) (by omega), wrap64_id (n := n % 3600 / 60) (by omega) (by omega), Int.tmod_eq_emod_of_nonneg h.1]
  rw [txt_str (n := n / 3600) (by omega) (by omega), bind_some_, txt_str (n := n % 3600 / 60) (by omega) (by omega), bind_some_, txt_str (n := n % 60) (by omega) (by omega), bind_some_]
  simp only [strOf_append, size_strOf, List.length_append, lh, li, ls, List.length_singleton]
  unfold otxN
  rw [if_pos (by omega), if_pos (by omega)]
  by_cases h0 : n % 60 = 0
  · rw [if_pos h0, if_pos h0, List.append_nil]; simp only [List.append_assoc]; rfl
  · rw [if_neg h0, if_neg h0, if_pos (by omega)]; simp only [List.append_assoc]; rfl
theorem Offset_eq (o : Int) (ho : -9223372036854775808 ≤ o ∧ o ≤ 9223372036854775807) : value_Offset.F o = some (if -86400 < o ∧ o < 86400 then (strOfNums (otx o), 0) else ((⟨#[]⟩ : ByteArray), 19)) := by
  rw [value_Offset.F_eq, value_Offset.J0_eq, value_Offset.J0_eq]
  by_cases h1 : o ≤ -86400
  · rw [if_pos h1, if_pos rfl, if_neg (by omega)]
  · rw [if_neg h1]
    by_cases h2 : o ≥ 86400
    · rw [decide_eq_true h2, if_pos rfl, if_neg (by omega)]
    · rw [decide_eq_false h2, if_neg (by simp), if_pos (show -86400 < o ∧ o < 86400 by omega)]
      unfold otx ab
      have s1 : ((⟨#[45]⟩ : ByteArray)) = strOfNums [45] := rfl
      have s2 : ((⟨#[43]⟩ : ByteArray)) = strOfNums [43] := rfl
      by_cases h3 : o < 0
      · rw [if_pos h3, if_pos h3, if_pos h3, wrap64_id (by omega) (by omega), s1, Offset_J1 _ _ (by omega)]
      · rw [if_neg h3, if_neg h3, if_neg h3, s2, Offset_J1 _ _ (by omega)]
-- read
def poN (r : List Int) : Option (Int × Int × Int) := match nums [2, 2] r with
  | some [h, i] => some (h, i, 0)
  | _ => match nums [2, 2, 2] r with
    | some [h, i, s] => some (h, i, s)
    | _ => none
def okO (c h i s : Int) : Prop := i < 60 ∧ s < 60 ∧ h * 3600 + i * 60 + s < 86400 ∧ ¬ (h * 3600 + i * 60 + s = 0 ∧ c = 45)
instance (c h i s : Int) : Decidable (okO c h i s) := inferInstanceAs (Decidable (_ ∧ _))
def poV (c : Int) : Option (Int × Int × Int) → Option Int
  | some (h, i, s) => if okO c h i s then some (if c = 45 then -(h * 3600 + i * 60 + s) else h * 3600 + i * 60 + s) else none
  | none => none
def poS : List Int → Option Int
  | [] => none
  | c :: r => if c = 43 ∨ c = 45 then poV c (poN r) else none
def encO : Option Int → Int × Int
  | some n => (n, 0)
  | none => (0, 19)
theorem two_in {l v : List Int} (h : nums [2, 2] l = some v) : ∃ a b, v = [a, b] ∧ 0 ≤ a ∧ a < 100 ∧ 0 ≤ b ∧ b < 100 := by
  obtain ⟨v1, rfl, z1, a1, h⟩ := nums_cons h
  obtain ⟨v2, rfl, z2, a2, h⟩ := nums_cons h
  obtain ⟨rfl, _⟩ := nums_nil h
  have b1 := val_in z1 a1
  have b2 := val_in z2 a2
  have p2 : (10 : Int) ^ (2 : Int).toNat = 100 := by decide
  rw [p2] at b1 b2
  exact ⟨_, _, rfl, b1.1, b1.2, b2.1, b2.2⟩
theorem three_in {l v : List Int} (h : nums [2, 2, 2] l = some v) : ∃ a b c, v = [a, b, c] ∧ 0 ≤ a ∧ a < 100 ∧ 0 ≤ b ∧ b < 100 ∧ 0 ≤ c ∧ c < 100 := by
  obtain ⟨v1, rfl, z1, a1, h⟩ := nums_cons h
  obtain ⟨v2, rfl, z2, a2, h⟩ := nums_cons h
  obtain ⟨v3, rfl, z3, a3, h⟩ := nums_cons h
  obtain ⟨rfl, _⟩ := nums_nil h
  have b1 := val_in z1 a1
  have b2 := val_in z2 a2
  have b3 := val_in z3 a3
  have p2 : (10 : Int) ^ (2 : Int).toNat = 100 := by decide
  rw [p2] at b1 b2 b3
  exact ⟨_, _, _, rfl, b1.1, b1.2, b2.1, b2.2, b3.1, b3.2⟩
theorem off_J2t (x : ByteArray) (n : Int) : value_ParseOffset.J2 x n true = some (0, 19) := by rw [value_ParseOffset.J2_eq, if_pos rfl]
theorem off_J1 (x : ByteArray) (c : Int) (hx : 0 < (x.size : Int)) (hc : bt x 0 = c) (l : List Int) (h i s : Int) (hl : l.length ≤ 3) (h3 : 2 < ((l ++ [0]).length : Int)) (e0 : rd (l ++ [0]) 0 = h) (e1 : rd (l ++ [0]) 1 = i) (e2 : rd (l ++ [0]) 2 = s)
    (hb : 0 ≤ h ∧ h < 100 ∧ 0 ≤ i ∧ i < 100 ∧ 0 ≤ s ∧ s < 100) : value_ParseOffset.J1 x l true = some (encO (poV c (some (h, i, s)))) := by
  rw [value_ParseOffset.J1_eq, if_pos rfl, if_pos (by omega), bind_some_, if_pos (by omega), if_pos (by omega), if_pos h3, e0, e1, e2]
  rw [wrap64_id (n := h * 3600) (by omega) (by omega), wrap64_id (n := i * 60) (by omega) (by omega), wrap64_id (n := h * 3600 + i * 60) (by omega) (by omega), wrap64_id (n := h * 3600 + i * 60 + s) (by omega) (by omega)]
  unfold poV
  dsimp only
  by_cases h4 : i ≥ 60
  · rw [if_pos h4, off_J2t, if_neg (fun k : okO c h i s => by have := k.1; omega)]; rfl
  · rw [if_neg h4]
    by_cases h5 : s ≥ 60
    · rw [if_pos h5, off_J2t, if_neg (fun k : okO c h i s => by have := k.2.1; omega)]; rfl
    · rw [if_neg h5]
      by_cases h6 : h * 3600 + i * 60 + s ≥ 86400
      · rw [if_pos h6, off_J2t, if_neg (fun k : okO c h i s => by have := k.2.2.1; omega)]; rfl
      · rw [if_neg h6]
        by_cases h7 : h * 3600 + i * 60 + s = 0
        · rw [if_pos h7, if_pos hx, hc]
          by_cases h8 : c = 45
          · rw [beq_iff_eq.2 h8, off_J2t, if_neg (fun k : okO c h i s => k.2.2.2 ⟨h7, h8⟩)]; rfl
          · rw [beq_eq_false_iff_ne.2 h8, value_ParseOffset.J2_eq, if_neg (by simp), if_pos hx, hc, if_neg h8, if_pos (show okO c h i s from ⟨by omega, by omega, by omega, fun k => h8 k.2⟩), if_neg h8]; rfl
        · rw [if_neg h7, value_ParseOffset.J2_eq, if_neg (by simp), if_pos hx, hc, if_pos (show okO c h i s from ⟨by omega, by omega, by omega, fun k => h7 k.1⟩)]
          by_cases h8 : c = 45
          · rw [if_pos h8, if_pos h8, wrap64_id (by omega) (by omega)]; rfl
          · rw [if_neg h8, if_neg h8]; rfl
theorem off_J0t (x : ByteArray) : value_ParseOffset.J0 x true = some (0, 19) := by rw [value_ParseOffset.J0_eq, if_pos rfl]
theorem off_J0 (x : ByteArray) (c : Int) (r : List Int) (e : bytesOf x = c :: r) (hx : 0 < (x.size : Int)) (hc : bt x 0 = c) : value_ParseOffset.J0 x false = some (encO (poV c (poN r))) := by
  have e1 : bytesOf (x.extract 1 x.size) = r := by rw [extract_all, e]; rfl
  obtain ⟨q0, q1⟩ := numbers_eq (x.extract 1 x.size) [2, 2] (by simp) (by simp)
  obtain ⟨p0, p1⟩ := numbers_eq (x.extract 1 x.size) [2, 2, 2] (by simp) (by simp)
  rw [e1] at q0 q1 p0 p1
  rw [value_ParseOffset.J0_eq, if_neg (by simp), if_pos (by omega)]
  unfold poN
  cases hn : nums [2, 2] r with
  | some v =>
    rw [q0 v hn, bind_some_]
    obtain ⟨a, b, rfl, hb⟩ := two_in hn
    dsimp only
    rw [if_pos rfl]
    exact off_J1 x c hx hc [a, b] a b 0 (by simp) (by simp) rfl rfl rfl ⟨hb.1, hb.2.1, hb.2.2.1, hb.2.2.2, by omega, by omega⟩
  | none =>
    obtain ⟨l, hl⟩ := q1 hn
    rw [hl, bind_some_, if_neg (by simp)]
    dsimp only
    cases hm : nums [2, 2, 2] r with
    | some v =>
      rw [p0 v hm, bind_some_]
      obtain ⟨a, b, d, rfl, hb⟩ := three_in hm
      exact off_J1 x c hx hc [a, b, d] a b d (by simp) (by simp) rfl rfl rfl hb
    | none =>
      obtain ⟨l, hl⟩ := p1 hm
      rw [hl, bind_some_, value_ParseOffset.J1_eq, if_neg (by simp)]
      rfl
theorem ParseOffset_eq (x : ByteArray) : value_ParseOffset.F x = some (encO (poS (bytesOf x))) := by
  rw [value_ParseOffset.F_eq]
  have e0 : ([] : List UInt8) = (⟨#[]⟩ : ByteArray).toList := by rw [ByteArray.toList_eq]
  have hz := size_len x
  cases hl : bytesOf x with
  | nil =>
    rw [if_pos (by rw [e0, toList_iff]; exact bytes_inj (by rw [hl]; rfl)), off_J0t]
    rfl
  | cons c r =>
    rw [hl, List.length_cons] at hz
    have hx : 0 < (x.size : Int) := by omega
    have hc : bt x 0 = c := by
      have := rest_cons (s := x) (i := 0) (by omega) hx
      rw [rest_zero, hl] at this
      injection this with h1
      exact h1.symm
    rw [if_neg (by rw [e0, toList_iff]; intro h; rw [h] at hx; exact absurd hx (by decide)), if_pos hx, hc]
    unfold poS
    dsimp only
    by_cases h1 : c = 43
    · rw [if_pos h1, if_pos (Or.inl h1), off_J0 x c r hl hx hc]
    · rw [if_neg h1]
      by_cases h2 : c = 45
      · rw [bne_eq_false_iff_eq.2 h2, if_pos (Or.inr h2), off_J0 x c r hl hx hc]
      · rw [bne_iff_ne.2 h2, if_neg (by omega), off_J0t]
        rfl
theorem poS_otx (o : Int) (ho : -86400 < o ∧ o < 86400) : poS (otx o) = some o := by
  have hab : 0 ≤ ab o ∧ ab o < 86400 ∧ (o < 0 → ab o = -o) ∧ (¬ o < 0 → ab o = o) := by unfold ab; split <;> omega
  have eh := two_dig (n := ab o / 3600) (by omega)
  have ei := two_dig (n := ab o % 3600 / 60) (by omega)
  have es := two_dig (n := ab o % 60) (by omega)
  have hN : poN (otxN (ab o)) = some (ab o / 3600, ab o % 3600 / 60, ab o % 60) := by
    unfold poN otxN
    by_cases h0 : ab o % 60 = 0
    · rw [if_pos h0, nums_put (by omega) (by omega) eh.1, nums_put (by omega) (by omega) ei.1, eh.2.1, ei.2.1, h0]
      rfl
    · rw [if_neg h0]
      have hn : nums [2, 2] (txt (ab o / 3600) 2 ++ (txt (ab o % 3600 / 60) 2 ++ txt (ab o % 60) 2)) = none := by
        rw [nums_put (by omega) (by omega) eh.1, nums_put (by omega) (by omega) ei.1, txt2 (n := ab o % 60) (by omega)]
        rfl
      have hm : nums [2, 2, 2] (txt (ab o / 3600) 2 ++ (txt (ab o % 3600 / 60) 2 ++ txt (ab o % 60) 2)) = some [ab o / 3600, ab o % 3600 / 60, ab o % 60] := by
        have e0 : txt (ab o % 60) 2 = txt (ab o % 60) 2 ++ [] := by rw [List.append_nil]
        rw [e0, nums_put (by omega) (by omega) eh.1, nums_put (by omega) (by omega) ei.1, nums_put (by omega) (by omega) es.1, eh.2.1, ei.2.1, es.2.1]
        rfl
      rw [hn, hm]
  unfold otx poS
  dsimp only
  rw [hN]
  unfold poV
  dsimp only
  by_cases h : o < 0
  · rw [if_pos h, if_pos (Or.inr rfl), if_pos (show okO 45 (ab o / 3600) (ab o % 3600 / 60) (ab o % 60) from ⟨by omega, by omega, by omega, by omega⟩), if_pos rfl]
    congr 1
    omega
  · rw [if_neg h, if_pos (Or.inl rfl), if_pos (show okO 43 (ab o / 3600) (ab o % 3600 / 60) (ab o % 60) from ⟨by omega, by omega, by omega, by omega⟩), if_neg (by omega)]
    congr 1
    omega
end Go.Proofs.YtligbecmbefclaaDoor.Base
