/- Offsets' short texts and right names: what the printed functions compute. No condition. -/
import Derived.Test.YtookjnpmbenheaaDoorFmtNumX
import Derived.Test.YtookjnpmbenheaaDoorFmtRefT
import Derived.Test.YtookjnpmbenheaaDoorEFmtx1
import Derived.Test.YtookjnpmbenheaaDoorEFmtx3
import Derived.Test.YtookjnpmbenheaaDoorEFmtx7
import Derived.Test.YtookjnpmbenheaaDoorEFmtx4
namespace Go.Proofs.YtookjnpmbenheaaDoor.Base
open Go.RowKit Go.Proofs.YtookjnpmbenheaaDoor.PFmt Go.Proofs.YtookjnpmbenheaaDoorW.PrintWords Go.Proofs.YtookjnpmbenheaaDoorW.PrintLast Go.Proofs.YtookjnpmbenheaaDoorW.PrintMore
set_option linter.unusedVariables false
set_option linter.unusedSimpArgs false

theorem txt_len {n d : Int} (h1 : n ≤ 9223372036854775807) : (txt n d).length ≤ 20 := by
  unfold txt wide
  split
  · simp
  · have := digs_len20 h1
    rw [List.length_append, List.length_replicate]
    split
    · omega
    · omega
theorem txt_dig_ {n d : Int} (h : 0 ≤ n) : (txt n d).all isDig = true := by
  unfold txt
  rw [if_neg (by omega), List.all_append, digs_dig, Bool.and_true]
  rw [List.all_eq_true]
  intro x hx
  obtain ⟨_, rfl⟩ := List.mem_replicate.1 hx
  decide
theorem txt_val_ {n d : Int} (h : 0 ≤ n) : val 0 (txt n d) = n := by
  unfold txt
  rw [if_neg (by omega), val_append, val_zeros, digs_val]
  omega
theorem txt_two {n : Int} (h : 0 ≤ n) (h1 : n < 100) : (txt n 2).length = 2 := by
  unfold txt wide
  have := digs_pos n.toNat
  have := digs_len n.toNat 2 (by omega) (by
    have : (10 : Nat) ^ 2 = 100 := by decide
    omega)
  rw [if_neg (by omega), if_neg (by omega), List.length_append, List.length_replicate]
  omega
/-- Behind the sign. -/
def stail (m : Int) : List Int := txt (m / 3600) 2 ++ ((if m % 3600 = 0 then [] else txt (m % 3600 / 60) 2) ++ (if m % 60 = 0 then [] else txt (m % 60) 2))
def stxt (n : Int) : List Int := if n < 0 then 45 :: stail (-n) else 43 :: stail n
def Off (n : Int) : Prop := -172800 < n ∧ n < 172800
instance (n : Int) : Decidable (Off n) := inferInstanceAs (Decidable (_ ∧ _))
theorem below_eq (n : Int) : format_below.f n = some (decide (Off n)) := by
  unfold format_below.f
  by_cases h : n > -172800
  · rw [if_pos h]
    congr 1
    rw [decide_eq_decide]
    exact ⟨fun h' => ⟨h, h'⟩, fun h' => h'.2⟩
  · rw [if_neg h]
    congr 1
    exact (decide_eq_false (fun h' => h h'.1)).symm
theorem stail_bytes (m : Int) : Bytes (stail m) := by
  unfold stail
  refine Bytes.app (txt_bytes _ _) (Bytes.app ?_ ?_)
  · split
    · exact Bytes.nil
    · exact txt_bytes _ _
  · split
    · exact Bytes.nil
    · exact txt_bytes _ _
theorem stxt_bytes (n : Int) : Bytes (stxt n) := by
  unfold stxt
  split
  · exact Bytes.cons (by omega) (by omega) (stail_bytes _)
  · exact Bytes.cons (by omega) (by omega) (stail_bytes _)
theorem short_J0 (m : Int) (sg : List Int) (h : 0 ≤ m ∧ m < 172800) (hs : sg.length ≤ 1) : format_Short.J0 m (strOfNums sg) = some (strOfNums (sg ++ stail m), 0) := by
  have e1 : Int.tdiv m 3600 = m / 3600 := Int.tdiv_eq_ediv_of_nonneg (by omega)
  have e2 : Int.tmod m 3600 = m % 3600 := Int.tmod_eq_emod_of_nonneg (by omega)
  have e3 : Int.tmod m 60 = m % 60 := Int.tmod_eq_emod_of_nonneg (by omega)
  have e4 : Int.tdiv (m % 3600) 60 = m % 3600 / 60 := Int.tdiv_eq_ediv_of_nonneg (by omega)
  have a := txt_len (n := m / 3600) (d := 2) (by omega)
  have b := txt_len (n := m % 3600 / 60) (d := 2) (by omega)
  have c := txt_len (n := m % 60) (d := 2) (by omega)
  rw [format_Short.J0_eq, e1, e2, e3, e4, wrap64_id (n := m / 3600) (by omega) (by omega), wrap64_id (n := m % 3600 / 60) (by omega) (by omega), num_Text_eq _ 2 (by omega) (by omega), bind_some_, size_strOf, size_strOf, if_pos (by omega), strOf_append]
  unfold stail
  by_cases h1 : m % 3600 = 0
  · have h2 : m % 60 = 0 := by omega
    rw [if_pos h1, if_pos h2, if_pos h1, if_pos h2, List.append_nil, List.append_nil]
  · rw [if_neg h1, if_neg h1, num_Text_eq _ 2 (by omega) (by omega), bind_some_, size_strOf, size_strOf, if_pos (by rw [List.length_append]; omega), strOf_append]
    by_cases h2 : m % 60 = 0
    · rw [if_pos h2, if_pos h2, List.append_nil, List.append_assoc]
    · rw [if_neg h2, if_neg h2, num_Text_eq _ 2 (by omega) (by omega), bind_some_, size_strOf, size_strOf, if_pos (by simp only [List.length_append]; omega), strOf_append, List.append_assoc, List.append_assoc]
theorem short_eq (n : Int) (hn : -9223372036854775808 ≤ n ∧ n ≤ 9223372036854775807) : format_Short.F n = some (if Off n then (strOfNums (stxt n), 0) else ((⟨#[]⟩ : ByteArray), 5)) := by
  rw [format_Short.F_eq, below_eq, bind_some_]
  by_cases h : Off n
  · have h' := h
    unfold Off at h'
    have hR : (if Off n then (strOfNums (stxt n), (0 : Int)) else ((⟨#[]⟩ : ByteArray), 5)) = (strOfNums (stxt n), 0) := if_pos h
    rw [hR, if_pos (decide_eq_true h)]
    unfold stxt
    by_cases h3 : n < 0
    · rw [if_pos h3, if_pos h3, wrap64_id (by omega) (by omega), show (⟨#[45]⟩ : ByteArray) = strOfNums [45] from rfl, short_J0 _ _ (by omega) (by simp)]
      rfl
    · rw [if_neg h3, if_neg h3, show (⟨#[43]⟩ : ByteArray) = strOfNums [43] from rfl, short_J0 _ _ (by omega) (by simp)]
      rfl
  · rw [if_neg (by simpa using h), if_neg h]
theorem ref_short_J0 (m : Int) (sg : List Int) (h : 0 ≤ m ∧ m < 172800) (hs : sg.length ≤ 1) : solsticeref09_Short.J0 m (strOfNums sg) = some (strOfNums (sg ++ stail m)) := by
  have e1 : Int.tdiv m 3600 = m / 3600 := Int.tdiv_eq_ediv_of_nonneg (by omega)
  have e2 : Int.tmod m 3600 = m % 3600 := Int.tmod_eq_emod_of_nonneg (by omega)
  have e3 : Int.tmod m 60 = m % 60 := Int.tmod_eq_emod_of_nonneg (by omega)
  have e5 : Int.tdiv m 60 = m / 60 := Int.tdiv_eq_ediv_of_nonneg (by omega)
  have e4 : Int.tmod (m / 60) 60 = m % 3600 / 60 := by rw [Int.tmod_eq_emod_of_nonneg (by omega)]; omega
  have a := txt_len (n := m / 3600) (d := 2) (by omega)
  have b := txt_len (n := m % 3600 / 60) (d := 2) (by omega)
  have c := txt_len (n := m % 60) (d := 2) (by omega)
  rw [solsticeref09_Short.J0_eq, e1, e2, e3, e5, wrap64_id (n := m / 3600) (by omega) (by omega), wrap64_id (n := m / 60) (by omega) (by omega), e4, ref_Text_eq _ 2 (by omega), bind_some_, size_strOf, size_strOf, if_pos (by omega), strOf_append]
  unfold stail
  by_cases h1 : m % 3600 = 0
  · have h2 : m % 60 = 0 := by omega
    rw [if_pos h1, if_pos h2, if_pos h1, if_pos h2, List.append_nil, List.append_nil]
  · rw [if_neg h1, if_neg h1, ref_Text_eq _ 2 (by omega), bind_some_, size_strOf, size_strOf, if_pos (by rw [List.length_append]; omega), strOf_append]
    by_cases h2 : m % 60 = 0
    · rw [if_pos h2, if_pos h2, List.append_nil, List.append_assoc]
    · rw [if_neg h2, if_neg h2, ref_Text_eq _ 2 (by omega), bind_some_, size_strOf, size_strOf, if_pos (by simp only [List.length_append]; omega), strOf_append, List.append_assoc, List.append_assoc]
theorem ref_short_eq (n : Int) (h : Off n) : solsticeref09_Short.F n = some (strOfNums (stxt n)) := by
  have h' := h
  unfold Off at h'
  rw [solsticeref09_Short.F_eq]
  unfold stxt
  by_cases h3 : n < 0
  · rw [if_pos h3, if_pos h3, wrap64_id (by omega) (by omega), show (⟨#[45]⟩ : ByteArray) = strOfNums [45] from rfl, ref_short_J0 _ _ (by omega) (by simp)]
    rfl
  · rw [if_neg h3, if_neg h3, show (⟨#[43]⟩ : ByteArray) = strOfNums [43] from rfl, ref_short_J0 _ _ (by omega) (by simp)]
    rfl
/-! Right names -/
def sgn (c : Int) : Bool := isDig c || (decide (97 ≤ c) && decide (c ≤ 122)) || (decide (65 ≤ c) && decide (c ≤ 90)) || decide (c = 43) || decide (c = 45)
theorem sgn_iff (c : Int) : sgn c = true ↔ (48 ≤ c ∧ c ≤ 57) ∨ (97 ≤ c ∧ c ≤ 122) ∨ (65 ≤ c ∧ c ≤ 90) ∨ c = 43 ∨ c = 45 := by
  unfold sgn isDig
  simp only [Bool.or_eq_true, Bool.and_eq_true, decide_eq_true_eq, or_assoc]
theorem sign_eq (c : Int) : format_sign.f c = some (sgn c) := by
  have key : ∀ b : Bool, (b = true ↔ sgn c = true) → some b = some (sgn c) := fun b h => by
    congr 1
    exact Bool.eq_iff_iff.2 h
  unfold format_sign.f
  repeat' split
  all_goals refine key _ ?_
  all_goals rw [sgn_iff]
  all_goals first | (simp; omega) | (rw [beq_iff_eq]; omega)
theorem right_L0 (s : ByteArray) (hs : s.size ≤ 9223372036854775806) : ∀ (n : Nat) (i : Int), n = (s.size : Int).toNat - i.toNat → 0 ≤ i → i ≤ (s.size : Int) →
    format_Right.L0 s (s.size : Int) i = some ((rest s i).all sgn && (decide (1 ≤ s.size) && decide (s.size ≤ 40))) := by
  intro n
  induction n with
  | zero =>
    intro i hn h0 h1
    rw [format_Right.L0_eq, if_neg (by omega), rest_nil (by omega), List.all_nil, Bool.true_and]
    by_cases h : (s.size : Int) ≥ 1
    · rw [if_pos h, decide_eq_true (show 1 ≤ s.size by omega), Bool.true_and]
      congr 1
      rw [decide_eq_decide]
      omega
    · rw [if_neg h, decide_eq_false (show ¬ 1 ≤ s.size by omega), Bool.false_and]
  | succ n ih =>
    intro i hn h0 h1
    have hlt : i < (s.size : Int) := by omega
    rw [format_Right.L0_eq, if_pos hlt, if_pos h0, if_pos hlt, sign_eq, bind_some_, rest_cons h0 hlt, List.all_cons]
    cases hd : sgn (bt s i) with
    | true => rw [if_pos rfl, wrap64_id (by omega) (by omega), ih (i + 1) (by omega) (by omega) (by omega), Bool.true_and]
    | false => rw [if_neg (by simp), Bool.false_and, Bool.false_and]
def rgt (l : List Int) : Bool := l.all sgn && (decide (1 ≤ l.length) && decide (l.length ≤ 40))
theorem right_eq (s : ByteArray) (hs : s.size ≤ 9223372036854775806) : format_Right.F s = some (rgt (bytesOf s)) := by
  have hz := size_len s
  rw [format_Right.F_eq, right_L0 s hs _ 0 rfl (by omega) (by omega), rest_zero]
  unfold rgt
  rw [show s.size = (bytesOf s).length by omega]
theorem wakes12 : solsticelaw12_wakes.F = some true := by
  have n1 : format_Name.F (⟨#[67, 69, 37, 115, 84]⟩ : ByteArray) (⟨#[83]⟩ : ByteArray) 7200 3600 = some ((⟨#[67, 69, 83, 84]⟩ : ByteArray), 0) := lim_of (format_Name.isF _ _ _ _).mono (k := 30) (by decide +kernel)
  have n2 : format_Name.F (⟨#[65, 47, 66]⟩ : ByteArray) (⟨#[]⟩ : ByteArray) 0 0 = some ((⟨#[65]⟩ : ByteArray), 0) := lim_of (format_Name.isF _ _ _ _).mono (k := 30) (by decide +kernel)
  have n3 : format_Name.F (⟨#[37, 115]⟩ : ByteArray) (⟨#[]⟩ : ByteArray) 0 0 = some ((⟨#[]⟩ : ByteArray), 16) := lim_of (format_Name.isF _ _ _ _).mono (k := 30) (by decide +kernel)
  have t1 : stxt (-5400) = [45, 48, 49, 51, 48] := by
    have e : digs 1 = [49] := digs_small (by decide)
    have e30 : digs 30 = [51, 48] := by rw [digs_big (by decide), digs_small (show 30 / 10 < 10 by decide)]; rfl
    have e1 : txt 1 2 = [48, 49] := by unfold txt; rw [if_neg (by decide), show (1 : Int).toNat = 1 from rfl, e]; rfl
    have e2 : txt 30 2 = [51, 48] := by unfold txt; rw [if_neg (by decide), show (30 : Int).toNat = 30 from rfl, e30]; rfl
    unfold stxt stail
    rw [if_pos (by decide), show -(-5400 : Int) / 3600 = 1 by decide, show -(-5400 : Int) % 3600 / 60 = 30 by decide, show -(-5400 : Int) % 60 = 0 by decide, show -(-5400 : Int) % 3600 = 1800 by decide, e1, e2]
    rfl
  rw [solsticelaw12_wakes.F_eq, n1, bind_some_, n2, bind_some_, short_eq _ (by omega), bind_some_, n3, bind_some_, right_eq _ (by decide), t1]
  decide +kernel
end Go.Proofs.YtookjnpmbenheaaDoor.Base
