/- The page's calendar, times and offsets: what the printed functions of the pages 01 and 16 compute, in the words of the program's own. No condition. -/
import Derived.Test.YtligbecmbefclaaDoorValO
import Derived.Test.YtligbecmbefclaaDoorValL
import Derived.Test.YtligbecmbefclaaDoorVexRefA
import Derived.Test.YtligbecmbefclaaDoorEVexx14
import Derived.Test.YtligbecmbefclaaDoorEVexx9
import Derived.Test.YtligbecmbefclaaDoorEVexx15
namespace Go.Proofs.YtligbecmbefclaaDoor.Base
open Go.RowKit Go.Proofs.YtligbecmbefclaaDoor.PVex Go.Proofs.YtligbecmbefclaaDoorW.PrintWords Go.Proofs.YtligbecmbefclaaDoorW.PrintLast Go.Proofs.YtligbecmbefclaaDoorW.PrintMore
set_option linter.unusedVariables false
set_option linter.unusedSimpArgs false
theorem ref_In_eq (n lo hi : Int) : solsticeref01_In.f n lo hi = some (decide (lo ≤ n ∧ n ≤ hi)) := by
  unfold solsticeref01_In.f
  by_cases h : n ≥ lo
  · rw [if_pos h]
    have : lo ≤ n := h
    simp [this]
  · rw [if_neg h]
    have : ¬ lo ≤ n := h
    simp [this]
theorem ref_in_eq (n lo hi : Int) : solsticeref16_in.f n lo hi = some (decide (lo ≤ n ∧ n ≤ hi)) := ref_In_eq n lo hi
theorem ref_Long_eq (y : Int) (h : -9223372036854775808 ≤ y ∧ y ≤ 9223372036854775807) : solsticeref01_Long.f y = some (lg y) := by
  unfold solsticeref01_Long.f lg
  rw [ref_Div_eq y 4 h (by omega), bind_some_, ref_Div_eq y 100 h (by omega), bind_some_, ref_Div_eq y 400 h (by omega), bind_some_]
  dsimp only
  by_cases h1 : y % 4 = 0
  · rw [if_pos h1]
    by_cases h2 : y % 100 = 0
    · rw [if_pos h2]; simp [h1, h2]; rfl
    · rw [if_neg h2]; simp [h1, h2]
  · rw [if_neg h1]; simp [h1]
theorem ref_Len_eq (y m : Int) (h : -9223372036854775808 ≤ y ∧ y ≤ 9223372036854775807) : solsticeref01_Len.F y m = some (ml y m) := by
  rw [solsticeref01_Len.F_eq, ref_In_eq, bind_some_]
  by_cases h1 : 1 ≤ m ∧ m ≤ 12
  · rw [if_pos (decide_eq_true h1), ref_Long_eq y h, bind_some_]
    have hc : m = 1 ∨ m = 2 ∨ m = 3 ∨ m = 4 ∨ m = 5 ∨ m = 6 ∨ m = 7 ∨ m = 8 ∨ m = 9 ∨ m = 10 ∨ m = 11 ∨ m = 12 := by omega
    have hl : lp y = if lg y = true then 1 else 0 := rfl
    rcases hc with rfl | rfl | rfl | rfl | rfl | rfl | rfl | rfl | rfl | rfl | rfl | rfl
    rotate_left
    · show _ = some (28 + lp y)
      rw [if_pos rfl, hl, solsticeref01_Len.J0_eq]
      by_cases h3 : lg y = true
      · rw [if_pos h3, if_pos h3]; rfl
      · rw [if_neg h3, if_neg h3]; rfl
    all_goals rw [if_neg (by omega), solsticeref01_Len.J0_eq, if_neg (by simp)]; rfl
  · rw [if_neg (by rw [decide_eq_true_iff]; exact h1)]
    unfold ml
    rw [if_pos (by omega)]
theorem ref_Right_eq (y m d : Int) (h : -9223372036854775808 ≤ y ∧ y ≤ 9223372036854775807) : solsticeref01_Right.F y m d = some (decide (Dt y m d)) := by
  rw [solsticeref01_Right.F_eq, ref_In_eq, bind_some_]
  by_cases h1 : 0 ≤ y ∧ y ≤ 10000
  · rw [if_pos (decide_eq_true h1), ref_In_eq, bind_some_]
    by_cases h2 : 1 ≤ m ∧ m ≤ 12
    · rw [if_pos (decide_eq_true h2), ref_Len_eq y m h, bind_some_, ref_In_eq, bind_some_]
      congr 1
      exact decide_eq_decide.2 ⟨fun k => ⟨h1.1, h1.2, h2.1, h2.2, k.1, k.2⟩, fun k => ⟨k.2.2.2.2.1, k.2.2.2.2.2⟩⟩
    · rw [if_neg (by rw [decide_eq_true_iff]; exact h2)]
      congr 1
      exact (decide_eq_false fun k => h2 ⟨k.2.2.1, k.2.2.2.1⟩).symm
  · rw [if_neg (by rw [decide_eq_true_iff]; exact h1)]
    congr 1
    exact (decide_eq_false fun k => h1 ⟨k.1, k.2.1⟩).symm
theorem ref_Number_L0 (y m d : Int) (h : Dt y m d) : ∀ (k : Nat) (i a : Int), i + k = m → 1 ≤ i → -100000000 ≤ a → a + sm y m - sm y i ≤ 100000000 → solsticeref01_Number.L0 y a i y m d = some (a + sm y m - sm y i + d - 1 - 719528) := by
  obtain ⟨h0, h1, h2, h3, h4, h5⟩ := h
  have hml := ml_le y m
  intro k
  induction k with
  | zero =>
    intro i a hi h6 h7 h8
    have : i = m := by omega
    subst this
    rw [solsticeref01_Number.L0_eq, if_neg (by omega), wrap64_id (n := a + d) (by omega) (by omega), wrap64_id (n := a + d - 1) (by omega) (by omega), wrap64_id (by omega) (by omega)]
    congr 1
    omega
  | succ k ih =>
    intro i a hi h6 h7 h8
    have hb := ml_bd y (m := i) (by omega)
    have hs := sm_step y (m := i) (by omega)
    have hx := sm_mono y (m - (i + 1)).toNat (i + 1) (by omega) (by omega)
    rw [show i + 1 + ((m - (i + 1)).toNat : Int) = m by omega] at hx
    rw [solsticeref01_Number.L0_eq, if_pos (by omega), ref_Len_eq y i (by omega), bind_some_, wrap64_id (by omega) (by omega), wrap64_id (by omega) (by omega), ih (i + 1) _ (by omega) (by omega) (by omega) (by omega), hs]
    congr 1
    omega
theorem ref_Number_eq {y m d : Int} (h : Dt y m d) : solsticeref01_Number.F y m d = some (dn y m d) := by
  have h' := h
  obtain ⟨h0, h1, h2, h3, h4, h5⟩ := h'
  have hsb := sm_bd y (m := m) (by omega)
  have hs1 := sm_one y
  have ha := ah_bd h0 (show y ≤ 20000 by omega)
  rw [solsticeref01_Number.F_eq, Int.tdiv_eq_ediv_of_nonneg (by rw [wrap64_id (by omega) (by omega)]; omega), Int.tdiv_eq_ediv_of_nonneg (by rw [wrap64_id (by omega) (by omega)]; omega), Int.tdiv_eq_ediv_of_nonneg (by rw [wrap64_id (by omega) (by omega)]; omega)]
  rw [wrap64_id (n := 365 * y) (by omega) (by omega), wrap64_id (n := y + 3) (by omega) (by omega), wrap64_id (n := y + 99) (by omega) (by omega), wrap64_id (n := y + 399) (by omega) (by omega), wrap64_id (n := (y + 3) / 4) (by omega) (by omega), wrap64_id (n := (y + 99) / 100) (by omega) (by omega), wrap64_id (n := (y + 399) / 400) (by omega) (by omega),
    wrap64_id (n := 365 * y + (y + 3) / 4) (by omega) (by omega), wrap64_id (n := 365 * y + (y + 3) / 4 - (y + 99) / 100) (by omega) (by omega), wrap64_id (by omega) (by omega)]
  have e : 365 * y + (y + 3) / 4 - (y + 99) / 100 + (y + 399) / 400 = ah y := rfl
  rw [e, ref_Number_L0 y m d h (m - 1).toNat 1 _ (by omega) (by omega) (by omega) (by omega), sm_one]
  unfold dn
  congr 1
  omega
theorem ref_Date_L1 (y : Int) (hy : 0 ≤ y ∧ y ≤ 10000) : ∀ (k : Nat) (m r : Int), 1 ≤ m → m + k = 12 → 0 ≤ r → sm y m + r < sm y 13 → ∃ m' d', 1 ≤ m' ∧ m' ≤ 12 ∧ 1 ≤ d' ∧ d' ≤ ml y m' ∧ sm y m' + d' = sm y m + r + 1 ∧ solsticeref01_Date.L1 y r y m 1 = some (y, m', d') := by
  intro k
  have hz := lp_bd y
  have hl := sm_last y
  have fin : ∀ m r : Int, 0 ≤ r → r < ml y m → r ≤ 400 → solsticeref01_Date.L1 y r y m 1 = some (y, m, r + 1) := by
    intro m r h0 h1 h2
    rw [solsticeref01_Date.L1_eq]
    by_cases h3 : r > 0
    · rw [if_pos h3, ref_Len_eq y m (by omega), bind_some_, if_neg (by omega), wrap64_id (by omega) (by omega), solsticeref01_Date.L1_eq, if_neg (by omega)]
    · have : r = 0 := by omega
      subst this
      rw [if_neg h3]
      rfl
  induction k with
  | zero =>
    intro m r h1 h2 h3 h4
    have hs := sm_step y (m := m) (by omega)
    have hml := ml_le y m
    rw [show m + 1 = 13 by omega] at hs
    exact ⟨m, r + 1, by omega, by omega, by omega, by omega, by omega, fin m r h3 (by omega) (by omega)⟩
  | succ k ih =>
    intro m r h1 h2 h3 h4
    have hs := sm_step y (m := m) (by omega)
    have hb := ml_bd y (m := m) (by omega)
    have hx := sm_mono y (m - 1).toNat 1 (by omega) (by omega)
    rw [show (1 : Int) + ((m - 1).toNat : Int) = m by omega, sm_one] at hx
    by_cases h5 : r ≥ ml y m
    · obtain ⟨m', d', a1, a2, a3, a4, a5, a6⟩ := ih (m + 1) (r - ml y m) (by omega) (by omega) (by omega) (by omega)
      refine ⟨m', d', a1, a2, a3, a4, by omega, ?_⟩
      rw [solsticeref01_Date.L1_eq, if_pos (by omega), ref_Len_eq y m (by omega), bind_some_, if_pos h5, wrap64_id (by omega) (by omega), wrap64_id (by omega) (by omega), a6]
    · exact ⟨m, r + 1, by omega, by omega, by omega, by omega, by omega, fin m r h3 (by omega) (by omega)⟩
theorem first_of (y : Int) (h : 0 ≤ y ∧ y ≤ 10000) : solsticeref01_Number.F y 1 1 = some (ah y - 719528) := by
  have hD : Dt y 1 1 := ⟨h.1, h.2, by omega, by omega, by omega, by have := ml_bd y (m := 1) (by omega); omega⟩
  rw [ref_Number_eq hD]
  unfold dn
  rw [sm_one]
  congr 1
  omega
theorem ref_Date_L0 {n z : Int} (hz : 0 ≤ z ∧ z ≤ 10000) (h1 : ah z ≤ n + 719528) (h2 : n + 719528 < ah (z + 1)) : ∀ (k : Nat) (y : Int), 0 ≤ y → y + k = z → solsticeref01_Date.L0 n y = solsticeref01_Date.L1 z (n + 719528 - ah z) z 1 1 := by
  have hb := ah_bd hz.1 (show z ≤ 20000 by omega)
  have hb' := ah_bd (show 0 ≤ z + 1 by omega) (show z + 1 ≤ 20000 by omega)
  have fin : solsticeref01_Date.J1 n z = solsticeref01_Date.L1 z (n + 719528 - ah z) z 1 1 := by
    rw [solsticeref01_Date.J1_eq, first_of z hz, bind_some_, wrap64_id (by omega) (by omega), show n - (ah z - 719528) = n + 719528 - ah z by omega]
  intro k
  induction k with
  | zero =>
    intro y h3 h4
    have : y = z := by omega
    subst this
    rw [solsticeref01_Date.L0_eq]
    by_cases h5 : y < 10000
    · rw [if_pos h5, wrap64_id (n := y + 1) (by omega) (by omega), first_of (y + 1) (by omega), bind_some_, if_neg (by omega), fin]
    · rw [if_neg h5, fin]
  | succ k ih =>
    intro y h3 h4
    have hm := ah_mono (show y + 1 ≤ z by omega)
    rw [solsticeref01_Date.L0_eq, if_pos (by omega), wrap64_id (n := y + 1) (by omega) (by omega), first_of (y + 1) (by omega), bind_some_, if_pos (by omega), ih (y + 1) (by omega) (by omega)]
theorem ref_Date_eq {y m d : Int} (h : Dt y m d) : solsticeref01_Date.F (dn y m d) = some (y, m, d) := by
  have hr := dn_range h
  have h' := h
  obtain ⟨h0, h1, h2, h3, h4, h5⟩ := h'
  have hi := dn_in h
  have hst := ah_step y
  have hlp := lp_bd y
  obtain ⟨m', d', a1, a2, a3, a4, a5, a6⟩ := ref_Date_L1 y ⟨h0, h1⟩ 11 1 (dn y m d + 719528 - ah y) (by omega) (by omega) (by omega) (by rw [sm_one, sm_last]; omega)
  have hD : Dt y m' d' := ⟨h0, h1, a1, a2, a3, a4⟩
  have hE : dn y m d = dn y m' d' := by
    rw [sm_one] at a5
    have : dn y m' d' = ah y + sm y m' + d' - 1 - 719528 := rfl
    omega
  obtain ⟨_, rfl, rfl⟩ := (dn_iff h hD).2.1 hE
  have hle : (dn y m d + 719528) / 366 ≤ y := by
    have : ah (y + 1) ≤ 366 * (y + 1) := by unfold ah; omega
    omega
  rw [solsticeref01_Date.F_eq, wrap64_id (n := dn y m d + 719528) (by omega) (by omega), Int.tdiv_eq_ediv_of_nonneg (by omega), wrap64_id (by omega) (by omega),
    ref_Date_L0 ⟨h0, h1⟩ (by omega) (by omega) (y - (dn y m d + 719528) / 366).toNat _ (by omega) (by omega), a6]
theorem ref_Years_in {y m d t : Int} (h : Dt y m d) (ht : t / 86400 = dn y m d) : solsticeref16_Years.F t = some (y, m, d, decide (1 ≤ y ∧ y ≤ 9999)) := by
  have hr := dn_range h
  have d1 : Dt 0 1 1 := by decide
  have d2 : Dt 10000 12 31 := by decide
  have e1 : dn 0 1 1 = -719528 := by decide
  have e2 : dn 10000 12 31 = 2933262 := by decide
  rw [solsticeref16_Years.F_eq, ref_Div_eq t 86400 (by omega) (by omega), bind_some_, solsticeref01_Least.F_eq, ref_Number_eq d1, bind_some_, bind_some_, solsticeref01_Most.F_eq, ref_Number_eq d2, bind_some_, bind_some_, e1, e2]
  dsimp only
  rw [ref_in_eq, bind_some_, if_pos (decide_eq_true (by omega)), ht, ref_Date_eq h, bind_some_]
  dsimp only
  rw [ref_in_eq, bind_some_]
theorem ref_Years_out {t : Int} (hw : -9223372036854775808 ≤ t ∧ t ≤ 9223372036854775807) (h : t / 86400 < -719528 ∨ 2933263 ≤ t / 86400) : solsticeref16_Years.F t = some (0, 0, 0, false) := by
  have d1 : Dt 0 1 1 := by decide
  have d2 : Dt 10000 12 31 := by decide
  have e1 : dn 0 1 1 = -719528 := by decide
  have e2 : dn 10000 12 31 = 2933262 := by decide
  rw [solsticeref16_Years.F_eq, ref_Div_eq t 86400 hw (by omega), bind_some_, solsticeref01_Least.F_eq, ref_Number_eq d1, bind_some_, bind_some_, solsticeref01_Most.F_eq, ref_Number_eq d2, bind_some_, bind_some_, e1, e2]
  dsimp only
  rw [ref_in_eq, bind_some_, if_neg (by rw [decide_eq_true_iff]; omega)]
theorem rtxt_str {n k : Int} (h : 0 ≤ n ∧ n ≤ 100000) : solsticeref01_Text.F n k = some (strOfNums (txt n k)) := ref_Text_eq n k (by omega)
theorem ref_Time_eq (u : Bool) (y m d t : Int) (h : Dt y m d) (hy : 1 ≤ y ∧ y ≤ 9999) (ht : t / 86400 = dn y m d) : solsticeref16_Time.F t u = some (strOfNums (ttx y m d (t % 86400 / 3600) (t % 86400 % 3600 / 60) (t % 86400 % 60) u)) := by
  have hr := dn_range h
  have hd := ml_le y m
  have h' := h
  obtain ⟨h0, h1, h2, h3, h4, h5⟩ := h'
  have l4 := (four_dig (n := y) (by omega)).2.2
  have lm := (two_dig (n := m) (by omega)).2.2
  have ld := (two_dig (n := d) (by omega)).2.2
  have lh := (two_dig (n := t % 86400 / 3600) (by omega)).2.2
  have li := (two_dig (n := t % 86400 % 3600 / 60) (by omega)).2.2
  have ls := (two_dig (n := t % 86400 % 60) (by omega)).2.2
  have s1 : ((⟨#[84]⟩ : ByteArray)) = strOfNums [84] := rfl
  have s2 : ((⟨#[90]⟩ : ByteArray)) = strOfNums [90] := rfl
  rw [solsticeref16_Time.F_eq, ref_Years_in h ht, bind_some_, ref_Div_eq t 86400 (by omega) (by omega), bind_some_]
  dsimp only
  generalize hg : t % 86400 = sec at *
  have hs : 0 ≤ sec ∧ sec < 86400 := by omega
  rw [Int.tdiv_eq_ediv_of_nonneg hs.1, Int.tdiv_eq_ediv_of_nonneg hs.1, wrap64_id (n := sec / 3600) (by omega) (by omega), wrap64_id (n := sec / 60) (by omega) (by omega), Int.tmod_eq_emod_of_nonneg (by omega), Int.tmod_eq_emod_of_nonneg hs.1, show sec / 60 % 60 = sec % 3600 / 60 by omega]
  rw [rtxt_str (n := y) (by omega), bind_some_, rtxt_str (n := m) (by omega), bind_some_, rtxt_str (n := d) (by omega), bind_some_, rtxt_str (n := sec / 3600) (by omega), bind_some_, rtxt_str (n := sec % 3600 / 60) (by omega), bind_some_, rtxt_str (n := sec % 60) (by omega), bind_some_]
  rw [s1, s2]
  simp only [strOf_append, size_strOf, List.length_append, l4, lm, ld, lh, li, ls, List.length_singleton]
  rw [if_pos (by omega), if_pos (by omega), if_pos (by omega), if_pos (by omega), if_pos (by omega), if_pos (by omega)]
  unfold ttx
  cases u with
  | true => rw [if_pos rfl, if_pos (by omega), if_pos rfl]; simp only [List.append_assoc]
  | false => rw [if_neg (by simp), if_neg (by simp), List.append_nil]; simp only [List.append_assoc]
theorem ref_Offset_J0 (n c : Int) (h : 0 ≤ n ∧ n < 86400) : solsticeref16_Offset.J0 n (strOfNums [c]) = some (strOfNums (c :: otxN n)) := by
  have lh := (two_dig (n := n / 3600) (by omega)).2.2
  have li := (two_dig (n := n % 3600 / 60) (by omega)).2.2
  have ls := (two_dig (n := n % 60) (by omega)).2.2
  rw [solsticeref16_Offset.J0_eq, Int.tdiv_eq_ediv_of_nonneg h.1, Int.tdiv_eq_ediv_of_nonneg h.1, wrap64_id (n := n / 3600) (by omega) (by omega), wrap64_id (n := n / 60) (by omega) (by omega), Int.tmod_eq_emod_of_nonneg (by omega), Int.tmod_eq_emod_of_nonneg h.1, show n / 60 % 60 = n % 3600 / 60 by omega]
  rw [rtxt_str (n := n / 3600) (by omega), bind_some_, rtxt_str (n := n % 3600 / 60) (by omega), bind_some_, rtxt_str (n := n % 60) (by omega), bind_some_]
  simp only [strOf_append, size_strOf, List.length_append, lh, li, ls, List.length_singleton]
  unfold otxN
  rw [if_pos (by omega), if_pos (by omega)]
  by_cases h0 : n % 60 = 0
  · rw [if_pos h0, if_pos h0, List.append_nil]; simp only [List.append_assoc]; rfl
  · rw [if_neg h0, if_neg h0, if_pos (by omega)]; simp only [List.append_assoc]; rfl
theorem ref_Offset_eq (o : Int) (ho : -86400 < o ∧ o < 86400) : solsticeref16_Offset.F o = some (strOfNums (otx o)) := by
  have s1 : ((⟨#[45]⟩ : ByteArray)) = strOfNums [45] := rfl
  have s2 : ((⟨#[43]⟩ : ByteArray)) = strOfNums [43] := rfl
  rw [solsticeref16_Offset.F_eq]
  unfold otx ab
  by_cases h3 : o < 0
  · rw [if_pos h3, if_pos h3, if_pos h3, wrap64_id (by omega) (by omega), s1, ref_Offset_J0 _ _ (by omega)]
  · rw [if_neg h3, if_neg h3, if_neg h3, s2, ref_Offset_J0 _ _ (by omega)]
end Go.Proofs.YtligbecmbefclaaDoor.Base
