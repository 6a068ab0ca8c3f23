/- A date-time's text: what is written is read; the later time's text comes behind. No condition. -/
import Derived.Test.YtligbecmbefclaaDoorStr
import Derived.Test.YtligbecmbefclaaDoorEVexx1
import Derived.Test.YtligbecmbefclaaDoorEVexx5
import Derived.Test.YtligbecmbefclaaDoorEVexx4
import Derived.Test.YtligbecmbefclaaDoorPVexx1
import Derived.Test.YtligbecmbefclaaDoorVexNumP
import Derived.Test.YtligbecmbefclaaDoorEVexx3
import Derived.Test.YtligbecmbefclaaDoorEVexx6
import Derived.Test.YtligbecmbefclaaDoorEVexx2
/- A date-time's text: what the printed functions of value read and write; what is written is read; the later time's text comes behind. No condition. -/
/- Years, months, days: what the printed functions of civil compute; a day's date is one whose day it is. No condition. -/
namespace Go.Proofs.YtligbecmbefclaaDoor.Base
open Go.RowKit Go.Proofs.YtligbecmbefclaaDoor.PVex Go.Proofs.YtligbecmbefclaaDoorW.PrintWords Go.Proofs.YtligbecmbefclaaDoorW.PrintLast Go.Proofs.YtligbecmbefclaaDoorW.PrintMore
set_option linter.unusedVariables false
set_option linter.unusedSimpArgs false
def lg (y : Int) : Bool := decide (y % 4 = 0 ∧ (y % 100 ≠ 0 ∨ y % 400 = 0))
def lp (y : Int) : Int := if lg y = true then 1 else 0
theorem lp_eq (y : Int) : (y % 4 = 0 ∧ (y % 100 ≠ 0 ∨ y % 400 = 0) ∧ lp y = 1) ∨ (¬ (y % 4 = 0 ∧ (y % 100 ≠ 0 ∨ y % 400 = 0)) ∧ lp y = 0) := by
  unfold lp lg
  by_cases h : y % 4 = 0 ∧ (y % 100 ≠ 0 ∨ y % 400 = 0)
  · left; exact ⟨h.1, h.2, by rw [if_pos (decide_eq_true h)]⟩
  · right; exact ⟨h, by rw [if_neg (by simpa using h)]⟩
def ml (y m : Int) : Int := if m < 1 ∨ m > 12 then 0 else if m = 2 then 28 + lp y else if m = 4 ∨ m = 6 ∨ m = 9 ∨ m = 11 then 30 else 31
def ah (y : Int) : Int := 365 * y + (y + 3) / 4 - (y + 99) / 100 + (y + 399) / 400
def sm (y m : Int) : Int := if m ≤ 1 then 0 else if m = 2 then 31 else (if m = 3 then 59 else if m = 4 then 90 else if m = 5 then 120 else if m = 6 then 151 else if m = 7 then 181 else if m = 8 then 212 else if m = 9 then 243 else if m = 10 then 273 else if m = 11 then 304 else if m = 12 then 334 else 365) + lp y
theorem lp_bd (y : Int) : 0 ≤ lp y ∧ lp y ≤ 1 := by rcases lp_eq y with h | h <;> omega
theorem ah_step (y : Int) : ah (y + 1) = ah y + 365 + lp y := by
  unfold ah
  rcases lp_eq y with ⟨h1, h2, h3⟩ | ⟨h1, h3⟩ <;> omega
theorem ah_mono {x y : Int} (h : x ≤ y) : ah x + 365 * (y - x) ≤ ah y := by
  unfold ah
  omega
theorem sm_step (y : Int) {m : Int} (h : 1 ≤ m ∧ m ≤ 12) : sm y (m + 1) = sm y m + ml y m := by
  have hc : m = 1 ∨ m = 2 ∨ m = 3 ∨ m = 4 ∨ m = 5 ∨ m = 6 ∨ m = 7 ∨ m = 8 ∨ m = 9 ∨ m = 10 ∨ m = 11 ∨ m = 12 := by omega
  unfold sm ml
  rcases hc with rfl | rfl | rfl | rfl | rfl | rfl | rfl | rfl | rfl | rfl | rfl | rfl <;> simp <;> omega
theorem sm_one (y : Int) : sm y 1 = 0 := by unfold sm; simp
theorem sm_last (y : Int) : sm y 13 = 365 + lp y := by unfold sm; simp
theorem ml_bd (y : Int) {m : Int} (h : 1 ≤ m ∧ m ≤ 12) : 28 ≤ ml y m ∧ ml y m ≤ 31 := by
  have := lp_bd y
  unfold ml
  split
  · omega
  · split
    · omega
    · split <;> omega
theorem ml_le (y m : Int) : 0 ≤ ml y m ∧ ml y m ≤ 31 := by
  by_cases h : 1 ≤ m ∧ m ≤ 12
  · have := ml_bd y h; omega
  · unfold ml; rw [if_pos (by omega)]; omega
theorem sm_mono (y : Int) : ∀ (k : Nat) (m : Int), 1 ≤ m → m + k ≤ 13 → sm y m + 28 * k ≤ sm y (m + k)
  | 0, m, _, _ => by simp
  | k + 1, m, h0, h1 => by
    have h2 := sm_mono y k m h0 (by omega)
    have h3 := sm_step y (m := m + k) (by omega)
    have h4 := ml_bd y (m := m + k) (by omega)
    rw [show m + ((k + 1 : Nat) : Int) = m + k + 1 by omega]
    omega
theorem sm_lt (y : Int) {m n : Int} (h0 : 1 ≤ m) (h1 : m < n) (h2 : n ≤ 13) : sm y m + ml y m ≤ sm y n := by
  have h3 := sm_mono y (n - (m + 1)).toNat (m + 1) (by omega) (by omega)
  rw [show m + 1 + ((n - (m + 1)).toNat : Int) = n by omega, sm_step y (by omega)] at h3
  omega
theorem sm_bd (y : Int) {m : Int} (h : 1 ≤ m ∧ m ≤ 13) : 0 ≤ sm y m ∧ sm y m ≤ 366 := by
  have a := sm_mono y (13 - m).toNat m h.1 (by omega)
  have b := sm_mono y (m - 1).toNat 1 (by omega) (by omega)
  rw [show m + ((13 - m).toNat : Int) = 13 by omega, sm_last] at a
  rw [show (1 : Int) + ((m - 1).toNat : Int) = m by omega, sm_one] at b
  have := lp_bd y
  omega
/-- A date. -/
def Dt (y m d : Int) : Prop := 0 ≤ y ∧ y ≤ 10000 ∧ 1 ≤ m ∧ m ≤ 12 ∧ 1 ≤ d ∧ d ≤ ml y m
instance (y m d : Int) : Decidable (Dt y m d) := inferInstanceAs (Decidable (_ ∧ _))
def dn (y m d : Int) : Int := ah y + sm y m + d - 1 - 719528
theorem dn_in {y m d : Int} (h : Dt y m d) : ah y - 719528 ≤ dn y m d ∧ dn y m d < ah (y + 1) - 719528 := by
  obtain ⟨h0, h1, h2, h3, h4, h5⟩ := h
  have a := sm_lt y h2 (show m < 13 by omega) (by omega)
  have b := sm_mono y (m - 1).toNat 1 (by omega) (by omega)
  rw [show 1 + ((m - 1).toNat : Int) = m by omega, sm_one] at b
  rw [ah_step]
  rw [sm_last] at a
  unfold dn
  omega
theorem dn_lt {y m d y' m' d' : Int} (h : Dt y m d) (h' : Dt y' m' d') (hl : y < y' ∨ y = y' ∧ (m < m' ∨ m = m' ∧ d < d')) : dn y m d < dn y' m' d' := by
  rcases hl with hl | ⟨rfl, hl | ⟨rfl, hl⟩⟩
  · have a := dn_in h
    have b := dn_in h'
    have c := ah_mono (show y + 1 ≤ y' by omega)
    omega
  · obtain ⟨h0, h1, h2, h3, h4, h5⟩ := h
    obtain ⟨_, _, k2, k3, k4, k5⟩ := h'
    have a := sm_lt y h2 hl (by omega)
    unfold dn
    omega
  · unfold dn
    omega
theorem dn_iff {y m d y' m' d' : Int} (h : Dt y m d) (h' : Dt y' m' d') : (dn y m d < dn y' m' d' ↔ (y < y' ∨ y = y' ∧ (m < m' ∨ m = m' ∧ d < d'))) ∧ (dn y m d = dn y' m' d' ↔ (y = y' ∧ m = m' ∧ d = d')) := by
  have tri : (y < y' ∨ y = y' ∧ (m < m' ∨ m = m' ∧ d < d')) ∨ (y' < y ∨ y' = y ∧ (m' < m ∨ m' = m ∧ d' < d)) ∨ (y = y' ∧ m = m' ∧ d = d') := by omega
  rcases tri with t | t | ⟨rfl, rfl, rfl⟩
  · have := dn_lt h h' t
    exact ⟨⟨fun _ => t, fun _ => this⟩, ⟨fun e => by omega, fun e => by obtain ⟨rfl, rfl, rfl⟩ := e; omega⟩⟩
  · have := dn_lt h' h t
    exact ⟨⟨fun e => by omega, fun e => by omega⟩, ⟨fun e => by omega, fun e => by obtain ⟨rfl, rfl, rfl⟩ := e; omega⟩⟩
  · exact ⟨⟨fun e => by omega, fun e => by omega⟩, ⟨fun _ => ⟨rfl, rfl, rfl⟩, fun _ => rfl⟩⟩
theorem year_of (n : Int) (h0 : 0 ≤ n) : ∃ y, 0 ≤ y ∧ ah y ≤ n ∧ n < ah (y + 1) := by
  have key : ∀ (k : Nat) (y : Int), 0 ≤ y → ah y ≤ n → n < ah (y + k) → ∃ z, y ≤ z ∧ ah z ≤ n ∧ n < ah (z + 1) := by
    intro k
    induction k with
    | zero => intro y _ h1 h2; rw [show y + ((0 : Nat) : Int) = y by omega] at h2; omega
    | succ k ih =>
      intro y hy h1 h2
      by_cases h3 : n < ah (y + 1)
      · exact ⟨y, by omega, h1, h3⟩
      · obtain ⟨z, z0, z1, z2⟩ := ih (y + 1) (by omega) (by omega) (by rw [show y + 1 + (k : Int) = y + ((k + 1 : Nat) : Int) by omega]; exact h2)
        exact ⟨z, by omega, z1, z2⟩
  have h1 := ah_mono (show (0 : Int) ≤ n + 1 by omega)
  have e0 : ah 0 = 0 := by decide
  obtain ⟨z, z0, z1, z2⟩ := key (n + 1).toNat 0 (by omega) (by omega) (by rw [show (0 : Int) + ((n + 1).toNat : Int) = n + 1 by omega]; omega)
  exact ⟨z, by omega, z1, z2⟩
theorem year_one {n y z : Int} (h1 : ah y ≤ n) (h2 : n < ah (y + 1)) (h3 : ah z ≤ n) (h4 : n < ah (z + 1)) : y = z := by
  by_cases a : y < z
  · have := ah_mono (show y + 1 ≤ z by omega); omega
  · by_cases b : z < y
    · have := ah_mono (show z + 1 ≤ y by omega); omega
    · omega
theorem ah_bd {y : Int} (h0 : 0 ≤ y) (h1 : y ≤ 20000) : 0 ≤ ah y ∧ ah y ≤ 8000000 := by unfold ah; omega
-- the printed functions
theorem Long_eq (y : Int) (h : 0 ≤ y) : civil_Long.f y = some (lg y) := by
  unfold civil_Long.f lg
  rw [Int.tmod_eq_emod_of_nonneg h, Int.tmod_eq_emod_of_nonneg h, Int.tmod_eq_emod_of_nonneg h]
  by_cases h1 : y % 4 = 0
  · rw [if_pos h1]
    by_cases h2 : y % 100 = 0
    · rw [if_pos h2]; simp [h1, h2]; rfl
    · rw [if_neg h2]; simp [h1, h2]
  · rw [if_neg h1]; simp [h1]
theorem Len_eq (y m : Int) (h : 0 ≤ y) (hm : -1000000000 ≤ m ∧ m ≤ 1000000000) : civil_Len.F y m = some (ml y m) := by
  rw [civil_Len.F_eq, civil_Len.J0_eq, civil_Len.J0_eq, Long_eq y h]
  unfold ml
  by_cases h1 : m < 1
  · rw [if_pos h1, if_pos rfl, if_pos (Or.inl h1)]
  · rw [if_neg h1]
    by_cases h2 : m > 12
    · rw [decide_eq_true h2, if_pos rfl, if_pos (Or.inr h2)]
    · rw [decide_eq_false h2, if_neg (by simp), if_neg (show ¬ (m < 1 ∨ m > 12) by omega)]
      have hc : m = 1 ∨ m = 2 ∨ m = 3 ∨ m = 4 ∨ m = 5 ∨ m = 6 ∨ m = 7 ∨ m = 8 ∨ m = 9 ∨ m = 10 ∨ m = 11 ∨ m = 12 := by omega
      have hl : lp y = if lg y = true then 1 else 0 := rfl
      rcases hc with rfl | rfl | rfl | rfl | rfl | rfl | rfl | rfl | rfl | rfl | rfl | rfl
      rotate_left
      · rw [if_pos rfl, if_pos rfl, bind_some_, hl]
        by_cases h3 : lg y = true
        · rw [if_pos h3, if_pos h3]; rfl
        · rw [if_neg h3, if_neg h3]; simp [wrap64, rd]
      all_goals simp [wrap64, rd]
theorem ahead_eq (y : Int) (h0 : 0 ≤ y) (h1 : y ≤ 20000) : civil_ahead.f y = some (ah y) := by
  unfold civil_ahead.f
  by_cases h : y = 0
  · subst h; rfl
  · rw [if_neg h, wrap64_id (n := y - 1) (by omega) (by omega), Int.tdiv_eq_ediv_of_nonneg (by omega), Int.tdiv_eq_ediv_of_nonneg (by omega), Int.tdiv_eq_ediv_of_nonneg (by omega)]
    rw [wrap64_id (n := y * 365) (by omega) (by omega), wrap64_id (n := (y - 1) / 4) (by omega) (by omega), wrap64_id (n := (y - 1) / 100) (by omega) (by omega), wrap64_id (n := (y - 1) / 400) (by omega) (by omega),
      wrap64_id (n := y * 365 + (y - 1) / 4) (by omega) (by omega), wrap64_id (n := y * 365 + (y - 1) / 4 - (y - 1) / 100) (by omega) (by omega), wrap64_id (n := y * 365 + (y - 1) / 4 - (y - 1) / 100 + (y - 1) / 400) (by omega) (by omega), wrap64_id (by omega) (by omega)]
    unfold ah
    congr 1
    omega
theorem right_eq (y m d : Int) (hm : -1000000000 ≤ m ∧ m ≤ 1000000000) : civil_right.F y m d = some (decide (Dt y m d)) := by
  rw [civil_right.F_eq]
  by_cases h0 : y ≥ 0
  · rw [if_pos h0]
    by_cases h1 : y ≤ 10000
    · rw [if_pos h1]
      by_cases h2 : d ≥ 1
      · rw [if_pos h2, Len_eq y m h0 hm, bind_some_]
        congr 1
        by_cases h3 : 1 ≤ m ∧ m ≤ 12
        · apply decide_eq_decide.2
          constructor
          · intro h; exact ⟨h0, h1, h3.1, h3.2, h2, h⟩
          · intro h; exact h.2.2.2.2.2
        · have : ml y m = 0 := by unfold ml; rw [if_pos (by omega)]
          rw [decide_eq_false (show ¬ d ≤ ml y m by omega), decide_eq_false (fun h : Dt y m d => h3 ⟨h.2.2.1, h.2.2.2.1⟩)]
      · rw [if_neg h2, decide_eq_false (fun h : Dt y m d => h2 h.2.2.2.2.1)]
    · rw [if_neg h1, decide_eq_false (fun h : Dt y m d => h1 h.2.1)]
  · rw [if_neg h0, decide_eq_false (fun h : Dt y m d => h0 h.1)]
theorem Number_L0 (y m d : Int) (h : Dt y m d) : ∀ (k : Nat) (i a : Int), i + k = m → 1 ≤ i → -100000000 ≤ a → a + sm y m - sm y i ≤ 100000000 → civil_Number.L0 a i y m d = some (a + sm y m - sm y i, 0) := by
  obtain ⟨h0, h1, h2, h3, h4, h5⟩ := h
  intro k
  induction k with
  | zero =>
    intro i a hi h6 h7 h8
    have : i = m := by omega
    subst this
    rw [civil_Number.L0_eq, if_neg (by omega)]
    congr 2
    omega
  | succ k ih =>
    intro i a hi h6 h7 h8
    have hb := ml_bd y (m := i) (by omega)
    have hs := sm_step y (m := i) (by omega)
    have hx := sm_mono y (m - (i + 1)).toNat (i + 1) (by omega) (by omega)
    rw [show i + 1 + ((m - (i + 1)).toNat : Int) = m by omega] at hx
    rw [civil_Number.L0_eq, if_pos (by omega), Len_eq y i h0 (by omega), bind_some_, wrap64_id (by omega) (by omega), wrap64_id (by omega) (by omega), ih (i + 1) _ (by omega) (by omega) (by omega) (by omega), hs]
    congr 2
    omega
theorem Number_eq (y m d : Int) (hm : -1000000000 ≤ m ∧ m ≤ 1000000000) : civil_Number.F y m d = some (if Dt y m d then (dn y m d, 0) else (0, 4)) := by
  rw [civil_Number.F_eq, right_eq y m d hm, bind_some_]
  by_cases h : Dt y m d
  · rw [decide_eq_true h, if_pos rfl, if_pos h]
    have h' := h
    obtain ⟨h0, h1, h2, h3, h4, h5⟩ := h'
    have hl := ml_le y m
    have ha := ah_bd h0 (show y ≤ 20000 by omega)
    have hsb := sm_bd y (m := m) (by omega)
    have hs1 := sm_one y
    rw [ahead_eq y h0 (by omega), bind_some_, wrap64_id (n := ah y - 719528) (by omega) (by omega), wrap64_id (n := ah y - 719528 + d) (by omega) (by omega), wrap64_id (by omega) (by omega),
      Number_L0 y m d h (m - 1).toNat 1 _ (by omega) (by omega) (by omega) (by omega), sm_one]
    unfold dn
    congr 2
    omega
  · rw [decide_eq_false h, if_neg (by simp), if_neg h]
theorem Date_L2 (y : Int) (hy : 0 ≤ y) : ∀ (k : Nat) (m r : Int), 1 ≤ m → m + k = 12 → 0 ≤ r → sm y m + r < sm y 13 → ∃ m' d', 1 ≤ m' ∧ m' ≤ 12 ∧ 1 ≤ d' ∧ d' ≤ ml y m' ∧ sm y m' + d' = sm y m + r + 1 ∧ civil_Date.L2 r y m = some (y, m', d', 0) := by
  intro k
  have hz := lp_bd y
  have hl := sm_last y
  induction k with
  | zero =>
    intro m r h1 h2 h3 h4
    have hs := sm_step y (m := m) (by omega)
    rw [show m + 1 = 13 by omega] at hs
    refine ⟨m, r + 1, by omega, by omega, by omega, by omega, by omega, ?_⟩
    rw [civil_Date.L2_eq, Len_eq y m hy (by omega), bind_some_, if_neg (by omega), wrap64_id (by omega) (by have := ml_le y m; omega)]
  | succ k ih =>
    intro m r h1 h2 h3 h4
    have hs := sm_step y (m := m) (by omega)
    have hb := ml_bd y (m := m) (by omega)
    have hx := sm_mono y (m - 1).toNat 1 (by omega) (by omega)
    rw [show (1 : Int) + ((m - 1).toNat : Int) = m by omega, sm_one] at hx
    by_cases h5 : r ≥ ml y m
    · obtain ⟨m', d', a1, a2, a3, a4, a5, a6⟩ := ih (m + 1) (r - ml y m) (by omega) (by omega) (by omega) (by omega)
      refine ⟨m', d', a1, a2, a3, a4, by omega, ?_⟩
      rw [civil_Date.L2_eq, Len_eq y m hy (by omega), bind_some_, if_pos h5, bind_some_, wrap64_id (by omega) (by omega), wrap64_id (by omega) (by omega), a6]
    · refine ⟨m, r + 1, by omega, by omega, by omega, by omega, by omega, ?_⟩
      rw [civil_Date.L2_eq, Len_eq y m hy (by omega), bind_some_, if_neg h5, wrap64_id (by omega) (by omega)]
theorem Date_L1 {n z : Int} (hz : 0 ≤ z ∧ z ≤ 10000) (h1 : ah z ≤ n) (h2 : n < ah (z + 1)) : ∀ (k : Nat) (y : Int), 0 ≤ y → y + k = z → civil_Date.L1 n y = civil_Date.L2 (n - ah z) z 1 := by
  have hb := ah_bd hz.1 (show z ≤ 20000 by omega)
  have hb' := ah_bd (show 0 ≤ z + 1 by omega) (show z + 1 ≤ 20000 by omega)
  intro k
  induction k with
  | zero =>
    intro y h3 h4
    have : y = z := by omega
    subst this
    rw [civil_Date.L1_eq, wrap64_id (n := y + 1) (by omega) (by omega), ahead_eq (y + 1) (by omega) (by omega), bind_some_, if_neg (by omega), ahead_eq y h3 (by omega), bind_some_, wrap64_id (by omega) (by omega)]
  | succ k ih =>
    intro y h3 h4
    have hm := ah_mono (show y + 1 ≤ z by omega)
    rw [civil_Date.L1_eq, wrap64_id (n := y + 1) (by omega) (by omega), ahead_eq (y + 1) (by omega) (by omega), bind_some_, if_pos (by omega), ih (y + 1) (by omega) (by omega)]
theorem Date_L0 {n z : Int} (hz : 0 ≤ z ∧ z ≤ 10000) (h1 : ah z ≤ n) (h2 : n < ah (z + 1)) : ∀ (k : Nat) (y : Int), 0 ≤ y → y ≤ 10001 → y ≤ z + k → civil_Date.L0 n y = civil_Date.L2 (n - ah z) z 1 := by
  intro k
  induction k with
  | zero =>
    intro y h3 h4 h5
    have hm := ah_mono (show y ≤ z by omega)
    rw [civil_Date.L0_eq, ahead_eq y h3 (by omega), bind_some_, if_neg (by omega), Date_L1 hz h1 h2 (z - y).toNat y h3 (by omega)]
  | succ k ih =>
    intro y h3 h4 h5
    by_cases h6 : y ≤ z + k
    · exact ih y h3 h4 h6
    · have hm := ah_mono (show z + 1 ≤ y by omega)
      rw [civil_Date.L0_eq, ahead_eq y h3 (by omega), bind_some_, if_pos (by omega), wrap64_id (by omega) (by omega), ih (y - 1) (by omega) (by omega) (by omega)]
theorem dn_range {y m d : Int} (h : Dt y m d) : -719528 ≤ dn y m d ∧ dn y m d < 2933263 := by
  have a := dn_in h
  have b := ah_mono (show (0 : Int) ≤ y from h.1)
  have c := ah_mono (show y + 1 ≤ 10001 by have := h.2.1; omega)
  have e0 : ah 0 = 0 := by decide
  have e1 : ah 10001 = 3652791 := by decide
  have := h.1
  have := h.2.1
  omega
theorem Date_ex {n : Int} (h : -719528 ≤ n ∧ n < 2933263) : ∃ y m d, Dt y m d ∧ n = dn y m d ∧ civil_Date.F n = some (y, m, d, 0) := by
  obtain ⟨y, y0, y1, y2⟩ := year_of (n + 719528) (by omega)
  have e1 : ah 10001 = 3652791 := by decide
  have hy : y ≤ 10000 := by
    by_cases hc : y ≤ 10000
    · exact hc
    · have c := ah_mono (show 10001 ≤ y by omega); omega
  have hb := ah_bd y0 (show y ≤ 20000 by omega)
  have hstep := ah_step y
  obtain ⟨m, d, m0, m1, d0, d1, hs, he⟩ := Date_L2 y y0 11 1 (n + 719528 - ah y) (by omega) (by omega) (by omega) (by rw [sm_one, sm_last]; omega)
  rw [sm_one] at hs
  refine ⟨y, m, d, ⟨y0, hy, m0, m1, d0, d1⟩, by unfold dn; omega, ?_⟩
  rw [civil_Date.F_eq, if_neg (by omega), civil_Date.J0_eq, decide_eq_false (by omega), if_neg (by simp), wrap64_id (n := n + 719528) (by omega) (by omega), wrap64_id (n := (n + 719528) * 400) (by omega) (by omega), Int.tdiv_eq_ediv_of_nonneg (by omega), wrap64_id (by omega) (by omega),
    Date_L0 ⟨y0, hy⟩ y1 y2 10001 _ (by omega) (by omega) (by omega), he]
theorem Date_eq {y m d : Int} (h : Dt y m d) : civil_Date.F (dn y m d) = some (y, m, d, 0) := by
  obtain ⟨y', m', d', h', e, f⟩ := Date_ex (dn_range h)
  obtain ⟨rfl, rfl, rfl⟩ := (dn_iff h h').2.1 e
  exact f
theorem Date_out {n : Int} (h : n < -719528 ∨ 2933263 ≤ n) : civil_Date.F n = some (0, 0, 0, 23) := by
  rw [civil_Date.F_eq, civil_Date.J0_eq, civil_Date.J0_eq]
  by_cases h1 : n < -719528
  · rw [if_pos h1, if_pos rfl]
  · rw [if_neg h1, decide_eq_true (by omega), if_pos rfl]
end Go.Proofs.YtligbecmbefclaaDoor.Base

namespace Go.Proofs.YtligbecmbefclaaDoor.Base
open Go.RowKit Go.Proofs.YtligbecmbefclaaDoor.PVex Go.Proofs.YtligbecmbefclaaDoorW.PrintWords Go.Proofs.YtligbecmbefclaaDoorW.PrintLast Go.Proofs.YtligbecmbefclaaDoorW.PrintMore
set_option linter.unusedVariables false
set_option linter.unusedSimpArgs false
theorem clock_Split_eq (n : Int) (h : -9223372036854775808 ≤ n ∧ n ≤ 9223372036854775807) : clock_Split.f n = some (n / 86400, n % 86400) := by
  unfold clock_Split.f
  have := tdiv_wrap (a := n) (b := 86400) (by omega) h (by omega)
  rw [← this]
  split <;> rfl
-- digits
theorem txt2 {n : Int} (h : 0 ≤ n ∧ n < 100) : txt n 2 = [48 + n / 10, 48 + n % 10] := by
  unfold txt wide
  rw [if_neg (by omega), if_neg (by omega)]
  by_cases h1 : n < 10
  · rw [digs_small (by omega)]
    have e1 : n / 10 = 0 := by omega
    have e2 : n % 10 = n := by omega
    rw [e1, e2, show ((n.toNat : Nat) : Int) = n by omega]
    rfl
  · rw [digs_big (by omega), digs_small (by omega), show ((n.toNat / 10 : Nat) : Int) = n / 10 by omega, show ((n.toNat % 10 : Nat) : Int) = n % 10 by omega]
    rfl
theorem txt4 {n : Int} (h : 0 ≤ n ∧ n < 10000) : txt n 4 = txt (n / 100) 2 ++ txt (n % 100) 2 := by
  rw [txt2 (n := n / 100) (by omega), txt2 (n := n % 100) (by omega)]
  unfold txt wide
  rw [if_neg (by omega), if_neg (by omega)]
  have e3 : n / 100 / 10 = n / 1000 := by omega
  by_cases h1 : n < 10
  · rw [digs_small (by omega), show ((n.toNat : Nat) : Int) = n by omega, show n / 100 / 10 = 0 by omega, show n / 100 % 10 = 0 by omega, show n % 100 / 10 = 0 by omega, show n % 100 % 10 = n by omega]
    rfl
  · rw [digs_big (by omega)]
    by_cases h2 : n < 100
    · rw [digs_small (by omega), show ((n.toNat / 10 : Nat) : Int) = n % 100 / 10 by omega, show ((n.toNat % 10 : Nat) : Int) = n % 100 % 10 by omega, show n / 100 / 10 = 0 by omega, show n / 100 % 10 = 0 by omega]
      rfl
    · rw [digs_big (by omega)]
      by_cases h3 : n < 1000
      · rw [digs_small (by omega), show ((n.toNat / 10 / 10 : Nat) : Int) = n / 100 % 10 by omega, show ((n.toNat / 10 % 10 : Nat) : Int) = n % 100 / 10 by omega, show ((n.toNat % 10 : Nat) : Int) = n % 100 % 10 by omega, show n / 100 / 10 = 0 by omega]
        rfl
      · rw [digs_big (by omega), digs_small (by omega), show ((n.toNat / 10 / 10 / 10 : Nat) : Int) = n / 100 / 10 by omega, show ((n.toNat / 10 / 10 % 10 : Nat) : Int) = n / 100 % 10 by omega, show ((n.toNat / 10 % 10 : Nat) : Int) = n % 100 / 10 by omega, show ((n.toNat % 10 : Nat) : Int) = n % 100 % 10 by omega]
        rfl
theorem dig_ok {c : Int} (h : 0 ≤ c ∧ c ≤ 9) : isDig (48 + c) = true := by rw [isDig_iff]; omega
theorem two_dig {n : Int} (h : 0 ≤ n ∧ n < 100) : (txt n 2).all isDig = true ∧ val 0 (txt n 2) = n ∧ (txt n 2).length = 2 := by
  rw [txt2 h]
  refine ⟨?_, ?_, rfl⟩
  · rw [List.all_cons, List.all_cons, List.all_nil, dig_ok (by omega), dig_ok (by omega)]; rfl
  · simp only [val]
    omega
theorem four_dig {n : Int} (h : 0 ≤ n ∧ n < 10000) : (txt n 4).all isDig = true ∧ val 0 (txt n 4) = n ∧ (txt n 4).length = 4 := by
  rw [txt4 h, txt2 (n := n / 100) (by omega), txt2 (n := n % 100) (by omega)]
  refine ⟨?_, ?_, rfl⟩
  · simp only [List.cons_append, List.nil_append, List.all_cons, List.all_nil]
    rw [dig_ok (by omega), dig_ok (by omega), dig_ok (by omega), dig_ok (by omega)]; rfl
  · simp only [List.cons_append, List.nil_append, val]
    omega
-- numbers, one behind the other
def nums : List Int → List Int → Option (List Int)
  | [], l => if l = [] then some [] else none
  | k :: ks, l => if (l.length : Int) < k then none else if (l.take k.toNat).all isDig = true then (nums ks (l.drop k.toNat)).map (val 0 (l.take k.toNat) :: ·) else none
theorem nums_nil {l v : List Int} (h : nums [] l = some v) : v = [] ∧ l = [] := by
  unfold nums at h
  split at h
  · rename_i e; exact ⟨by injection h with h; exact h.symm, e⟩
  · cases h
theorem nums_cons {k : Int} {ks l v : List Int} (h : nums (k :: ks) l = some v) : ∃ v', v = val 0 (l.take k.toNat) :: v' ∧ ¬ (l.length : Int) < k ∧ (l.take k.toNat).all isDig = true ∧ nums ks (l.drop k.toNat) = some v' := by
  rw [nums] at h
  split at h
  · cases h
  · rename_i h1
    split at h
    · rename_i h2
      obtain ⟨v', h3, h4⟩ := Option.map_eq_some_iff.1 h
      exact ⟨v', h4.symm, h1, h2, h3⟩
    · cases h
theorem nums_put {k : Int} {ks a r : List Int} (hk : 0 ≤ k) (hl : (a.length : Int) = k) (hd : a.all isDig = true) : nums (k :: ks) (a ++ r) = (nums ks r).map (val 0 a :: ·) := by
  have e : k.toNat = a.length := by omega
  rw [nums, e, List.take_left, List.drop_left, if_neg (by rw [List.length_append]; omega), if_pos hd]
theorem val_in {l : List Int} {k : Int} (hk : ¬ (l.length : Int) < k) (h : (l.take k.toNat).all isDig = true) : 0 ≤ val 0 (l.take k.toNat) ∧ val 0 (l.take k.toNat) < (10 : Int) ^ k.toNat := by
  have := val_range (l.take k.toNat) 0 0 h (by omega) (by decide)
  rw [Nat.zero_add, List.length_take, Nat.min_eq_left (by omega)] at this
  exact this
theorem rd_rdOf (l : List Int) (i : Int) : rd l i = rdOf 0 l i := rfl
theorem numbers_L0 (xs : List Int) (hx : ∀ n ∈ xs, 1 ≤ n ∧ n ≤ 18) (hl : xs.length ≤ 100) : ∀ (k : Nat) (i : Int) (acc : List Int) (s : ByteArray), i + k = xs.length → 0 ≤ i → (acc.length : Int) ≤ i →
    (∀ v, nums (xs.drop i.toNat) (bytesOf s) = some v → value_numbers.L0 s acc xs (xs.length : Int) i = some (acc ++ v, true)) ∧ (nums (xs.drop i.toNat) (bytesOf s) = none → ∃ l, value_numbers.L0 s acc xs (xs.length : Int) i = some (l, false)) := by
  intro k
  induction k with
  | zero =>
    intro i acc s h1 h2 h3
    rw [drop_nil_ (by omega), value_numbers.L0_eq, if_neg (by omega)]
    have e0 : ([] : List UInt8) = (⟨#[]⟩ : ByteArray).toList := by rw [ByteArray.toList_eq]
    have e1 : s.toList = ([] : List UInt8) ↔ bytesOf s = [] := by
      rw [e0, toList_iff]
      constructor
      · intro h; rw [h]; rfl
      · intro h; exact bytes_inj (by rw [h]; rfl)
    unfold nums
    by_cases h4 : bytesOf s = []
    · rw [if_pos h4]
      refine ⟨fun v hv => ?_, fun h => by cases h⟩
      injection hv with hv
      subst hv
      rw [List.append_nil, e1.2 h4]
      rfl
    · rw [if_neg h4]
      refine ⟨fun v hv => (by cases hv), fun _ => ⟨acc, ?_⟩⟩
      rw [beq_eq_false_iff_ne.2 (fun h => h4 (e1.1 h))]
  | succ k ih =>
    intro i acc s h1 h2 h3
    have hi : i < (xs.length : Int) := by omega
    have hm := hx _ (rdOf_mem 0 h2 hi)
    have hz := size_len s
    rw [drop_cons_ 0 h2 hi, ← rd_rdOf, value_numbers.L0_eq, if_pos hi, if_pos h2, if_pos hi]
    rw [← rd_rdOf] at hm
    generalize rd xs i = x at *
    rw [nums]
    by_cases h4 : (s.size : Int) < x
    · rw [if_pos h4, if_pos (by omega)]
      exact ⟨fun v hv => (by cases hv), fun _ => ⟨[], rfl⟩⟩
    · rw [if_neg h4, if_neg (show ¬ ((bytesOf s).length : Int) < x by omega), if_pos (show 0 ≤ x by omega), if_pos (show x ≤ (s.size : Int) by omega), num_Parse_eq, bind_some_, bytes_extract, List.drop_zero]
      have hlen : ((bytesOf s).take x.toNat).length = x.toNat := by rw [List.length_take]; omega
      unfold parsS
      rw [hlen]
      by_cases h5 : ((bytesOf s).take x.toNat).all isDig = true
      · rw [if_pos (show 1 ≤ x.toNat ∧ x.toNat ≤ 18 ∧ ((bytesOf s).take x.toNat).all isDig = true from ⟨by omega, by omega, h5⟩), if_pos rfl, if_pos h5, if_pos (show acc.length < 17592186044416 by omega), wrap64_id (by omega) (by omega)]
        obtain ⟨q0, q1⟩ := ih (i + 1) (acc ++ [val 0 ((bytesOf s).take x.toNat)]) (s.extract x.toNat s.size) (by omega) (by omega) (by rw [List.length_append, List.length_singleton]; omega)
        rw [extract_all] at q0 q1
        refine ⟨fun v hv => ?_, fun hv => q1 (Option.map_eq_none_iff.1 hv)⟩
        obtain ⟨v', h6, h7⟩ := Option.map_eq_some_iff.1 hv
        rw [q0 v' h6, ← h7, List.append_assoc]
        rfl
      · rw [if_neg (show ¬ (1 ≤ x.toNat ∧ x.toNat ≤ 18 ∧ ((bytesOf s).take x.toNat).all isDig = true) from fun h => h5 h.2.2), if_neg (show ¬ ((0 : Int), false).2 = true by simp), if_neg h5]
        exact ⟨fun v hv => (by cases hv), fun _ => ⟨[], rfl⟩⟩
theorem numbers_eq (s : ByteArray) (xs : List Int) (hx : ∀ n ∈ xs, 1 ≤ n ∧ n ≤ 18) (hl : xs.length ≤ 100) :
    (∀ v, nums xs (bytesOf s) = some v → value_numbers.F s xs = some (v, true)) ∧ (nums xs (bytesOf s) = none → ∃ l, value_numbers.F s xs = some (l, false)) := by
  have := numbers_L0 xs hx hl xs.length 0 [] s (by omega) (by omega) (by simp)
  rw [value_numbers.F_eq]
  exact this
-- a time's text, read
def cutz (l : List Int) : List Int × Bool := if l.getLast? = some 90 then (l.dropLast, true) else (l, false)
theorem cutz_at (r : List Int) : cutz (r ++ [90]) = (r, true) := by
  unfold cutz
  rw [if_pos (by simp), List.dropLast_concat]
theorem CutZ_eq (s : ByteArray) (hs : s.size ≤ 9223372036854775807) : strings_CutSuffix.f s (⟨#[90]⟩ : ByteArray) = some (strOfNums (cutz (bytesOf s)).1, (cutz (bytesOf s)).2) := by
  unfold strings_CutSuffix.f stringslite_CutSuffix.f stringslite_HasSuffix.f
  have hz := size_len s
  have h1 : ((⟨#[90]⟩ : ByteArray).size : Int) = 1 := rfl
  rw [h1]
  rcases List.eq_nil_or_concat (bytesOf s) with h | ⟨r, c, h⟩
  · rw [h] at hz
    have e : s = strOfNums [] := by rw [← strOf_bytes s, h]
    rw [if_neg (by rw [hz]; simp), bind_some_, if_neg (by simp), bind_some_, h]
    unfold cutz
    rw [if_neg (by simp), ← e]
  · rw [List.concat_eq_append] at h
    rw [h, List.length_append, List.length_singleton] at hz
    rw [if_pos (by omega), wrap64_id (by omega) (by omega), if_pos (by omega), if_pos (by omega), bind_some_]
    have e1 : s.extract ((s.size : Int) - 1).toNat s.size = strOfNums [c] := by
      apply bytes_inj
      rw [extract_all, h, show ((s.size : Int) - 1).toNat = r.length by omega, List.drop_left, bytes_strOf (Bytes.right (l := r) (by rw [← h]; exact bytes_of s))]
    have e2 : s.extract 0 ((s.size : Int) - 1).toNat = strOfNums r := by
      apply bytes_inj
      rw [bytes_extract, h, show ((s.size : Int) - 1).toNat = r.length by omega, List.take_left, List.drop_zero, bytes_strOf (Bytes.left (m := [c]) (by rw [← h]; exact bytes_of s))]
    have e3 : (⟨#[90]⟩ : ByteArray) = strOfNums [90] := rfl
    rw [e1, e3, e2]
    by_cases hc : c = 90
    · subst hc
      rw [if_pos (by simp), if_pos (by omega), if_pos (by omega), bind_some_, h, cutz_at]
    · have hb : ((strOfNums [c]).toList == (strOfNums [90]).toList) = false := by
        rw [beq_eq_false_iff_ne]
        intro he
        have := strOf_inj (Bytes.right (l := r) (by rw [← h]; exact bytes_of s)) (Bytes.cons (by omega) (by omega) Bytes.nil) (toList_iff.1 he)
        injection this with h9
        exact hc h9
      rw [hb, if_neg (by simp), bind_some_, h]
      unfold cutz
      rw [if_neg (by simp [hc])]
      show some (s, false) = some (strOfNums (r ++ [c]), false)
      rw [← h, strOf_bytes]
def okT (y m d h i s : Int) : Prop := 1 ≤ y ∧ Dt y m d ∧ h < 24 ∧ i < 60 ∧ s < 60
instance (y m d h i s : Int) : Decidable (okT y m d h i s) := inferInstanceAs (Decidable (_ ∧ _))
def ptV (u : Bool) : Option (List Int) → Option (Int × Bool)
  | some [y, m, d, h, i, s] => if okT y m d h i s then some (dn y m d * 86400 + h * 3600 + i * 60 + s, u) else none
  | _ => none
def ptB (c : List Int) (u : Bool) : Option (Int × Bool) := if c.length = 15 ∧ c[8]? = some 84 then ptV u (nums [4, 2, 2, 2, 2, 2] (c.take 8 ++ c.drop 9)) else none
def ptS (l : List Int) : Option (Int × Bool) := ptB (cutz l).1 (cutz l).2
def encT : Option (Int × Bool) → Int × Bool × Int
  | some (t, u) => (t, u, 0)
  | none => (0, false, 19)
theorem six_in {l v : List Int} (h : nums [4, 2, 2, 2, 2, 2] l = some v) : ∃ y m d h i s, v = [y, m, d, h, i, s] ∧ 0 ≤ y ∧ y < 10000 ∧ 0 ≤ m ∧ m < 100 ∧ 0 ≤ d ∧ d < 100 ∧ 0 ≤ h ∧ h < 100 ∧ 0 ≤ i ∧ i < 100 ∧ 0 ≤ s ∧ s < 100 := by
  obtain ⟨v1, rfl, z1, a1, h⟩ := nums_cons h
  obtain ⟨v2, rfl, z2, a2, h⟩ := nums_cons h
  obtain ⟨v3, rfl, z3, a3, h⟩ := nums_cons h
  obtain ⟨v4, rfl, z4, a4, h⟩ := nums_cons h
  obtain ⟨v5, rfl, z5, a5, h⟩ := nums_cons h
  obtain ⟨v6, rfl, z6, a6, h⟩ := nums_cons h
  obtain ⟨rfl, _⟩ := nums_nil h
  have b1 := val_in z1 a1
  have b2 := val_in z2 a2
  have b3 := val_in z3 a3
  have b4 := val_in z4 a4
  have b5 := val_in z5 a5
  have b6 := val_in z6 a6
  have p4 : (10 : Int) ^ (4 : Int).toNat = 10000 := by decide
  have p2 : (10 : Int) ^ (2 : Int).toNat = 100 := by decide
  rw [p4] at b1
  rw [p2] at b2 b3 b4 b5 b6
  exact ⟨_, _, _, _, _, _, rfl, b1.1, b1.2, b2.1, b2.2, b3.1, b3.2, b4.1, b4.2, b5.1, b5.2, b6.1, b6.2⟩
theorem dn_small {y m d : Int} (h : Dt y m d) : -719528 ≤ dn y m d ∧ dn y m d < 2933263 := dn_range h
theorem time_J1 (u : Bool) (y m d h i s : Int) (hb : 0 ≤ y ∧ y < 10000 ∧ 0 ≤ m ∧ m < 100 ∧ 0 ≤ d ∧ d < 100 ∧ 0 ≤ h ∧ h < 100 ∧ 0 ≤ i ∧ i < 100 ∧ 0 ≤ s ∧ s < 100) :
    value_ParseTime.J1 u [y, m, d, h, i, s] false = some (encT (if Dt y m d then some (dn y m d * 86400 + h * 3600 + i * 60 + s, u) else none)) := by
  rw [value_ParseTime.J1_eq, if_neg (by simp), if_pos (by simp), if_pos (by simp), if_pos (by simp)]
  show (civil_Number.F y m d).bind _ = _
  rw [Number_eq y m d (by omega), bind_some_]
  by_cases h1 : Dt y m d
  · have := dn_small h1
    rw [if_pos h1, if_pos rfl, if_pos (by simp), if_pos (by simp), if_pos (by simp), if_pos h1]
    show some (wrap64 (wrap64 (wrap64 (wrap64 (dn y m d * 86400) + wrap64 (h * 3600)) + wrap64 (i * 60)) + s), u, (0 : Int)) = _
    rw [wrap64_id (n := dn y m d * 86400) (by omega) (by omega), wrap64_id (n := h * 3600) (by omega) (by omega), wrap64_id (n := i * 60) (by omega) (by omega), wrap64_id (n := dn y m d * 86400 + h * 3600) (by omega) (by omega), wrap64_id (n := dn y m d * 86400 + h * 3600 + i * 60) (by omega) (by omega), wrap64_id (by omega) (by omega)]
    rfl
  · rw [if_neg h1, if_neg (by decide), if_neg h1]
    rfl
theorem time_J1t (u : Bool) (l : List Int) : value_ParseTime.J1 u l true = some (0, false, 19) := by rw [value_ParseTime.J1_eq, if_pos rfl]
theorem time_J0 (c : List Int) (hc : Bytes c) (u : Bool) (hl : c.length = 15) : value_ParseTime.J0 (strOfNums c) u false = some (encT (ptV u (nums [4, 2, 2, 2, 2, 2] (c.take 8 ++ c.drop 9)))) := by
  have hs : ((strOfNums c).size : Int) = 15 := by rw [size_strOf]; omega
  have hs' : (strOfNums c).size = 15 := by omega
  have e1 : bytesOf ((strOfNums c).extract 0 8 ++ (strOfNums c).extract 9 (strOfNums c).size) = c.take 8 ++ c.drop 9 := by rw [bytes_append, bytes_extract, extract_all, bytes_strOf hc, List.drop_zero]
  have hz : ((strOfNums c).extract 0 8).size + ((strOfNums c).extract 9 (strOfNums c).size).size ≤ 9223372036854775807 := by rw [ByteArray.size_extract, ByteArray.size_extract, hs']; omega
  obtain ⟨q0, q1⟩ := numbers_eq ((strOfNums c).extract 0 8 ++ (strOfNums c).extract 9 (strOfNums c).size) [4, 2, 2, 2, 2, 2] (by simp) (by simp)
  rw [e1] at q0 q1
  rw [value_ParseTime.J0_eq, if_neg (by simp), if_pos (by omega), if_pos (by omega), if_pos (by omega), if_pos hz]
  cases hn : nums [4, 2, 2, 2, 2, 2] (c.take 8 ++ c.drop 9) with
  | none =>
    obtain ⟨l, hl⟩ := q1 hn
    rw [hl, bind_some_, if_neg (by simp), time_J1t]
    rfl
  | some v =>
    rw [q0 v hn, bind_some_]
    obtain ⟨y, m, d, h, i, s, rfl, hb⟩ := six_in hn
    dsimp only
    rw [if_pos rfl, if_pos (by simp)]
    show (if y < 1 then _ else _) = _
    unfold ptV
    dsimp only
    by_cases h1 : y < 1
    · rw [if_pos h1, time_J1t, if_neg (fun h' : okT y m d h i s => by have := h'.1; omega)]; rfl
    · rw [if_neg h1, if_pos (by simp)]
      show (if h ≥ 24 then _ else _) = _
      by_cases h2 : h ≥ 24
      · rw [if_pos h2, time_J1t, if_neg (fun h' : okT y m d h i s => by have := h'.2.2.1; omega)]; rfl
      · rw [if_neg h2, if_pos (by simp)]
        show (if i ≥ 60 then _ else _) = _
        by_cases h3 : i ≥ 60
        · rw [if_pos h3, time_J1t, if_neg (fun h' : okT y m d h i s => by have := h'.2.2.2.1; omega)]; rfl
        · rw [if_neg h3, if_pos (by simp)]
          show value_ParseTime.J1 u [y, m, d, h, i, s] (decide (s ≥ 60)) = _
          by_cases h4 : s ≥ 60
          · rw [decide_eq_true h4, time_J1t, if_neg (fun h' : okT y m d h i s => by have := h'.2.2.2.2; omega)]; rfl
          · rw [decide_eq_false h4, time_J1 u y m d h i s hb]
            by_cases h5 : Dt y m d
            · rw [if_pos h5, if_pos (show okT y m d h i s from ⟨by omega, h5, by omega, by omega, by omega⟩)]
            · rw [if_neg h5, if_neg (fun h' : okT y m d h i s => h5 h'.2.1)]
end Go.Proofs.YtligbecmbefclaaDoor.Base

namespace Go.Proofs.YtligbecmbefclaaDoor.Base
open Go.RowKit Go.Proofs.YtligbecmbefclaaDoor.PVex Go.Proofs.YtligbecmbefclaaDoorW.PrintWords Go.Proofs.YtligbecmbefclaaDoorW.PrintLast Go.Proofs.YtligbecmbefclaaDoorW.PrintMore
set_option linter.unusedVariables false
set_option linter.unusedSimpArgs false
theorem cutz_bytes {l : List Int} (h : Bytes l) : Bytes (cutz l).1 := by
  unfold cutz
  split
  · exact fun x hx => h x (List.dropLast_subset _ hx)
  · exact h
theorem time_bad (c : ByteArray) (u : Bool) : value_ParseTime.J0 c u true = some (0, false, 19) := by rw [value_ParseTime.J0_eq, if_pos rfl]
theorem ParseTime_eq (s : ByteArray) (hs : s.size ≤ 9223372036854775807) : value_ParseTime.F s = some (encT (ptS (bytesOf s))) := by
  rw [value_ParseTime.F_eq, CutZ_eq s hs, bind_some_]
  unfold ptS ptB
  have hb := cutz_bytes (bytes_of s)
  generalize (cutz (bytesOf s)).1 = c at *
  generalize (cutz (bytesOf s)).2 = u at *
  dsimp only
  rw [size_strOf]
  by_cases h1 : c.length = 15
  · rw [if_pos (by omega), if_pos (by omega)]
    have e8 : rest (strOfNums c) 8 = bt (strOfNums c) 8 :: rest (strOfNums c) 9 := rest_cons (by omega) (by rw [size_strOf]; omega)
    unfold rest at e8
    rw [bytes_strOf hb] at e8
    have e9 : c[8]? = some (bt (strOfNums c) 8) := by
      have := congrArg List.head? e8
      rw [List.head?_cons, List.head?_drop] at this
      exact this
    by_cases h2 : bt (strOfNums c) 8 = 84
    · rw [e9, h2, if_pos ⟨h1, rfl⟩]
      exact time_J0 c hb u h1
    · rw [e9, if_neg (fun h => h2 (by injection h.2))]
      rw [bne_iff_ne.2 h2, time_bad]
      rfl
  · rw [if_neg (by omega), if_neg (fun h => h1 h.1), time_bad]
    rfl
-- written
def ttx (y m d h i s : Int) (u : Bool) : List Int := txt y 4 ++ (txt m 2 ++ (txt d 2 ++ ([84] ++ (txt h 2 ++ (txt i 2 ++ (txt s 2 ++ (if u = true then [90] else [])))))))
theorem ttx_bytes (y m d h i s : Int) (u : Bool) : Bytes (ttx y m d h i s u) := by
  unfold ttx
  refine Bytes.app (txt_bytes _ _) (Bytes.app (txt_bytes _ _) (Bytes.app (txt_bytes _ _) (Bytes.app (Bytes.cons (by omega) (by omega) Bytes.nil) (Bytes.app (txt_bytes _ _) (Bytes.app (txt_bytes _ _) (Bytes.app (txt_bytes _ _) ?_))))))
  split
  · exact Bytes.cons (by omega) (by omega) Bytes.nil
  · exact Bytes.nil
theorem txt_str {n k : Int} (h : 0 ≤ n ∧ n ≤ 100000) (hk : 0 ≤ k ∧ k ≤ 20) : num_Text.f n k = some (strOfNums (txt n k)) := num_Text_eq n k (by omega) (by omega)
theorem Time_J0 (u : Bool) (y m d sec : Int) (h : Dt y m d) (hy : y ≤ 9999) (hs : 0 ≤ sec ∧ sec < 86400) : value_Time.J0 u sec false y m d = some (strOfNums (ttx y m d (sec / 3600) (sec % 3600 / 60) (sec % 60) u), 0) := by
  have hd := ml_le y m
  obtain ⟨h0, h1, h2, h3, h4, h5⟩ := h
  have l4 := (four_dig (n := y) (by omega)).2.2
  have lm := (two_dig (n := m) (by omega)).2.2
  have ld := (two_dig (n := d) (by omega)).2.2
  have lh := (two_dig (n := sec / 3600) (by omega)).2.2
  have li := (two_dig (n := sec % 3600 / 60) (by omega)).2.2
  have ls := (two_dig (n := sec % 60) (by omega)).2.2
  have s1 : ((⟨#[84]⟩ : ByteArray)) = strOfNums [84] := rfl
  have s2 : ((⟨#[90]⟩ : ByteArray)) = strOfNums [90] := rfl
  rw [value_Time.J0_eq, if_neg (by simp), Int.tmod_eq_emod_of_nonneg hs.1, Int.tdiv_eq_ediv_of_nonneg hs.1, Int.tdiv_eq_ediv_of_nonneg (by omega), wrap64_id (n := sec / 3600) (by omega) (by omega), wrap64_id (n := sec % 3600 / 60) (by omega) (by omega), Int.tmod_eq_emod_of_nonneg hs.1]
  rw [txt_str (n := y) (by omega) (by omega), bind_some_, txt_str (n := m) (by omega) (by omega), bind_some_, txt_str (n := d) (by omega) (by omega), bind_some_, txt_str (n := sec / 3600) (by omega) (by omega), bind_some_, txt_str (n := sec % 3600 / 60) (by omega) (by omega), bind_some_, txt_str (n := sec % 60) (by omega) (by omega), bind_some_]
  rw [s1, s2]
  simp only [strOf_append, size_strOf, List.length_append, l4, lm, ld, lh, li, ls, List.length_singleton]
  rw [if_pos (by omega), if_pos (by omega), if_pos (by omega), if_pos (by omega), if_pos (by omega), if_pos (by omega)]
  unfold ttx
  cases u with
  | true => rw [if_pos rfl, if_pos (by omega), if_pos rfl]; simp only [List.append_assoc]
  | false => rw [if_neg (by simp), if_neg (by simp), List.append_nil]; simp only [List.append_assoc]
theorem Time_eq (u : Bool) (y m d t : Int) (h : Dt y m d) (hy : 1 ≤ y ∧ y ≤ 9999) (ht : t / 86400 = dn y m d) : value_Time.F t u = some (strOfNums (ttx y m d (t % 86400 / 3600) (t % 86400 % 3600 / 60) (t % 86400 % 60) u), 0) := by
  have hr := dn_range h
  rw [value_Time.F_eq, clock_Split_eq t (by omega), bind_some_]
  dsimp only
  rw [ht, Date_eq h, bind_some_]
  dsimp only
  rw [if_pos rfl, if_neg (by omega), decide_eq_false (by omega), Time_J0 u y m d (t % 86400) h hy.2 (by omega)]
-- what is written is read
theorem ptS_ttx (y m d h i s : Int) (u : Bool) (hd : Dt y m d) (hy : 1 ≤ y ∧ y ≤ 9999) (hh : 0 ≤ h ∧ h < 24) (hi : 0 ≤ i ∧ i < 60) (hs : 0 ≤ s ∧ s < 60) : ptS (ttx y m d h i s u) = some (dn y m d * 86400 + h * 3600 + i * 60 + s, u) := by
  have hl := ml_le y m
  have hd' := hd
  obtain ⟨h0, h1, h2, h3, h4, h5⟩ := hd'
  have ey := four_dig (n := y) (by omega)
  have em := two_dig (n := m) (by omega)
  have ed := two_dig (n := d) (by omega)
  have eh := two_dig (n := h) (by omega)
  have ei := two_dig (n := i) (by omega)
  have es := two_dig (n := s) (by omega)
  have hc : cutz (ttx y m d h i s u) = (txt y 4 ++ (txt m 2 ++ (txt d 2 ++ ([84] ++ (txt h 2 ++ (txt i 2 ++ txt s 2))))), u) := by
    unfold ttx
    cases u with
    | true =>
      rw [if_pos rfl]
      have := cutz_at (txt y 4 ++ (txt m 2 ++ (txt d 2 ++ ([84] ++ (txt h 2 ++ (txt i 2 ++ txt s 2))))))
      simp only [List.append_assoc] at this
      exact this
    | false =>
      rw [if_neg (by simp), List.append_nil, txt2 (n := s) (by omega)]
      unfold cutz
      rw [if_neg]
      simp only [← List.append_assoc]
      rw [show ∀ (a : List Int) (p q : Int), a ++ [p, q] = (a ++ [p]) ++ [q] from fun a p q => by simp, List.getLast?_concat]
      intro e
      injection e with e
      omega
  unfold ptS
  rw [hc]
  unfold ptB
  dsimp only
  have e8 : (txt y 4 ++ (txt m 2 ++ (txt d 2 ++ ([84] ++ (txt h 2 ++ (txt i 2 ++ txt s 2))))))[8]? = some 84 := by
    rw [List.getElem?_append_right (by omega), List.getElem?_append_right (by omega), List.getElem?_append_right (by omega), ey.2.2, em.2.2, ed.2.2]
    rfl
  have e1 : (txt y 4 ++ (txt m 2 ++ (txt d 2 ++ ([84] ++ (txt h 2 ++ (txt i 2 ++ txt s 2)))))).take 8 = txt y 4 ++ (txt m 2 ++ txt d 2) := by
    rw [← List.append_assoc (txt m 2), ← List.append_assoc (txt y 4)]
    exact List.take_left' (by simp only [List.length_append]; omega)
  have e2 : (txt y 4 ++ (txt m 2 ++ (txt d 2 ++ ([84] ++ (txt h 2 ++ (txt i 2 ++ txt s 2)))))).drop 9 = txt h 2 ++ (txt i 2 ++ txt s 2) := by
    rw [← List.append_assoc (txt d 2), ← List.append_assoc (txt m 2), ← List.append_assoc (txt y 4)]
    exact List.drop_left' (by simp only [List.length_append, List.length_singleton]; omega)
  rw [if_pos ⟨by simp only [List.length_append, List.length_singleton]; omega, e8⟩, e1, e2]
  simp only [List.append_assoc]
  have e0 : txt s 2 = txt s 2 ++ [] := by rw [List.append_nil]
  rw [e0, nums_put (by omega) (by omega) ey.1, nums_put (by omega) (by omega) em.1, nums_put (by omega) (by omega) ed.1, nums_put (by omega) (by omega) eh.1, nums_put (by omega) (by omega) ei.1, nums_put (by omega) (by omega) es.1]
  rw [ey.2.1, em.2.1, ed.2.1, eh.2.1, ei.2.1, es.2.1]
  show ptV u (some [y, m, d, h, i, s]) = _
  unfold ptV
  dsimp only
  rw [if_pos (show okT y m d h i s from ⟨hy.1, hd, by omega, by omega, by omega⟩)]
-- the order
def ltL : List Int → List Int → Bool
  | _, [] => false
  | [], _ :: _ => true
  | a :: x, b :: y => decide (a < b) || (a == b && ltL x y)
theorem less_ltL : ∀ {a b : List Int}, Bytes a → Bytes b → Op.bytesLess (strOfNums a).toList (strOfNums b).toList = ltL a b := by
  have e : ∀ l : List Int, (strOfNums l).toList = l.map (fun n => n.toNat.toUInt8) := fun l => by rw [ByteArray.toList_eq]; simp [strOfNums]
  intro a
  induction a with
  | nil => intro b _ _; rw [e, e]; cases b <;> rfl
  | cons x a ih =>
    intro b ha hb
    cases b with
    | nil => rw [e, e]; rfl
    | cons y b =>
      have hx := ha.head
      have hy := hb.head
      have := ih ha.tail hb.tail
      rw [e, e] at this ⊢
      show (decide (x.toNat.toUInt8 < y.toNat.toUInt8) || (x.toNat.toUInt8 == y.toNat.toUInt8 && Op.bytesLess (a.map fun n => n.toNat.toUInt8) (b.map fun n => n.toNat.toUInt8))) = (decide (x < y) || (x == y && ltL a b))
      rw [this]
      have k1 : (x.toNat.toUInt8 < y.toNat.toUInt8) ↔ x < y := by
        rw [UInt8.lt_iff_toNat_lt, Nat.toUInt8_eq, Nat.toUInt8_eq, UInt8.toNat_ofNat', UInt8.toNat_ofNat']
        omega
      have k2 : x.toNat.toUInt8 = y.toNat.toUInt8 ↔ x = y := by
        constructor
        · intro h
          have := congrArg UInt8.toNat h
          rw [Nat.toUInt8_eq, Nat.toUInt8_eq, UInt8.toNat_ofNat', UInt8.toNat_ofNat'] at this
          omega
        · intro h; rw [h]
      rw [decide_eq_decide.2 k1]
      congr 1
      by_cases h : x = y
      · rw [beq_iff_eq.2 h, beq_iff_eq.2 (k2.2 h)]
      · rw [beq_eq_false_iff_ne.2 h, beq_eq_false_iff_ne.2 (fun h' => h (k2.1 h'))]
theorem ltL_same (a : List Int) (x y : List Int) : ltL (a ++ x) (a ++ y) = ltL x y := by
  induction a with
  | nil => rfl
  | cons c a ih => rw [List.cons_append, List.cons_append, ltL, ih]; simp
theorem ltL_self (x : List Int) : ltL x x = false := by
  induction x with
  | nil => rfl
  | cons c a ih => rw [ltL, ih]; simp
theorem ltL_two {n n' : Int} (h : 0 ≤ n ∧ n < 100) (h' : 0 ≤ n' ∧ n' < 100) (x y : List Int) : ltL (txt n 2 ++ x) (txt n' 2 ++ y) = (decide (n < n') || (n == n' && ltL x y)) := by
  by_cases hn : n = n'
  · subst hn
    rw [ltL_same]
    simp
  · rw [txt2 h, txt2 h', beq_eq_false_iff_ne.2 hn]
    simp only [List.cons_append, List.nil_append, ltL, Bool.false_and, Bool.or_false]
    by_cases h1 : n / 10 = n' / 10
    · have h2 : n % 10 ≠ n' % 10 := by omega
      rw [decide_eq_false (show ¬ 48 + n / 10 < 48 + n' / 10 by omega), beq_iff_eq.2 (show 48 + n / 10 = 48 + n' / 10 by omega), beq_eq_false_iff_ne.2 (show 48 + n % 10 ≠ 48 + n' % 10 by omega)]
      simp only [Bool.false_or, Bool.true_and, Bool.false_and, Bool.or_false]
      exact decide_eq_decide.2 (by omega)
    · rw [beq_eq_false_iff_ne.2 (show 48 + n / 10 ≠ 48 + n' / 10 by omega)]
      simp only [Bool.false_and, Bool.or_false]
      exact decide_eq_decide.2 (by omega)
theorem ltL_four {n n' : Int} (h : 0 ≤ n ∧ n < 10000) (h' : 0 ≤ n' ∧ n' < 10000) (x y : List Int) : ltL (txt n 4 ++ x) (txt n' 4 ++ y) = (decide (n < n') || (n == n' && ltL x y)) := by
  by_cases hn : n = n'
  · subst hn
    rw [ltL_same]
    simp
  · rw [txt4 h, txt4 h', List.append_assoc, List.append_assoc, ltL_two (by omega) (by omega), ltL_two (by omega) (by omega), beq_eq_false_iff_ne.2 hn]
    by_cases h1 : n / 100 = n' / 100
    · rw [decide_eq_false (show ¬ n / 100 < n' / 100 by omega), beq_iff_eq.2 h1, beq_eq_false_iff_ne.2 (show n % 100 ≠ n' % 100 by omega)]
      simp only [Bool.false_or, Bool.true_and, Bool.false_and, Bool.or_false]
      exact decide_eq_decide.2 (by omega)
    · rw [beq_eq_false_iff_ne.2 h1]
      simp only [Bool.false_and, Bool.or_false]
      exact decide_eq_decide.2 (by omega)
theorem ltL_ttx {y m d h i s y' m' d' h' i' s' : Int} (u : Bool) (D : Dt y m d) (D' : Dt y' m' d') (hy : y ≤ 9999) (hy' : y' ≤ 9999) (hh : 0 ≤ h ∧ h < 24) (hi : 0 ≤ i ∧ i < 60) (hs : 0 ≤ s ∧ s < 60) (kh : 0 ≤ h' ∧ h' < 24) (ki : 0 ≤ i' ∧ i' < 60) (ks : 0 ≤ s' ∧ s' < 60) :
    ltL (ttx y m d h i s u) (ttx y' m' d' h' i' s' u) = decide (dn y m d * 86400 + h * 3600 + i * 60 + s < dn y' m' d' * 86400 + h' * 3600 + i' * 60 + s') := by
  obtain ⟨q1, q2⟩ := dn_iff D D'
  have hl := ml_le y m
  have hl' := ml_le y' m'
  obtain ⟨h0, h1, h2, h3, h4, h5⟩ := D
  obtain ⟨k0, k1, k2, k3, k4, k5⟩ := D'
  unfold ttx
  rw [ltL_four (by omega) (by omega), ltL_two (by omega) (by omega), ltL_two (by omega) (by omega), ltL_same, ltL_two (by omega) (by omega), ltL_two (by omega) (by omega), ltL_two (by omega) (by omega), ltL_self]
  generalize dn y m d = n at *
  generalize dn y' m' d' = n' at *
  have e : (decide (y < y') || (y == y' && (decide (m < m') || (m == m' && (decide (d < d') || (d == d' && (decide (h < h') || (h == h' && (decide (i < i') || (i == i' && (decide (s < s') || (s == s' && false)))))))))))) = true ↔ (y < y' ∨ y = y' ∧ (m < m' ∨ m = m' ∧ (d < d' ∨ d = d' ∧ (h < h' ∨ h = h' ∧ (i < i' ∨ i = i' ∧ s < s'))))) := by simp
  rw [Bool.eq_iff_iff, e, decide_eq_true_iff]
  rcases Int.lt_trichotomy n n' with t | t | t
  · have := q1.1 t
    constructor
    · intro _; omega
    · intro _; omega
  · obtain ⟨rfl, rfl, rfl⟩ := q2.1 t
    subst t
    omega
  · have n1 : ¬ n < n' := by omega
    have n2 : ¬ n = n' := by omega
    rw [q1] at n1
    rw [q2] at n2
    constructor
    · intro _; omega
    · intro _; omega
end Go.Proofs.YtligbecmbefclaaDoor.Base
