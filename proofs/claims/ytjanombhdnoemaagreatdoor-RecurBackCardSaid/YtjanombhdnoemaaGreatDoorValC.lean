-- A text of the kit's tools for this claim, its remarks left out.
import Derived.Test.YtjanombhdnoemaaGreatDoorStr
import Derived.Test.YtjanombhdnoemaaGreatDoorERecx11
import Derived.Test.YtjanombhdnoemaaGreatDoorPRecx2
namespace Go.Proofs.YtjanombhdnoemaaGreatDoor.Base
open Go.RowKit Go.Proofs.YtjanombhdnoemaaGreatDoor.PRec Go.Proofs.YtjanombhdnoemaaGreatDoorW.PrintWords Go.Proofs.YtjanombhdnoemaaGreatDoorW.PrintLast Go.Proofs.YtjanombhdnoemaaGreatDoorW.PrintMore
set_option linter.unusedVariables false
set_option linter.unusedSimpArgs false
def lg (y : Int) : Bool := decide (y % 4 = 0 ∧ (y % 100 ≠ 0 ∨ y % 400 = 0))
def lp (y : Int) : Int := if lg y = true then 1 else 0
theorem lp_eq (y : Int) : (y % 4 = 0 ∧ (y % 100 ≠ 0 ∨ y % 400 = 0) ∧ lp y = 1) ∨ (¬ (y % 4 = 0 ∧ (y % 100 ≠ 0 ∨ y % 400 = 0)) ∧ lp y = 0) := by
 unfold lp lg
 by_cases h : y % 4 = 0 ∧ (y % 100 ≠ 0 ∨ y % 400 = 0)
 ·left; exact ⟨h.1, h.2, by rw [if_pos (decide_eq_true h)]⟩
 ·right; exact ⟨h, by rw [if_neg (by simpa using h)]⟩
def ml (y m : Int) : Int := if m < 1 ∨ m > 12 then 0 else if m = 2 then 28 + lp y else if m = 4 ∨ m = 6 ∨ m = 9 ∨ m = 11 then 30 else 31
def ah (y : Int) : Int := 365 * y + (y + 3) / 4 - (y + 99) / 100 + (y + 399) / 400
def sm (y m : Int) : Int := if m ≤ 1 then 0 else if m = 2 then 31 else (if m = 3 then 59 else if m = 4 then 90 else if m = 5 then 120 else if m = 6 then 151 else if m = 7 then 181 else if m = 8 then 212 else if m = 9 then 243 else if m = 10 then 273 else if m = 11 then 304 else if m = 12 then 334 else 365) + lp y
theorem lp_bd (y : Int) : 0 ≤ lp y ∧ lp y ≤ 1 := by rcases lp_eq y with h | h <;> omega
theorem ah_step (y : Int) : ah (y + 1) = ah y + 365 + lp y := by
 unfold ah
 rcases lp_eq y with ⟨h1, h2, h3⟩ | ⟨h1, h3⟩ <;> omega
theorem ah_mono {x y : Int} (h : x ≤ y) : ah x + 365 * (y - x) ≤ ah y := by
 unfold ah
 omega
theorem sm_step (y : Int) {m : Int} (h : 1 ≤ m ∧ m ≤ 12) : sm y (m + 1) = sm y m + ml y m := by
 have hc : m = 1 ∨ m = 2 ∨ m = 3 ∨ m = 4 ∨ m = 5 ∨ m = 6 ∨ m = 7 ∨ m = 8 ∨ m = 9 ∨ m = 10 ∨ m = 11 ∨ m = 12 := by omega
 unfold sm ml
 rcases hc with rfl | rfl | rfl | rfl | rfl | rfl | rfl | rfl | rfl | rfl | rfl | rfl <;> simp <;> omega
theorem sm_one (y : Int) : sm y 1 = 0 := by unfold sm; simp
theorem sm_last (y : Int) : sm y 13 = 365 + lp y := by unfold sm; simp
theorem ml_bd (y : Int) {m : Int} (h : 1 ≤ m ∧ m ≤ 12) : 28 ≤ ml y m ∧ ml y m ≤ 31 := by
 have := lp_bd y
 unfold ml
 split
 ·omega
 ·split
  ·omega
  ·split <;> omega
theorem ml_le (y m : Int) : 0 ≤ ml y m ∧ ml y m ≤ 31 := by
 by_cases h : 1 ≤ m ∧ m ≤ 12
 ·have := ml_bd y h; omega
 ·unfold ml; rw [if_pos (by omega)]; omega
theorem sm_mono (y : Int) : ∀ (k : Nat) (m : Int), 1 ≤ m → m + k ≤ 13 → sm y m + 28 * k ≤ sm y (m + k)
 | 0, m, _, _ => by simp
 | k + 1, m, h0, h1 => by
  have h2 := sm_mono y k m h0 (by omega)
  have h3 := sm_step y (m := m + k) (by omega)
  have h4 := ml_bd y (m := m + k) (by omega)
  rw [show m + ((k + 1 : Nat) : Int) = m + k + 1 by omega]
  omega
theorem sm_lt (y : Int) {m n : Int} (h0 : 1 ≤ m) (h1 : m < n) (h2 : n ≤ 13) : sm y m + ml y m ≤ sm y n := by
 have h3 := sm_mono y (n - (m + 1)).toNat (m + 1) (by omega) (by omega)
 rw [show m + 1 + ((n - (m + 1)).toNat : Int) = n by omega, sm_step y (by omega)] at h3
 omega
theorem sm_bd (y : Int) {m : Int} (h : 1 ≤ m ∧ m ≤ 13) : 0 ≤ sm y m ∧ sm y m ≤ 366 := by
 have a := sm_mono y (13 - m).toNat m h.1 (by omega)
 have b := sm_mono y (m - 1).toNat 1 (by omega) (by omega)
 rw [show m + ((13 - m).toNat : Int) = 13 by omega, sm_last] at a
 rw [show (1 : Int) + ((m - 1).toNat : Int) = m by omega, sm_one] at b
 have := lp_bd y
 omega
def Dt (y m d : Int) : Prop := 0 ≤ y ∧ y ≤ 10000 ∧ 1 ≤ m ∧ m ≤ 12 ∧ 1 ≤ d ∧ d ≤ ml y m
instance (y m d : Int) : Decidable (Dt y m d) := inferInstanceAs (Decidable (_ ∧ _))
def dn (y m d : Int) : Int := ah y + sm y m + d - 1 - 719528
theorem dn_in {y m d : Int} (h : Dt y m d) : ah y - 719528 ≤ dn y m d ∧ dn y m d < ah (y + 1) - 719528 := by
 obtain ⟨h0, h1, h2, h3, h4, h5⟩ := h
 have a := sm_lt y h2 (show m < 13 by omega) (by omega)
 have b := sm_mono y (m - 1).toNat 1 (by omega) (by omega)
 rw [show 1 + ((m - 1).toNat : Int) = m by omega, sm_one] at b
 rw [ah_step]
 rw [sm_last] at a
 unfold dn
 omega
theorem dn_lt {y m d y' m' d' : Int} (h : Dt y m d) (h' : Dt y' m' d') (hl : y < y' ∨ y = y' ∧ (m < m' ∨ m = m' ∧ d < d')) : dn y m d < dn y' m' d' := by
 rcases hl with hl | ⟨rfl, hl | ⟨rfl, hl⟩⟩
 ·have a := dn_in h
  have b := dn_in h'
  have c := ah_mono (show y + 1 ≤ y' by omega)
  omega
 ·obtain ⟨h0, h1, h2, h3, h4, h5⟩ := h
  obtain ⟨_, _, k2, k3, k4, k5⟩ := h'
  have a := sm_lt y h2 hl (by omega)
  unfold dn
  omega
 ·unfold dn
  omega
theorem dn_iff {y m d y' m' d' : Int} (h : Dt y m d) (h' : Dt y' m' d') : (dn y m d < dn y' m' d' ↔ (y < y' ∨ y = y' ∧ (m < m' ∨ m = m' ∧ d < d'))) ∧ (dn y m d = dn y' m' d' ↔ (y = y' ∧ m = m' ∧ d = d')) := by
 have tri : (y < y' ∨ y = y' ∧ (m < m' ∨ m = m' ∧ d < d')) ∨ (y' < y ∨ y' = y ∧ (m' < m ∨ m' = m ∧ d' < d)) ∨ (y = y' ∧ m = m' ∧ d = d') := by omega
 rcases tri with t | t | ⟨rfl, rfl, rfl⟩
 ·have := dn_lt h h' t
  exact ⟨⟨fun _ => t, fun _ => this⟩, ⟨fun e => by omega, fun e => by obtain ⟨rfl, rfl, rfl⟩ := e; omega⟩⟩
 ·have := dn_lt h' h t
  exact ⟨⟨fun e => by omega, fun e => by omega⟩, ⟨fun e => by omega, fun e => by obtain ⟨rfl, rfl, rfl⟩ := e; omega⟩⟩
 ·exact ⟨⟨fun e => by omega, fun e => by omega⟩, ⟨fun _ => ⟨rfl, rfl, rfl⟩, fun _ => rfl⟩⟩
theorem year_of (n : Int) (h0 : 0 ≤ n) : ∃ y, 0 ≤ y ∧ ah y ≤ n ∧ n < ah (y + 1) := by
 have key : ∀ (k : Nat) (y : Int), 0 ≤ y → ah y ≤ n → n < ah (y + k) → ∃ z, y ≤ z ∧ ah z ≤ n ∧ n < ah (z + 1) := by
  intro k
  induction k with
  | zero => intro y _ h1 h2; rw [show y + ((0 : Nat) : Int) = y by omega] at h2; omega
  | succ k ih =>
   intro y hy h1 h2
   by_cases h3 : n < ah (y + 1)
   ·exact ⟨y, by omega, h1, h3⟩
   ·obtain ⟨z, z0, z1, z2⟩ := ih (y + 1) (by omega) (by omega) (by rw [show y + 1 + (k : Int) = y + ((k + 1 : Nat) : Int) by omega]; exact h2)
    exact ⟨z, by omega, z1, z2⟩
 have h1 := ah_mono (show (0 : Int) ≤ n + 1 by omega)
 have e0 : ah 0 = 0 := by decide
 obtain ⟨z, z0, z1, z2⟩ := key (n + 1).toNat 0 (by omega) (by omega) (by rw [show (0 : Int) + ((n + 1).toNat : Int) = n + 1 by omega]; omega)
 exact ⟨z, by omega, z1, z2⟩
theorem ah_bd {y : Int} (h0 : 0 ≤ y) (h1 : y ≤ 20000) : 0 ≤ ah y ∧ ah y ≤ 8000000 := by unfold ah; omega
theorem Long_eq (y : Int) (h : 0 ≤ y) : civil_Long.f y = some (lg y) := by
 unfold civil_Long.f lg
 rw [Int.tmod_eq_emod_of_nonneg h, Int.tmod_eq_emod_of_nonneg h, Int.tmod_eq_emod_of_nonneg h]
 by_cases h1 : y % 4 = 0
 ·rw [if_pos h1]
  by_cases h2 : y % 100 = 0
  ·rw [if_pos h2]; simp [h1, h2]; rfl
  ·rw [if_neg h2]; simp [h1, h2]
 ·rw [if_neg h1]; simp [h1]
theorem Len_eq (y m : Int) (h : 0 ≤ y) (hm : -1000000000 ≤ m ∧ m ≤ 1000000000) : civil_Len.F y m = some (ml y m) := by
 rw [civil_Len.F_eq, civil_Len.J0_eq, civil_Len.J0_eq, Long_eq y h]
 unfold ml
 by_cases h1 : m < 1
 ·rw [if_pos h1, if_pos rfl, if_pos (Or.inl h1)]
 ·rw [if_neg h1]
  by_cases h2 : m > 12
  ·rw [decide_eq_true h2, if_pos rfl, if_pos (Or.inr h2)]
  ·rw [decide_eq_false h2, if_neg (by simp), if_neg (show ¬ (m < 1 ∨ m > 12) by omega)]
   have hc : m = 1 ∨ m = 2 ∨ m = 3 ∨ m = 4 ∨ m = 5 ∨ m = 6 ∨ m = 7 ∨ m = 8 ∨ m = 9 ∨ m = 10 ∨ m = 11 ∨ m = 12 := by omega
   have hl : lp y = if lg y = true then 1 else 0 := rfl
   rcases hc with rfl | rfl | rfl | rfl | rfl | rfl | rfl | rfl | rfl | rfl | rfl | rfl
   rotate_left
   ·rw [if_pos rfl, if_pos rfl, bind_some_, hl]
    by_cases h3 : lg y = true
    ·rw [if_pos h3, if_pos h3]; rfl
    ·rw [if_neg h3, if_neg h3]; simp [wrap64, rd]
   all_goals simp [wrap64, rd]
theorem ahead_eq (y : Int) (h0 : 0 ≤ y) (h1 : y ≤ 20000) : civil_ahead.f y = some (ah y) := by
 unfold civil_ahead.f
 by_cases h : y = 0
 ·subst h; rfl
 ·rw [if_neg h, wrap64_id (n := y - 1) (by omega) (by omega), Int.tdiv_eq_ediv_of_nonneg (by omega), Int.tdiv_eq_ediv_of_nonneg (by omega), Int.tdiv_eq_ediv_of_nonneg (by omega)]
  rw [wrap64_id (n := y * 365) (by omega) (by omega), wrap64_id (n := (y - 1) / 4) (by omega) (by omega), wrap64_id (n := (y - 1) / 100) (by omega) (by omega), wrap64_id (n := (y - 1) / 400) (by omega) (by omega),
   wrap64_id (n := y * 365 + (y - 1) / 4) (by omega) (by omega), wrap64_id (n := y * 365 + (y - 1) / 4 - (y - 1) / 100) (by omega) (by omega), wrap64_id (n := y * 365 + (y - 1) / 4 - (y - 1) / 100 + (y - 1) / 400) (by omega) (by omega), wrap64_id (by omega) (by omega)]
  unfold ah
  congr 1
  omega
theorem right_eq (y m d : Int) (hm : -1000000000 ≤ m ∧ m ≤ 1000000000) : civil_right.F y m d = some (decide (Dt y m d)) := by
 rw [civil_right.F_eq]
 by_cases h0 : y ≥ 0
 ·rw [if_pos h0]
  by_cases h1 : y ≤ 10000
  ·rw [if_pos h1]
   by_cases h2 : d ≥ 1
   ·rw [if_pos h2, Len_eq y m h0 hm, bind_some_]
    congr 1
    by_cases h3 : 1 ≤ m ∧ m ≤ 12
    ·apply decide_eq_decide.2
     constructor
     ·intro h; exact ⟨h0, h1, h3.1, h3.2, h2, h⟩
     ·intro h; exact h.2.2.2.2.2
    ·have : ml y m = 0 := by unfold ml; rw [if_pos (by omega)]
     rw [decide_eq_false (show ¬ d ≤ ml y m by omega), decide_eq_false (fun h : Dt y m d => h3 ⟨h.2.2.1, h.2.2.2.1⟩)]
   ·rw [if_neg h2, decide_eq_false (fun h : Dt y m d => h2 h.2.2.2.2.1)]
  ·rw [if_neg h1, decide_eq_false (fun h : Dt y m d => h1 h.2.1)]
 ·rw [if_neg h0, decide_eq_false (fun h : Dt y m d => h0 h.1)]
theorem Number_L0 (y m d : Int) (h : Dt y m d) : ∀ (k : Nat) (i a : Int), i + k = m → 1 ≤ i → -100000000 ≤ a → a + sm y m - sm y i ≤ 100000000 → civil_Number.L0 a i y m d = some (a + sm y m - sm y i, 0) := by
 obtain ⟨h0, h1, h2, h3, h4, h5⟩ := h
 intro k
 induction k with
 | zero =>
  intro i a hi h6 h7 h8
  have : i = m := by omega
  subst this
  rw [civil_Number.L0_eq, if_neg (by omega)]
  congr 2
  omega
 | succ k ih =>
  intro i a hi h6 h7 h8
  have hb := ml_bd y (m := i) (by omega)
  have hs := sm_step y (m := i) (by omega)
  have hx := sm_mono y (m - (i + 1)).toNat (i + 1) (by omega) (by omega)
  rw [show i + 1 + ((m - (i + 1)).toNat : Int) = m by omega] at hx
  rw [civil_Number.L0_eq, if_pos (by omega), Len_eq y i h0 (by omega), bind_some_, wrap64_id (by omega) (by omega), wrap64_id (by omega) (by omega), ih (i + 1) _ (by omega) (by omega) (by omega) (by omega), hs]
  congr 2
  omega
theorem Number_eq (y m d : Int) (hm : -1000000000 ≤ m ∧ m ≤ 1000000000) : civil_Number.F y m d = some (if Dt y m d then (dn y m d, 0) else (0, 4)) := by
 rw [civil_Number.F_eq, right_eq y m d hm, bind_some_]
 by_cases h : Dt y m d
 ·rw [decide_eq_true h, if_pos rfl, if_pos h]
  have h' := h
  obtain ⟨h0, h1, h2, h3, h4, h5⟩ := h'
  have hl := ml_le y m
  have ha := ah_bd h0 (show y ≤ 20000 by omega)
  have hsb := sm_bd y (m := m) (by omega)
  have hs1 := sm_one y
  rw [ahead_eq y h0 (by omega), bind_some_, wrap64_id (n := ah y - 719528) (by omega) (by omega), wrap64_id (n := ah y - 719528 + d) (by omega) (by omega), wrap64_id (by omega) (by omega),
   Number_L0 y m d h (m - 1).toNat 1 _ (by omega) (by omega) (by omega) (by omega), sm_one]
  unfold dn
  congr 2
  omega
 ·rw [decide_eq_false h, if_neg (by simp), if_neg h]
theorem Date_L2 (y : Int) (hy : 0 ≤ y) : ∀ (k : Nat) (m r : Int), 1 ≤ m → m + k = 12 → 0 ≤ r → sm y m + r < sm y 13 → ∃ m' d', 1 ≤ m' ∧ m' ≤ 12 ∧ 1 ≤ d' ∧ d' ≤ ml y m' ∧ sm y m' + d' = sm y m + r + 1 ∧ civil_Date.L2 r y m = some (y, m', d', 0) := by
 intro k
 have hz := lp_bd y
 have hl := sm_last y
 induction k with
 | zero =>
  intro m r h1 h2 h3 h4
  have hs := sm_step y (m := m) (by omega)
  rw [show m + 1 = 13 by omega] at hs
  refine ⟨m, r + 1, by omega, by omega, by omega, by omega, by omega, ?_⟩
  rw [civil_Date.L2_eq, Len_eq y m hy (by omega), bind_some_, if_neg (by omega), wrap64_id (by omega) (by have := ml_le y m; omega)]
 | succ k ih =>
  intro m r h1 h2 h3 h4
  have hs := sm_step y (m := m) (by omega)
  have hb := ml_bd y (m := m) (by omega)
  have hx := sm_mono y (m - 1).toNat 1 (by omega) (by omega)
  rw [show (1 : Int) + ((m - 1).toNat : Int) = m by omega, sm_one] at hx
  by_cases h5 : r ≥ ml y m
  ·obtain ⟨m', d', a1, a2, a3, a4, a5, a6⟩ := ih (m + 1) (r - ml y m) (by omega) (by omega) (by omega) (by omega)
   refine ⟨m', d', a1, a2, a3, a4, by omega, ?_⟩
   rw [civil_Date.L2_eq, Len_eq y m hy (by omega), bind_some_, if_pos h5, bind_some_, wrap64_id (by omega) (by omega), wrap64_id (by omega) (by omega), a6]
  ·refine ⟨m, r + 1, by omega, by omega, by omega, by omega, by omega, ?_⟩
   rw [civil_Date.L2_eq, Len_eq y m hy (by omega), bind_some_, if_neg h5, wrap64_id (by omega) (by omega)]
theorem Date_L1 {n z : Int} (hz : 0 ≤ z ∧ z ≤ 10000) (h1 : ah z ≤ n) (h2 : n < ah (z + 1)) : ∀ (k : Nat) (y : Int), 0 ≤ y → y + k = z → civil_Date.L1 n y = civil_Date.L2 (n - ah z) z 1 := by
 have hb := ah_bd hz.1 (show z ≤ 20000 by omega)
 have hb' := ah_bd (show 0 ≤ z + 1 by omega) (show z + 1 ≤ 20000 by omega)
 intro k
 induction k with
 | zero =>
  intro y h3 h4
  have : y = z := by omega
  subst this
  rw [civil_Date.L1_eq, wrap64_id (n := y + 1) (by omega) (by omega), ahead_eq (y + 1) (by omega) (by omega), bind_some_, if_neg (by omega), ahead_eq y h3 (by omega), bind_some_, wrap64_id (by omega) (by omega)]
 | succ k ih =>
  intro y h3 h4
  have hm := ah_mono (show y + 1 ≤ z by omega)
  rw [civil_Date.L1_eq, wrap64_id (n := y + 1) (by omega) (by omega), ahead_eq (y + 1) (by omega) (by omega), bind_some_, if_pos (by omega), ih (y + 1) (by omega) (by omega)]
theorem Date_L0 {n z : Int} (hz : 0 ≤ z ∧ z ≤ 10000) (h1 : ah z ≤ n) (h2 : n < ah (z + 1)) : ∀ (k : Nat) (y : Int), 0 ≤ y → y ≤ 10001 → y ≤ z + k → civil_Date.L0 n y = civil_Date.L2 (n - ah z) z 1 := by
 intro k
 induction k with
 | zero =>
  intro y h3 h4 h5
  have hm := ah_mono (show y ≤ z by omega)
  rw [civil_Date.L0_eq, ahead_eq y h3 (by omega), bind_some_, if_neg (by omega), Date_L1 hz h1 h2 (z - y).toNat y h3 (by omega)]
 | succ k ih =>
  intro y h3 h4 h5
  by_cases h6 : y ≤ z + k
  ·exact ih y h3 h4 h6
  ·have hm := ah_mono (show z + 1 ≤ y by omega)
   rw [civil_Date.L0_eq, ahead_eq y h3 (by omega), bind_some_, if_pos (by omega), wrap64_id (by omega) (by omega), ih (y - 1) (by omega) (by omega) (by omega)]
theorem dn_range {y m d : Int} (h : Dt y m d) : -719528 ≤ dn y m d ∧ dn y m d < 2933263 := by
 have a := dn_in h
 have b := ah_mono (show (0 : Int) ≤ y from h.1)
 have c := ah_mono (show y + 1 ≤ 10001 by have := h.2.1; omega)
 have e0 : ah 0 = 0 := by decide
 have e1 : ah 10001 = 3652791 := by decide
 have := h.1
 have := h.2.1
 omega
theorem Date_ex {n : Int} (h : -719528 ≤ n ∧ n < 2933263) : ∃ y m d, Dt y m d ∧ n = dn y m d ∧ civil_Date.F n = some (y, m, d, 0) := by
 obtain ⟨y, y0, y1, y2⟩ := year_of (n + 719528) (by omega)
 have e1 : ah 10001 = 3652791 := by decide
 have hy : y ≤ 10000 := by
  by_cases hc : y ≤ 10000
  ·exact hc
  ·have c := ah_mono (show 10001 ≤ y by omega); omega
 have hb := ah_bd y0 (show y ≤ 20000 by omega)
 have hstep := ah_step y
 obtain ⟨m, d, m0, m1, d0, d1, hs, he⟩ := Date_L2 y y0 11 1 (n + 719528 - ah y) (by omega) (by omega) (by omega) (by rw [sm_one, sm_last]; omega)
 rw [sm_one] at hs
 refine ⟨y, m, d, ⟨y0, hy, m0, m1, d0, d1⟩, by unfold dn; omega, ?_⟩
 rw [civil_Date.F_eq, if_neg (by omega), civil_Date.J0_eq, decide_eq_false (by omega), if_neg (by simp), wrap64_id (n := n + 719528) (by omega) (by omega), wrap64_id (n := (n + 719528) * 400) (by omega) (by omega), Int.tdiv_eq_ediv_of_nonneg (by omega), wrap64_id (by omega) (by omega),
  Date_L0 ⟨y0, hy⟩ y1 y2 10001 _ (by omega) (by omega) (by omega), he]
theorem Date_eq {y m d : Int} (h : Dt y m d) : civil_Date.F (dn y m d) = some (y, m, d, 0) := by
 obtain ⟨y', m', d', h', e, f⟩ := Date_ex (dn_range h)
 obtain ⟨rfl, rfl, rfl⟩ := (dn_iff h h').2.1 e
 exact f
theorem Date_out {n : Int} (h : n < -719528 ∨ 2933263 ≤ n) : civil_Date.F n = some (0, 0, 0, 23) := by
 rw [civil_Date.F_eq, civil_Date.J0_eq, civil_Date.J0_eq]
 by_cases h1 : n < -719528
 ·rw [if_pos h1, if_pos rfl]
 ·rw [if_neg h1, decide_eq_true (by omega), if_pos rfl]
end Go.Proofs.YtjanombhdnoemaaGreatDoor.Base
