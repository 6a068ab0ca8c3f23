/- The law ValueBack over numbers and lists: for every four whole numbers and a yes or no the law's printed function answers true. -/
import Derived.Test.YtligbecmbefclaaDoorValO
import Derived.Test.YtligbecmbefclaaDoorEValx10
import Derived.Test.YtligbecmbefclaaDoorEValx9
namespace Go.Proofs.YtligbecmbefclaaDoor.Pure
open Go.RowKit Go.Proofs.YtligbecmbefclaaDoor.PVal Go.Proofs.YtligbecmbefclaaDoorW.PrintWords Go.Proofs.YtligbecmbefclaaDoorW.PrintLast Go.Proofs.YtligbecmbefclaaDoorW.PrintMore Go.Proofs.YtligbecmbefclaaDoor.Base
set_option linter.unusedVariables false
set_option linter.unusedSimpArgs false
theorem wakes20_ : solsticelaw20_wakes.F = some true := lim_of (solsticelaw20_wakes.isF).mono (k := 200) (by decide +kernel)
theorem first_ : solsticeref01_Number.F 1 1 1 = some (-719162) := lim_of (solsticeref01_Number.isF _ _ _).mono (k := 5) (by decide +kernel)
theorem last_ : solsticeref01_Number.F 10000 1 1 = some 2932897 := lim_of (solsticeref01_Number.isF _ _ _).mono (k := 5) (by decide +kernel)
theorem Some_eq (a : Int) : ∃ t, solsticelaw20_Some.F a = some t ∧ 86400 * (-719162) ≤ t ∧ t < 86400 * 2932897 := by
  have h2 : 0 ≤ IntKind.u64.wrap a := by unfold IntKind.wrap; simp [IntKind.signed, IntKind.bits]; omega
  rw [solsticelaw20_Some.F_eq, first_, bind_some_, last_, bind_some_]
  have e : IntKind.u64.wrap (wrap64 (wrap64 (86400 * 2932897) - wrap64 (86400 * -719162))) = 315537897600 := by decide +kernel
  have e1 : wrap64 (86400 * -719162) = -62135596800 := by decide +kernel
  rw [e, e1, if_neg (by decide), Int.tmod_eq_emod_of_nonneg h2]
  have h3 := Int.emod_nonneg (IntKind.u64.wrap a) (show (315537897600 : Int) ≠ 0 by omega)
  have h4 := Int.emod_lt_of_pos (IntKind.u64.wrap a) (show (0 : Int) < 315537897600 by omega)
  rw [wrap64_id (n := IntKind.u64.wrap a % 315537897600) (by omega) (by omega), wrap64_id (by omega) (by omega)]
  exact ⟨_, rfl, by omega, by omega⟩
theorem time_ex {t : Int} (h : 86400 * (-719162) ≤ t ∧ t < 86400 * 2932897) : ∃ y m d, Dt y m d ∧ 1 ≤ y ∧ y ≤ 9999 ∧ t / 86400 = dn y m d := by
  obtain ⟨y, m, d, hD, e, _⟩ := Date_ex (n := t / 86400) (by omega)
  have d1 : Dt 1 1 1 := by decide
  have d2 : Dt 10000 1 1 := by decide
  have e1 : dn 1 1 1 = -719162 := by decide
  have e2 : dn 10000 1 1 = 2932897 := by decide
  refine ⟨y, m, d, hD, ?_, ?_, e⟩
  · by_cases hy : 1 ≤ y
    · exact hy
    · have := dn_lt hD d1 (Or.inl (by omega)); omega
  · by_cases hy : y ≤ 9999
    · exact hy
    · have h5 := hD.2.2.1
      have h6 := hD.2.2.2.2.1
      by_cases h7 : 10000 < y ∨ 10000 = y ∧ (1 < m ∨ 1 = m ∧ 1 < d)
      · have := dn_lt d2 hD h7; omega
      · have : y = 10000 ∧ m = 1 ∧ d = 1 := by omega
        obtain ⟨rfl, rfl, rfl⟩ := this
        omega
theorem ValueBack : solsticelaw20_ValueBack.Pure := by
  intro a b c d u _ _ _ _
  suffices h : solsticelaw20_ValueBack.F a b c d u = some true from lim_some h
  have tm : ∀ x : Int, -86400 < Int.tmod x 86400 ∧ Int.tmod x 86400 < 86400 := by
    intro x
    have h2 := Int.tmod_lt_of_pos x (show (0 : Int) < 86400 by omega)
    have h3 := Int.tmod_lt_of_pos (-x) (show (0 : Int) < 86400 by omega)
    rw [Int.neg_tmod] at h3
    omega
  obtain ⟨s, hs, hs1⟩ := Some_eq a
  obtain ⟨t, ht, ht1⟩ := Some_eq b
  obtain ⟨y, m, e, D, y1, y2, q⟩ := time_ex hs1
  obtain ⟨y', m', e', D', z1, z2, q'⟩ := time_ex ht1
  have tb := ttx_bytes y m e (s % 86400 / 3600) (s % 86400 % 3600 / 60) (s % 86400 % 60) u
  have tb' := ttx_bytes y' m' e' (t % 86400 / 3600) (t % 86400 % 3600 / 60) (t % 86400 % 60) u
  have r1 := ptS_ttx y m e (s % 86400 / 3600) (s % 86400 % 3600 / 60) (s % 86400 % 60) u D ⟨y1, y2⟩ (by omega) (by omega) (by omega)
  have r2 := ptS_ttx y' m' e' (t % 86400 / 3600) (t % 86400 % 3600 / 60) (t % 86400 % 60) u D' ⟨z1, z2⟩ (by omega) (by omega) (by omega)
  have lt := ltL_ttx u D D' y2 z2 (h := s % 86400 / 3600) (i := s % 86400 % 3600 / 60) (s := s % 86400 % 60) (h' := t % 86400 / 3600) (i' := t % 86400 % 3600 / 60) (s' := t % 86400 % 60) (by omega) (by omega) (by omega) (by omega) (by omega) (by omega)
  have v1 : dn y m e * 86400 + s % 86400 / 3600 * 3600 + s % 86400 % 3600 / 60 * 60 + s % 86400 % 60 = s := by omega
  have v2 : dn y' m' e' * 86400 + t % 86400 / 3600 * 3600 + t % 86400 % 3600 / 60 * 60 + t % 86400 % 60 = t := by omega
  have f1 := Time_eq u y m e s D ⟨y1, y2⟩ q
  have f2 := Time_eq u y' m' e' t D' ⟨z1, z2⟩ q'
  rw [v1] at r1 lt
  rw [v2] at r2 lt
  have hsz : (ttx y m e (s % 86400 / 3600) (s % 86400 % 3600 / 60) (s % 86400 % 60) u).length ≤ 9223372036854775807 := by
    have w := D
    obtain ⟨h0, h1, h2, h3, h4, h5⟩ := w
    have hl := ml_le y m
    unfold ttx
    simp only [List.length_append, (four_dig (n := y) (by omega)).2.2, (two_dig (n := m) (by omega)).2.2, (two_dig (n := e) (by omega)).2.2, (two_dig (n := s % 86400 / 3600) (by omega)).2.2, (two_dig (n := s % 86400 % 3600 / 60) (by omega)).2.2, (two_dig (n := s % 86400 % 60) (by omega)).2.2, List.length_singleton]
    cases u <;> simp
  generalize ttx y m e (s % 86400 / 3600) (s % 86400 % 3600 / 60) (s % 86400 % 60) u = X at *
  generalize ttx y' m' e' (t % 86400 / 3600) (t % 86400 % 3600 / 60) (t % 86400 % 60) u = Y at *
  have k1 := tm c
  have k2 := tm d
  have p1 := Offset_eq (Int.tmod c 86400) (by omega)
  have p2 := Offset_eq (Int.tmod d 86400) (by omega)
  rw [if_pos k1] at p1
  rw [if_pos k2] at p2
  have o1 := poS_otx _ k1
  have o2 := poS_otx _ k2
  have b1 := otx_bytes (Int.tmod c 86400)
  have b2 := otx_bytes (Int.tmod d 86400)
  rw [solsticelaw20_ValueBack.F_eq]
  generalize Int.tmod c 86400 = v at *
  generalize Int.tmod d 86400 = w at *
  rw [hs, bind_some_, ht, bind_some_, f1, bind_some_, f2, bind_some_, ParseTime_eq _ (by rw [size_strOf]; exact hsz), bind_some_, p1, bind_some_, p2, bind_some_, ParseOffset_eq, bind_some_, bytes_strOf tb, bytes_strOf b1, r1, o1]
  have c1 : ((strOfNums X).toList == (strOfNums Y).toList) = (s == t) := by
    by_cases h : s = t
    · rw [beq_iff_eq.2 h, beq_iff_eq, toList_iff]
      have : some (strOfNums X, (0 : Int)) = some (strOfNums Y, 0) := by rw [← f1, ← f2, h]
      injection this with this
      injection this
    · rw [beq_eq_false_iff_ne.2 h, beq_eq_false_iff_ne]
      intro h'
      have := strOf_inj tb tb' (toList_iff.1 h')
      rw [this, r2] at r1
      injection r1 with r1
      injection r1 with r1
      exact h r1.symm
  have c2 : ((strOfNums (otx v)).toList == (strOfNums (otx w)).toList) = (v == w) := by
    by_cases h : v = w
    · rw [h]; simp
    · rw [beq_eq_false_iff_ne.2 h, beq_eq_false_iff_ne]
      intro h'
      have := strOf_inj b1 b2 (toList_iff.1 h')
      rw [this, o2] at o1
      injection o1 with o1
      exact h o1.symm
  simp only [encT, encO, eq_self_iff_true, if_true, c1, c2, less_ltL tb tb', lt, beq_self_eq_true, wakes20_, bind_some_]
end Go.Proofs.YtligbecmbefclaaDoor.Pure
