/- A time of a year from 1 to 9999, and its text. No condition. -/
import Derived.Test.YtligbecmbefclaaDoorValL
import Derived.Test.YtligbecmbefclaaDoorEVlsx9
namespace Go.Proofs.YtligbecmbefclaaDoor.Base
open Go.RowKit Go.Proofs.YtligbecmbefclaaDoor.PVls Go.Proofs.YtligbecmbefclaaDoorW.PrintWords Go.Proofs.YtligbecmbefclaaDoorW.PrintLast Go.Proofs.YtligbecmbefclaaDoorW.PrintMore
set_option linter.unusedVariables false
set_option linter.unusedSimpArgs false
theorem first_ : solsticeref01_Number.F 1 1 1 = some (-719162) := lim_of (solsticeref01_Number.isF _ _ _).mono (k := 5) (by decide +kernel)
theorem last_ : solsticeref01_Number.F 10000 1 1 = some 2932897 := lim_of (solsticeref01_Number.isF _ _ _).mono (k := 5) (by decide +kernel)
theorem Some_eq (a : Int) : ∃ t, solsticelaw20_Some.F a = some t ∧ 86400 * (-719162) ≤ t ∧ t < 86400 * 2932897 := by
  have h2 : 0 ≤ IntKind.u64.wrap a := by unfold IntKind.wrap; simp [IntKind.signed, IntKind.bits]; omega
  rw [solsticelaw20_Some.F_eq, first_, bind_some_, last_, bind_some_]
  have e : IntKind.u64.wrap (wrap64 (wrap64 (86400 * 2932897) - wrap64 (86400 * -719162))) = 315537897600 := by decide +kernel
  have e1 : wrap64 (86400 * -719162) = -62135596800 := by decide +kernel
  rw [e, e1, if_neg (by decide), Int.tmod_eq_emod_of_nonneg h2]
  have h3 := Int.emod_nonneg (IntKind.u64.wrap a) (show (315537897600 : Int) ≠ 0 by omega)
  have h4 := Int.emod_lt_of_pos (IntKind.u64.wrap a) (show (0 : Int) < 315537897600 by omega)
  rw [wrap64_id (n := IntKind.u64.wrap a % 315537897600) (by omega) (by omega), wrap64_id (by omega) (by omega)]
  exact ⟨_, rfl, by omega, by omega⟩
theorem time_ex {t : Int} (h : 86400 * (-719162) ≤ t ∧ t < 86400 * 2932897) : ∃ y m d, Dt y m d ∧ 1 ≤ y ∧ y ≤ 9999 ∧ t / 86400 = dn y m d := by
  obtain ⟨y, m, d, hD, e, _⟩ := Date_ex (n := t / 86400) (by omega)
  have d1 : Dt 1 1 1 := by decide
  have d2 : Dt 10000 1 1 := by decide
  have e1 : dn 1 1 1 = -719162 := by decide
  have e2 : dn 10000 1 1 = 2932897 := by decide
  refine ⟨y, m, d, hD, ?_, ?_, e⟩
  · by_cases hy : 1 ≤ y
    · exact hy
    · have := dn_lt hD d1 (Or.inl (by omega)); omega
  · by_cases hy : y ≤ 9999
    · exact hy
    · have h5 := hD.2.2.1
      have h6 := hD.2.2.2.2.1
      by_cases h7 : 10000 < y ∨ 10000 = y ∧ (1 < m ∨ 1 = m ∧ 1 < d)
      · have := dn_lt d2 hD h7; omega
      · have : y = 10000 ∧ m = 1 ∧ d = 1 := by omega
        obtain ⟨rfl, rfl, rfl⟩ := this
        omega
/-- Bytes that are no comma. -/
def NoC (l : List Int) : Prop := ∀ x ∈ l, x ≠ 44
theorem NoC.app {a b : List Int} (h : NoC a) (k : NoC b) : NoC (a ++ b) := fun x hx => by
  rcases List.mem_append.1 hx with hx | hx
  · exact h x hx
  · exact k x hx
theorem NoC.dig {a : List Int} (h : a.all isDig = true) : NoC a := fun x hx e => by
  have := List.all_eq_true.1 h x hx
  rw [isDig_iff] at this
  omega
theorem Some_txt (a : Int) : ∃ t, solsticelaw20_Some.F a = some t ∧ ∀ u, ∃ X, value_Time.F t u = some (strOfNums X, 0) ∧ ptS X = some (t, u) ∧ Bytes X ∧ NoC X ∧ X.length ≤ 16 := by
  obtain ⟨t, hs, hr⟩ := Some_eq a
  obtain ⟨y, m, d, D, y1, y2, q⟩ := time_ex hr
  refine ⟨t, hs, fun u => ⟨ttx y m d (t % 86400 / 3600) (t % 86400 % 3600 / 60) (t % 86400 % 60) u, Time_eq u y m d t D ⟨y1, y2⟩ q, ?_, ttx_bytes _ _ _ _ _ _ _, ?_, ?_⟩⟩
  · rw [ptS_ttx y m d _ _ _ u D ⟨y1, y2⟩ (by omega) (by omega) (by omega), ← q]
    congr 2
    omega
  all_goals
    have w := D
    obtain ⟨h0, h1, h2, h3, h4, h5⟩ := w
    have hl := ml_le y m
    have ey := four_dig (n := y) (by omega)
    have em := two_dig (n := m) (by omega)
    have ed := two_dig (n := d) (by omega)
    have eh := two_dig (n := t % 86400 / 3600) (by omega)
    have ei := two_dig (n := t % 86400 % 3600 / 60) (by omega)
    have es := two_dig (n := t % 86400 % 60) (by omega)
    unfold ttx
  · refine NoC.app (NoC.dig ey.1) (NoC.app (NoC.dig em.1) (NoC.app (NoC.dig ed.1) (NoC.app ?_ (NoC.app (NoC.dig eh.1) (NoC.app (NoC.dig ei.1) (NoC.app (NoC.dig es.1) ?_))))))
    · intro x hx; rw [List.mem_singleton.1 hx]; omega
    · split
      · intro x hx; rw [List.mem_singleton.1 hx]; omega
      · intro x hx; cases hx
  · simp only [List.length_append, ey.2.2, em.2.2, ed.2.2, eh.2.2, ei.2.2, es.2.2, List.length_singleton]
    cases u <;> simp
end Go.Proofs.YtligbecmbefclaaDoor.Base
