/- The law ValueExact over numbers and texts: for every two whole numbers, every yes or no and every text the law's printed function answers true. -/
import Derived.Test.YtligbecmbefclaaDoorValF
import Derived.Test.YtligbecmbefclaaDoorEVexx16
import Derived.Test.YtligbecmbefclaaDoorEVexx14
namespace Go.Proofs.YtligbecmbefclaaDoor.Pure
open Go.RowKit Go.Proofs.YtligbecmbefclaaDoor.PVex Go.Proofs.YtligbecmbefclaaDoorW.PrintWords Go.Proofs.YtligbecmbefclaaDoorW.PrintLast Go.Proofs.YtligbecmbefclaaDoorW.PrintMore Go.Proofs.YtligbecmbefclaaDoor.Base
set_option linter.unusedVariables false
set_option linter.unusedSimpArgs false
theorem wakes20_ : solsticelaw20_wakes.F = some true := lim_of (solsticelaw20_wakes.isF).mono (k := 200) (by decide +kernel)
theorem Time_J0t (u : Bool) (s y m d : Int) : value_Time.J0 u s true y m d = some ((⟨#[]⟩ : ByteArray), 23) := by rw [value_Time.J0_eq, if_pos rfl]
/-- A time of a year from 1 to 9999, or none. -/
theorem time_or (t : Int) (u : Bool) (hw : -9223372036854775808 ≤ t ∧ t ≤ 9223372036854775807) :
    (∃ y m d X, solsticeref16_Years.F t = some (y, m, d, true) ∧ value_Time.F t u = some (X, 0) ∧ solsticeref16_Time.F t u = some X) ∨ (∃ y m d, solsticeref16_Years.F t = some (y, m, d, false) ∧ value_Time.F t u = some ((⟨#[]⟩ : ByteArray), 23)) := by
  by_cases h : -719528 ≤ t / 86400 ∧ t / 86400 < 2933263
  · obtain ⟨y, m, d, hD, e, _⟩ := Date_ex h
    by_cases hy : 1 ≤ y ∧ y ≤ 9999
    · left
      exact ⟨y, m, d, _, by rw [ref_Years_in hD e, decide_eq_true hy], Time_eq u y m d t hD hy e, ref_Time_eq u y m d t hD hy e⟩
    · right
      refine ⟨y, m, d, by rw [ref_Years_in hD e, decide_eq_false hy], ?_⟩
      rw [value_Time.F_eq, clock_Split_eq t hw, bind_some_]
      dsimp only
      rw [e, Date_eq hD, bind_some_]
      dsimp only
      rw [if_pos rfl]
      by_cases h1 : y < 1
      · rw [if_pos h1, Time_J0t]
      · rw [if_neg h1, decide_eq_true (by omega), Time_J0t]
  · right
    refine ⟨0, 0, 0, ref_Years_out hw (by omega), ?_⟩
    rw [value_Time.F_eq, clock_Split_eq t hw, bind_some_]
    dsimp only
    rw [Date_out (by omega), bind_some_]
    dsimp only
    rw [if_neg (by omega), Time_J0t]
theorem vex_J4 (t : Int) (u : Bool) (hw : -9223372036854775808 ≤ t ∧ t ≤ 9223372036854775807) : ∃ X e, value_Time.F t u = some (X, e) ∧ solsticelaw20_ValueExact.J4 t u X e = some true := by
  rcases time_or t u hw with ⟨y, m, d, X, h1, h2, h3⟩ | ⟨y, m, d, h1, h2⟩
  · refine ⟨X, 0, h2, ?_⟩
    rw [solsticelaw20_ValueExact.J4_eq, h1, bind_some_]
    dsimp only
    rw [if_pos rfl, if_pos rfl, h3, bind_some_, if_pos rfl, wakes20_, bind_some_]
  · refine ⟨_, 23, h2, ?_⟩
    rw [solsticelaw20_ValueExact.J4_eq, h1, bind_some_]
    dsimp only
    have e0 : (⟨#[]⟩ : ByteArray).toList = ([] : List UInt8) := by rw [ByteArray.toList_eq]
    rw [if_neg (by simp), if_pos rfl, if_pos e0, wakes20_, bind_some_]
theorem vex_J2 (t o : Int) (u : Bool) (X : ByteArray) (e : Int) (h4 : solsticelaw20_ValueExact.J4 t u X e = some true) (ho : -9223372036854775808 ≤ o ∧ o ≤ 9223372036854775807) : ∃ Y f, value_Offset.F o = some (Y, f) ∧ solsticelaw20_ValueExact.J2 t o u X e Y f false = some true := by
  have e0 : (⟨#[]⟩ : ByteArray).toList = ([] : List UInt8) := by rw [ByteArray.toList_eq]
  have hO := Offset_eq o ho
  by_cases h : -86400 < o ∧ o < 86400
  · rw [if_pos h] at hO
    refine ⟨_, _, hO, ?_⟩
    rw [solsticelaw20_ValueExact.J2_eq, if_neg (by simp), if_neg (by omega), decide_eq_false (by omega), solsticelaw20_ValueExact.J3_eq, if_neg (by simp), if_pos rfl, ref_Offset_eq o h, bind_some_, if_pos rfl, h4]
  · rw [if_neg h] at hO
    refine ⟨_, _, hO, ?_⟩
    have h3 : solsticelaw20_ValueExact.J3 t o u X e (⟨#[]⟩ : ByteArray) 19 true = some true := by rw [solsticelaw20_ValueExact.J3_eq, if_pos rfl, if_pos rfl, if_pos e0, h4]
    rw [solsticelaw20_ValueExact.J2_eq, if_neg (by simp)]
    by_cases h1 : o ≤ -86400
    · rw [if_pos h1, h3]
    · rw [if_neg h1, decide_eq_true (by omega), h3]
theorem vex_J1 (t o : Int) (u : Bool) (s : ByteArray) (hs : s.size ≤ 500) (X : ByteArray) (e : Int) (Y : ByteArray) (f : Int) (h2 : solsticelaw20_ValueExact.J2 t o u X e Y f false = some true) :
    solsticelaw20_ValueExact.J1 t o u s X e Y f (encTs (tsS (bytesOf s))).1 (encTs (tsS (bytesOf s))).2.1 (encTs (tsS (bytesOf s))).2.2 false = some true := by
  rw [solsticelaw20_ValueExact.J1_eq, if_neg (by simp), ref_Times_eq s (by omega), bind_some_]
  have hlen : ∀ l v, tsS (bytesOf s) = some (l, v) → (l.length : Int) ≤ 9223372036854775806 := by
    intro l v h
    have : ∀ (ps : List (Option (Int × Bool))) (acc : List Int) (u f : Bool) (l : List Int) (v : Bool), timesR acc u f ps = some (l, v) → l.length = acc.length + ps.length := by
      intro ps
      induction ps with
      | nil => intro acc u f l v h; rw [timesR] at h; simp only [Option.some.injEq, Prod.mk.injEq] at h; rw [← h.1]; rfl
      | cons p ps ih =>
        intro acc u f l v h
        cases p with
        | none => rw [timesR] at h; cases h
        | some p =>
          obtain ⟨t, b⟩ := p
          rw [timesR] at h
          split at h
          · cases h
          · have := ih _ _ _ _ _ h
            rw [List.length_append, List.length_singleton] at this
            rw [List.length_cons]
            omega
    have h1 := this _ _ _ _ _ _ h
    rw [List.length_map] at h1
    have h3 : ∀ l : List Int, (spl 44 l).length ≤ l.length + 1 := by
      intro l
      induction l with
      | nil => simp [spl]
      | cons x l ih =>
        rw [spl]
        split
        · simp only [List.length_cons]; omega
        · split
          · simp
          · rename_i z zs hz
            rw [hz] at ih
            simp only [List.length_cons] at ih ⊢
            omega
    have h4 := h3 (bytesOf s)
    rw [bytesOf_length] at h4
    rw [List.length_nil] at h1
    omega
  cases h : tsS (bytesOf s) with
  | none =>
    show (if (false != ((19 : Int) == 0)) = true then _ else if false = true then _ else if (19 : Int) = 19 then ((solsticekeep_Ints.F [] []).bind fun t336 => if t336 = true then solsticelaw20_ValueExact.J2 t o u X e Y f (false != false) else _) else _) = _
    rw [if_neg (by simp), if_neg (by simp), if_pos rfl, Ints_eq _ _ (by simp), bind_some_, decide_eq_true rfl, if_pos rfl]
    exact h2
  | some p =>
    obtain ⟨l, v⟩ := p
    show (if (true != ((0 : Int) == 0)) = true then _ else if true = true then ((solsticekeep_Ints.F l l).bind fun t335 => if t335 = true then solsticelaw20_ValueExact.J2 t o u X e Y f (v != v) else _) else _) = _
    rw [if_neg (by simp), if_pos rfl, Ints_eq _ _ (hlen l v h), bind_some_, decide_eq_true rfl, if_pos rfl, bne_self_eq_false]
    exact h2
theorem vex_J0 (t o : Int) (u : Bool) (s : ByteArray) (hs : s.size ≤ 500) (X : ByteArray) (e : Int) (Y : ByteArray) (f : Int) (h2 : solsticelaw20_ValueExact.J2 t o u X e Y f false = some true) :
    solsticelaw20_ValueExact.J0 t o u s X e Y f (encO (poS (bytesOf s))).1 (encO (poS (bytesOf s))).2 (encTs (tsS (bytesOf s))).1 (encTs (tsS (bytesOf s))).2.1 (encTs (tsS (bytesOf s))).2.2 false = some true := by
  have key := vex_J1 t o u s hs X e Y f h2
  rw [solsticelaw20_ValueExact.J0_eq, if_neg (by simp), ref_ParseOffset_eq s (by omega), bind_some_]
  generalize (encTs (tsS (bytesOf s))).1 = a1 at *
  generalize (encTs (tsS (bytesOf s))).2.1 = a2 at *
  generalize (encTs (tsS (bytesOf s))).2.2 = a3 at *
  cases h : poS (bytesOf s) with
  | none =>
    show (if (false != ((19 : Int) == 0)) = true then _ else if false = true then _ else if (19 : Int) = 19 then solsticelaw20_ValueExact.J1 t o u s X e Y f a1 a2 a3 ((0 : Int) != 0) else _) = _
    rw [if_neg (by simp), if_neg (by simp), if_pos rfl]
    exact key
  | some n =>
    show (if (true != ((0 : Int) == 0)) = true then _ else if true = true then solsticelaw20_ValueExact.J1 t o u s X e Y f a1 a2 a3 (n != n) else _) = _
    rw [if_neg (by simp), if_pos rfl, bne_self_eq_false]
    exact key
theorem ValueExact (t o : Int) (u : Bool) (s : ByteArray) (ht : (Lit.int .i64 t).wf = true) (ho : (Lit.int .i64 o).wf = true) (_ : s.size ≤ 140737488351232) : ∃ k, solsticelaw20_ValueExact.f k t o u s = some true := by
  suffices h : solsticelaw20_ValueExact.F t o u s = some true from lim_some h
  have ht := wf64 ht
  have ho := wf64 ho
  rw [solsticelaw20_ValueExact.F_eq]
  by_cases hs : (s.size : Int) > 500
  · rw [if_pos hs]
  · rw [if_neg hs]
    obtain ⟨X, e, x1, x4⟩ := vex_J4 t u ht
    obtain ⟨Y, f, y1, y2⟩ := vex_J2 t o u X e x4 ho
    have key := vex_J0 t o u s (by omega) X e Y f y2
    rw [x1, bind_some_, ParseTime_eq s (by omega), bind_some_, y1, bind_some_, ParseOffset_eq, bind_some_, Times_eq s (by omega), bind_some_, ref_ParseTime_eq s (by omega), bind_some_]
    generalize (encTs (tsS (bytesOf s))).1 = a1 at *
    generalize (encTs (tsS (bytesOf s))).2.1 = a2 at *
    generalize (encTs (tsS (bytesOf s))).2.2 = a3 at *
    generalize (encO (poS (bytesOf s))).1 = b1 at *
    generalize (encO (poS (bytesOf s))).2 = b2 at *
    cases h : ptS (bytesOf s) with
    | none =>
      show (if (false != ((19 : Int) == 0)) = true then _ else if false = true then _ else if (19 : Int) = 19 then (if (0 : Int) = 0 then (if false = true then _ else solsticelaw20_ValueExact.J0 t o u s X e Y f b1 b2 a1 a2 a3 (false != false)) else _) else _) = _
      rw [if_neg (by simp), if_neg (by simp), if_pos rfl, if_pos rfl, if_neg (by simp)]
      exact key
    | some p =>
      obtain ⟨n, v⟩ := p
      show (if (true != ((0 : Int) == 0)) = true then _ else if true = true then (if n = n then (if v = true then solsticelaw20_ValueExact.J0 t o u s X e Y f b1 b2 a1 a2 a3 (v != true) else solsticelaw20_ValueExact.J0 t o u s X e Y f b1 b2 a1 a2 a3 (v != false)) else _) else _) = _
      rw [if_neg (by simp), if_pos rfl, if_pos rfl]
      cases v with
      | true => rw [if_pos rfl]; exact key
      | false => rw [if_neg (by simp)]; exact key
end Go.Proofs.YtligbecmbefclaaDoor.Pure
