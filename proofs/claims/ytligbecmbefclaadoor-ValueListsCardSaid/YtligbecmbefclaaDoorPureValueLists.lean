/- The law ValueLists over numbers and lists: for every list of whole numbers, every yes or no and every whole number the law's printed function answers true. -/
import Derived.Test.YtligbecmbefclaaDoorValL
import Derived.Test.YtligbecmbefclaaDoorValS
import Derived.Test.YtligbecmbefclaaDoorEVlsx10
import Derived.Test.YtligbecmbefclaaDoorEVlsx8
namespace Go.Proofs.YtligbecmbefclaaDoor.Pure
open Go.RowKit Go.Proofs.YtligbecmbefclaaDoor.PVls Go.Proofs.YtligbecmbefclaaDoorW.PrintWords Go.Proofs.YtligbecmbefclaaDoorW.PrintLast Go.Proofs.YtligbecmbefclaaDoorW.PrintMore Go.Proofs.YtligbecmbefclaaDoor.Base
set_option linter.unusedVariables false
set_option linter.unusedSimpArgs false
theorem wakes20_ : solsticelaw20_wakes.F = some true := lim_of (solsticelaw20_wakes.isF).mono (k := 200) (by decide +kernel)
/-- Texts of times, without commas. -/
structure Txs (Xs : List (List Int)) : Prop where
  b : ∀ X ∈ Xs, Bytes X
  c : ∀ X ∈ Xs, NoC X
  l : ∀ X ∈ Xs, X.length ≤ 16
theorem Txs.snoc {Xs : List (List Int)} {X : List Int} (h : Txs Xs) (h1 : Bytes X) (h2 : NoC X) (h3 : X.length ≤ 16) : Txs (Xs ++ [X]) := by
  refine ⟨fun Y hY => ?_, fun Y hY => ?_, fun Y hY => ?_⟩ <;> rcases List.mem_append.1 hY with hY | hY
  · exact h.b Y hY
  · rw [List.mem_singleton.1 hY]; exact h1
  · exact h.c Y hY
  · rw [List.mem_singleton.1 hY]; exact h2
  · exact h.l Y hY
  · rw [List.mem_singleton.1 hY]; exact h3
theorem Txs.jb {Xs : List (List Int)} (h : Txs Xs) : Bytes (jn [44] Xs) := jn_bytes (Bytes.cons (by omega) (by omega) Bytes.nil) _ h.b
theorem Txs.jl {Xs : List (List Int)} (h : Txs Xs) : (jn [44] Xs).length ≤ Xs.length * 17 := jn_length [44] 16 Xs h.l
theorem Txs.times {Xs : List (List Int)} (h : Txs Xs) (hn : Xs ≠ []) (hl : Xs.length ≤ 41) : value_Times.F (strOfNums (jn [44] Xs)) = some (encTs (timesR [] false true (Xs.map ptS))) := by
  have := h.jl
  rw [Times_eq _ (by rw [size_strOf]; omega), bytes_strOf h.jb]
  unfold tsS
  rw [spl_jn hn h.c]
theorem one_true {b : Bool} (u : Bool) : (u != true) = !u := by cases u <;> rfl
theorem lists_L0 (l : List Int) (u : Bool) (at_ : Int) (hl : 1 ≤ l.length ∧ l.length ≤ 40) (hat : 0 ≤ at_ ∧ at_ < (l.length : Int)) : ∀ (k : Nat) (i : Int) (Xs Ys : List (List Int)) (ts : List Int) (qs : List (Int × Bool)),
    i + k = l.length → 0 ≤ i → (Xs.length : Int) = i → (Ys.length : Int) = i → (ts.length : Int) = i → Txs Xs → Txs Ys → Xs.map ptS = ts.map (fun t => some (t, u)) → Ys.map ptS = qs.map some →
    (at_ < i → ∃ q ∈ qs, q.2 = !u) → (2 ≤ i ∨ 1 ≤ i ∧ i ≤ at_ → ∃ q ∈ qs, q.2 = u) →
    solsticelaw20_ValueLists.L0 l u at_ (strOfNums (jn [44] Xs)) (strOfNums (jn [44] Ys)) ts i = some true := by
  intro k
  induction k with
  | zero =>
    intro i Xs Ys ts qs h1 h2 hX hY ht tX tY pX pY hA hB
    have jX := tX.jl
    have n1 : Xs ≠ [] := fun h => by rw [h] at hX; simp at hX; omega
    have n2 : Ys ≠ [] := fun h => by rw [h] at hY; simp at hY; omega
    have n3 : ts ≠ [] := fun h => by rw [h] at ht; simp at ht; omega
    have e1 := tX.times n1 (by omega)
    have e2 := tY.times n2 (by omega)
    have tZ := tX.snoc (X := []) Bytes.nil (fun x hx => by cases hx) (by simp)
    have e3 := tZ.times (by simp) (by rw [List.length_append, List.length_singleton]; omega)
    rw [jn_snoc, if_neg n1, List.append_nil] at e3
    have h3 : timesR [] false true ((Xs ++ [[]]).map ptS) = none := by
      cases h : timesR [] false true ((Xs ++ [[]]).map ptS) with
      | none => rfl
      | some r =>
        obtain ⟨t, ht⟩ := (timesR_some (l := r.1) (v := r.2) h).2 (ptS []) (by simp)
        have : ptS [] = none := by decide
        rw [this] at ht
        cases ht
    rw [h3] at e3
    rw [pX, timesR_all u ts [] false true (by simp) (fun h => absurd h n3), List.nil_append] at e1
    rw [pY] at e2
    rw [solsticelaw20_ValueLists.L0_eq, if_neg (by omega), e1, bind_some_, e2, bind_some_, size_strOf, if_pos (by omega)]
    have s1 : ((⟨#[44]⟩ : ByteArray)) = strOfNums [44] := rfl
    rw [s1, strOf_append, e3, bind_some_]
    show (if (0 : Int) = 0 then (solsticekeep_Ints.F ts ts).bind _ else _) = _
    rw [if_pos rfl, Ints_eq _ _ (by omega), bind_some_, decide_eq_true rfl, if_pos rfl]
    show (if (u == u) = true then _ else _) = _
    rw [beq_self_eq_true, if_pos rfl]
    have hf : (((l.length : Int) == 1) == ((encTs (timesR [] false true (qs.map some))).2.2 == 0)) = true := by
      have hq : qs.length = Ys.length := by
        have := congrArg List.length pY
        rw [List.length_map, List.length_map] at this
        exact this.symm
      by_cases hl1 : l.length = 1
      · rw [hl1]
        match qs, hq with
        | [q], _ => rfl
        | [], hq => simp at hq; omega
        | _ :: _ :: _, hq => simp at hq; omega
      · have e : timesR [] false true (qs.map some) = none := by
          cases h : timesR [] false true (qs.map some) with
          | none => rfl
          | some r =>
            have hh := (timesR_some (l := r.1) (v := r.2) h).2
            obtain ⟨q, hq1, hq2⟩ := hA (by omega)
            obtain ⟨q', hq1', hq2'⟩ := hB (by omega)
            obtain ⟨t, e⟩ := hh _ (List.mem_map_of_mem hq1)
            obtain ⟨t', e'⟩ := hh _ (List.mem_map_of_mem hq1')
            injection e with e
            injection e' with e'
            rw [e] at hq2
            rw [e'] at hq2'
            have : r.2 = !r.2 := by rw [show r.2 = u from hq2'] at hq2 ⊢; exact hq2
            cases hr : r.2 <;> rw [hr] at this <;> cases this
        rw [e]
        have : ((l.length : Int) == 1) = false := beq_eq_false_iff_ne.2 (by omega)
        rw [this]
        rfl
    rw [if_pos hf]
    show (if (19 : Int) = 19 then _ else _) = _
    rw [if_pos rfl, wakes20_, bind_some_]
  | succ k ih =>
    intro i Xs Ys ts qs h1 h2 hX hY ht tX tY pX pY hA hB
    have jX := tX.jl
    have jY := tY.jl
    obtain ⟨t, es, ex⟩ := Some_txt (rd l i)
    obtain ⟨X, x1, x2, x3, x4, x5⟩ := ex u
    obtain ⟨Y, y1, y2, y3, y4, y5⟩ := ex (u != (i == at_))
    have s1 : ((⟨#[44]⟩ : ByteArray)) = strOfNums [44] := rfl
    have go : solsticelaw20_ValueLists.L0 l u at_ (strOfNums (jn [44] (Xs ++ [X]))) (strOfNums (jn [44] (Ys ++ [Y]))) (ts ++ [t]) (wrap64 (i + 1)) = some true := by
      rw [wrap64_id (by omega) (by omega)]
      refine ih (i + 1) (Xs ++ [X]) (Ys ++ [Y]) (ts ++ [t]) (qs ++ [(t, u != (i == at_))]) (by omega) (by omega) (by rw [List.length_append, List.length_singleton]; omega) (by rw [List.length_append, List.length_singleton]; omega) (by rw [List.length_append, List.length_singleton]; omega) (tX.snoc x3 x4 x5) (tY.snoc y3 y4 y5) ?_ ?_ ?_ ?_
      · rw [List.map_append, List.map_append, pX, List.map_cons, List.map_nil, x2]; rfl
      · rw [List.map_append, List.map_append, pY, List.map_cons, List.map_nil, y2]; rfl
      · intro h
        by_cases he : i = at_
        · refine ⟨(t, u != (i == at_)), by simp, ?_⟩
          rw [beq_iff_eq.2 he]
          cases u <;> rfl
        · obtain ⟨q, q1, q2⟩ := hA (by omega)
          exact ⟨q, List.mem_append_left _ q1, q2⟩
      · intro h
        by_cases he : i = at_
        · obtain ⟨q, q1, q2⟩ := hB (by omega)
          exact ⟨q, List.mem_append_left _ q1, q2⟩
        · refine ⟨(t, u != (i == at_)), by simp, ?_⟩
          rw [beq_eq_false_iff_ne.2 he]
          cases u <;> rfl
    rw [solsticelaw20_ValueLists.L0_eq, if_pos (by omega), if_pos h2, es, bind_some_, x1, bind_some_, y1, bind_some_]
    show (if (0 : Int) = 0 then solsticelaw20_ValueLists.J2 l u at_ (strOfNums (jn [44] Xs)) (strOfNums (jn [44] Ys)) ts i t (strOfNums X) (strOfNums Y) ((0 : Int) != 0) else _) = _
    rw [if_pos rfl, solsticelaw20_ValueLists.J2_eq, if_neg (by simp)]
    rw [jn_snoc, jn_snoc] at go
    by_cases h0 : i > 0
    · have n1 : Xs ≠ [] := fun h => by rw [h] at hX; simp at hX; omega
      have n2 : Ys ≠ [] := fun h => by rw [h] at hY; simp at hY; omega
      rw [if_neg n1, if_neg n2] at go
      rw [if_pos h0, s1, size_strOf, size_strOf, if_pos (by omega), if_pos (by omega), strOf_append, strOf_append, size_strOf, size_strOf, size_strOf, size_strOf, List.length_append, List.length_append, List.length_singleton, if_pos (by omega), if_pos (by omega), if_pos (by omega), strOf_append, strOf_append]
      exact go
    · have n1 : Xs = [] := List.eq_nil_of_length_eq_zero (by omega)
      have n2 : Ys = [] := List.eq_nil_of_length_eq_zero (by omega)
      rw [if_pos n1, if_pos n2] at go
      subst n1
      subst n2
      have e0 : jn [44] [] = ([] : List Int) := rfl
      rw [if_neg h0, e0]
      simp only [size_strOf, List.length_nil]
      rw [if_pos (by omega), if_pos (by omega), if_pos (by omega), strOf_append, strOf_append]
      exact go
theorem ValueLists (l : List Int) (u : Bool) (at_ : Int) (_ : ∀ x ∈ l, (Lit.int .i64 x).wf = true) (_ : (Lit.int .i64 at_).wf = true) : ∃ k, solsticelaw20_ValueLists.f k l u at_ = some true := by
  suffices h : solsticelaw20_ValueLists.F l u at_ = some true from lim_some h
  rw [solsticelaw20_ValueLists.F_eq]
  by_cases h1 : (l.length : Int) > 40
  · rw [if_pos h1, solsticelaw20_ValueLists.J0_eq, if_pos rfl]
  · rw [if_neg h1, solsticelaw20_ValueLists.J0_eq]
    by_cases h2 : (l.length : Int) = 0
    · rw [if_pos (beq_iff_eq.2 h2)]
    · rw [if_neg (by rw [beq_eq_false_iff_ne.2 h2]; simp)]
      have e : IntKind.u64.wrap (l.length : Int) = (l.length : Int) := by unfold IntKind.wrap; simp [IntKind.signed, IntKind.bits]; omega
      have h3 : 0 ≤ IntKind.u64.wrap at_ := by unfold IntKind.wrap; simp [IntKind.signed, IntKind.bits]; omega
      have h4 := Int.emod_nonneg (IntKind.u64.wrap at_) (show (l.length : Int) ≠ 0 by omega)
      have h5 := Int.emod_lt_of_pos (IntKind.u64.wrap at_) (show (0 : Int) < (l.length : Int) by omega)
      rw [e, if_neg h2, Int.tmod_eq_emod_of_nonneg h3, wrap64_id (by omega) (by omega)]
      exact lists_L0 l u _ ⟨by omega, by omega⟩ ⟨h4, h5⟩ l.length 0 [] [] [] [] (by omega) (by omega) rfl rfl rfl ⟨by simp, by simp, by simp⟩ ⟨by simp, by simp, by simp⟩ rfl rfl (fun h => by omega) (fun h => by omega)
end Go.Proofs.YtligbecmbefclaaDoor.Pure
