/- The law FoldShort over numbers and lists: for every text the law's printed function answers true. -/
import Derived.Test.YtfiiipjglacejaaDoorFolD
import Derived.Test.YtfiiipjglacejaaDoorEFolx7
namespace Go.Proofs.YtfiiipjglacejaaDoor.Pure
open Go.RowKit Go.Proofs.YtfiiipjglacejaaDoor.PFol Go.Proofs.YtfiiipjglacejaaDoorW.PrintWords Go.Proofs.YtfiiipjglacejaaDoorW.PrintLast Go.Proofs.YtfiiipjglacejaaDoorW.PrintMore Go.Proofs.YtfiiipjglacejaaDoor.Base
set_option linter.unusedVariables false
set_option linter.unusedSimpArgs false

theorem signs_L0 (s : ByteArray) (hs : s.size ≤ 1000000) : ∀ (n : Nat) (i : Int) (k : Nat), n = s.size - i.toNat → 0 ≤ i → i ≤ (s.size : Int) → k ≤ 3 → solsticelaw16_signs.L0 s (k : Int) i = some (sg k (rest s i)) := by
  intro n
  induction n with
  | zero =>
    intro i k hn h0 h1 hk
    rw [solsticelaw16_signs.L0_eq, if_neg (by omega), rest_nil (by omega)]
    congr 1
    rw [Bool.eq_iff_iff, beq_iff_eq]
    cases k with
    | zero => simp [sg]
    | succ k => simp [sg]; omega
  | succ n ih =>
    intro i k hn h0 h1 hk
    have hlt : i < (s.size : Int) := by omega
    have r1 := ih (i + 1) 1 (by omega) (by omega) (by omega) (by omega)
    have r2 := ih (i + 1) 2 (by omega) (by omega) (by omega) (by omega)
    have r3 := ih (i + 1) 3 (by omega) (by omega) (by omega) (by omega)
    have r0 := ih (i + 1) 0 (by omega) (by omega) (by omega) (by omega)
    rw [solsticelaw16_signs.L0_eq, if_pos hlt, if_pos h0, wrap64_id (n := i + 1) (by omega) (by omega), rest_cons h0 hlt]
    have j2 : ∀ x, solsticelaw16_signs.J2 s i (bt s i) x = if x = true then some (sg 2 (rest s (i + 1))) else if bt s i ≥ 240 then (if bt s i < 248 then some (sg 3 (rest s (i + 1))) else some false) else some false := by
      intro x
      rw [solsticelaw16_signs.J2_eq, wrap64_id (n := i + 1) (by omega) (by omega)]
      have e2 : solsticelaw16_signs.L0 s 2 (i + 1) = some (sg 2 (rest s (i + 1))) := r2
      have e3 : solsticelaw16_signs.L0 s 3 (i + 1) = some (sg 3 (rest s (i + 1))) := r3
      rw [e2, e3]
    have j1 : ∀ x, solsticelaw16_signs.J1 s i (bt s i) x = if x = true then some (sg 1 (rest s (i + 1))) else if bt s i ≥ 224 then solsticelaw16_signs.J2 s i (bt s i) (decide (bt s i < 240)) else solsticelaw16_signs.J2 s i (bt s i) false := by
      intro x
      rw [solsticelaw16_signs.J1_eq, wrap64_id (n := i + 1) (by omega) (by omega)]
      have e1 : solsticelaw16_signs.L0 s 1 (i + 1) = some (sg 1 (rest s (i + 1))) := r1
      rw [e1]
    rw [j1, j1, j2, j2]
    generalize bt s i = c at *
    cases k with
    | zero =>
      have e0 : solsticelaw16_signs.L0 s ((0 : Nat) : Int) (i + 1) = some (sg 0 (rest s (i + 1))) := r0
      rw [if_neg (by omega), e0, sg]
      simp only [decide_eq_true_eq]
      repeat' split
      all_goals first | rfl | (exfalso; omega) | contradiction
    | succ k =>
      have rk := ih (i + 1) k (by omega) (by omega) (by omega) (by omega)
      have e : wrap64 (((k + 1 : Nat) : Int) - 1) = (k : Int) := by rw [wrap64_id (by omega) (by omega)]; omega
      rw [if_pos (by omega), e, rk, sg]
      repeat' split
      all_goals first | rfl | (exfalso; omega) | contradiction
theorem signs_eq (s : ByteArray) (hs : s.size ≤ 1000000) : solsticelaw16_signs.F s = some (sg 0 (bytesOf s)) := by
  rw [solsticelaw16_signs.F_eq]
  have := signs_L0 s hs _ 0 0 rfl (by omega) (by omega) (by omega)
  rw [rest_zero] at this
  exact this
theorem rest_at {t : ByteArray} {i : Int} {c : Int} {T : List Int} (h0 : 0 ≤ i) (h1 : i ≤ (t.size : Int)) (h : rest t i = c :: T) : i < (t.size : Int) ∧ bt t i = c ∧ rest t (i + 1) = T := by
  have hlt : i < (t.size : Int) := by
    rcases Int.lt_or_le i (t.size : Int) with h' | h'
    · exact h'
    · rw [rest_nil h'] at h; cases h
  have hr := rest_cons h0 hlt
  rw [h] at hr
  simp only [List.cons.injEq] at hr
  exact ⟨hlt, hr.1.symm, hr.2.symm⟩
theorem rest_size {t : ByteArray} {i : Int} (h0 : 0 ≤ i) (h1 : i ≤ (t.size : Int)) : (t.size : Int) = i + (rest t i).length := by
  have := rest_length t i
  omega
theorem short_skip (s t : ByteArray) (f : Int) (ht : t.size ≤ 1000000) : ∀ (A T : List Int) (i : Int), 0 ≤ i → i ≤ (t.size : Int) → rest t i = A ++ 13 :: T → (13 : Int) ∉ A → solsticelaw16_FoldShort.L0 s t f i = solsticelaw16_FoldShort.L0 s t f (i + A.length) ∧ rest t (i + A.length) = 13 :: T ∧ i + A.length ≤ (t.size : Int)
  | [], T, i, h0, h1, h, _ => by
    rw [List.length_nil, show i + ((0 : Nat) : Int) = i by omega]
    exact ⟨rfl, h, h1⟩
  | c :: A, T, i, h0, h1, h, hA => by
    obtain ⟨k1, k2, k3⟩ := rest_at h0 h1 h
    have hz := rest_size h0 h1
    rw [h, List.cons_append, List.length_cons, List.length_append, List.length_cons] at hz
    have hc : c ≠ 13 := fun e => hA (by rw [e]; exact List.mem_cons_self ..)
    obtain ⟨e1, e2, e3⟩ := short_skip s t f ht A T (i + 1) (by omega) (by omega) k3 (fun hm => hA (List.mem_cons_of_mem _ hm))
    rw [List.length_cons, show i + ((A.length + 1 : Nat) : Int) = i + 1 + (A.length : Int) by omega, ← e1]
    refine ⟨?_, e2, e3⟩
    rw [solsticelaw16_FoldShort.L0_eq, wrap64_id (n := i + 1) (by omega) (by omega), if_pos (by omega), if_pos h0, if_pos k1, k2, if_neg hc]
theorem short_step (s t : ByteArray) (f i : Int) (ht : t.size ≤ 1000000) (h0 : 0 ≤ i) (h1 : i ≤ (t.size : Int)) {c d : Int} {T : List Int} (h : rest t i = c :: d :: T) (hc : c ≠ 13) : solsticelaw16_FoldShort.L0 s t f i = solsticelaw16_FoldShort.L0 s t f (i + 1) := by
  obtain ⟨k1, k2, k3⟩ := rest_at h0 h1 h
  have hz := rest_size h0 h1
  rw [h, List.length_cons, List.length_cons] at hz
  rw [solsticelaw16_FoldShort.L0_eq, wrap64_id (n := i + 1) (by omega) (by omega), if_pos (by omega), if_pos h0, if_pos k1, k2, if_neg hc]
theorem short_end (s t : ByteArray) (f i : Int) (ht : t.size ≤ 1000000) (h0 : 0 ≤ i) (h1 : i ≤ (t.size : Int)) (h : rest t i = [13, 10]) (hf : i - f ≤ 75) (hf0 : 0 ≤ f ∧ f ≤ i) : solsticelaw16_FoldShort.L0 s t f i = some true := by
  obtain ⟨k1, k2, k3⟩ := rest_at h0 h1 h
  obtain ⟨m1, m2, m3⟩ := rest_at (by omega) (by omega) k3
  have hz := rest_size h0 h1
  rw [h, List.length_cons, List.length_cons, List.length_nil] at hz
  rw [solsticelaw16_FoldShort.L0_eq, wrap64_id (n := i + 1) (by omega) (by omega), if_pos (by omega), if_pos h0, if_pos k1, k2, if_pos rfl, if_pos (by omega), m2, if_pos rfl, wrap64_id (n := i - f) (by omega) (by omega), decide_eq_false (by omega), solsticelaw16_FoldShort.J1_eq, if_neg (by simp), wrap64_id (n := i + 3) (by omega) (by omega), if_neg (by omega), wrap64_id (n := i + 2) (by omega) (by omega), wrap64_id (n := i + 1) (by omega) (by omega), solsticelaw16_FoldShort.L0_eq, wrap64_id (n := i + 1 + 1) (by omega) (by omega), if_neg (by omega), if_pos (by omega), wakes16, bind_some_]
theorem short_go (s t : ByteArray) (hs : s.size ≤ 1000000) (ht : t.size ≤ 1000000) : ∀ (n : Nat) (l : List Int) (i d : Int) (room : Nat), 0 ≤ i → i ≤ (t.size : Int) → rest t i = foldL n l room → l.length < n → Cln l → (sg 0 (bytesOf s) = true → sg 0 l = true) → d + room = 75 → 0 ≤ d → d ≤ i → 5 ≤ room → solsticelaw16_FoldShort.L0 s t (i - d) i = some true := by
  intro n
  induction n with
  | zero => intro l i d room h0 h1 hr hn; omega
  | succ n ih =>
    intro l i d room h0 h1 hr hn hc hsg hd hd0 hdi hrm
    unfold foldL at hr
    by_cases h : l.length ≤ room
    · rw [if_pos h] at hr
      obtain ⟨e1, e2, e3⟩ := short_skip s t (i - d) ht l [10] i h0 h1 hr hc.2
      rw [e1]
      exact short_end s t (i - d) _ ht (by omega) e3 e2 (by omega) (by omega)
    · rw [if_neg h] at hr
      obtain ⟨k1, k2, k3⟩ := cutL_big h (by omega)
      have hcc := hc
      rw [← List.take_append_drop (cutL l room) l] at hcc
      obtain ⟨c1, c2⟩ := hcc.app
      have hlt := List.length_take (i := cutL l room) (l := l)
      have hld := List.length_drop (i := cutL l room) (l := l)
      obtain ⟨e1, e2, e3⟩ := short_skip s t (i - d) ht (l.take (cutL l room)) _ i h0 h1 hr c1.2
      rw [e1]
      generalize hj : i + ((l.take (cutL l room)).length : Int) = j at *
      obtain ⟨a1, a2, a3⟩ := rest_at (by omega) e3 e2
      obtain ⟨b1, b2, b3⟩ := rest_at (by omega) (by omega) a3
      obtain ⟨p1, p2, p3⟩ := rest_at (by omega) (by omega) b3
      have hne : l.drop (cutL l room) ≠ [] := fun h' => by rw [h', List.length_nil] at hld; omega
      have hhd := foldL_head (n := n) (l := l.drop (cutL l room)) (T := []) (room := 74) hne (by omega)
      rw [List.append_nil, drop_getD k3, List.head?_cons] at hhd
      rw [← drop_getD k3] at hhd
      obtain ⟨R, hR⟩ : ∃ R, foldL n (l.drop (cutL l room)) 74 = l.getD (cutL l room) 0 :: R := by
        cases hF : foldL n (l.drop (cutL l room)) 74 with
        | nil => rw [hF] at hhd; cases hhd
        | cons x R => rw [hF, List.head?_cons, Option.some.injEq] at hhd; exact ⟨R, by rw [hhd]⟩
      have p3' := p3
      rw [hR] at p3'
      obtain ⟨q1, q2, q3⟩ := rest_at (by omega) (by omega) p3'
      have hnext : solsticelaw16_FoldShort.L0 s t (j + 2) (j + 1) = some true := by
        have hfin := ih (l.drop (cutL l room)) (j + 1 + 1 + 1) 1 74 (by omega) (by omega) p3 (by omega) c2 (fun h' => (sg_cut (hsg h') h (by omega)).2) (by omega) (by omega) (by omega) (by omega)
        rw [short_step s t (j + 2) (j + 1) ht (by omega) (by omega) a3 (by omega), short_step s t (j + 2) (j + 1 + 1) ht (by omega) (by omega) (b3.trans (by rw [hR])) (by omega)]
        rw [show j + 2 = j + 1 + 1 + 1 - 1 by omega]
        exact hfin
      rw [solsticelaw16_FoldShort.L0_eq, wrap64_id (n := j + 1) (by omega) (by omega), if_pos (by omega), if_pos (by omega), if_pos a1, a2, if_pos rfl, if_pos (by omega), b2, if_pos rfl, wrap64_id (n := j - (i - d)) (by omega) (by omega), decide_eq_false (by omega), solsticelaw16_FoldShort.J1_eq, if_neg (by simp), wrap64_id (n := j + 3) (by omega) (by omega), wrap64_id (n := j + 2) (by omega) (by omega), wrap64_id (n := j + 1) (by omega) (by omega), hnext, if_pos (by omega), if_pos (by omega), show j + 3 = j + 1 + 1 + 1 by omega, q2, signs_eq s hs, bind_some_]
      cases hS : sg 0 (bytesOf s) with
      | false =>
        rw [if_neg (show ¬ (false = true) by simp)]
        split
        · split <;> rfl
        · rfl
      | true =>
        have hon := (sg_cut (hsg hS) h (by omega)).1
        by_cases o1 : l.getD (cutL l room) 0 ≥ 128
        · have o2 : ¬ l.getD (cutL l room) 0 < 192 := fun h' => by
            have := onB_iff.2 (show 128 ≤ l.getD (cutL l room) 0 ∧ l.getD (cutL l room) 0 ≤ 191 from ⟨o1, by omega⟩)
            rw [this] at hon
            cases hon
          rw [if_pos o1, if_neg o2]
        · rw [if_neg o1]
theorem FoldShort_F (s : ByteArray) : solsticelaw16_FoldShort.F s = some true := by
  have hz := bytesOf_length s
  rw [solsticelaw16_FoldShort.F_eq]
  by_cases h : (s.size : Int) > 3000
  · rw [if_pos h]
  · rw [if_neg h, Line_eq s (by omega), bind_some_]
    by_cases hc : Cln (bytesOf s)
    · have e : (if Cln (bytesOf s) then (strOfNums (foldL ((bytesOf s).length + 1) (bytesOf s) 75), (0 : Int)) else ((⟨#[]⟩ : ByteArray), 18)) = (strOfNums (foldL ((bytesOf s).length + 1) (bytesOf s) 75), 0) := if_pos hc
      have hl := foldL_len ((bytesOf s).length + 1) (bytesOf s) 75 (by omega)
      rw [e]
      dsimp only
      rw [if_pos rfl]
      have := short_go s (strOfNums (foldL ((bytesOf s).length + 1) (bytesOf s) 75)) (by omega) (by rw [size_strOf]; omega) ((bytesOf s).length + 1) (bytesOf s) 0 0 75 (by omega) (by omega) (by rw [rest_zero, bytes_strOf (foldL_bytes _ 75 (bytes_of s))]) (by omega) hc id (by omega) (by omega) (by omega) (by omega)
      exact this
    · have e : (if Cln (bytesOf s) then (strOfNums (foldL ((bytesOf s).length + 1) (bytesOf s) 75), (0 : Int)) else ((⟨#[]⟩ : ByteArray), 18)) = ((⟨#[]⟩ : ByteArray), 18) := if_neg hc
      rw [e]
      dsimp only
      rw [if_neg (by decide), if_pos rfl, wakes16, bind_some_]
theorem FoldShort (s : ByteArray) (w0 : s.size ≤ 140737488351232) : ∃ k, solsticelaw16_FoldShort.f k s = some true := lim_some (FoldShort_F s)
end Go.Proofs.YtfiiipjglacejaaDoor.Pure
