-- A text of the kit's tools for this claim, its remarks left out.
import Derived.Test.YtookjnpmbenheaaLinD
import Derived.Test.YtookjnpmbenheaaLinR
import Derived.Test.YtookjnpmbenheaaELinx9
import Derived.Test.YtookjnpmbenheaaELinx10
namespace Go.Proofs.Ytookjnpmbenheaa.Base
open Go.RowKit Go.Proofs.Ytookjnpmbenheaa.PLin Go.Proofs.YtookjnpmbenheaaW.PrintWords Go.Proofs.YtookjnpmbenheaaW.PrintLast Go.Proofs.YtookjnpmbenheaaW.PrintMore
set_option linter.unusedVariables false
set_option linter.unusedSimpArgs false
theorem ext_take (s : ByteArray) {i : Int} {c : Nat} (h : 0 ≤ i) : s.extract i.toNat (i + c).toNat = strOfNums ((rest s i).take c) := by
 apply bytes_inj
 rw [bytes_extract, bytes_strOf (fun x hx => rest_bytes s i x (List.mem_of_mem_take hx))]
 unfold rest
 rw [show (i + (c : Int)).toNat = i.toNat + c by omega, List.drop_take, show i.toNat + c - i.toNat = c by omega]
theorem rest_at {t : ByteArray} {i : Int} {c : Int} {T : List Int} (h0 : 0 ≤ i) (h1 : i ≤ (t.size : Int)) (h : rest t i = c :: T) : i < (t.size : Int) ∧ bt t i = c ∧ rest t (i + 1) = T := by
 have hlt : i < (t.size : Int) := by
  rcases Int.lt_or_le i (t.size : Int) with h' | h'
  ·exact h'
  ·rw [rest_nil h'] at h; cases h
 have hr := rest_cons h0 hlt
 rw [h] at hr
 simp only [List.cons.injEq] at hr
 exact ⟨hlt, hr.1.symm, hr.2.symm⟩
theorem rest_app {s : ByteArray} {i : Int} {A r : List Int} (h0 : 0 ≤ i) (h1 : i ≤ (s.size : Int)) (h : rest s i = A ++ r) : i + A.length = (s.size : Int) - r.length ∧ rest s ((s.size : Int) - r.length) = r := by
 have hz := rest_length s i
 rw [h, List.length_append] at hz
 have e : i + (A.length : Int) = (s.size : Int) - r.length := by omega
 refine ⟨e, ?_⟩
 rw [← e]
 unfold rest at h ⊢
 rw [show (i + (A.length : Int)).toNat = i.toNat + A.length by omega, ← List.drop_drop, h, List.drop_left]
theorem rest_end {s : ByteArray} {r : List Int} (h : rest s ((s.size : Int) - r.length) = r) : r.length ≤ s.size := by
 have hz := rest_length s ((s.size : Int) - r.length)
 rw [h] at hz
 omega
theorem word_L0 (s : ByteArray) (hs : s.size ≤ 1000000) (a : Int) (ha : 0 ≤ a) : ∀ (n : Nat) (t : Int), n = s.size - t.toNat → a ≤ t → t ≤ (s.size : Int) →
  solsticeref16_word.L0 s a t = some (s.extract a.toNat (t + (pre st61 (rest s t)).length).toNat) := by
 intro n
 induction n with
 | zero =>
  intro t hn h0 h1
  rw [solsticeref16_word.L0_eq, if_neg (by omega), if_pos ha, if_pos h0, if_pos h1, rest_nil (by omega)]
  show some (s.extract a.toNat t.toNat) = some (s.extract a.toNat (t + ((0 : Nat) : Int)).toNat)
  rw [show t + ((0 : Nat) : Int) = t by omega]
 | succ n ih =>
  intro t hn h0 h1
  have hlt : t < (s.size : Int) := by omega
  have stop : ∀ c T, c ∈ st61 → (pre st61 (c :: T)).length = 0 := by
   intro c T hc
   rw [pre_cons, if_pos (List.contains_iff_mem.2 hc)]
   rfl
  rw [solsticeref16_word.L0_eq, if_pos hlt, if_pos (by omega), if_pos ha, if_pos h0, if_pos h1, wrap64_id (n := t + 1) (by omega) (by omega), rest_cons (by omega) hlt]
  by_cases c1 : bt s t = 59
  ·rw [if_pos c1, stop _ _ (by rw [c1]; simp [st61]), show t + ((0 : Nat) : Int) = t by omega]
  ·rw [if_neg c1]
   by_cases c2 : bt s t = 58
   ·rw [if_pos c2, stop _ _ (by rw [c2]; simp [st61]), show t + ((0 : Nat) : Int) = t by omega]
   ·rw [if_neg c2]
    by_cases c3 : bt s t = 61
    ·rw [if_pos c3, stop _ _ (by rw [c3]; simp [st61]), show t + ((0 : Nat) : Int) = t by omega]
    ·have hn' : ¬ st61.contains (bt s t) = true := fun h => by
      have := List.contains_iff_mem.1 h
      simp [st61] at this
      omega
     rw [if_neg c3, ih (t + 1) (by omega) (by omega) (by omega), pre_cons, if_neg hn', List.length_cons]
     congr 3
     omega
theorem word_eq (s : ByteArray) (hs : s.size ≤ 1000000) (a : Int) (h0 : 0 ≤ a) (h1 : a ≤ (s.size : Int)) : solsticeref16_word.F s a = some (strOfNums (pre st61 (rest s a))) := by
 rw [solsticeref16_word.F_eq, word_L0 s hs a h0 _ a rfl (Int.le_refl _) h1, ext_take s h0, (take_app (pre_suf st61 (rest s a))).1]
section
variable (s : ByteArray) (hs : s.size ≤ 1000000) (z0 z2 N V w : ByteArray) (P : List S54)
theorem page_L2 (hs : s.size ≤ 1000000) (f : Int) (hf : 0 ≤ f) (acc : List ByteArray) (ha : acc.length ≤ 1000000) : ∀ (n : Nat) (j : Int), n = s.size - j.toNat → f + 1 ≤ j → j ≤ (s.size : Int) →
  solsticeref16_ParseLine.L2 s j f z0 z2 N P V w acc = match cutS 34 (rest s j) with
   | none => some (z0, ([] : List S54), z2, false)
   | some (A, B) => solsticeref16_ParseLine.L1 s ((s.size : Int) - B.length) (decide (B.head? = some 44)) z0 z2 N P V w (acc ++ [s.extract (f + 1).toNat (j + A.length).toNat]) := by
 intro n
 induction n with
 | zero =>
  intro j hn h0 h1
  rw [solsticeref16_ParseLine.L2_eq, if_neg (by omega), if_pos (by omega), rest_nil (by omega)]
  rfl
 | succ n ih =>
  intro j hn h0 h1
  have hlt : j < (s.size : Int) := by omega
  have hr := rest_cons (s := s) (i := j) (by omega) hlt
  have w1 : wrap64 (j + 1) = j + 1 := wrap64_id (by omega) (by omega)
  rw [solsticeref16_ParseLine.L2_eq, if_pos hlt, if_pos (by omega), w1, wrap64_id (n := f + 1) (by omega) (by omega), hr]
  by_cases c : bt s j = 34
  ·have e : cutS 34 (bt s j :: rest s (j + 1)) = some ([], rest s (j + 1)) := by
    show (if bt s j = 34 then _ else _) = _
    rw [if_pos c]
   have hz := rest_length s (j + 1)
   have ej : (s.size : Int) - (rest s (j + 1)).length = j + 1 := by omega
   rw [if_pos c, if_neg (by omega), if_pos (by omega), if_pos h0, if_pos h1, if_pos (by omega), bind_some_, e]
   dsimp only
   rw [ej, show j + (([] : List Int).length : Int) = j by simp]
   by_cases h2 : j + 1 < (s.size : Int)
   ·have hr2 := rest_cons (s := s) (i := j + 1) (by omega) h2
    have e44 : (bt s (j + 1) == 44) = decide ((rest s (j + 1)).head? = some 44) := by
     rw [hr2, List.head?_cons, Bool.eq_iff_iff, beq_iff_eq, decide_eq_true_eq, Option.some.injEq]
    rw [if_pos h2, if_pos (by omega), e44]
   ·rw [if_neg h2, rest_nil (by omega)]
    rfl
  ·have e : cutS 34 (bt s j :: rest s (j + 1)) = (cutS 34 (rest s (j + 1))).map fun p => (bt s j :: p.1, p.2) := by
    show (if bt s j = 34 then _ else _) = _
    rw [if_neg c]
   rw [if_neg c, ih (j + 1) (by omega) (by omega) (by omega), e]
   cases cutS 34 (rest s (j + 1)) with
   | none => rfl
   | some p =>
    show solsticeref16_ParseLine.L1 s _ _ z0 z2 N P V w (acc ++ [s.extract (f + 1).toNat (j + 1 + (p.1.length : Int)).toNat]) = solsticeref16_ParseLine.L1 s _ _ z0 z2 N P V w (acc ++ [s.extract (f + 1).toNat (j + ((bt s j :: p.1).length : Int)).toNat])
    rw [List.length_cons, show j + 1 + (p.1.length : Int) = j + ((p.1.length + 1 : Nat) : Int) by omega]
theorem page_L3 (hs : s.size ≤ 1000000) (f : Int) (hf : 0 ≤ f) (acc : List ByteArray) (ha : acc.length ≤ 1000000) : ∀ (n : Nat) (j : Int), n = s.size - j.toNat → f ≤ j → j ≤ (s.size : Int) →
  solsticeref16_ParseLine.L3 s j f z0 z2 N P V w acc = solsticeref16_ParseLine.L1 s (j + (pre st3 (rest s j)).length) (decide ((suf st3 (rest s j)).head? = some 44)) z0 z2 N P V w (acc ++ [s.extract f.toNat (j + (pre st3 (rest s j)).length).toNat]) := by
 intro n
 induction n with
 | zero =>
  intro j hn h0 h1
  rw [solsticeref16_ParseLine.L3_eq, if_neg (by omega), if_pos hf, if_pos h0, if_pos h1, if_pos (by omega), rest_nil (by omega)]
  show _ = solsticeref16_ParseLine.L1 s (j + ((0 : Nat) : Int)) (decide (none = some (44 : Int))) z0 z2 N P V w (acc ++ [s.extract f.toNat (j + ((0 : Nat) : Int)).toNat])
  rw [show j + ((0 : Nat) : Int) = j by omega]
  rfl
 | succ n ih =>
  intro j hn h0 h1
  have hlt : j < (s.size : Int) := by omega
  have stop : bt s j ∈ st3 → solsticeref16_ParseLine.L1 s j (bt s j == 44) z0 z2 N P V w (acc ++ [s.extract f.toNat j.toNat]) = solsticeref16_ParseLine.L1 s (j + (pre st3 (bt s j :: rest s (j + 1))).length) (decide ((suf st3 (bt s j :: rest s (j + 1))).head? = some 44)) z0 z2 N P V w (acc ++ [s.extract f.toNat (j + (pre st3 (bt s j :: rest s (j + 1))).length).toNat]) := by
   intro hc
   have hc' := List.contains_iff_mem.2 hc
   have e44 : (bt s j == 44) = decide (some (bt s j) = some 44) := by
    rw [Bool.eq_iff_iff, beq_iff_eq, decide_eq_true_eq, Option.some.injEq]
   rw [pre_cons, suf_cons, if_pos hc', if_pos hc', List.head?_cons, e44, show j + (([] : List Int).length : Int) = j by simp]
  have hacc : acc.length < 8796093022208 := by omega
  rw [solsticeref16_ParseLine.L3_eq, if_pos hlt, if_pos (by omega), if_pos hf, if_pos h0, if_pos h1, if_pos hacc, wrap64_id (n := j + 1) (by omega) (by omega), rest_cons (by omega) hlt]
  by_cases c1 : bt s j = 59
  ·rw [if_pos c1]
   exact stop (by rw [c1]; simp [st3])
  ·rw [if_neg c1]
   by_cases c2 : bt s j = 58
   ·rw [if_pos c2]
    exact stop (by rw [c2]; simp [st3])
   ·rw [if_neg c2]
    by_cases c3 : bt s j = 44
    ·rw [if_pos c3]
     exact stop (by rw [c3]; simp [st3])
    ·have hn' : ¬ st3.contains (bt s j) = true := fun h => by
      have := List.contains_iff_mem.1 h
      simp [st3] at this
      omega
     rw [if_neg c3, ih (j + 1) (by omega) (by omega) (by omega), pre_cons, suf_cons, if_neg hn', if_neg hn', List.length_cons, show j + 1 + ((pre st3 (rest s (j + 1))).length : Int) = j + (((pre st3 (rest s (j + 1))).length + 1 : Nat) : Int) by omega]
theorem page_val (hs : s.size ≤ 1000000) (i : Int) (h0 : 0 ≤ i) (h1 : i < (s.size : Int)) (acc : List ByteArray) (ha : acc.length ≤ 1000000) :
  solsticeref16_ParseLine.L1 s i true z0 z2 N P V w acc = match nextR (rest s (i + 1)) with
   | none => some (z0, ([] : List S54), z2, false)
   | some (x, r) => solsticeref16_ParseLine.L1 s ((s.size : Int) - r.length) (decide (r.head? = some 44)) z0 z2 N P V w (acc ++ [strOfNums x]) := by
 have w1 : wrap64 (i + 1) = i + 1 := wrap64_id (by omega) (by omega)
 have plain : ¬ (rest s (i + 1)).head? = some 34 → solsticeref16_ParseLine.J4 s (i + 1) (i + 1) false z0 z2 N P V w acc = match nextR (rest s (i + 1)) with
   | none => some (z0, ([] : List S54), z2, false)
   | some (x, r) => solsticeref16_ParseLine.L1 s ((s.size : Int) - r.length) (decide (r.head? = some 44)) z0 z2 N P V w (acc ++ [strOfNums x]) := by
  intro hn
  obtain ⟨g1, _⟩ := rest_app (s := s) (i := i + 1) (by omega) (by omega) (pre_suf st3 (rest s (i + 1))).symm
  rw [solsticeref16_ParseLine.J4_eq, if_neg (by simp), page_L3 s z0 z2 N V w P hs (i + 1) (by omega) acc ha _ (i + 1) rfl (Int.le_refl _) (by omega)]
  unfold nextR
  rw [if_neg hn]
  dsimp only
  rw [ext_take s (by omega), (take_app (pre_suf st3 (rest s (i + 1)))).1, g1]
 rw [solsticeref16_ParseLine.L1_eq, if_pos rfl, w1]
 by_cases h2 : i + 1 < (s.size : Int)
 ·have hr := rest_cons (s := s) (i := i + 1) (by omega) h2
  rw [if_pos h2, if_pos (by omega)]
  by_cases c : bt s (i + 1) = 34
  ·have hb : (bt s (i + 1) == 34) = true := beq_iff_eq.2 c
   have hz := rest_length s (i + 1 + 1)
   rw [hb, solsticeref16_ParseLine.J4_eq, if_pos rfl, wrap64_id (n := i + 1 + 1) (by omega) (by omega), page_L2 s z0 z2 N V w P hs (i + 1) (by omega) acc ha _ (i + 1 + 1) rfl (Int.le_refl _) (by omega)]
   unfold nextR
   rw [hr, List.head?_cons, if_pos (by rw [c]), List.tail_cons]
   cases hc : cutS 34 (rest s (i + 1 + 1)) with
   | none => rfl
   | some p =>
    obtain ⟨A, B⟩ := p
    obtain ⟨e, _⟩ := cutS_some hc
    dsimp only
    rw [ext_take s (by omega), (take_app e.symm).1]
  ·have hb : (bt s (i + 1) == 34) = false := beq_eq_false_iff_ne.2 c
   rw [hb]
   refine plain (fun h => ?_)
   rw [hr, List.head?_cons] at h
   exact c (Option.some.inj h)
 ·rw [if_neg h2]
  refine plain (fun h => ?_)
  rw [rest_nil (by omega)] at h
  cases h
theorem page_vals (hs : s.size ≤ 1000000) (hP : P.length ≤ 1000000) : ∀ (n : Nat) (i : Int) (acc : List ByteArray), 0 ≤ i → i < (s.size : Int) → (rest s (i + 1)).length < n → acc.length + (rest s (i + 1)).length ≤ 1000000 →
  solsticeref16_ParseLine.L1 s i true z0 z2 N P V w acc = match valsR n (rest s (i + 1)) acc with
   | none => some (z0, ([] : List S54), z2, false)
   | some (vs, r) => solsticeref16_ParseLine.L0 s ((s.size : Int) - r.length) z0 z2 N (P ++ [⟨w, vs⟩]) V := by
 intro n
 induction n with
 | zero => intro i acc h0 h1 h; omega
 | succ n ih =>
  intro i acc h0 h1 hn ha
  rw [page_val s z0 z2 N V w P hs i h0 h1 acc (by omega)]
  unfold valsR
  cases hx : nextR (rest s (i + 1)) with
  | none => rfl
  | some p =>
   obtain ⟨x, r⟩ := p
   obtain ⟨q, e, _⟩ := nextR_says hx
   obtain ⟨n1, _⟩ := nextR_len hx
   obtain ⟨g1, g2⟩ := rest_app (s := s) (i := i + 1) (by omega) (by omega) e
   have hz := rest_length s (i + 1)
   dsimp only
   by_cases h : r.head? = some 44
   ·have e44 := head_cons h
    have g2' := g2
    rw [e44] at g2'
    have hrp : 0 < r.length := by rw [e44, List.length_cons]; omega
    obtain ⟨k1, k2, k3⟩ := rest_at (t := s) (i := (s.size : Int) - r.length) (by omega) (by omega) (by rw [g2]; exact e44)
    rw [decide_eq_true h, if_pos h, ih _ _ (by omega) k1 (by rw [k3, List.length_tail]; omega) (by rw [k3, List.length_tail, List.length_append, List.length_singleton]; omega), k3]
   ·rw [decide_eq_false h, if_neg h, solsticeref16_ParseLine.L1_eq, if_neg (by simp), if_pos (by omega)]
end
def encR (z0 z2 : ByteArray) : Option (ByteArray × List S54 × ByteArray) → ByteArray × List S54 × ByteArray × Bool
 | some (n, ps, v) => (n, ps, v, true)
 | none => (z0, ([] : List S54), z2, false)
theorem valsR_len (M : Nat) : ∀ (n : Nat) (l : List Int) (acc : List ByteArray) (vs : List ByteArray) (r : List Int), valsR n l acc = some (vs, r) → l.length ≤ M → (∀ x ∈ acc, x.size ≤ M) →
  vs.length + r.length ≤ acc.length + l.length + 1 ∧ ∀ x ∈ vs, x.size ≤ M := by
 intro n
 induction n with
 | zero => intro l acc vs r h; cases h
 | succ n ih =>
  intro l acc vs r h hl ha
  unfold valsR at h
  split at h
  ·cases h
  ·rename_i x r' hx
   obtain ⟨n1, n2⟩ := nextR_len hx
   have ha' : ∀ y ∈ acc ++ [strOfNums x], y.size ≤ M := by
    intro y hy
    rcases List.mem_append.1 hy with hy | hy
    ·exact ha y hy
    ·rw [List.mem_singleton.1 hy, size_strOf]
     omega
   split at h
   ·rename_i h44
    have hp : 0 < r'.length := by
     cases r' with
     | nil => cases h44
     | cons => rw [List.length_cons]; omega
    have ht := List.length_tail (l := r')
    obtain ⟨g3, g4⟩ := ih r'.tail _ vs r h (by omega) ha'
    rw [List.length_append, List.length_singleton] at g3
    exact ⟨by omega, g4⟩
   ·simp only [Option.some.injEq, Prod.mk.injEq] at h
    obtain ⟨rfl, rfl⟩ := h
    rw [List.length_append, List.length_singleton]
    exact ⟨by omega, ha'⟩
theorem page_pars (s : ByteArray) (hs : s.size ≤ 100000) (z0 z2 N V : ByteArray) (hN : N.size ≤ 100000) : ∀ (n : Nat) (i : Int) (P : List S54), 0 ≤ i → i ≤ (s.size : Int) → (rest s i).length < n → P.length + (rest s i).length ≤ 100000 → (∀ p ∈ P, FitM 100000 p) →
  solsticeref16_ParseLine.L0 s i z0 z2 N P V = some (encR z0 z2 (match parsR n (rest s i) P with
   | none => none
   | some (ps, r) => if r.head? = some 58 ∧ lnS N ps (strOfNums r.tail) = true then some (N, ps, strOfNums r.tail) else none)) := by
 intro n
 induction n with
 | zero => intro i P h0 h1 h; omega
 | succ n ih =>
  intro i P h0 h1 hn ha hF
  have hz := rest_length s i
  have fin : ¬ (rest s i).head? = some 59 → solsticeref16_ParseLine.J1 s i false z0 z2 N P V = some (encR z0 z2 (if (rest s i).head? = some 58 ∧ lnS N P (strOfNums (rest s i).tail) = true then some (N, P, strOfNums (rest s i).tail) else none)) := by
   intro h59
   have bad : solsticeref16_ParseLine.J7 s i true z0 z2 N P V = some (encR z0 z2 none) := by rw [solsticeref16_ParseLine.J7_eq, if_pos rfl]; rfl
   rw [solsticeref16_ParseLine.J1_eq, if_neg (by simp)]
   by_cases h : i ≥ (s.size : Int)
   ·rw [if_pos h, bad, rest_nil h, if_neg (fun h' => by cases h'.1)]
   ·have hlt : i < (s.size : Int) := by omega
    have hr := rest_cons h0 hlt
    rw [if_neg h, if_pos h0, if_pos hlt]
    by_cases c : bt s i = 58
    ·have hb : (bt s i != 58) = false := by simpa using c
     have hx : s.extract (i + 1).toNat s.size = strOfNums (rest s (i + 1)) := rest_extract s (i + 1)
     rw [hb, solsticeref16_ParseLine.J7_eq, if_neg (by simp), wrap64_id (n := i + 1) (by omega) (by omega), if_pos (by omega), if_pos (by omega), hx, refline_eq N P _ (by omega) (by rw [size_strOf, rest_length]; omega) (fun p hp => by
      obtain ⟨f1, f2, f3⟩ := hF p hp
      exact ⟨by omega, fun x hx => by have := f2 x hx; omega, by omega⟩) (by omega), bind_some_, hr, List.head?_cons, List.tail_cons]
     by_cases hl : lnS N P (strOfNums (rest s (i + 1))) = true
     ·rw [if_pos hl, if_pos ⟨by rw [c], hl⟩]
      rfl
     ·rw [if_neg hl, if_neg (fun h' => hl h'.2)]
      rfl
    ·have hb : (bt s i != 58) = true := by simpa using c
     rw [hb, bad, hr, List.head?_cons, if_neg (fun h' => c (Option.some.inj h'.1))]
  have more : (rest s i).head? = some 59 → solsticeref16_ParseLine.J1 s i true z0 z2 N P V = some (encR z0 z2 (match parsR (n + 1) (rest s i) P with
   | none => none
   | some (ps, r) => if r.head? = some 58 ∧ lnS N ps (strOfNums r.tail) = true then some (N, ps, strOfNums r.tail) else none)) := by
   intro h59
   obtain ⟨k1, k2, k3⟩ := rest_at h0 h1 (head_cons h59)
   have hps := pre_suf st61 (rest s (i + 1))
   have hz1 := rest_length s (i + 1)
   have hpl := congrArg List.length hps
   rw [List.length_append] at hpl
   obtain ⟨g1, g2⟩ := rest_app (s := s) (i := i + 1) (by omega) (by omega) hps.symm
   rw [solsticeref16_ParseLine.J1_eq, if_pos rfl, wrap64_id (n := i + 1) (by omega) (by omega), word_eq s (by omega) (i + 1) (by omega) (by omega), bind_some_, size_strOf, wrap64_id (n := i + 1 + ((pre st61 (rest s (i + 1))).length : Int)) (by omega) (by omega), g1]
   unfold parsR
   rw [if_pos h59, ← k3]
   have bad : ∀ j w, solsticeref16_ParseLine.J2 s j true z0 z2 N P V w = some (encR z0 z2 none) := fun j w => by rw [solsticeref16_ParseLine.J2_eq, if_pos rfl]; rfl
   by_cases h : (s.size : Int) - (suf st61 (rest s (i + 1))).length ≥ (s.size : Int)
   ·have hnil : suf st61 (rest s (i + 1)) = [] := List.eq_nil_of_length_eq_zero (by omega)
    rw [if_pos h, bad, hnil, if_neg (by simp)]
   ·have hlt : (s.size : Int) - (suf st61 (rest s (i + 1))).length < (s.size : Int) := by omega
    have hr := rest_cons (s := s) (i := (s.size : Int) - (suf st61 (rest s (i + 1))).length) (by omega) hlt
    rw [g2] at hr
    rw [if_neg h, if_pos (by omega), if_pos hlt]
    by_cases c : bt s ((s.size : Int) - (suf st61 (rest s (i + 1))).length) = 61
    ·have hb : (bt s ((s.size : Int) - (suf st61 (rest s (i + 1))).length) != 61) = false := by simpa using c
     have hh : (suf st61 (rest s (i + 1))).head? = some 61 := by rw [hr, List.head?_cons, c]
     have ht : (suf st61 (rest s (i + 1))).tail = rest s ((s.size : Int) - (suf st61 (rest s (i + 1))).length + 1) := by
      conv => lhs; rw [hr]
      rfl
     have htl := List.length_tail (l := suf st61 (rest s (i + 1)))
     rw [hb, solsticeref16_ParseLine.J2_eq, if_neg (by simp), if_pos hh, page_vals s z0 z2 N V _ P (by omega) (by omega) ((suf st61 (rest s (i + 1))).tail.length + 1) _ [] (by omega) hlt (by rw [← ht]; omega) (by rw [← ht]; simp; omega), ← ht]
     cases hv : valsR ((suf st61 (rest s (i + 1))).tail.length + 1) (suf st61 (rest s (i + 1))).tail [] with
     | none => rfl
     | some q =>
      obtain ⟨vs, r⟩ := q
      have hbt : Bytes (suf st61 (rest s (i + 1))).tail := (suf_bytes (rest_bytes s (i + 1))).tl
      obtain ⟨us, qs, u1, u2, u3, u4, u5⟩ := valsR_says _ _ _ _ _ hbt hv
      obtain ⟨v3, v4⟩ := valsR_len 100000 _ _ _ _ _ hv (by omega) (by simp)
      rw [List.length_nil] at v3
      obtain ⟨_, q2⟩ := rest_app (s := s) (i := (s.size : Int) - (suf st61 (rest s (i + 1))).length + 1) (by omega) (by omega) (ht.symm.trans u4)
      have hrl := rest_end q2
      have hlen4 := congrArg List.length u4
      rw [List.length_append] at hlen4
      dsimp only
      have hI := ih ((s.size : Int) - r.length) (P ++ [⟨strOfNums (pre st61 (rest s (i + 1))), vs⟩]) (by omega) (by omega) (by rw [q2]; omega) (by rw [q2, List.length_append, List.length_singleton]; omega) (by
       intro p hp
       rcases List.mem_append.1 hp with hp | hp
       ·exact hF p hp
       ·rw [List.mem_singleton.1 hp]
        refine ⟨by rw [size_strOf]; omega, v4, ?_⟩
        show vs.length ≤ 100000 + 1
        omega)
      rw [q2] at hI
      exact hI
    ·have hb : (bt s ((s.size : Int) - (suf st61 (rest s (i + 1))).length) != 61) = true := by simpa using c
     rw [hb, bad, if_neg (by rw [hr, List.head?_cons]; exact fun h' => c (Option.some.inj h'))]
  rw [solsticeref16_ParseLine.L0_eq]
  by_cases h : i < (s.size : Int)
  ·have hr := rest_cons h0 h
   rw [if_pos h, if_pos h0]
   by_cases c : bt s i = 59
   ·have hb : (bt s i == 59) = true := beq_iff_eq.2 c
    rw [hb]
    exact more (by rw [hr, List.head?_cons, c])
   ·have hb : (bt s i == 59) = false := beq_eq_false_iff_ne.2 c
    have hn59 : ¬ (rest s i).head? = some 59 := by rw [hr, List.head?_cons]; exact fun h' => c (Option.some.inj h')
    rw [hb, fin hn59]
    unfold parsR
    rw [if_neg hn59]
  ·have hn59 : ¬ (rest s i).head? = some 59 := by rw [rest_nil (by omega)]; simp
   rw [if_neg h, fin hn59]
   unfold parsR
   rw [if_neg hn59]
theorem page_Parse (s : ByteArray) (hs : s.size ≤ 90000) : solsticeref16_ParseLine.F s = some (encR (⟨#[]⟩ : ByteArray) (⟨#[]⟩ : ByteArray) (prsR (bytesOf s))) := by
 have hz := bytesOf_length s
 have hps := pre_suf st61 (bytesOf s)
 have hpl := congrArg List.length hps
 rw [List.length_append] at hpl
 obtain ⟨g1, g2⟩ := rest_app (s := s) (i := 0) (by omega) (by omega) (A := pre st61 (bytesOf s)) (r := suf st61 (bytesOf s)) (by rw [rest_zero, hps])
 have hN : (strOfNums (pre st61 (bytesOf s))).size ≤ 100000 := by rw [size_strOf]; omega
 rw [solsticeref16_ParseLine.F_eq, word_eq s (by omega) 0 (by omega) (by omega), bind_some_, rest_zero, size_strOf, show ((pre st61 (bytesOf s)).length : Int) = 0 + ((pre st61 (bytesOf s)).length : Int) by omega, g1]
 rw [page_pars s (by omega) _ _ _ _ hN ((bytesOf s).length + 1) _ [] (by omega) (by omega) (by rw [g2]; omega) (by rw [g2]; simp; omega) (by simp), g2]
 rfl
end Go.Proofs.Ytookjnpmbenheaa.Base
