/- The page's Format, Letter and Abbr: right at the three shapes, and only there; the name at each. No condition. -/
import Derived.Test.YtookjnpmbenheaaDoorFmtD
namespace Go.Proofs.YtookjnpmbenheaaDoor.Base
open Go.RowKit Go.Proofs.YtookjnpmbenheaaDoor.PFmt Go.Proofs.YtookjnpmbenheaaDoorW.PrintWords Go.Proofs.YtookjnpmbenheaaDoorW.PrintLast Go.Proofs.YtookjnpmbenheaaDoorW.PrintMore
set_option linter.unusedVariables false
set_option linter.unusedSimpArgs false

theorem bt_rest {s : ByteArray} {i : Int} {c : Int} {T : List Int} (h0 : 0 ≤ i) (h1 : i ≤ (s.size : Int)) (h : rest s i = c :: T) : i < (s.size : Int) ∧ bt s i = c ∧ rest s (i + 1) = T := by
  have hlt : i < (s.size : Int) := by
    rcases Int.lt_or_le i (s.size : Int) with h' | h'
    · exact h'
    · rw [rest_nil h'] at h; cases h
  have hr := rest_cons h0 hlt
  rw [h] at hr
  simp only [List.cons.injEq] at hr
  exact ⟨hlt, hr.1.symm, hr.2.symm⟩
theorem rest_end {s : ByteArray} {i : Int} (h0 : 0 ≤ i) (h1 : i ≤ (s.size : Int)) (h : rest s i = []) : i = (s.size : Int) := by
  rcases Int.lt_or_le i (s.size : Int) with h' | h'
  · rw [rest_cons h0 h'] at h; cases h
  · omega
/-- One letter, digit, '+' or '-' on. -/
theorem rf_step {s : ByteArray} (hs : s.size ≤ 1000) {x y i c : Int} {T : List Int} (h0 : 0 ≤ i) (h1 : i ≤ (s.size : Int)) (h : rest s i = c :: T) (hc : sgn c = true) : solsticeref09_Format.L0 s x y i = solsticeref09_Format.L0 s x y (i + 1) := by
  obtain ⟨hlt, hb, _⟩ := bt_rest h0 h1 h
  have hc' := (sgn_iff c).1 hc
  rw [solsticeref09_Format.L0_eq, if_pos hlt, if_pos h0, hb, if_neg (by omega), if_neg (by omega), ref_letter_eq, bind_some_, ref_digit_eq9, bind_some_, wrap64_id (n := i + 1) (by omega) (by omega)]
  by_cases c1 : (65 ≤ c ∧ c ≤ 90) ∨ (97 ≤ c ∧ c ≤ 122)
  · rw [if_pos (decide_eq_true c1)]
  · rw [if_neg (by simpa using c1)]
    by_cases c2 : 48 ≤ c ∧ c ≤ 57
    · rw [if_pos (decide_eq_true c2)]
    · rw [if_neg (by simpa using c2)]
      by_cases c3 : c = 43
      · rw [if_pos c3]
      · rw [if_neg c3, if_pos (by omega)]
theorem rf_skip {s : ByteArray} (hs : s.size ≤ 1000) {x y : Int} : ∀ {A T : List Int} {i : Int}, 0 ≤ i → i ≤ (s.size : Int) → rest s i = A ++ T → A.all sgn = true → solsticeref09_Format.L0 s x y i = solsticeref09_Format.L0 s x y (i + A.length) ∧ rest s (i + A.length) = T ∧ i + A.length ≤ (s.size : Int)
  | [], T, i, h0, h1, h, _ => by
    rw [List.length_nil, show i + ((0 : Nat) : Int) = i by omega]
    exact ⟨rfl, h, h1⟩
  | c :: A, T, i, h0, h1, h, hA => by
    rw [List.all_cons, Bool.and_eq_true] at hA
    obtain ⟨hlt, _, hr⟩ := bt_rest h0 h1 h
    obtain ⟨e1, e2, e3⟩ := rf_skip hs (x := x) (y := y) (i := i + 1) (by omega) (by omega) hr hA.2
    rw [List.length_cons, show i + ((A.length + 1 : Nat) : Int) = i + 1 + (A.length : Int) by omega, ← e1]
    exact ⟨rf_step hs h0 h1 h hA.1, e2, e3⟩
theorem rf_end {s : ByteArray} {x y i : Int} (h0 : 0 ≤ i) (h1 : i ≤ (s.size : Int)) (h : rest s i = []) (hx : 0 ≤ x ∧ x ≤ 2000) (hy : 0 ≤ y ∧ y ≤ 2000) : solsticeref09_Format.L0 s x y i = some (decide (x + y < 2)) := by
  have := rest_end h0 h1 h
  rw [solsticeref09_Format.L0_eq, if_neg (by omega), wrap64_id (by omega) (by omega)]
theorem rf_slash {s : ByteArray} (hs : s.size ≤ 1000) {x y i : Int} {T : List Int} (h0 : 0 ≤ i) (h1 : i ≤ (s.size : Int)) (h : rest s i = 47 :: T) (hx : 0 ≤ x ∧ x ≤ 2000) : solsticeref09_Format.L0 s x y i = solsticeref09_Format.L0 s (x + 1) y (i + 1) := by
  obtain ⟨hlt, hb, _⟩ := bt_rest h0 h1 h
  rw [solsticeref09_Format.L0_eq, if_pos hlt, if_pos h0, hb, if_pos rfl, wrap64_id (n := x + 1) (by omega) (by omega), wrap64_id (n := i + 1) (by omega) (by omega)]
theorem rf_pct {s : ByteArray} (hs : s.size ≤ 1000) {x y i : Int} {T : List Int} (h0 : 0 ≤ i) (h1 : i ≤ (s.size : Int)) (h : rest s i = 37 :: T) (hy : 0 ≤ y ∧ y ≤ 2000) : solsticeref09_Format.L0 s x y i = match T with | [] => some false | d :: _ => if d = 115 ∨ d = 122 then solsticeref09_Format.L0 s x (y + 1) (i + 1) else some false := by
  obtain ⟨hlt, hb, hr⟩ := bt_rest h0 h1 h
  rw [solsticeref09_Format.L0_eq, if_pos hlt, if_pos h0, hb, if_neg (by omega), if_pos rfl, wrap64_id (n := i + 1) (by omega) (by omega), wrap64_id (n := y + 1) (by omega) (by omega)]
  cases T with
  | nil =>
    have := rest_end (s := s) (i := i + 1) (by omega) (by omega) hr
    rw [if_pos (by omega)]
  | cons d T =>
    obtain ⟨hlt2, hb2, _⟩ := bt_rest (s := s) (i := i + 1) (by omega) (by omega) hr
    rw [if_neg (by omega), if_pos (by omega), if_pos hlt2, hb2]
    dsimp only
    by_cases d1 : d = 115
    · rw [if_pos d1, if_pos (Or.inl d1)]
    · rw [if_neg d1]
      by_cases d2 : d = 122
      · rw [if_pos d2, if_pos (Or.inr d2)]
      · rw [if_neg d2, if_neg (by omega)]
theorem rf_bad {s : ByteArray} (hs : s.size ≤ 1000) {x y i c : Int} {T : List Int} (h0 : 0 ≤ i) (h1 : i ≤ (s.size : Int)) (h : rest s i = c :: T) (hc : sgn c = false) (h47 : c ≠ 47) (h37 : c ≠ 37) : solsticeref09_Format.L0 s x y i = some false := by
  obtain ⟨hlt, hb, _⟩ := bt_rest h0 h1 h
  have hc' : ¬ ((48 ≤ c ∧ c ≤ 57) ∨ (97 ≤ c ∧ c ≤ 122) ∨ (65 ≤ c ∧ c ≤ 90) ∨ c = 43 ∨ c = 45) := fun h => by
    have := (sgn_iff c).2 h
    rw [this] at hc
    cases hc
  rw [solsticeref09_Format.L0_eq, if_pos hlt, if_pos h0, hb, if_neg h47, if_neg h37, ref_letter_eq, bind_some_, ref_digit_eq9, bind_some_, if_neg (by rw [decide_eq_true_eq]; omega), if_neg (by rw [decide_eq_true_eq]; omega), if_neg (by omega), if_neg (by omega)]
/-- Two signs are too many. -/
theorem rf_many {s : ByteArray} (hs : s.size ≤ 1000) : ∀ (n : Nat) (x y i : Int), n = (s.size : Int).toNat - i.toNat → 0 ≤ i → i ≤ (s.size : Int) → 0 ≤ x → 0 ≤ y → 2 ≤ x + y → x + y ≤ i + 2 → solsticeref09_Format.L0 s x y i = some false := by
  intro n
  induction n with
  | zero =>
    intro x y i hn h0 h1 hx hy h2 h3
    rw [rf_end h0 h1 (rest_nil (by omega)) (by omega) (by omega), decide_eq_false (by omega)]
  | succ n ih =>
    intro x y i hn h0 h1 hx hy h2 h3
    have hlt : i < (s.size : Int) := by omega
    have hr := rest_cons h0 hlt
    generalize bt s i = c at hr
    by_cases c1 : c = 47
    · subst c1
      rw [rf_slash hs h0 h1 hr (by omega), ih (x + 1) y (i + 1) (by omega) (by omega) (by omega) (by omega) hy (by omega) (by omega)]
    · by_cases c2 : c = 37
      · subst c2
        rw [rf_pct hs h0 h1 hr (by omega)]
        split
        · rfl
        · split
          · exact ih x (y + 1) (i + 1) (by omega) (by omega) (by omega) hx (by omega) (by omega) (by omega)
          · rfl
      · cases hc : sgn c with
        | true => rw [rf_step hs h0 h1 hr hc, ih x y (i + 1) (by omega) (by omega) (by omega) hx hy h2 (by omega)]
        | false => rw [rf_bad hs h0 h1 hr hc c1 c2]
theorem rf_go {s : ByteArray} (hl : 1 ≤ s.size ∧ s.size ≤ 40) : solsticeref09_Format.F s = solsticeref09_Format.L0 s 0 0 0 := by
  rw [solsticeref09_Format.F_eq, if_neg (by omega), solsticeref09_Format.J0_eq, if_neg (by simp; omega)]
theorem rf_of_shape {s : ByteArray} (hl : 1 ≤ s.size ∧ s.size ≤ 40) (h : Shape (bytesOf s)) : solsticeref09_Format.F s = some true := by
  rw [rf_go hl]
  have hs : s.size ≤ 1000 := by omega
  cases h with
  | one h =>
    obtain ⟨e1, e2, e3⟩ := rf_skip hs (x := 0) (y := 0) (i := 0) (A := bytesOf s) (T := []) (by omega) (by omega) (by rw [rest_zero, List.append_nil]) h
    rw [e1, rf_end (by omega) e3 e2 (by omega) (by omega)]
    rfl
  | two A B h hA hB =>
    obtain ⟨e1, e2, e3⟩ := rf_skip hs (x := 0) (y := 0) (i := 0) (A := A) (T := 47 :: B) (by omega) (by omega) (by rw [rest_zero, h]) hA
    obtain ⟨l1, _, l3⟩ := bt_rest (by omega) e3 e2
    obtain ⟨g1, g2, g3⟩ := rf_skip hs (x := 0 + 1) (y := 0) (i := 0 + (A.length : Int) + 1) (A := B) (T := []) (by omega) (by omega) (by rw [l3, List.append_nil]) hB
    rw [e1, rf_slash hs (by omega) e3 e2 (by omega), g1, rf_end (by omega) g3 g2 (by omega) (by omega)]
    rfl
  | three A d B h hA hB hd =>
    have hdB : (d :: B).all sgn = true := by rw [List.all_cons, hB, (sgn_iff d).2 (by omega)]; rfl
    obtain ⟨e1, e2, e3⟩ := rf_skip hs (x := 0) (y := 0) (i := 0) (A := A) (T := 37 :: d :: B) (by omega) (by omega) (by rw [rest_zero, h]) hA
    obtain ⟨l1, _, l3⟩ := bt_rest (by omega) e3 e2
    obtain ⟨g1, g2, g3⟩ := rf_skip hs (x := 0) (y := 0 + 1) (i := 0 + (A.length : Int) + 1) (A := d :: B) (T := []) (by omega) (by omega) (by rw [l3, List.append_nil]) hdB
    rw [e1, rf_pct hs (by omega) e3 e2 (by omega)]
    dsimp only
    rw [if_pos hd, g1, rf_end (by omega) g3 g2 (by omega) (by omega)]
    rfl
theorem rf_shape {s : ByteArray} (hs : s.size ≤ 1000) (hn : ¬ ((1 ≤ s.size ∧ s.size ≤ 40) ∧ Shape (bytesOf s))) : solsticeref09_Format.F s = some false := by
  by_cases hl : 1 ≤ s.size ∧ s.size ≤ 40
  · have hns : ¬ Shape (bytesOf s) := fun h => hn ⟨hl, h⟩
    rw [rf_go hl]
    rcases first_spec (bytesOf s) with h | ⟨A, c, B, h, hA, hc⟩
    · exact absurd (Shape.one h) hns
    · obtain ⟨e1, e2, e3⟩ := rf_skip hs (x := 0) (y := 0) (i := 0) (A := A) (T := c :: B) (by omega) (by omega) (by rw [rest_zero, h]) hA
      obtain ⟨l1, _, l3⟩ := bt_rest (by omega) e3 e2
      rw [e1]
      -- what is behind the first sign
      have behind : ∀ (x y : Int), 0 ≤ x → 0 ≤ y → x + y = 1 → (¬ B.all sgn = true) → solsticeref09_Format.L0 s x y (0 + (A.length : Int) + 1) = some false := by
        intro x y hx hy hxy hB
        rcases first_spec B with h' | ⟨A', c', B', h', hA', hc'⟩
        · exact absurd h' hB
        · obtain ⟨g1, g2, g3⟩ := rf_skip hs (x := x) (y := y) (i := 0 + (A.length : Int) + 1) (A := A') (T := c' :: B') (by omega) (by omega) (by rw [l3, h']) hA'
          rw [g1]
          by_cases c1 : c' = 47
          · subst c1
            obtain ⟨k1, _, _⟩ := bt_rest (by omega) g3 g2
            rw [rf_slash hs (by omega) g3 g2 (by omega), rf_many hs _ (x + 1) y _ rfl (by omega) (by omega) (by omega) hy (by omega) (by omega)]
          · by_cases c2 : c' = 37
            · subst c2
              obtain ⟨k1, _, _⟩ := bt_rest (by omega) g3 g2
              rw [rf_pct hs (by omega) g3 g2 (by omega)]
              split
              · rfl
              · split
                · exact rf_many hs _ x (y + 1) _ rfl (by omega) (by omega) hx (by omega) (by omega) (by omega)
                · rfl
            · exact rf_bad hs (by omega) g3 g2 hc' c1 c2
      by_cases c1 : c = 47
      · subst c1
        rw [rf_slash hs (by omega) e3 e2 (by omega)]
        exact behind (0 + 1) 0 (by omega) (by omega) (by omega) (fun hB => hns (Shape.two A B h hA hB))
      · by_cases c2 : c = 37
        · subst c2
          rw [rf_pct hs (by omega) e3 e2 (by omega)]
          cases B with
          | nil => rfl
          | cons d B =>
            dsimp only
            by_cases hd : d = 115 ∨ d = 122
            · rw [if_pos hd]
              refine behind 0 (0 + 1) (by omega) (by omega) (by omega) (fun hB => hns ?_)
              rw [List.all_cons, Bool.and_eq_true] at hB
              exact Shape.three A d B h hA hB.2 hd
            · rw [if_neg hd]
        · exact rf_bad hs (by omega) e3 e2 hc c1 c2
  · rw [solsticeref09_Format.F_eq]
    by_cases h1 : (s.size : Int) < 1
    · rw [if_pos h1, solsticeref09_Format.J0_eq, if_pos rfl]
    · rw [if_neg h1, solsticeref09_Format.J0_eq, if_pos (decide_eq_true (by omega))]
theorem ref_Letter_eq (s : ByteArray) (hs : s.size ≤ 1000) : solsticeref09_Letter.F s = some (letS (bytesOf s)) := by
  have hz := size_len s
  have e : ([45] : List UInt8) = (⟨#[45]⟩ : ByteArray).toList := by rw [ByteArray.toList_eq]
  have hd : s.toList = ([45] : List UInt8) ↔ bytesOf s = [45] := by
    rw [e, toList_iff]
    refine ⟨?_, fun h => bytes_inj h⟩
    rintro rfl; rfl
  rw [solsticeref09_Letter.F_eq]
  unfold letS
  by_cases h0 : (s.size : Int) = 0
  · have : bytesOf s = [] := List.eq_nil_of_length_eq_zero (by omega)
    rw [if_pos h0, this]
    rfl
  · rw [if_neg h0]
    by_cases h1 : bytesOf s = [45]
    · rw [if_pos (hd.2 h1), h1]
      rfl
    · rw [if_neg (fun h => h1 (hd.1 h)), plain_eq s (by omega), bind_some_, decide_eq_true h1, Bool.and_true]
      unfold plainS
      rw [decide_eq_true (show 1 ≤ (bytesOf s).length by omega), Bool.true_and]
      congr 2
      rw [decide_eq_decide]
      omega
/-! The page's name -/
def nameB (l : List Int) : ByteArray × Bool := if rgt l = true then (strOfNums l, true) else ((⟨#[]⟩ : ByteArray), false)
theorem rgt_plain (l : List Int) : plainS l 40 = rgt l := by
  rw [Bool.eq_iff_iff, plainS_iff, rgt_iff]
  constructor
  · exact fun h => ⟨h.2.2, h.1, by omega⟩
  · exact fun h => ⟨h.2.1, by omega, h.1⟩
theorem ab_end {f w cur : ByteArray} {o v i : Int} {l : List Int} (hc : cur = strOfNums l) (hb : Bytes l) (hl : l.length ≤ 2000) (h : (f.size : Int) ≤ i) : solsticeref09_Abbr.L0 f w o v cur i = some (nameB l) := by
  rw [solsticeref09_Abbr.L0_eq, if_neg (by omega), plain_eq cur (by rw [hc, size_strOf]; omega), bind_some_, hc, bytes_strOf hb, rgt_plain]
  unfold nameB
  split <;> rfl
theorem ab_step {f w cur : ByteArray} {o v i c : Int} {T : List Int} (hs : f.size ≤ 1000) (h0 : 0 ≤ i) (h1 : i ≤ (f.size : Int)) (h : rest f i = c :: T) (h47 : c ≠ 47) (h37 : c ≠ 37) : solsticeref09_Abbr.L0 f w o v cur i = solsticeref09_Abbr.L0 f w o v cur (i + 1) := by
  obtain ⟨hlt, hb, _⟩ := bt_rest h0 h1 h
  rw [solsticeref09_Abbr.L0_eq, if_pos hlt, if_pos h0, hb, if_neg h47, solsticeref09_Abbr.J2_eq, if_neg (by simp), if_pos h0, if_pos hlt, hb, if_neg h47, if_neg h37, solsticeref09_Abbr.J3_eq, if_neg (by simp), if_pos h0, if_pos hlt, hb, if_neg h37, wrap64_id (n := i + 1) (by omega) (by omega)]
theorem ab_skip {f w cur : ByteArray} {o v : Int} (hs : f.size ≤ 1000) : ∀ {A T : List Int} {i : Int}, 0 ≤ i → i ≤ (f.size : Int) → rest f i = A ++ T → A.all sgn = true → solsticeref09_Abbr.L0 f w o v cur i = solsticeref09_Abbr.L0 f w o v cur (i + A.length) ∧ rest f (i + A.length) = T ∧ i + A.length ≤ (f.size : Int)
  | [], T, i, h0, h1, h, _ => by
    rw [List.length_nil, show i + ((0 : Nat) : Int) = i by omega]
    exact ⟨rfl, h, h1⟩
  | c :: A, T, i, h0, h1, h, hA => by
    rw [List.all_cons, Bool.and_eq_true] at hA
    obtain ⟨hlt, _, hr⟩ := bt_rest h0 h1 h
    have hc := (sgn_iff c).1 hA.1
    obtain ⟨e1, e2, e3⟩ := ab_skip hs (i := i + 1) (w := w) (cur := cur) (o := o) (v := v) (by omega) (by omega) hr hA.2
    rw [List.length_cons, show i + ((A.length + 1 : Nat) : Int) = i + 1 + (A.length : Int) by omega, ← e1]
    exact ⟨ab_step hs h0 h1 h (by omega) (by omega), e2, e3⟩
theorem ab_all {f w cur : ByteArray} {o v i : Int} {A l : List Int} (hs : f.size ≤ 1000) (h0 : 0 ≤ i) (h1 : i ≤ (f.size : Int)) (h : rest f i = A) (hA : A.all sgn = true) (hc : cur = strOfNums l) (hb : Bytes l) (hl : l.length ≤ 2000) : solsticeref09_Abbr.L0 f w o v cur i = some (nameB l) := by
  obtain ⟨e1, e2, e3⟩ := ab_skip (w := w) (cur := cur) (o := o) (v := v) hs h0 h1 (show rest f i = A ++ [] by rw [h, List.append_nil]) hA
  rw [e1, ab_end hc hb hl (by have := rest_end (by omega) e3 e2; omega)]
theorem ab_go {f w : ByteArray} {o v : Int} (hl : 1 ≤ f.size ∧ f.size ≤ 40) (hsh : Shape (bytesOf f)) (hw : w.size ≤ 1000) (hlt : letS (bytesOf w) = true) (ho : Off o) : solsticeref09_Abbr.F f w o v = solsticeref09_Abbr.L0 f w o v f 0 := by
  have ho' := ho
  unfold Off at ho'
  have hin : solsticeref09_in.f o (-172799) 172799 = some true := by
    unfold solsticeref09_in.f
    rw [if_pos (by omega), decide_eq_true (by omega)]
  rw [solsticeref09_Abbr.F_eq, rf_of_shape hl hsh, bind_some_, if_pos rfl, ref_Letter_eq w hw, bind_some_, if_pos hlt, hin, bind_some_, solsticeref09_Abbr.J0_eq]
  rfl
theorem take_part {f : ByteArray} {A B : List Int} {c : Int} (h : bytesOf f = A ++ c :: B) : f.extract 0 ((A.length : Int)).toNat = strOfNums A := by
  have hb := bytes_of f
  rw [h] at hb
  apply bytes_inj
  rw [bytes_extract, List.drop_zero, bytes_strOf hb.left, h, show ((A.length : Int)).toNat = A.length by omega, List.take_left]
theorem drop_part {f : ByteArray} {A B : List Int} {c : Int} {k : Nat} (h : bytesOf f = A ++ B) (hk : k = A.length) : f.extract k f.size = strOfNums B := by
  have hb := bytes_of f
  rw [h] at hb
  apply bytes_inj
  rw [extract_all, bytes_strOf hb.right, h, hk, List.drop_left]
theorem ab_1 {f w : ByteArray} {o v : Int} (hl : 1 ≤ f.size ∧ f.size ≤ 40) (h : (bytesOf f).all sgn = true) (hw : w.size ≤ 1000) (hlt : letS (bytesOf w) = true) (ho : Off o) : solsticeref09_Abbr.F f w o v = some (nameB (bytesOf f)) := by
  rw [ab_go hl (Shape.one h) hw hlt ho]
  exact ab_all (by omega) (by omega) (by omega) (rest_zero f) h (strOf_bytes f).symm (bytes_of f) (by rw [bytesOf_length]; omega)
theorem ab_2 {f w : ByteArray} {o v : Int} {A B : List Int} (hl : 1 ≤ f.size ∧ f.size ≤ 40) (h : bytesOf f = A ++ 47 :: B) (hA : A.all sgn = true) (hB : B.all sgn = true) (hw : w.size ≤ 1000) (hlt : letS (bytesOf w) = true) (ho : Off o) : solsticeref09_Abbr.F f w o v = some (nameB (if v = 0 then A else B)) := by
  have hbb := bytes_of f
  rw [h] at hbb
  have hlen : (f.size : Int) = (A.length : Int) + ((B.length : Int) + 1) := by rw [size_len, h, List.length_append, List.length_cons]; omega
  rw [ab_go hl (Shape.two A B h hA hB) hw hlt ho]
  obtain ⟨e1, e2, e3⟩ := ab_skip (w := w) (cur := f) (o := o) (v := v) (f := f) (i := 0) (by omega) (by omega) (by omega) (show rest f 0 = A ++ 47 :: B by rw [rest_zero, h]) hA
  rw [e1]
  rw [show (0 : Int) + (A.length : Int) = (A.length : Int) by omega] at *
  obtain ⟨k1, k2, k3⟩ := bt_rest (by omega) e3 e2
  rw [solsticeref09_Abbr.L0_eq, if_pos k1, if_pos (by omega), k2, if_pos rfl, solsticeref09_Abbr.J2_eq, k2]
  rw [wrap64_id (n := (A.length : Int) + 1) (by omega) (by omega)]
  by_cases hv : v = 0
  · rw [if_pos (by simpa using hv), if_pos (by omega), if_pos (by omega), if_pos hv, take_part h]
    exact ab_all (by omega) (by omega) (by omega) k3 hB rfl hbb.left (by omega)
  · have ed : f.extract (((A.length : Int) + 1)).toNat f.size = strOfNums B := drop_part (c := 0) (A := A ++ [47]) (by rw [h]; simp) (by rw [List.length_append, List.length_singleton]; omega)
    rw [if_neg (by simpa using hv), if_pos (by omega), if_pos k1, if_pos rfl, if_pos (by omega), if_pos (by omega), if_neg hv, ed]
    exact ab_all (by omega) (by omega) (by omega) k3 hB rfl hbb.right.tail (by omega)
theorem ab_3 {f w : ByteArray} {o v : Int} {A B : List Int} {d : Int} (hl : 1 ≤ f.size ∧ f.size ≤ 40) (h : bytesOf f = A ++ 37 :: d :: B) (hA : A.all sgn = true) (hB : B.all sgn = true) (hd : d = 115 ∨ d = 122) (hw : w.size ≤ 1000) (hlt : letS (bytesOf w) = true) (ho : Off o) : solsticeref09_Abbr.F f w o v = some (nameB (A ++ (if d = 115 then bytesOf w else stxt o) ++ B)) := by
  have hbb := bytes_of f
  rw [h] at hbb
  have hlen : (f.size : Int) = (A.length : Int) + ((B.length : Int) + 2) := by rw [size_len, h, List.length_append, List.length_cons, List.length_cons]; omega
  have hdB : (d :: B).all sgn = true := by rw [List.all_cons, hB, (sgn_iff d).2 (by omega)]; rfl
  have hwl := bytesOf_length w
  obtain ⟨sl, _⟩ := stxt_small ho
  rw [ab_go hl (Shape.three A d B h hA hB hd) hw hlt ho]
  obtain ⟨e1, e2, e3⟩ := ab_skip (w := w) (cur := f) (o := o) (v := v) (f := f) (i := 0) (by omega) (by omega) (by omega) (show rest f 0 = A ++ 37 :: d :: B by rw [rest_zero, h]) hA
  rw [e1]
  rw [show (0 : Int) + (A.length : Int) = (A.length : Int) by omega] at *
  obtain ⟨k1, k2, k3⟩ := bt_rest (by omega) e3 e2
  obtain ⟨m1, m2, m3⟩ := bt_rest (s := f) (i := (A.length : Int) + 1) (by omega) (by omega) k3
  have ed : f.extract (((A.length : Int) + 2)).toNat f.size = strOfNums B := drop_part (c := 0) (A := A ++ [37, d]) (by rw [h]; simp) (by rw [List.length_append]; show _ = A.length + 2; omega)
  have ea := take_part h
  rw [solsticeref09_Abbr.L0_eq, if_pos k1, if_pos (by omega), k2, if_neg (by omega), solsticeref09_Abbr.J2_eq, if_neg (by simp), if_pos (by omega), if_pos k1, k2, if_neg (by omega), if_pos rfl, wrap64_id (n := (A.length : Int) + 1) (by omega) (by omega), if_pos (by omega), if_pos m1, m2, solsticeref09_Abbr.J3_eq]
  rw [wrap64_id (n := (A.length : Int) + 2) (by omega) (by omega), wrap64_id (n := (A.length : Int) + 1) (by omega) (by omega), ea, ed, k2]
  by_cases h1 : d = 115
  · have ew : strOfNums A ++ w ++ strOfNums B = strOfNums (A ++ bytesOf w ++ B) := by rw [← strOf_append, ← strOf_append, strOf_bytes]
    have z1 : (strOfNums A ++ w).size = A.length + w.size := by rw [ByteArray.size_append, size_strOf]
    rw [if_pos (by simpa using h1), if_pos (by omega), if_pos (by omega), size_strOf, if_pos (by omega), if_pos (by omega), if_pos (by omega), z1, size_strOf, if_pos (by omega), if_pos h1, ew]
    exact ab_all (by omega) (by omega) (by omega) k3 hdB rfl (Bytes.app (Bytes.app hbb.left (bytes_of w)) hbb.right.tail.tail) (by rw [List.length_append, List.length_append]; omega)
  · have ew : strOfNums A ++ strOfNums (stxt o) ++ strOfNums B = strOfNums (A ++ stxt o ++ B) := by rw [← strOf_append, ← strOf_append]
    have z1 : (strOfNums A ++ strOfNums (stxt o)).size = A.length + (stxt o).length := by rw [ByteArray.size_append, size_strOf, size_strOf]
    rw [if_neg (by simpa using h1), if_pos (by omega), if_pos k1, if_pos rfl, if_pos (by omega), ref_short_eq o ho, bind_some_, size_strOf, size_strOf, if_pos (by omega), if_pos (by omega), if_pos (by omega), z1, size_strOf, if_pos (by omega), if_neg h1, ew]
    exact ab_all (by omega) (by omega) (by omega) k3 hdB rfl (Bytes.app (Bytes.app hbb.left (stxt_bytes o)) hbb.right.tail.tail) (by rw [List.length_append, List.length_append]; omega)
end Go.Proofs.YtookjnpmbenheaaDoor.Base
