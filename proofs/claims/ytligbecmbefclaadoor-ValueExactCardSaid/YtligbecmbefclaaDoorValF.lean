/- The page's readers of a time, an offset, times: what they compute is what the program's own do. No condition. -/
import Derived.Test.YtligbecmbefclaaDoorValE
import Derived.Test.YtligbecmbefclaaDoorEVexx11
import Derived.Test.YtligbecmbefclaaDoorEVexx12
import Derived.Test.YtligbecmbefclaaDoorEVexx13
namespace Go.Proofs.YtligbecmbefclaaDoor.Base
open Go.RowKit Go.Proofs.YtligbecmbefclaaDoor.PVex Go.Proofs.YtligbecmbefclaaDoorW.PrintWords Go.Proofs.YtligbecmbefclaaDoorW.PrintLast Go.Proofs.YtligbecmbefclaaDoorW.PrintMore
set_option linter.unusedVariables false
set_option linter.unusedSimpArgs false
theorem nums_all : ∀ {ks l v : List Int}, nums ks l = some v → l.all isDig = true
  | [], l, v, h => by obtain ⟨_, rfl⟩ := nums_nil h; rfl
  | k :: ks, l, v, h => by
    obtain ⟨v', _, _, h2, h3⟩ := nums_cons h
    rw [← List.take_append_drop k.toNat l, List.all_append, h2, nums_all h3]
    rfl
theorem nums_len : ∀ {ks l v : List Int}, (∀ k ∈ ks, 0 ≤ k) → nums ks l = some v → (l.length : Int) = ks.sum
  | [], l, v, _, h => by obtain ⟨_, rfl⟩ := nums_nil h; rfl
  | k :: ks, l, v, hk, h => by
    obtain ⟨v', _, h1, _, h3⟩ := nums_cons h
    have := nums_len (fun x hx => hk x (List.mem_cons_of_mem _ hx)) h3
    have h0 := hk k (List.mem_cons_self ..)
    rw [List.length_drop] at this
    rw [List.sum_cons]
    omega
theorem val_of {x : ByteArray} {i j : Nat} {l : List Int} (h : bytesOf (x.extract i j) = l) (hl : l.length ≤ 18) (hd : l.all isDig = true) : solsticeref01_Value.F (x.extract i j) = some (val 0 l) := by
  have hz : (x.extract i j).size = l.length := by rw [← h, bytesOf_length]
  rw [ref_Value_eq _ (by omega) (by rw [h]; exact hd), h]
theorem val2 {a b : Int} (h : ([a, b] : List Int).all isDig = true) : 0 ≤ val 0 [a, b] ∧ val 0 [a, b] < 100 := by
  have := val_range [a, b] 0 0 h (by omega) (by decide)
  have p : (10 : Int) ^ 2 = 100 := by decide
  rw [Nat.zero_add, List.length_cons, List.length_cons, List.length_nil, p] at this
  exact this
theorem val4 {a b c d : Int} (h : ([a, b, c, d] : List Int).all isDig = true) : 0 ≤ val 0 [a, b, c, d] ∧ val 0 [a, b, c, d] < 10000 := by
  have := val_range [a, b, c, d] 0 0 h (by omega) (by decide)
  have p : (10 : Int) ^ 4 = 10000 := by decide
  rw [Nat.zero_add, List.length_cons, List.length_cons, List.length_cons, List.length_cons, List.length_nil, p] at this
  exact this
-- a time
def encP : Option (Int × Bool) → Int × Bool × Bool
  | some (t, u) => (t, u, true)
  | none => (0, false, false)
theorem refT_J2t (c : ByteArray) (u : Bool) : solsticeref16_ParseTime.J2 c u true = some (0, false, false) := by rw [solsticeref16_ParseTime.J2_eq, if_pos rfl]
theorem cons_of {c : List Int} {n : Nat} (h : c.length = n + 1) : ∃ a r, c = a :: r ∧ r.length = n := by
  cases c with
  | nil => cases h
  | cons a r => exact ⟨a, r, rfl, by simpa using h⟩
theorem len15 {c : List Int} (h : c.length = 15) : ∃ a0 a1 a2 a3 a4 a5 a6 a7 a8 b0 b1 b2 b3 b4 b5, c = [a0, a1, a2, a3, a4, a5, a6, a7, a8, b0, b1, b2, b3, b4, b5] := by
  obtain ⟨a0, c0, e0, h0⟩ := cons_of h
  obtain ⟨a1, c1, e1, h1⟩ := cons_of h0
  obtain ⟨a2, c2, e2, h2⟩ := cons_of h1
  obtain ⟨a3, c3, e3, h3⟩ := cons_of h2
  obtain ⟨a4, c4, e4, h4⟩ := cons_of h3
  obtain ⟨a5, c5, e5, h5⟩ := cons_of h4
  obtain ⟨a6, c6, e6, h6⟩ := cons_of h5
  obtain ⟨a7, c7, e7, h7⟩ := cons_of h6
  obtain ⟨a8, c8, e8, h8⟩ := cons_of h7
  obtain ⟨b0, c9, e9, h9⟩ := cons_of h8
  obtain ⟨b1, c10, e10, h10⟩ := cons_of h9
  obtain ⟨b2, c11, e11, h11⟩ := cons_of h10
  obtain ⟨b3, c12, e12, h12⟩ := cons_of h11
  obtain ⟨b4, c13, e13, h13⟩ := cons_of h12
  obtain ⟨b5, c14, e14, h14⟩ := cons_of h13
  have e15 := List.eq_nil_of_length_eq_zero h14
  exact ⟨a0, a1, a2, a3, a4, a5, a6, a7, a8, b0, b1, b2, b3, b4, b5, by rw [e0, e1, e2, e3, e4, e5, e6, e7, e8, e9, e10, e11, e12, e13, e14, e15]⟩
theorem refT_J2 (c : List Int) (hb : Bytes c) (u : Bool) (hl : c.length = 15) (h1 : (c.take 8).all isDig = true) (h2 : (c.drop 9).all isDig = true) : solsticeref16_ParseTime.J2 (strOfNums c) u false = some (encP (ptV u (nums [4, 2, 2, 2, 2, 2] (c.take 8 ++ c.drop 9)))) := by
  have hs : (strOfNums c).size = 15 := by rw [size_strOf]; exact hl
  obtain ⟨a0, a1, a2, a3, a4, a5, a6, a7, a8, b0, b1, b2, b3, b4, b5, rfl⟩ := len15 hl
  have e : ∀ i j, bytesOf ((strOfNums [a0, a1, a2, a3, a4, a5, a6, a7, a8, b0, b1, b2, b3, b4, b5]).extract i j) = ([a0, a1, a2, a3, a4, a5, a6, a7, a8, b0, b1, b2, b3, b4, b5].take j).drop i := fun i j => by rw [bytes_extract, bytes_strOf hb]
  have d1 : ([a0, a1, a2, a3] : List Int).all isDig = true ∧ ([a4, a5] : List Int).all isDig = true ∧ ([a6, a7] : List Int).all isDig = true := by
    have h1' : ([a0, a1, a2, a3] ++ ([a4, a5] ++ [a6, a7]) : List Int).all isDig = true := h1
    rw [List.all_append, List.all_append, Bool.and_eq_true, Bool.and_eq_true] at h1'
    exact h1'
  have d2 : ([b0, b1] : List Int).all isDig = true ∧ ([b2, b3] : List Int).all isDig = true ∧ ([b4, b5] : List Int).all isDig = true := by
    have h2' : ([b0, b1] ++ ([b2, b3] ++ [b4, b5]) : List Int).all isDig = true := h2
    rw [List.all_append, List.all_append, Bool.and_eq_true, Bool.and_eq_true] at h2'
    exact h2'
  have v1 := val4 d1.1
  have v2 := val2 d1.2.1
  have v3 := val2 d1.2.2
  have v4 := val2 d2.1
  have v5 := val2 d2.2.1
  have v6 := val2 d2.2.2
  have hn : nums [4, 2, 2, 2, 2, 2] ([a0, a1, a2, a3] ++ ([a4, a5] ++ ([a6, a7] ++ ([b0, b1] ++ ([b2, b3] ++ ([b4, b5] ++ [])))))) = some [val 0 [a0, a1, a2, a3], val 0 [a4, a5], val 0 [a6, a7], val 0 [b0, b1], val 0 [b2, b3], val 0 [b4, b5]] := by
    rw [nums_put (k := 4) (by omega) (by simp) d1.1, nums_put (k := 2) (by omega) (by simp) d1.2.1, nums_put (k := 2) (by omega) (by simp) d1.2.2, nums_put (k := 2) (by omega) (by simp) d2.1, nums_put (k := 2) (by omega) (by simp) d2.2.1, nums_put (k := 2) (by omega) (by simp) d2.2.2]
    rfl
  rw [solsticeref16_ParseTime.J2_eq, if_neg (by simp), if_pos (by omega), if_pos (by omega), val_of (show _ = ([a0, a1, a2, a3] : List Int) from e 0 4) (by simp) d1.1, bind_some_, if_pos (by omega), if_pos (by omega), val_of (show _ = ([a4, a5] : List Int) from e 4 6) (by simp) d1.2.1, bind_some_, if_pos (by omega), if_pos (by omega), val_of (show _ = ([a6, a7] : List Int) from e 6 8) (by simp) d1.2.2, bind_some_,
    if_pos (by omega), if_pos (by omega), val_of (show _ = ([b0, b1] : List Int) from e 9 11) (by simp) d2.1, bind_some_, if_pos (by omega), if_pos (by omega), val_of (show _ = ([b2, b3] : List Int) from e 11 13) (by simp) d2.2.1, bind_some_, if_pos (by omega), if_pos (by omega), val_of (show _ = ([b4, b5] : List Int) from e 13 15) (by simp) d2.2.2, bind_some_]
  show (if val 0 [a0, a1, a2, a3] < 1 then _ else _) = some (encP (ptV u (nums [4, 2, 2, 2, 2, 2] ([a0, a1, a2, a3] ++ ([a4, a5] ++ ([a6, a7] ++ ([b0, b1] ++ ([b2, b3] ++ ([b4, b5] ++ [])))))))))
  rw [hn]
  show (if val 0 [a0, a1, a2, a3] < 1 then _ else ((solsticeref01_Right.F (val 0 [a0, a1, a2, a3]) (val 0 [a4, a5]) (val 0 [a6, a7])).bind fun t => if t = true then (if val 0 [b0, b1] > 23 then _ else if val 0 [b2, b3] > 59 then _ else if val 0 [b4, b5] > 59 then _ else _) else _)) = some (encP (if okT (val 0 [a0, a1, a2, a3]) (val 0 [a4, a5]) (val 0 [a6, a7]) (val 0 [b0, b1]) (val 0 [b2, b3]) (val 0 [b4, b5]) then some (dn (val 0 [a0, a1, a2, a3]) (val 0 [a4, a5]) (val 0 [a6, a7]) * 86400 + val 0 [b0, b1] * 3600 + val 0 [b2, b3] * 60 + val 0 [b4, b5], u) else none))
  generalize val 0 [a0, a1, a2, a3] = y at *
  generalize val 0 [a4, a5] = m at *
  generalize val 0 [a6, a7] = d at *
  generalize val 0 [b0, b1] = h at *
  generalize val 0 [b2, b3] = i at *
  generalize val 0 [b4, b5] = s at *
  by_cases k1 : y < 1
  · rw [if_pos k1, if_neg (fun h' : okT y m d h i s => by have := h'.1; omega)]; rfl
  · rw [if_neg k1, ref_Right_eq y m d (by omega), bind_some_]
    by_cases k2 : Dt y m d
    · have hr := dn_range k2
      rw [if_pos (decide_eq_true k2)]
      by_cases k3 : h > 23
      · rw [if_pos k3, if_neg (fun h' : okT y m d h i s => by have := h'.2.2.1; omega)]; rfl
      · rw [if_neg k3]
        by_cases k4 : i > 59
        · rw [if_pos k4, if_neg (fun h' : okT y m d h i s => by have := h'.2.2.2.1; omega)]; rfl
        · rw [if_neg k4]
          by_cases k5 : s > 59
          · rw [if_pos k5, if_neg (fun h' : okT y m d h i s => by have := h'.2.2.2.2; omega)]; rfl
          · rw [if_neg k5, if_pos (show okT y m d h i s from ⟨by omega, k2, by omega, by omega, by omega⟩), ref_Number_eq k2, bind_some_,
              wrap64_id (n := dn y m d * 86400) (by omega) (by omega), wrap64_id (n := 3600 * h) (by omega) (by omega), wrap64_id (n := dn y m d * 86400 + 3600 * h) (by omega) (by omega), wrap64_id (n := 60 * i) (by omega) (by omega), wrap64_id (n := dn y m d * 86400 + 3600 * h + 60 * i) (by omega) (by omega), wrap64_id (by omega) (by omega)]
            show some (_, u, true) = some (_, u, true)
            congr 2
            omega
    · rw [if_neg (by rw [decide_eq_true_iff]; exact k2), if_neg (fun h' : okT y m d h i s => k2 h'.2.1)]; rfl
theorem at8 {c : List Int} (hb : Bytes c) (h : c.length = 15) : c[8]? = some (bt (strOfNums c) 8) := by
  have e8 : rest (strOfNums c) 8 = bt (strOfNums c) 8 :: rest (strOfNums c) 9 := rest_cons (by omega) (by rw [size_strOf]; omega)
  unfold rest at e8
  rw [bytes_strOf hb] at e8
  have := congrArg List.head? e8
  rw [List.head?_cons, List.head?_drop] at this
  exact this
theorem refT_J1 (c : List Int) (hb : Bytes c) (hc : c.length ≤ 1000) (u : Bool) : solsticeref16_ParseTime.J1 (strOfNums c) u = some (encP (ptB c u)) := by
  unfold ptB
  rw [solsticeref16_ParseTime.J1_eq, size_strOf]
  by_cases h1 : c.length = 15
  · rw [if_pos (by omega), if_pos (by omega), at8 hb h1]
    by_cases h2 : bt (strOfNums c) 8 = 84
    · have hs : (strOfNums c).size = 15 := by rw [size_strOf]; exact h1
      have e1 : bytesOf ((strOfNums c).extract 0 8) = c.take 8 := by rw [bytes_extract, bytes_strOf hb, List.drop_zero]
      have e2 : bytesOf ((strOfNums c).extract 9 c.length) = c.drop 9 := by rw [← size_strOf c, extract_all, bytes_strOf hb]
      have z1 : ((strOfNums c).extract 0 8).size = 8 := by rw [← bytesOf_length, e1, List.length_take]; omega
      have z2 : ((strOfNums c).extract 9 c.length).size = 6 := by rw [← bytesOf_length, e2, List.length_drop]; omega
      rw [if_pos h2, if_pos (by omega), if_pos (by omega), ref_Digits_eq _ (by omega), bind_some_, e1, if_pos (show c.length = 15 ∧ some (bt (strOfNums c) 8) = some 84 from ⟨h1, by rw [h2]⟩)]
      by_cases h3 : (c.take 8).all isDig = true
      · rw [if_pos (decide_eq_true ⟨by omega, by omega, h3⟩), if_pos (by omega), ref_Digits_eq _ (by omega), bind_some_, e2]
        by_cases h4 : (c.drop 9).all isDig = true
        · rw [decide_eq_true ⟨by omega, by omega, h4⟩]
          exact refT_J2 c hb u h1 h3 h4
        · rw [decide_eq_false (fun k => h4 k.2.2)]
          show solsticeref16_ParseTime.J2 (strOfNums c) u true = _
          rw [refT_J2t]
          cases hn : nums [4, 2, 2, 2, 2, 2] (c.take 8 ++ c.drop 9) with
          | none => rfl
          | some v =>
            have := nums_all hn
            rw [List.all_append, Bool.and_eq_true] at this
            exact absurd this.2 h4
      · rw [if_neg (by rw [decide_eq_true_iff]; exact fun k => h3 k.2.2), refT_J2t]
        cases hn : nums [4, 2, 2, 2, 2, 2] (c.take 8 ++ c.drop 9) with
        | none => rfl
        | some v =>
          have := nums_all hn
          rw [List.all_append, Bool.and_eq_true] at this
          exact absurd this.1 h3
    · rw [if_neg h2, refT_J2t, if_neg (fun h => h2 (by injection h.2))]
      rfl
  · rw [if_neg (by omega), refT_J2t, if_neg (fun h => h1 h.1)]
    rfl
theorem ptB_z {r : List Int} (u : Bool) : ptB (r ++ [90]) u = none := by
  unfold ptB
  split
  · rename_i h
    have hl := h.1
    rw [List.length_append, List.length_singleton] at hl
    cases hn : nums [4, 2, 2, 2, 2, 2] ((r ++ [90]).take 8 ++ (r ++ [90]).drop 9) with
    | none => rfl
    | some v =>
      have := nums_all hn
      rw [List.drop_append_of_le_length (by omega), List.all_append, List.all_append, Bool.and_eq_true, Bool.and_eq_true] at this
      exact absurd this.2.2 (by decide)
  · rfl
theorem ref_ParseTime_eq (s : ByteArray) (hs : s.size ≤ 1000) : solsticeref16_ParseTime.F s = some (encP (ptS (bytesOf s))) := by
  have hz := size_len s
  rw [solsticeref16_ParseTime.F_eq]
  have hJ : solsticeref16_ParseTime.J0 s false = some (encP (ptB (bytesOf s) false)) := by
    rw [solsticeref16_ParseTime.J0_eq, if_neg (by simp)]
    have := refT_J1 (bytesOf s) (bytes_of s) (by omega) false
    rw [strOf_bytes] at this
    exact this
  rcases List.eq_nil_or_concat (bytesOf s) with h | ⟨r, c, h⟩
  · rw [h] at hz
    have : s.size = 0 := by simpa using hz
    rw [if_neg (by omega), hJ, h]
    rfl
  · rw [List.concat_eq_append] at h
    rw [h, List.length_append, List.length_singleton] at hz
    rw [h] at hJ ⊢
    unfold ptS
    have hbr : Bytes (r ++ [c]) := h ▸ bytes_of s
    by_cases hc : c = 90
    · subst hc
      rw [cutz_at]
      dsimp only
      rw [ptB_z] at hJ
      by_cases h16 : (s.size : Int) = 16
      · have e : bt s 15 = 90 := by
          have e1 := rest_cons (s := s) (i := 15) (by omega) (by omega)
          unfold rest at e1
          rw [h, show (15 : Int).toNat = r.length by omega, List.drop_left] at e1
          injection e1 with e1
          exact e1.symm
        have e2 : s.extract 0 15 = strOfNums r := by
          apply bytes_inj
          rw [bytes_extract, h, List.drop_zero, List.take_left' (by omega), bytes_strOf hbr.left]
        rw [if_pos h16, if_pos (by omega), beq_iff_eq.2 e, solsticeref16_ParseTime.J0_eq, if_pos rfl, if_pos (by omega), if_pos (by omega), e2]
        exact refT_J1 r hbr.left (by omega) true
      · rw [if_neg h16, hJ]
        have : ptB r true = none := by
          unfold ptB
          rw [if_neg (by omega)]
        rw [this]
    · have e0 : cutz (r ++ [c]) = (r ++ [c], false) := by
        unfold cutz
        rw [if_neg (by simp [hc])]
      rw [e0]
      dsimp only
      by_cases h16 : (s.size : Int) = 16
      · have e : bt s 15 = c := by
          have e1 := rest_cons (s := s) (i := 15) (by omega) (by omega)
          unfold rest at e1
          rw [h, show (15 : Int).toNat = r.length by omega, List.drop_left] at e1
          injection e1 with e1
          exact e1.symm
        rw [if_pos h16, if_pos (by omega), e, beq_eq_false_iff_ne.2 hc, hJ]
      · rw [if_neg h16, hJ]
-- an offset
def encQ : Option Int → Int × Bool
  | some n => (n, true)
  | none => (0, false)
theorem refO_J0t (x : ByteArray) : solsticeref16_ParseOffset.J0 x true = some (0, false) := by rw [solsticeref16_ParseOffset.J0_eq, if_pos rfl]
theorem refO_J2t (x : ByteArray) (n : Int) : solsticeref16_ParseOffset.J2 x n true = some (0, false) := by rw [solsticeref16_ParseOffset.J2_eq, if_pos rfl]
theorem refO_J1 (x : ByteArray) (c : Int) (hx : 0 < (x.size : Int)) (hc : bt x 0 = c) (h i s : Int) (hb : 0 ≤ h ∧ h < 100 ∧ 0 ≤ i ∧ i < 100 ∧ 0 ≤ s ∧ s < 100) : solsticeref16_ParseOffset.J1 x h i s = some (encQ (poV c (some (h, i, s)))) := by
  rw [solsticeref16_ParseOffset.J1_eq, wrap64_id (n := 3600 * h) (by omega) (by omega), wrap64_id (n := 60 * i) (by omega) (by omega), wrap64_id (n := 3600 * h + 60 * i) (by omega) (by omega), wrap64_id (n := 3600 * h + 60 * i + s) (by omega) (by omega), refO_J2t]
  unfold poV
  dsimp only
  by_cases h1 : h > 23
  · rw [if_pos h1, if_neg (fun k : okO c h i s => by have := k.2.2.1; omega)]; rfl
  · rw [if_neg h1]
    by_cases h4 : i > 59
    · rw [if_pos h4, if_neg (fun k : okO c h i s => by have := k.1; omega)]; rfl
    · rw [if_neg h4]
      by_cases h5 : s > 59
      · rw [if_pos h5, if_neg (fun k : okO c h i s => by have := k.2.1; omega)]; rfl
      · rw [if_neg h5, if_pos hx, hc]
        have e : 3600 * h + 60 * i + s = h * 3600 + i * 60 + s := by omega
        rw [e]
        by_cases h8 : c = 45
        · rw [if_pos h8]
          by_cases h7 : h * 3600 + i * 60 + s = 0
          · rw [beq_iff_eq.2 h7, refO_J2t, if_neg (fun k : okO c h i s => k.2.2.2 ⟨h7, h8⟩)]; rfl
          · rw [beq_eq_false_iff_ne.2 h7, solsticeref16_ParseOffset.J2_eq, if_neg (by simp), if_pos hx, hc, if_pos h8, if_pos (show okO c h i s from ⟨by omega, by omega, by omega, fun k => h7 k.1⟩), if_pos h8, wrap64_id (by omega) (by omega)]; rfl
        · rw [if_neg h8, solsticeref16_ParseOffset.J2_eq, if_neg (by simp), if_pos hx, hc, if_neg h8, if_pos (show okO c h i s from ⟨by omega, by omega, by omega, fun k => h8 k.2⟩), if_neg h8]; rfl
theorem poN_none {r : List Int} (h : r.all isDig = true → r.length ≠ 4 ∧ r.length ≠ 6) : poN r = none := by
  unfold poN
  cases h1 : nums [2, 2] r with
  | some v =>
    have := nums_len (by simp) h1
    exact absurd (h (nums_all h1)).1 (by simp at this; omega)
  | none =>
    cases h2 : nums [2, 2, 2] r with
    | some v =>
      have := nums_len (by simp) h2
      exact absurd (h (nums_all h2)).2 (by simp at this; omega)
    | none => rfl
theorem refO_J0 (x : ByteArray) (c : Int) (r : List Int) (e : bytesOf x = c :: r) (hl : r.length = 4 ∨ r.length = 6) : solsticeref16_ParseOffset.J0 x (!decide (r.all isDig = true)) = some (encQ (poV c (poN r))) := by
  have hz := size_len x
  rw [e, List.length_cons] at hz
  have hx : 0 < (x.size : Int) := by omega
  have hc : bt x 0 = c := by
    have := rest_cons (s := x) (i := 0) (by omega) hx
    rw [rest_zero, e] at this
    injection this with h1
    exact h1.symm
  by_cases hd : r.all isDig = true
  · rw [decide_eq_true hd, solsticeref16_ParseOffset.J0_eq, if_neg (by simp)]
    rcases hl with hl | hl
    · obtain ⟨a0, a1, a2, a3, rfl⟩ : ∃ a0 a1 a2 a3, r = [a0, a1, a2, a3] := by
        match r, hl with
        | [a0, a1, a2, a3], _ => exact ⟨_, _, _, _, rfl⟩
      have d1 : ([a0, a1] ++ [a2, a3] : List Int).all isDig = true := hd
      rw [List.all_append, Bool.and_eq_true] at d1
      have v1 := val2 d1.1
      have v2 := val2 d1.2
      have e1 : ∀ i j, bytesOf (x.extract i j) = ((c :: [a0, a1, a2, a3]).take j).drop i := fun i j => by rw [bytes_extract, e]
      have hn : nums [2, 2] ([a0, a1] ++ ([a2, a3] ++ [])) = some [val 0 [a0, a1], val 0 [a2, a3]] := by
        rw [nums_put (k := 2) (by omega) (by simp) d1.1, nums_put (k := 2) (by omega) (by simp) d1.2]; rfl
      have hp : poN [a0, a1, a2, a3] = some (val 0 [a0, a1], val 0 [a2, a3], 0) := by
        have hn' : nums [2, 2] [a0, a1, a2, a3] = some [val 0 [a0, a1], val 0 [a2, a3]] := hn
        unfold poN
        rw [hn']
      have hsz : (x.size : Int) = 5 := by simp at hz; omega
      rw [if_pos (by omega), if_pos (by omega), val_of (show _ = ([a0, a1] : List Int) from e1 1 3) (by simp) d1.1, bind_some_, if_pos (by omega), if_pos (by omega), val_of (show _ = ([a2, a3] : List Int) from e1 3 5) (by simp) d1.2, bind_some_, if_neg (by omega), hp]
      exact refO_J1 x c hx hc _ _ _ (by omega)
    · obtain ⟨a0, a1, a2, a3, a4, a5, rfl⟩ : ∃ a0 a1 a2 a3 a4 a5, r = [a0, a1, a2, a3, a4, a5] := by
        match r, hl with
        | [a0, a1, a2, a3, a4, a5], _ => exact ⟨_, _, _, _, _, _, rfl⟩
      have d1 : ([a0, a1] ++ ([a2, a3] ++ [a4, a5]) : List Int).all isDig = true := hd
      rw [List.all_append, List.all_append, Bool.and_eq_true, Bool.and_eq_true] at d1
      have v1 := val2 d1.1
      have v2 := val2 d1.2.1
      have v3 := val2 d1.2.2
      have e1 : ∀ i j, bytesOf (x.extract i j) = ((c :: [a0, a1, a2, a3, a4, a5]).take j).drop i := fun i j => by rw [bytes_extract, e]
      have hn : nums [2, 2, 2] ([a0, a1] ++ ([a2, a3] ++ ([a4, a5] ++ []))) = some [val 0 [a0, a1], val 0 [a2, a3], val 0 [a4, a5]] := by
        rw [nums_put (k := 2) (by omega) (by simp) d1.1, nums_put (k := 2) (by omega) (by simp) d1.2.1, nums_put (k := 2) (by omega) (by simp) d1.2.2]; rfl
      have hp : poN [a0, a1, a2, a3, a4, a5] = some (val 0 [a0, a1], val 0 [a2, a3], val 0 [a4, a5]) := by
        unfold poN
        have h0 : nums [2, 2] [a0, a1, a2, a3, a4, a5] = none := by
          cases h : nums [2, 2] [a0, a1, a2, a3, a4, a5] with
          | none => rfl
          | some v =>
            have := nums_len (by simp) h
            simp at this
        have hn' : nums [2, 2, 2] [a0, a1, a2, a3, a4, a5] = some [val 0 [a0, a1], val 0 [a2, a3], val 0 [a4, a5]] := hn
        rw [h0, hn']
      have hsz : (x.size : Int) = 7 := by simp at hz; omega
      rw [if_pos (by omega), if_pos (by omega), val_of (show _ = ([a0, a1] : List Int) from e1 1 3) (by simp) d1.1, bind_some_, if_pos (by omega), if_pos (by omega), val_of (show _ = ([a2, a3] : List Int) from e1 3 5) (by simp) d1.2.1, bind_some_, if_pos (by omega), if_pos (by omega), if_pos (by omega), val_of (show _ = ([a4, a5] : List Int) from e1 5 7) (by simp) d1.2.2, bind_some_, hp]
      exact refO_J1 x c hx hc _ _ _ (by omega)
  · rw [decide_eq_false hd]
    show solsticeref16_ParseOffset.J0 x true = _
    rw [refO_J0t, poN_none (fun h => absurd h hd)]
    rfl
theorem ref_ParseOffset_eq (x : ByteArray) (hs : x.size ≤ 1000) : solsticeref16_ParseOffset.F x = some (encQ (poS (bytesOf x))) := by
  have hz := size_len x
  rw [solsticeref16_ParseOffset.F_eq]
  cases hl : bytesOf x with
  | nil =>
    rw [hl] at hz
    have : x.size = 0 := by simpa using hz
    rw [if_neg (by omega), if_neg (by omega), refO_J0t]
    rfl
  | cons c r =>
    rw [hl, List.length_cons] at hz
    have hx : 0 < (x.size : Int) := by omega
    have hc : bt x 0 = c := by
      have := rest_cons (s := x) (i := 0) (by omega) hx
      rw [rest_zero, hl] at this
      injection this with h1
      exact h1.symm
    have e1 : bytesOf (x.extract 1 x.size) = r := by rw [extract_all, hl]; rfl
    have z1 : (x.extract 1 x.size).size = r.length := by rw [← bytesOf_length, e1]
    unfold poS
    dsimp only
    by_cases h4 : r.length = 4 ∨ r.length = 6
    · have hD : solsticeref01_Digits.F (x.extract 1 x.size) 4 6 = some (decide (r.all isDig = true)) := by
        rw [ref_Digits_eq _ (by omega), e1]
        congr 1
        exact decide_eq_decide.2 ⟨fun k => k.2.2, fun k => ⟨by omega, by omega, k⟩⟩
      have key := refO_J0 x c r hl h4
      have go : (if 0 < (x.size : Int) then (if bt x 0 = 43 then (if 1 ≤ (x.size : Int) then ((solsticeref01_Digits.F (x.extract 1 x.size) 4 6).bind fun t => solsticeref16_ParseOffset.J0 x (!t)) else none) else (if bt x 0 = 45 then (if 1 ≤ (x.size : Int) then ((solsticeref01_Digits.F (x.extract 1 x.size) 4 6).bind fun t => solsticeref16_ParseOffset.J0 x (!t)) else none) else solsticeref16_ParseOffset.J0 x true)) else none) = some (encQ (if c = 43 ∨ c = 45 then poV c (poN r) else none)) := by
        rw [if_pos hx, hc, if_pos (show 1 ≤ (x.size : Int) by omega), hD, bind_some_, key]
        by_cases h1 : c = 43
        · rw [if_pos h1, if_pos (Or.inl h1)]
        · rw [if_neg h1]
          by_cases h2 : c = 45
          · rw [if_pos h2, if_pos (Or.inr h2)]
          · rw [if_neg h2, if_neg (by omega), refO_J0t]; rfl
      rcases h4 with h4 | h4
      · rw [if_pos (by omega)]; exact go
      · rw [if_neg (by omega), if_pos (by omega)]; exact go
    · rw [if_neg (by omega), if_neg (by omega), refO_J0t, poN_none (fun _ => by omega)]
      split <;> rfl
-- times
def encR : Option (List Int × Bool) → List Int × Bool × Bool
  | some (l, u) => (l, u, true)
  | none => ([], false, false)
theorem ref_Times_L0 (s : ByteArray) (hs : s.size ≤ 1000) : ∀ (n : Nat) (i fr : Int) (acc : List Int) (u : Bool), n = (s.size : Int).toNat - i.toNat → 0 ≤ fr → fr ≤ i → i ≤ (s.size : Int) → (acc.length : Int) ≤ fr → (∀ x ∈ seg s fr i, x ≠ 44) →
    solsticeref16_Times.L0 s acc u fr i = some (encR (timesR acc u (decide (acc.length = 0)) ((spl 44 (seg s fr i ++ rest s i)).map ptS))) := by
  have last : ∀ (i fr : Int) (acc : List Int) (u : Bool) (ps : List (Option (Int × Bool))), 0 ≤ fr → fr ≤ i → i ≤ (s.size : Int) → (acc.length : Int) ≤ fr →
      (∀ t v, solsticeref16_Times.L0 s (acc ++ [t]) v (wrap64 (i + 1)) (wrap64 (i + 1)) = some (encR (timesR (acc ++ [t]) v false ps))) →
      solsticeref16_Times.J1 s acc u fr i false = some (encR (timesR acc u (decide (acc.length = 0)) (ptS (seg s fr i) :: ps))) := by
    intro i fr acc u ps h0 h1 h2 h3 hn
    have hz : (s.extract fr.toNat i.toNat).size ≤ 1000 := by rw [ByteArray.size_extract]; omega
    rw [solsticeref16_Times.J1_eq, if_neg (by simp), if_pos h0, if_pos h1, if_pos h2, ref_ParseTime_eq _ hz, bind_some_, seg_extract, bytes_strOf (seg_bytes _ _ _)]
    cases hp : ptS (seg s fr i) with
    | none => rw [if_neg (by simp [encP])]; rfl
    | some p =>
      obtain ⟨t, v⟩ := p
      have ht : acc.length < 17592186044416 := by omega
      show (if true = true then (if (acc.length : Int) > 0 then (if (v != u) = true then _ else (if acc.length < 17592186044416 then solsticeref16_Times.L0 s (acc ++ [t]) v (wrap64 (i + 1)) (wrap64 (i + 1)) else none)) else (if acc.length < 17592186044416 then solsticeref16_Times.L0 s (acc ++ [t]) v (wrap64 (i + 1)) (wrap64 (i + 1)) else none)) else _) = _
      rw [if_pos rfl, if_pos ht, hn, timesR]
      by_cases ha : (acc.length : Int) > 0
      · rw [if_pos ha, decide_eq_false (by omega)]
        by_cases hv : v = u
        · rw [if_neg (by simp [hv]), if_neg (by simp [hv])]
        · rw [if_pos (by simpa using hv), if_pos ⟨rfl, hv⟩]; rfl
      · rw [if_neg ha, decide_eq_true (by omega), if_neg (by simp)]
  intro n
  induction n with
  | zero =>
    intro i fr acc u hn h0 h1 h2 h3 hno
    have he : i = (s.size : Int) := by omega
    rw [solsticeref16_Times.L0_eq, if_pos h2, if_neg (by omega), rest_nil (by omega), List.append_nil, spl_no hno]
    refine last i fr acc u [] h0 h1 h2 h3 (fun t v => ?_)
    rw [wrap64_id (by omega) (by omega), solsticeref16_Times.L0_eq, if_neg (by omega)]
    rfl
  | succ n ih =>
    intro i fr acc u hn h0 h1 h2 h3 hno
    have hlt : i < (s.size : Int) := by omega
    rw [solsticeref16_Times.L0_eq, if_pos h2, if_pos hlt, if_pos (by omega), rest_cons (by omega) hlt]
    by_cases hc : bt s i = 44
    · rw [bne_eq_false_iff_eq.2 hc, hc, spl_hit hno]
      refine last i fr acc u _ h0 h1 h2 h3 (fun t v => ?_)
      have := ih (i + 1) (i + 1) (acc ++ [t]) v (by omega) (by omega) (by omega) (by omega) (by rw [List.length_append, List.length_singleton]; omega) (by rw [seg_self]; exact fun x hx => by cases hx)
      rw [seg_self, List.nil_append, decide_eq_false (by rw [List.length_append, List.length_singleton]; omega)] at this
      rw [wrap64_id (by omega) (by omega), this]
    · rw [bne_iff_ne.2 hc, solsticeref16_Times.J1_eq, if_pos rfl, wrap64_id (by omega) (by omega), ih (i + 1) fr acc u (by omega) h0 (by omega) (by omega) h3 (by
        rw [seg_snoc h0 h1 hlt]
        intro x hx
        rcases List.mem_append.1 hx with hx | hx
        · exact hno x hx
        · rw [List.mem_singleton.1 hx]; exact hc), seg_snoc h0 h1 hlt, List.append_assoc]
      rfl
theorem ref_Times_eq (s : ByteArray) (hs : s.size ≤ 1000) : solsticeref16_Times.F s = some (encR (tsS (bytesOf s))) := by
  rw [solsticeref16_Times.F_eq, ref_Times_L0 s hs _ 0 0 [] false rfl (by omega) (by omega) (by omega) (by simp) (by rw [seg_self]; exact fun x hx => by cases hx), seg_self, List.nil_append, rest_zero]
  rfl
end Go.Proofs.YtligbecmbefclaaDoor.Base
