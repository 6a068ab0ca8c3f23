/- Forms of a time: what the printed functions of atform, and the page's, compute. No condition. -/
import Derived.Test.YtlfohcjajmebjaaDoorClkB
import Derived.Test.YtlfohcjajmebjaaDoorEClkx3
import Derived.Test.YtlfohcjajmebjaaDoorEClkx4
import Derived.Test.YtlfohcjajmebjaaDoorEClkx10
import Derived.Test.YtlfohcjajmebjaaDoorPClkx10
namespace Go.Proofs.YtlfohcjajmebjaaDoor.Base
open Go.RowKit Go.Proofs.YtlfohcjajmebjaaDoor.PClk Go.Proofs.YtlfohcjajmebjaaDoorW.PrintWords Go.Proofs.YtlfohcjajmebjaaDoorW.PrintLast Go.Proofs.YtlfohcjajmebjaaDoorW.PrintMore
set_option linter.unusedVariables false
set_option linter.unusedSimpArgs false

def kindOf (c : Int) : Int := if c = 119 ∨ c = 87 then 1 else if c = 115 ∨ c = 83 then 2 else if c = 117 ∨ c = 85 ∨ c = 103 ∨ c = 71 ∨ c = 122 ∨ c = 90 then 3 else 0
theorem kind_eq (c : Int) : atform_kind.F c = some (kindOf c) := by
  unfold kindOf
  rw [atform_kind.F_eq, atform_kind.J0_eq, atform_kind.J0_eq, atform_kind.J1_eq, atform_kind.J1_eq]
  by_cases h1 : c = 119
  · subst h1; simp
  · by_cases h2 : c = 87
    · subst h2; simp
    · by_cases h3 : c = 115
      · subst h3; simp
      · by_cases h4 : c = 83
        · subst h4; simp
        · by_cases h5 : c = 117
          · subst h5; simp
          · by_cases h6 : c = 85
            · subst h6; simp
            · by_cases h7 : c = 103
              · subst h7; simp
              · by_cases h8 : c = 71
                · subst h8; simp
                · by_cases h9 : c = 122
                  · subst h9; simp
                  · by_cases h10 : c = 90
                    · subst h10; simp
                    · simp [h1, h2, h3, h4, h5, h6, h7, h8, h9, h10]
theorem small_eq (c : Int) (h : 0 ≤ c ∧ c ≤ 255) : solsticeref01_small.f c = some (if 65 ≤ c ∧ c ≤ 90 then c + 32 else c) := by
  unfold solsticeref01_small.f
  by_cases h1 : c ≥ 65
  · rw [if_pos h1]
    by_cases h2 : c ≤ 90
    · rw [if_pos h2, if_pos ⟨h1, h2⟩, show (c + 32) % 256 = c + 32 by omega]
    · rw [if_neg h2, if_neg (fun h => h2 h.2)]
  · rw [if_neg h1, if_neg (fun h => h1 h.1)]
/-- What a text's letter and the rest say. -/
def atS (s : ByteArray) : Option (Int × Int) := if s.size = 0 then (clkS []).map (fun v => (v, 1)) else if kindOf (bt s ((s.size : Int) - 1)) = 0 then (clkS (bytesOf s)).map (fun v => (v, 1)) else (clkS ((bytesOf s).take (s.size - 1))).map (fun v => (v, kindOf (bt s ((s.size : Int) - 1))))
def encAt : Option (Int × Int) → Int × Int × Int
  | some (v, k) => (v, k, 0)
  | none => (0, 0, 9)
def encAtB : Option (Int × Int) → Int × Int × Bool
  | some (v, k) => (v, k, true)
  | none => (0, 0, false)
theorem take_ext (s : ByteArray) (hs : 0 < s.size) : bytesOf (s.extract 0 ((s.size : Int) - 1).toNat) = (bytesOf s).take (s.size - 1) := by
  rw [bytes_extract, List.drop_zero]
  congr 1
  omega
theorem nil_bytes {s : ByteArray} (h : s.size = 0) : bytesOf s = [] := by
  have := size_len s
  exact List.eq_nil_of_length_eq_zero (by omega)
theorem at_Parse_eq (s : ByteArray) (hs : s.size ≤ 1000000) : atform_Parse.F s = some (encAt (atS s)) := by
  have plain : atform_Parse.J0 s 1 (s.size : Int) false = some (encAt ((clkS (bytesOf s)).map (fun v => (v, 1)))) := by
    rw [atform_Parse.J0_eq, if_neg (by simp), clock_Parse_eq s (by omega), bind_some_]
    cases clkS (bytesOf s) with
    | none => unfold enc0; dsimp only; rw [if_neg (by simp)]; rfl
    | some v => unfold enc0; dsimp only; rw [if_pos rfl]; rfl
  rw [atform_Parse.F_eq]
  unfold atS
  by_cases h0 : s.size = 0
  · rw [if_neg (by omega), if_pos h0, plain, nil_bytes h0]
  · have hw : wrap64 ((s.size : Int) - 1) = (s.size : Int) - 1 := wrap64_id (by omega) (by omega)
    rw [if_pos (by omega), if_neg h0, hw, if_pos (by omega), if_pos (by omega), kind_eq, bind_some_]
    by_cases hk : kindOf (bt s ((s.size : Int) - 1)) = 0
    · rw [if_pos hk, hk, show ((0 : Int) != 0) = false from rfl, plain]
    · rw [if_neg hk, show (kindOf (bt s ((s.size : Int) - 1)) != 0) = true by simpa using hk, atform_Parse.J0_eq, if_pos rfl, hw, if_pos (by omega), if_pos (by omega), kind_eq, bind_some_, if_pos (by omega), clock_Parse_eq _ (by rw [ByteArray.size_extract]; omega), bind_some_, take_ext s (by omega)]
      cases clkS ((bytesOf s).take (s.size - 1)) with
      | none => unfold enc0; dsimp only; rw [if_neg (by simp)]; rfl
      | some v => unfold enc0; dsimp only; rw [if_pos rfl]; rfl
theorem ref_AtForm_eq (s : ByteArray) (hs : s.size ≤ 1000000) : solsticeref01_AtForm.F s = some (encAtB (atS s)) := by
  have plain : ∀ b : Int, ((solsticeref01_Clock.F s).bind fun bt222 => (if bt222.2 = true then (some (bt222.1, b, true)) else (some (0, 0, false)))) = some (encAtB ((clkS (bytesOf s)).map (fun v => (v, b)))) := by
    intro b
    rw [ref_Clock_eq s hs, bind_some_]
    cases clkS (bytesOf s) with
    | none => unfold encB; dsimp only; rw [if_neg (by simp)]; rfl
    | some v => unfold encB; dsimp only; rw [if_pos rfl]; rfl
  rw [solsticeref01_AtForm.F_eq]
  unfold atS
  by_cases h0 : s.size = 0
  · rw [if_neg (by omega), if_pos h0, plain, nil_bytes h0]
  · have hw : wrap64 ((s.size : Int) - 1) = (s.size : Int) - 1 := wrap64_id (by omega) (by omega)
    have cut : ∀ b : Int, solsticeref01_AtForm.J0 s b true = some (encAtB ((clkS ((bytesOf s).take (s.size - 1))).map (fun v => (v, b)))) := by
      intro b
      rw [solsticeref01_AtForm.J0_eq, if_pos rfl, hw, if_pos (by omega), if_pos (by omega), ref_Clock_eq _ (by rw [ByteArray.size_extract]; omega), bind_some_, take_ext s (by omega)]
      cases clkS ((bytesOf s).take (s.size - 1)) with
      | none => unfold encB; dsimp only; rw [if_neg (by simp)]; rfl
      | some v => unfold encB; dsimp only; rw [if_pos rfl]; rfl
    have whole : ∀ b : Int, solsticeref01_AtForm.J0 s b false = some (encAtB ((clkS (bytesOf s)).map (fun v => (v, b)))) := by
      intro b
      rw [solsticeref01_AtForm.J0_eq, if_neg (by simp), plain]
    have hb : 0 ≤ bt s ((s.size : Int) - 1) ∧ bt s ((s.size : Int) - 1) ≤ 255 := by
      have h1 := rest_cons (s := s) (i := (s.size : Int) - 1) (by omega) (by omega)
      exact rest_bytes s ((s.size : Int) - 1) _ (by rw [h1]; exact List.mem_cons_self ..)
    rw [if_pos (by omega), if_neg h0, hw, if_pos (by omega), if_pos (by omega), small_eq _ hb, bind_some_, cut, cut, cut, whole]
    generalize bt s ((s.size : Int) - 1) = c at *
    obtain ⟨t, ht⟩ : ∃ t, (if 65 ≤ c ∧ c ≤ 90 then c + 32 else c) = t := ⟨_, rfl⟩
    have q1 : t = 119 ↔ (c = 119 ∨ c = 87) := by rw [← ht]; split <;> omega
    have q2 : t = 115 ↔ (c = 115 ∨ c = 83) := by rw [← ht]; split <;> omega
    have q3 : t = 117 ↔ (c = 117 ∨ c = 85) := by rw [← ht]; split <;> omega
    have q4 : t = 103 ↔ (c = 103 ∨ c = 71) := by rw [← ht]; split <;> omega
    have q5 : t = 122 ↔ (c = 122 ∨ c = 90) := by rw [← ht]; split <;> omega
    rw [ht]
    have k3 : (c = 117 ∨ c = 85 ∨ c = 103 ∨ c = 71 ∨ c = 122 ∨ c = 90) → ¬ (c = 119 ∨ c = 87) → ¬ (c = 115 ∨ c = 83) → kindOf c = 3 := fun h a b => by unfold kindOf; rw [if_neg a, if_neg b, if_pos h]
    have n3 : ¬ (3 : Int) = 0 := by omega
    by_cases h1 : c = 119 ∨ c = 87
    · have hk : kindOf c = 1 := by unfold kindOf; rw [if_pos h1]
      rw [if_pos (q1.2 h1), hk, if_neg (by omega : ¬ (1 : Int) = 0)]
    · rw [if_neg (fun h => h1 (q1.1 h))]
      by_cases h2 : c = 115 ∨ c = 83
      · have hk : kindOf c = 2 := by unfold kindOf; rw [if_neg h1, if_pos h2]
        rw [if_pos (q2.2 h2), hk, if_neg (by omega : ¬ (2 : Int) = 0)]
      · rw [if_neg (fun h => h2 (q2.1 h))]
        by_cases h3 : c = 117 ∨ c = 85
        · rw [if_pos (q3.2 h3), k3 (by omega) h1 h2, if_neg n3]
        · rw [if_neg (fun h => h3 (q3.1 h))]
          by_cases h4 : c = 103 ∨ c = 71
          · rw [if_pos (q4.2 h4), k3 (by omega) h1 h2, if_neg n3]
          · rw [if_neg (fun h => h4 (q4.1 h))]
            by_cases h5 : c = 122 ∨ c = 90
            · rw [if_pos (q5.2 h5), k3 (by omega) h1 h2, if_neg n3]
            · have hk : kindOf c = 0 := by unfold kindOf; rw [if_neg h1, if_neg h2, if_neg (by omega)]
              rw [if_neg (fun h => h5 (q5.1 h)), if_pos hk]
def Sec (a : Int) : Prop := -345600 ≤ a ∧ a ≤ 345600
instance (a : Int) : Decidable (Sec a) := inferInstanceAs (Decidable (_ ∧ _))
def Kin (k : Int) : Prop := 1 ≤ k ∧ k ≤ 3
instance (k : Int) : Decidable (Kin k) := inferInstanceAs (Decidable (_ ∧ _))
theorem at_in_eq (a m : Int) (h : 0 ≤ m ∧ m ≤ 9223372036854775807) : atform_in.f a m = some (decide (-m ≤ a ∧ a ≤ m)) := by
  unfold atform_in.f
  rw [wrap64_id (by omega) (by omega)]
  by_cases h1 : a ≥ -m
  · rw [if_pos h1]
    have : -m ≤ a := h1
    simp [this]
  · rw [if_neg h1]
    have : ¬ -m ≤ a := h1
    simp [this]
theorem at_in_sec (a : Int) : atform_in.f a 345600 = some (decide (Sec a)) := at_in_eq a 345600 (by omega)
theorem at_in_bd (a : Int) : atform_in.f a 4611686018427387904 = some (decide (Bd a)) := at_in_eq a 4611686018427387904 (by omega)
theorem at_right_eq (k : Int) : atform_right.f k = some (decide (Kin k)) := by
  unfold atform_right.f
  by_cases h1 : k = 1
  · subst h1; rfl
  · rw [if_neg h1]
    by_cases h2 : k = 2
    · subst h2; rfl
    · rw [if_neg h2]
      congr 1
      rw [Bool.eq_iff_iff, beq_iff_eq, decide_eq_true_eq]
      unfold Kin
      omega
theorem at_Check_eq (a k : Int) : atform_Check.f a k = some (if Sec a ∧ Kin k then 0 else 9) := by
  unfold atform_Check.f
  rw [at_in_sec, bind_some_]
  by_cases h1 : Sec a
  · rw [if_pos (decide_eq_true h1), at_right_eq, bind_some_]
    by_cases h2 : Kin k
    · rw [if_pos (decide_eq_true h2), if_pos ⟨h1, h2⟩]
    · rw [if_neg (by simpa using h2), if_neg (fun h => h2 h.2)]
  · rw [if_neg (by simpa using h1), if_neg (fun h => h1 h.1)]
def letter (k : Int) : List Int := if k = 2 then [115] else if k = 3 then [117] else []
theorem letter_bytes (k : Int) : Bytes (letter k) := by
  unfold letter
  split
  · exact Bytes.cons (by omega) (by omega) Bytes.nil
  · split
    · exact Bytes.cons (by omega) (by omega) Bytes.nil
    · exact Bytes.nil
theorem at_Text_eq (a k : Int) (ha : -9223372036854775808 ≤ a ∧ a ≤ 9223372036854775807) : atform_Text.F a k = some (if Sec a ∧ Kin k then (strOfNums (ctxt a ++ letter k), 0) else ((⟨#[]⟩ : ByteArray), 9)) := by
  rw [atform_Text.F_eq, at_Check_eq, bind_some_]
  by_cases h : Sec a ∧ Kin k
  · have hl := ctxt_len h.1
    rw [if_pos h, if_pos rfl, if_pos h, clock_Text_eq a ha, if_pos (show -345600 ≤ a ∧ a ≤ 345600 from h.1), bind_some_]
    dsimp only
    unfold letter
    by_cases h2 : k = 2
    · rw [if_pos h2, if_pos h2, size_strOf, if_pos (by omega), show (⟨#[115]⟩ : ByteArray) = strOfNums [115] from rfl, strOf_append]
    · rw [if_neg h2, if_neg h2]
      by_cases h3 : k = 3
      · rw [if_pos h3, if_pos h3, size_strOf, if_pos (by omega), show (⟨#[117]⟩ : ByteArray) = strOfNums [117] from rfl, strOf_append]
      · rw [if_neg h3, if_neg h3, List.append_nil]
  · rw [if_neg h, if_neg (by omega), if_neg h]
def utcS (l k s v : Int) : Int × Bool := if Kin k ∧ Bd l ∧ Sec s ∧ Sec v then (if k = 1 then l - s - v else if k = 2 then l - s else l, true) else (0, false)
theorem at_Utc_eq (l k s v : Int) : atform_Utc.F l k s v = some (utcS l k s v) := by
  unfold utcS
  rw [atform_Utc.F_eq, at_right_eq, bind_some_, at_in_bd, bind_some_, at_in_sec, bind_some_, at_in_sec, bind_some_]
  by_cases h1 : Kin k
  · rw [if_pos (decide_eq_true h1)]
    by_cases h2 : Bd l
    · rw [if_pos (decide_eq_true h2)]
      by_cases h3 : Sec s
      · rw [if_pos (decide_eq_true h3)]
        by_cases h4 : Sec v
        · rw [decide_eq_true h4, atform_Utc.J0_eq, if_neg (by simp), if_pos (show Kin k ∧ Bd l ∧ Sec s ∧ Sec v from ⟨h1, h2, h3, h4⟩)]
          unfold Bd at h2
          unfold Sec at h3 h4
          rw [wrap64_id (n := l - s) (by omega) (by omega), wrap64_id (n := l - s - v) (by omega) (by omega)]
          split
          · rfl
          · split <;> rfl
        · rw [decide_eq_false h4, atform_Utc.J0_eq, if_pos (show (!false) = true from rfl), if_neg (fun h => h4 h.2.2.2)]
      · rw [if_neg (by simpa using h3), atform_Utc.J0_eq, if_pos (show true = true from rfl), if_neg (fun h => h3 h.2.2.1)]
    · rw [if_neg (by simpa using h2), atform_Utc.J0_eq, if_pos (show true = true from rfl), if_neg (fun h => h2 h.2.1)]
  · rw [if_neg (by simpa using h1), atform_Utc.J0_eq, if_pos (show true = true from rfl), if_neg (fun h => h1 h.1)]

/-! A text ends in a digit -/
def Ends (l : List Int) : Prop := ∃ a d, l = a ++ [d] ∧ isDig d = true
theorem Ends.app {l m : List Int} (h : Ends m) : Ends (l ++ m) := by
  obtain ⟨a, d, rfl, hd⟩ := h
  exact ⟨l ++ a, d, by rw [List.append_assoc], hd⟩
theorem Ends.cons {x : Int} {m : List Int} (h : Ends m) : Ends (x :: m) := h.app (l := [x])
theorem Ends.dig {l : List Int} (h : l.all isDig = true) (hl : 1 ≤ l.length) : Ends l := by
  have hne : l ≠ [] := fun e => by rw [e] at hl; simp at hl
  refine ⟨l.dropLast, l.getLast hne, (List.dropLast_concat_getLast hne).symm, List.all_eq_true.1 h _ (List.getLast_mem hne)⟩
theorem txt_pos {n d : Int} (h : 0 ≤ n) : 1 ≤ (txt n d).length := by
  unfold txt
  rw [if_neg (by omega), List.length_append]
  have := digs_pos n.toNat
  omega
theorem ctail_ends {m : Int} (h : 0 ≤ m) : Ends (ctail m) := by
  have a : Ends (txt (m / 3600) 0) := Ends.dig (txt_dig_ (by omega)) (txt_pos (by omega))
  have b : Ends (txt (m % 3600 / 60) 2) := Ends.dig (txt_dig_ (by omega)) (txt_pos (by omega))
  have c : Ends (txt (m % 60) 2) := Ends.dig (txt_dig_ (by omega)) (txt_pos (by omega))
  unfold ctail
  by_cases h2 : m % 60 = 0
  · rw [if_pos h2, List.append_nil]
    by_cases h1 : m % 3600 = 0
    · rw [if_pos h1, List.append_nil]; exact a
    · rw [if_neg h1]; exact b.cons.app
  · rw [if_neg h2]; exact (c.cons.app).app
theorem ctxt_ends {n : Int} : Ends (ctxt n) := by
  unfold ctxt
  split
  · exact (ctail_ends (by omega)).cons
  · exact ctail_ends (by omega)
theorem bt_last {l : List Int} {d : Int} (h : Bytes (l ++ [d])) : bt (strOfNums (l ++ [d])) (((strOfNums (l ++ [d])).size : Int) - 1) = d := by
  have hs : ((strOfNums (l ++ [d])).size : Int) = (l.length : Int) + 1 := by rw [size_strOf, List.length_append, List.length_singleton]; omega
  have h1 := rest_cons (s := strOfNums (l ++ [d])) (i := (l.length : Int)) (by omega) (by omega)
  unfold rest at h1
  rw [bytes_strOf h, show ((l.length : Int)).toNat = l.length by omega, List.drop_left] at h1
  simp only [List.cons.injEq] at h1
  rw [hs, show (l.length : Int) + 1 - 1 = (l.length : Int) by omega, ← h1.1]
theorem atS_ctxt {n k : Int} (hn : Sec n) (hk : Kin k) : atS (strOfNums (ctxt n ++ letter k)) = some (n, k) := by
  have hb : Bytes (ctxt n ++ letter k) := Bytes.app (ctxt_bytes n) (letter_bytes k)
  obtain ⟨a, d, e, hd⟩ := ctxt_ends (n := n)
  unfold atS
  unfold Kin at hk
  rw [if_neg (by rw [size_strOf, List.length_append, e, List.length_append, List.length_singleton]; omega)]
  by_cases h1 : k = 1
  · have el : letter k = [] := by unfold letter; rw [if_neg (by omega), if_neg (by omega)]
    rw [el, List.append_nil]
    have e2 : bt (strOfNums (ctxt n)) (((strOfNums (ctxt n)).size : Int) - 1) = d := by
      rw [e]
      exact bt_last (e ▸ ctxt_bytes n)
    have hd' := (isDig_iff d).1 hd
    rw [e2, if_pos (by unfold kindOf; rw [if_neg (by omega), if_neg (by omega), if_neg (by omega)]), bytes_strOf (ctxt_bytes n), clkS_ctxt hn, h1]
    rfl
  · obtain ⟨c, el, ek⟩ : ∃ c, letter k = [c] ∧ kindOf c = k := by
      by_cases h2 : k = 2
      · subst h2; exact ⟨115, rfl, rfl⟩
      · obtain rfl : k = 3 := by omega
        exact ⟨117, rfl, rfl⟩
    rw [el] at hb ⊢
    rw [bt_last hb, ek, if_neg (by omega), bytes_strOf hb, size_strOf, List.length_append, List.length_singleton, Nat.add_sub_cancel, List.take_left, clkS_ctxt hn]
    rfl
theorem atS_letter {n c : Int} (hn : Sec n) (hc : 0 ≤ c ∧ c ≤ 255) (hk : kindOf c ≠ 0) : atS (strOfNums (ctxt n ++ [c])) = some (n, kindOf c) := by
  have hb : Bytes (ctxt n ++ [c]) := Bytes.app (ctxt_bytes n) (Bytes.cons hc.1 hc.2 Bytes.nil)
  unfold atS
  rw [if_neg (by rw [size_strOf, List.length_append, List.length_singleton]; omega), bt_last hb, if_neg hk, bytes_strOf hb, size_strOf, List.length_append, List.length_singleton, Nat.add_sub_cancel, List.take_left, clkS_ctxt hn]
  rfl
theorem wakes08 : solsticelaw08_wakes.F = some true := by
  have p1 : atS (⟨#[49, 58, 48, 48, 117]⟩ : ByteArray) = some (3600, 3) := by decide +kernel
  have t1 : ctxt 7200 = [50] := by
    have e : digs 2 = [50] := digs_small (by decide)
    have e1 : txt 2 0 = [50] := by unfold txt; rw [if_neg (by decide), show (2 : Int).toNat = 2 from rfl, e]; rfl
    unfold ctxt ctail
    rw [if_neg (by decide), show (7200 : Int) / 3600 = 2 by decide, show (7200 : Int) % 3600 = 0 by decide, show (7200 : Int) % 60 = 0 by decide, e1]
    rfl
  have u1 : utcS 10000 1 3600 1800 = (4600, true) := by decide
  rw [solsticelaw08_wakes.F_eq, at_Parse_eq _ (by decide), bind_some_, at_Text_eq _ _ (by omega), bind_some_, at_Utc_eq, bind_some_, at_Check_eq, p1, t1, u1, bind_some_]
  decide +kernel
end Go.Proofs.YtlfohcjajmebjaaDoor.Base
