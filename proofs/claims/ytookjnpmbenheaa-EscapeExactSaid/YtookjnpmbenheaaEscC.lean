/- What the page's Put, Get and Pieces tell is what the program's do. Conditions: the texts' lengths, as the lemmas say. -/
import Derived.Test.YtookjnpmbenheaaEscB
import Derived.Test.YtookjnpmbenheaaEEscx4
import Derived.Test.YtookjnpmbenheaaEEscx5
import Derived.Test.YtookjnpmbenheaaPEscx4
namespace Go.Proofs.Ytookjnpmbenheaa.PEsc
open Go.RowKit Go.Proofs.YtookjnpmbenheaaW.PrintWords Go.Proofs.YtookjnpmbenheaaW.PrintLast Go.Proofs.Ytookjnpmbenheaa.Base

theorem bad_f (c : Int) : solsticeref16_bad.f c = some (decide (¬ clear_ c)) := by
  unfold solsticeref16_bad.f
  by_cases h : c < 32
  · rw [if_pos h]
    by_cases h9 : c = 9
    · have e : clear_ c := .inr h9
      rw [if_pos h9, decide_eq_false (by simpa using e), h9]
      rfl
    · have e : ¬ clear_ c := by unfold clear_; omega
      rw [if_neg h9, decide_eq_true e]
  · rw [if_neg h]
    congr 1
    have e : ¬ clear_ c ↔ c = 127 := by unfold clear_; omega
    rw [Bool.eq_iff_iff, beq_iff_eq, decide_eq_true_iff, e]
theorem refput_L0 (s : ByteArray) (d : Nat) : ∀ (i : Int) (acc : List Int), 0 ≤ i → i + d = (s.size : Int) → acc.length + 2 * d < 140737488355328 → s.size < 140737488355328 →
    solsticeref16_Put.L0 s acc i = some (told acc (put (rest s i))) := by
  induction d with
  | zero =>
    intro i acc h0 h1 h2 h3
    rw [solsticeref16_Put.L0_eq, if_neg (by omega), rest_nil (by omega)]
    simp [put, told]
  | succ d ih =>
    intro i acc h0 h1 h2 h3
    have hw : wrap64 (i + 1) = i + 1 := wrap64_id (by omega) (by omega)
    rw [solsticeref16_Put.L0_eq, if_pos (by omega), if_pos h0, rest_cons h0 (by omega), hw]
    have hr := bt_range s i
    generalize bt s i = c at hr ⊢
    by_cases c10 : c = 10
    · rw [if_pos c10]
      simp only [bind_some_]
      rw [if_pos (by simp; omega), ih _ _ (by omega) (by omega) (by simp; omega) h3, put, if_pos c10, told_map]
    · rw [if_neg c10, bad_f]
      simp only [bind_some_]
      by_cases hp : clear_ c
      · rw [if_neg (by simpa using hp)]
        by_cases hk : sign c
        · have hg : (if acc.length + ([92, c] : List Int).length < 140737488355328 then solsticeref16_Put.L0 s (acc ++ [92, c]) (i + 1) else none) = some (told acc (put (c :: rest s (i + 1)))) := by
            rw [if_pos (by simp; omega), ih _ _ (by omega) (by omega) (by simp; omega) h3, put, if_neg c10, if_pos hp, if_pos hk, told_map]
          rcases hk with hk | hk | hk
          · rw [if_pos hk]; exact hg
          · rw [if_neg (by omega), if_pos hk]; exact hg
          · rw [if_neg (by omega), if_neg (by omega), if_pos hk]; exact hg
        · rw [if_neg (fun h => hk (.inl h)), if_neg (fun h => hk (.inr (.inl h))), if_neg (fun h => hk (.inr (.inr h))), if_pos (by omega), ih _ _ (by omega) (by omega) (by simp; omega) h3, put, if_neg c10, if_pos hp, if_neg hk, told_map]
      · rw [if_pos (by simpa using hp), put, if_neg c10, if_neg hp]
        rfl
theorem refput_F (s : ByteArray) (h : s.size ≤ 40000000000000) : solsticeref16_Put.F s = some (told [] (put (bytesOf s))) := by
  rw [solsticeref16_Put.F_eq, refput_L0 s s.size 0 [] (by omega) (by omega) (by simp; omega) (by omega), rest_zero]
theorem refget_L0 (s : ByteArray) (hs : s.size < 140737488355328) (d : Nat) : ∀ (i : Int) (acc : List Int), 0 ≤ i → i ≤ (s.size : Int) → (s.size : Int) - i ≤ d → acc.length + (s.size - i.toNat) < 140737488355328 →
    solsticeref16_Get.L0 s acc i = some (told acc (get (rest s i))) := by
  induction d with
  | zero =>
    intro i acc h0 h1 h2 h3
    rw [solsticeref16_Get.L0_eq, if_neg (by omega), rest_nil (by omega)]
    simp [get, told]
  | succ d ih =>
    intro i acc h0 h1 h2 h3
    by_cases hlt : i < (s.size : Int)
    · have hw : wrap64 (i + 1) = i + 1 := wrap64_id (by omega) (by omega)
      have hw2 : wrap64 (i + 1 + 1) = i + 1 + 1 := wrap64_id (by omega) (by omega)
      rw [solsticeref16_Get.L0_eq, if_pos hlt, if_pos h0, rest_cons h0 hlt, bad_f]
      simp only [bind_some_]
      by_cases h92 : bt s i = 92
      · rw [h92, if_neg (by decide), if_neg (by decide), show ((92 : Int) == 44) = false from rfl, solsticeref16_Get.J1_eq, if_neg (by decide), if_pos rfl, hw]
        by_cases h4 : i + 1 < (s.size : Int)
        · rw [if_neg (by omega), if_pos (by omega), if_pos h4, rest_cons (by omega) h4, get, if_pos rfl]
          have hr2 := bt_range s (i + 1)
          have hJ : solsticeref16_Get.J2 s acc (i + 1) (bt s (i + 1)) true = some (told acc ((get (rest s (i + 1 + 1))).map ([bt s (i + 1)] ++ ·))) := by
            rw [solsticeref16_Get.J2_eq, if_pos rfl, if_pos (by omega), if_pos h4, if_pos (by omega), hw2, ih _ _ (by omega) (by omega) (by omega) (by simp; omega), told_map]
          by_cases hm : sign (bt s (i + 1))
          · have hn : ¬ (bt s (i + 1) = 110 ∨ bt s (i + 1) = 78) := by unfold sign at hm; omega
            rw [if_neg hn, if_pos hm, ← hJ]
            rcases hm with hm | hm | hm
            · rw [if_pos hm, show (bt s (i + 1) == 92) = true from beq_iff_eq.2 hm]
            · rw [if_neg (by omega), if_pos hm, show (bt s (i + 1) == 59) = true from beq_iff_eq.2 hm]
            · rw [if_neg (by omega), if_neg (by omega), show (bt s (i + 1) == 44) = true from beq_iff_eq.2 hm]
          · have h44 : (bt s (i + 1) == 44) = false := beq_eq_false_iff_ne.2 (fun h => hm (.inr (.inr h)))
            rw [if_neg (c := bt s (i + 1) = 92) (fun h => hm (.inl h)), if_neg (c := bt s (i + 1) = 59) (fun h => hm (.inr (.inl h))), h44, solsticeref16_Get.J2_eq, if_neg (by decide), hw2]
            by_cases he : bt s (i + 1) = 110
            · rw [if_pos he, if_pos (show bt s (i + 1) = 110 ∨ bt s (i + 1) = 78 from .inl he), if_pos (by omega), ih _ _ (by omega) (by omega) (by omega) (by simp; omega), told_map]
            · by_cases he2 : bt s (i + 1) = 78
              · rw [if_neg he, if_pos he2, if_pos (show bt s (i + 1) = 110 ∨ bt s (i + 1) = 78 from .inr he2), if_pos (by omega), ih _ _ (by omega) (by omega) (by omega) (by simp; omega), told_map]
              · rw [if_neg he, if_neg he2, if_neg (show ¬ (bt s (i + 1) = 110 ∨ bt s (i + 1) = 78) by omega), if_neg hm]
                rfl
        · rw [if_pos (by omega), rest_nil (by omega), get, if_pos rfl]
          rfl
      · rw [get_plain h92]
        by_cases hp : clear_ (bt s i)
        · rw [if_neg (by simpa using hp)]
          by_cases h59 : bt s i = 59
          · rw [if_pos h59, solsticeref16_Get.J1_eq, if_pos rfl, if_neg (fun h => h.2 (.inr (.inl h59)))]
            rfl
          · rw [if_neg h59]
            by_cases h44 : bt s i = 44
            · rw [show (bt s i == 44) = true from beq_iff_eq.2 h44, solsticeref16_Get.J1_eq, if_pos rfl, if_neg (fun h => h.2 (.inr (.inr h44)))]
              rfl
            · have hk : ¬ sign (bt s i) := by unfold sign; omega
              rw [show (bt s i == 44) = false from beq_eq_false_iff_ne.2 h44, solsticeref16_Get.J1_eq, if_neg (by decide), if_neg h92, if_pos (by omega), hw, if_pos ⟨hp, hk⟩, ih _ _ (by omega) (by omega) (by omega) (by simp; omega), told_map]
        · rw [if_pos (by simpa using hp), solsticeref16_Get.J1_eq, if_pos rfl, if_neg (fun h => hp h.1)]
          rfl
    · rw [solsticeref16_Get.L0_eq, if_neg hlt, rest_nil (by omega)]
      simp [get, told]
theorem refget_F (s : ByteArray) (h : s.size ≤ 40000000000000) : solsticeref16_Get.F s = some (told [] (get (bytesOf s))) := by
  rw [solsticeref16_Get.F_eq, refget_L0 s (by omega) s.size 0 [] (by omega) (by omega) (by omega) (by simp; omega), rest_zero]
theorem pieces_L0 (s : ByteArray) (hs : s.size ≤ 4000000000000) (d : Nat) : ∀ (i a : Int) (acc : List ByteArray), 0 ≤ a → a ≤ i → a ≤ (s.size : Int) → i ≤ (s.size : Int) + 1 → (s.size : Int) + 1 - i ≤ d → acc.length + (s.size + 1 - i.toNat) < 8796093022200 →
    solsticeref16_Pieces.L0 s acc a i = some (acc ++ (cuts (seg s a i) (rest s i)).map strOfNums) := by
  induction d with
  | zero =>
    intro i a acc h0 h1 h2 h3 h4 h5
    rw [solsticeref16_Pieces.L0_eq, if_neg (by omega), if_pos h0, if_pos h2, if_pos (by omega), rest_nil (by omega), seg_all (by omega), cuts, rest_extract]
    rfl
  | succ d ih =>
    intro i a acc h0 h1 h2 h3 h4 h5
    by_cases hlt : i < (s.size : Int)
    · have hw : wrap64 (i + 1) = i + 1 := wrap64_id (by omega) (by omega)
      have hw2 : wrap64 (i + 1 + 1) = i + 1 + 1 := wrap64_id (by omega) (by omega)
      rw [solsticeref16_Pieces.L0_eq, if_pos hlt, if_pos (by omega), hw, hw2, rest_cons (by omega) hlt]
      have hsn := seg_snoc h0 h1 hlt
      by_cases h92 : bt s i = 92
      · rw [if_pos h92, ih _ _ _ h0 (by omega) h2 (by omega) (by omega) (by omega), h92]
        rw [h92] at hsn
        by_cases h6 : i + 1 < (s.size : Int)
        · rw [rest_cons (by omega) h6, cuts, if_pos rfl, seg_snoc h0 (by omega) h6, hsn, List.append_assoc]
          rfl
        · rw [rest_nil (by omega), rest_nil (by omega), cuts, cuts, if_neg (by decide), seg_all (by omega), ← hsn, seg_all (by omega)]
      · rw [if_neg h92]
        by_cases h44 : bt s i = 44
        · rw [if_pos h44, if_pos h0, if_pos h1, if_pos (by omega), if_pos (by omega), ih _ _ _ (by omega) (by omega) (by omega) (by omega) (by omega) (by simp; omega), h44, cuts_comma, seg_self, seg_extract, List.append_assoc]
          rfl
        · rw [if_neg h44, ih _ _ _ h0 (by omega) h2 (by omega) (by omega) (by omega), cuts_plain h92 h44, hsn]
    · rw [solsticeref16_Pieces.L0_eq, if_neg hlt, if_pos h0, if_pos h2, if_pos (by omega), rest_nil (by omega), seg_all (by omega), cuts, rest_extract]
      rfl
theorem pieces_F (s : ByteArray) (hs : s.size ≤ 4000000000000) : solsticeref16_Pieces.F s = some ((cuts [] (bytesOf s)).map strOfNums) := by
  rw [solsticeref16_Pieces.F_eq, pieces_L0 s hs (s.size + 1) 0 0 [] (by omega) (by omega) (by omega) (by omega) (by omega) (by simp; omega), rest_zero, seg_self]
  rfl
theorem puts_append (a b : List (List Int)) : puts (a ++ b) = (puts a).bind fun x => (puts b).map (x ++ ·) := by
  induction a with
  | nil => simp [puts]
  | cons p t ih =>
    rw [List.cons_append, puts, puts, ih]
    cases put p <;> cases puts t <;> cases puts b <;> simp
theorem gets_append (a b : List (List Int)) : gets (a ++ b) = (gets a).bind fun x => (gets b).map (x ++ ·) := by
  induction a with
  | nil => simp [gets]
  | cons p t ih =>
    rw [List.cons_append, gets, gets, ih]
    cases get p <;> cases gets t <;> cases gets b <;> simp
theorem gets_length : ∀ {l r : List (List Int)}, gets l = some r → r.length = l.length
  | [], r, h => by cases h; rfl
  | p :: t, r, h => by
    unfold gets at h
    obtain ⟨x, hx, h⟩ := Option.bind_eq_some_iff.1 h
    obtain ⟨q, hq, rfl⟩ := Option.map_eq_some_iff.1 h
    simp [gets_length hq]
theorem cuts_bytes : ∀ (l cur : List Int), Bytes cur → Bytes l → (∀ p ∈ cuts cur l, Bytes p) ∧ (∀ p ∈ cuts cur l, p.length ≤ cur.length + l.length) ∧ (cuts cur l).length ≤ l.length + 1
  | [], cur, hc, _ => by
    rw [cuts]
    refine ⟨fun p hp => ?_, fun p hp => ?_, by simp⟩ <;> (rw [List.mem_singleton] at hp; subst hp)
    · exact hc
    · simp
  | [c], cur, hc, hl => by
    by_cases h : c = 44
    · rw [cuts, if_pos h]
      refine ⟨fun p hp => ?_, fun p hp => ?_, by simp⟩ <;> (simp only [List.mem_cons, List.not_mem_nil, or_false] at hp; rcases hp with rfl | rfl)
      · exact hc
      · exact Bytes.nil
      · simp
      · simp
    · rw [cuts, if_neg h]
      refine ⟨fun p hp => ?_, fun p hp => ?_, by simp⟩ <;> (rw [List.mem_singleton] at hp; subst hp)
      · exact Bytes.app hc hl
      · simp
  | c :: d :: t, cur, hc, hl => by
    by_cases h : c = 92
    · obtain ⟨h1, h2, h3⟩ := cuts_bytes t (cur ++ [92, d]) (Bytes.app hc (Bytes.cons (by omega) (by omega) (Bytes.cons hl.tail.head.1 hl.tail.head.2 Bytes.nil))) hl.tail.tail
      rw [cuts, if_pos h]
      refine ⟨h1, fun p hp => ?_, by simp at h3 ⊢; omega⟩
      have := h2 p hp
      simp at this ⊢
      omega
    · by_cases h2 : c = 44
      · subst h2
        obtain ⟨h1, h3, h4⟩ := cuts_bytes (d :: t) [] Bytes.nil hl.tail
        rw [cuts_comma]
        refine ⟨fun p hp => ?_, fun p hp => ?_, by simp at h4 ⊢; omega⟩
        · rcases List.mem_cons.1 hp with rfl | hp
          · exact hc
          · exact h1 p hp
        · rcases List.mem_cons.1 hp with rfl | hp
          · simp
          · have := h3 p hp
            simp at this ⊢
            omega
      · obtain ⟨h1, h3, h4⟩ := cuts_bytes (d :: t) (cur ++ [c]) (Bytes.app hc (Bytes.cons hl.head.1 hl.head.2 Bytes.nil)) hl.tail
        rw [cuts_plain h h2]
        refine ⟨h1, fun p hp => ?_, by simp at h4 ⊢; omega⟩
        have := h3 p hp
        simp at this ⊢
        omega
end Go.Proofs.Ytookjnpmbenheaa.PEsc
