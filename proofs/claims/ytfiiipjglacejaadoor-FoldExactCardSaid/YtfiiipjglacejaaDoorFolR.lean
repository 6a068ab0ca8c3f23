/- Lines folded and unfolded by the page: the same. No condition. -/
import Derived.Test.YtfiiipjglacejaaDoorFolD
import Derived.Test.YtfiiipjglacejaaDoorEFolx4
import Derived.Test.YtfiiipjglacejaaDoorEFolx3
namespace Go.Proofs.YtfiiipjglacejaaDoor.Base
open Go.RowKit Go.Proofs.YtfiiipjglacejaaDoor.PFol Go.Proofs.YtfiiipjglacejaaDoorW.PrintWords Go.Proofs.YtfiiipjglacejaaDoorW.PrintLast Go.Proofs.YtfiiipjglacejaaDoorW.PrintMore
set_option linter.unusedVariables false
set_option linter.unusedSimpArgs false

theorem goes_eq (c : Int) : solsticeref16_goesOn.f c = some (onB c) := by
  unfold solsticeref16_goesOn.f onB
  by_cases h : c ≥ 128
  · rw [if_pos h, decide_eq_true (show 128 ≤ c from h), Bool.true_and]
    congr 1
    rw [decide_eq_decide]
    omega
  · rw [if_neg h, decide_eq_false (show ¬ 128 ≤ c from h), Bool.false_and]
/-! The page's lines of a text -/
theorem cl_count : ∀ l : List Int, cl l ≤ l.count 13
  | [] => Nat.le_refl _
  | c :: t => by
    have ih := cl_count t
    unfold cl
    split
    · rename_i h
      rw [h.1, List.count_cons_self]
      omega
    · rw [List.count_cons]
      omega
/-- Every 0D has a 0A behind it. -/
def Good (l : List Int) : Prop := l.count 13 = cl l
instance (l : List Int) : Decidable (Good l) := inferInstanceAs (Decidable (_ = _))
theorem good_cons {c : Int} {t : List Int} (h : c ≠ 13) : Good (c :: t) ↔ Good t := by
  unfold Good
  rw [List.count_cons_of_ne h]
  show t.count 13 = (if c = 13 ∧ t.head? = some 10 then cl t + 1 else cl t) ↔ _
  rw [if_neg (fun h' => h h'.1)]
theorem good_13 {t : List Int} : Good (13 :: t) ↔ t.head? = some 10 ∧ Good t := by
  have hc := cl_count t
  unfold Good
  rw [List.count_cons_self]
  show t.count 13 + 1 = (if (13 : Int) = 13 ∧ t.head? = some 10 then cl t + 1 else cl t) ↔ _
  by_cases h : t.head? = some 10
  · rw [if_pos ⟨rfl, h⟩]
    exact ⟨fun h' => ⟨h, by omega⟩, fun h' => by have := h'.2; omega⟩
  · rw [if_neg (fun h' => h h'.2)]
    exact ⟨fun h' => by omega, fun h' => absurd h'.1 h⟩
theorem refunf_L0 (s : ByteArray) (hs : s.size ≤ 1000000) : ∀ (n : Nat) (i : Int), n = s.size - i.toNat → 0 ≤ i → i ≤ (s.size : Int) →
    solsticeref16_Unfold.L0 s i = if Good (rest s i) then solsticeref16_Unfold.L1 s [] [] false 0 else some (([] : List ByteArray), 18) := by
  intro n
  induction n with
  | zero =>
    intro i hn h0 h1
    rw [solsticeref16_Unfold.L0_eq, if_neg (by omega), rest_nil (by omega), if_pos (show Good [] from rfl)]
  | succ n ih =>
    intro i hn h0 h1
    have hlt : i < (s.size : Int) := by omega
    have hi := ih (i + 1) (by omega) (by omega) (by omega)
    rw [solsticeref16_Unfold.L0_eq, if_pos hlt, if_pos h0, wrap64_id (n := i + 1) (by omega) (by omega), rest_cons h0 hlt, hi]
    by_cases c : bt s i = 13
    · rw [if_pos c, c]
      by_cases e : i + 1 = (s.size : Int)
      · rw [if_pos e, rest_nil (by omega), if_neg (by decide)]
      · have hr := rest_cons (s := s) (i := i + 1) (by omega) (by omega)
        rw [if_neg e, if_pos (by omega), if_pos (by omega)]
        by_cases c2 : bt s (i + 1) = 10
        · rw [if_pos c2]
          by_cases g : Good (rest s (i + 1))
          · rw [if_pos g, if_pos (good_13.2 ⟨by rw [hr, c2]; rfl, g⟩)]
          · rw [if_neg g, if_neg (fun h => g (good_13.1 h).2)]
        · rw [if_neg c2, if_neg (fun h => by
            have := (good_13.1 h).1
            rw [hr, List.head?_cons] at this
            exact c2 (Option.some.inj this))]
    · rw [if_neg c]
      by_cases g : Good (rest s (i + 1))
      · rw [if_pos g, if_pos ((good_cons c).2 g)]
      · rw [if_neg g, if_neg (fun h => g ((good_cons c).1 h))]
theorem dropE_cons {x : List Int} {L : List (List Int)} (h : L ≠ []) : dropE (x :: L) = x :: dropE L := by
  unfold dropE
  obtain ⟨A, z, rfl⟩ : ∃ A z, L = A ++ [z] := ⟨L.dropLast, L.getLast h, (List.dropLast_concat_getLast h).symm⟩
  have e1 : (x :: (A ++ [z])).getLast? = some z := by rw [← List.cons_append, List.getLast?_concat]
  have e2 : (A ++ [z]).getLast? = some z := List.getLast?_concat
  rw [e1, e2]
  by_cases hz : z = []
  · rw [if_pos (by rw [hz]), if_pos (by rw [hz]), ← List.cons_append, List.dropLast_concat, List.dropLast_concat]
  · rw [if_neg (by simpa using hz), if_neg (by simpa using hz)]
theorem blk_rp {T : List Int} (h : Good T) : blk (rp T).head? ↔ blk T.head? := by
  cases T with
  | nil => exact Iff.rfl
  | cons c T =>
    by_cases hc : c = 13
    · subst hc
      have h10 := (good_13.1 h).1
      have e : rp (13 :: T) = rp T := by
        show (if (13 : Int) = 13 ∧ T.head? = some 10 then rp T else _) = _
        rw [if_pos ⟨rfl, h10⟩]
      have e2 : (rp T).head? = some 10 := by rw [rp_head (by rw [h10]; decide), h10]
      rw [e, e2, List.head?_cons]
      unfold blk
      simp
    · have e := rp_head (T := c :: T) (by rw [List.head?_cons]; simpa using hc)
      rw [e]
/-- What is left of a text, behind a begun line. -/
def lin (line : List Int) (T : List Int) : List (List Int) := dropE (spl 10 (line ++ ub (rp T)))
theorem lin_chr {line T : List Int} {c : Int} (h1 : c ≠ 10) (h2 : c ≠ 13) : lin line (c :: T) = lin (line ++ [c]) T := by
  have e : rp (c :: T) = c :: rp T := by
    show (if c = 13 ∧ _ then _ else _) = _
    rw [if_neg (fun h => h2 h.1)]
  unfold lin
  rw [e, ub_put (fun h => h1 h.1), List.append_assoc]
  rfl
theorem lin_lf {line T : List Int} : lin line (13 :: 10 :: T) = lin line (10 :: T) := by
  unfold lin
  rw [(cl_crlf T).2.1, (cl_lf T).2.1]
theorem lin_fold {line T : List Int} {b : Int} (hb : b = 32 ∨ b = 9) : lin line (10 :: b :: T) = lin line T := by
  have d := (cl_put (A := [b]) (T := T) ⟨by rcases hb with rfl | rfl <;> decide, by rcases hb with rfl | rfl <;> decide⟩).2.1
  rw [List.singleton_append, List.singleton_append] at d
  unfold lin
  rw [(cl_lf _).2.1, d, ub_skip hb]
theorem lin_end {line T : List Int} (hl : (10 : Int) ∉ line) (hg : Good T) (hb : ¬ blk T.head?) : lin line (10 :: T) = line :: lin [] T := by
  unfold lin
  rw [(cl_lf T).2.1, ub_put (fun h => hb ((blk_rp hg).1 h.2)), spl_hit (fun x hx (e : x = 10) => hl (by rw [← e]; exact hx)), dropE_cons (spl_ne 10 _), List.nil_append]
theorem lin_nil (line : List Int) (hl : (10 : Int) ∉ line) : lin line [] = if line = [] then [] else [line] := by
  unfold lin
  show dropE (spl 10 (line ++ [])) = _
  rw [List.append_nil, spl_no (fun x hx (e : x = 10) => hl (by rw [← e]; exact hx))]
  unfold dropE
  by_cases h : line = []
  · rw [h]; rfl
  · rw [if_neg (by simpa using h), if_neg h]
theorem refunf_L1 (s : ByteArray) (hs : s.size ≤ 1000000) : ∀ (n : Nat) (i : Int) (acc : List ByteArray) (line : List Int) (o : Bool), (rest s i).length ≤ n → 0 ≤ i → i ≤ (s.size : Int) → Good (rest s i) → (10 : Int) ∉ line → (line ≠ [] → o = true) → acc.length + (rest s i).length ≤ 2000000 → line.length + (rest s i).length ≤ 2000000 →
    solsticeref16_Unfold.L1 s acc line o i = some (acc ++ (lin line (rest s i)).map strOfNums, 0) := by
  intro n
  induction n with
  | zero =>
    intro i acc line o hn h0 h1 hg hl ho ha hb
    have hz := rest_length s i
    have hnil : rest s i = [] := List.eq_nil_of_length_eq_zero (by omega)
    rw [solsticeref16_Unfold.L1_eq, if_neg (by omega), hnil, lin_nil line hl]
    by_cases h : line = []
    · subst h
      rw [if_pos rfl, List.map_nil, List.append_nil, if_neg (show ¬ ((([] : List Int).length : Int) > 0) by simp)]
      split <;> rfl
    · have hp : 0 < line.length := List.length_pos_iff.2 h
      rw [if_pos (ho h), if_pos (by omega), if_pos (by omega), if_neg h]
      rfl
  | succ n ih =>
    intro i acc line o hn h0 h1 hg hl ho ha hb
    have hz := rest_length s i
    by_cases hlt : i < (s.size : Int)
    · have hr := rest_cons h0 hlt
      have hz1 := rest_length s (i + 1)
      have w1 : wrap64 (i + 1) = i + 1 := wrap64_id (by omega) (by omega)
      rw [solsticeref16_Unfold.L1_eq, if_pos hlt, if_pos h0]
      by_cases c13 : bt s i = 13
      · -- 0D 0A
        rw [hr, c13] at hg
        obtain ⟨g1, g2⟩ := good_13.1 hg
        have hlt1 : i + 1 < (s.size : Int) := by
          rcases Int.lt_or_le (i + 1) (s.size : Int) with h' | h'
          · exact h'
          · rw [rest_nil h'] at g1; cases g1
        have hr1 := rest_cons (s := s) (i := i + 1) (by omega) hlt1
        have c10 : bt s (i + 1) = 10 := by rw [hr1, List.head?_cons] at g1; exact Option.some.inj g1
        have hz2 := rest_length s (i + 1 + 1)
        have w2 : wrap64 (i + 1 + 1) = i + 1 + 1 := wrap64_id (by omega) (by omega)
        have w3 : wrap64 (i + 1 + 1 + 1) = i + 1 + 1 + 1 := wrap64_id (by omega) (by omega)
        rw [hr1, c10] at g2
        have g3 := (good_cons (by decide)).1 g2
        rw [if_pos c13, c13, solsticeref16_Unfold.J2_eq, if_neg (by simp), if_pos rfl, w1, w2, w3, hr, c13, hr1, c10, lin_lf]
        have stop : ¬ blk (rest s (i + 1 + 1)).head? → solsticeref16_Unfold.L1 s (acc ++ [strOfNums line]) [] false (i + 1 + 1) = some (acc ++ (lin line (10 :: rest s (i + 1 + 1))).map strOfNums, 0) := by
          intro hnb
          rw [ih (i + 1 + 1) _ [] false (by omega) (by omega) (by omega) g3 (by simp) (fun h => absurd rfl h) (by rw [List.length_append, List.length_singleton]; omega) (by simp; omega), lin_end hl g3 hnb, List.map_cons, List.append_assoc]
          rfl
        by_cases hlt2 : i + 1 + 1 < (s.size : Int)
        · have hr2 := rest_cons (s := s) (i := i + 1 + 1) (by omega) hlt2
          have hz3 := rest_length s (i + 1 + 1 + 1)
          rw [if_pos hlt2, if_pos (by omega)]
          have go : (bt s (i + 1 + 1) = 32 ∨ bt s (i + 1 + 1) = 9) → solsticeref16_Unfold.L1 s acc line true (i + 1 + 1 + 1) = some (acc ++ (lin line (10 :: rest s (i + 1 + 1))).map strOfNums, 0) := by
            intro hbk
            rw [hr2] at g3
            have g4 := (good_cons (by rcases hbk with h | h <;> omega)).1 g3
            rw [ih (i + 1 + 1 + 1) acc line true (by omega) (by omega) (by omega) g4 hl (fun _ => rfl) (by omega) (by omega), hr2, lin_fold hbk]
          by_cases b1 : bt s (i + 1 + 1) = 32
          · rw [if_pos b1]
            exact go (Or.inl b1)
          · rw [if_neg b1]
            by_cases b2 : bt s (i + 1 + 1) = 9
            · rw [if_pos b2]
              exact go (Or.inr b2)
            · rw [if_neg b2, if_pos (by omega)]
              refine stop (fun h => ?_)
              rw [hr2, List.head?_cons] at h
              rcases h with e | e
              · exact b1 (Option.some.inj e)
              · exact b2 (Option.some.inj e)
        · rw [if_neg hlt2, if_pos (by omega)]
          refine stop (fun h => ?_)
          rw [rest_nil (by omega)] at h
          rcases h with e | e <;> cases e
      · rw [if_neg c13]
        rw [hr] at hg
        have g2 := (good_cons c13).1 hg
        by_cases c10 : bt s i = 10
        · have w2 : wrap64 (i + 1 + 1) = i + 1 + 1 := wrap64_id (by omega) (by omega)
          rw [c10, show ((10 : Int) != 10) = false from rfl, solsticeref16_Unfold.J2_eq, if_neg (by simp), if_neg (by omega), w1, w2, hr, c10]
          have stop : ¬ blk (rest s (i + 1)).head? → solsticeref16_Unfold.L1 s (acc ++ [strOfNums line]) [] false (i + 1) = some (acc ++ (lin line (10 :: rest s (i + 1))).map strOfNums, 0) := by
            intro hnb
            rw [ih (i + 1) _ [] false (by omega) (by omega) (by omega) g2 (by simp) (fun h => absurd rfl h) (by rw [List.length_append, List.length_singleton]; omega) (by simp; omega), lin_end hl g2 hnb, List.map_cons, List.append_assoc]
            rfl
          by_cases hlt2 : i + 1 < (s.size : Int)
          · have hr2 := rest_cons (s := s) (i := i + 1) (by omega) hlt2
            have hz3 := rest_length s (i + 1 + 1)
            rw [if_pos hlt2, if_pos (by omega)]
            have go : (bt s (i + 1) = 32 ∨ bt s (i + 1) = 9) → solsticeref16_Unfold.L1 s acc line true (i + 1 + 1) = some (acc ++ (lin line (10 :: rest s (i + 1))).map strOfNums, 0) := by
              intro hbk
              rw [hr2] at g2
              have g4 := (good_cons (by rcases hbk with h | h <;> omega)).1 g2
              rw [ih (i + 1 + 1) acc line true (by omega) (by omega) (by omega) g4 hl (fun _ => rfl) (by omega) (by omega), hr2, lin_fold hbk]
            by_cases b1 : bt s (i + 1) = 32
            · rw [if_pos b1]
              exact go (Or.inl b1)
            · rw [if_neg b1]
              by_cases b2 : bt s (i + 1) = 9
              · rw [if_pos b2]
                exact go (Or.inr b2)
              · rw [if_neg b2, if_pos (by omega)]
                refine stop (fun h => ?_)
                rw [hr2, List.head?_cons] at h
                rcases h with e | e
                · exact b1 (Option.some.inj e)
                · exact b2 (Option.some.inj e)
          · rw [if_neg hlt2, if_pos (by omega)]
            refine stop (fun h => ?_)
            rw [rest_nil (by omega)] at h
            rcases h with e | e <;> cases e
        · have hne : (bt s i != 10) = true := by simpa using c10
          rw [hne, solsticeref16_Unfold.J2_eq, if_pos rfl, if_pos (by omega), w1, hr, lin_chr c10 c13]
          refine ih (i + 1) acc (line ++ [bt s i]) true (by omega) (by omega) (by omega) g2 (fun h => ?_) (fun _ => rfl) (by omega) (by rw [List.length_append, List.length_singleton]; omega)
          rcases List.mem_append.1 h with h | h
          · exact hl h
          · exact c10 (List.mem_singleton.1 h).symm
    · have hnil : rest s i = [] := rest_nil (by omega)
      have := ih i acc line o (by rw [hnil]; simp) h0 h1 hg hl ho ha hb
      exact this
theorem refunf_eq (s : ByteArray) (hs : s.size ≤ 600000) : solsticeref16_Unfold.F s = some (encU (unfS (bytesOf s))) := by
  have hz := bytesOf_length s
  rw [solsticeref16_Unfold.F_eq, if_neg (by omega), refunf_L0 s (by omega) _ 0 rfl (by omega) (by omega), rest_zero]
  unfold unfS
  by_cases h : (bytesOf s).count 13 = cl (bytesOf s)
  · have h1 := refunf_L1 s (by omega) _ 0 [] [] false (Nat.le_refl _) (by omega) (by omega) h (by simp) (fun h => absurd rfl h) (by rw [rest_zero]; simp; omega) (by rw [rest_zero]; simp; omega)
    rw [if_pos h, if_pos (show Good (bytesOf s) from h), h1, rest_zero, List.nil_append]
    rfl
  · rw [if_neg h, if_neg (show ¬ Good (bytesOf s) from h)]
    rfl
end Go.Proofs.YtfiiipjglacejaaDoor.Base
