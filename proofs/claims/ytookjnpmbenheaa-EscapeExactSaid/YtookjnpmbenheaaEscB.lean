/- What escape.Get, List and Unlist of the program tell, as lists of bytes. Conditions: the texts' lengths, as the lemmas say. -/
import Derived.Test.YtookjnpmbenheaaEscA
import Derived.Test.YtookjnpmbenheaaEEscx1
import Derived.Test.YtookjnpmbenheaaEEscx2
import Derived.Test.YtookjnpmbenheaaPEscx1
namespace Go.Proofs.Ytookjnpmbenheaa.PEsc
open Go.RowKit Go.Proofs.YtookjnpmbenheaaW.PrintWords Go.Proofs.YtookjnpmbenheaaW.PrintLast Go.Proofs.Ytookjnpmbenheaa.Base

/-- What is got. -/
def get : List Int → Option (List Int)
  | [] => some []
  | [c] => if c = 92 then none else if clear_ c ∧ ¬ sign c then some [c] else none
  | c :: d :: t => if c = 92 then (if d = 110 ∨ d = 78 then (get t).map ([10] ++ ·) else if sign d then (get t).map ([d] ++ ·) else none) else if clear_ c ∧ ¬ sign c then (get (d :: t)).map ([c] ++ ·) else none
theorem get_one (c : Int) : get [c] = if c = 92 then none else if clear_ c ∧ ¬ sign c then some [c] else none := by rw [get]
theorem get_plain {c : Int} (h : c ≠ 92) (t : List Int) : get (c :: t) = if clear_ c ∧ ¬ sign c then (get t).map ([c] ++ ·) else none := by
  cases t with
  | nil =>
    rw [get_one, if_neg h]
    rfl
  | cons d t => rw [get, if_neg h]
theorem behind_f (d : Int) (h0 : 0 ≤ d) (h1 : d ≤ 255) : escape_behind.f d = some (if d = 110 ∨ d = 78 then 10 else d, decide ((d = 110 ∨ d = 78) ∨ sign d)) := by
  unfold escape_behind.f
  obtain ⟨v, hv, hm⟩ := mark_f d h0 h1
  by_cases h : d = 110
  · rw [if_pos h, if_pos (.inl h), decide_eq_true (.inl (.inl h))]
  · rw [if_neg h]
    by_cases h2 : d = 78
    · rw [if_pos h2, if_pos (.inr h2), decide_eq_true (.inl (.inr h2))]
    · rw [if_neg h2, if_neg (by omega), hv]
      simp only [bind_some_]
      congr 2
      rw [decide_eq_decide, hm]
      constructor
      · exact fun h => .inr h
      · rintro ((h3 | h3) | h3)
        · exact absurd h3 h
        · exact absurd h3 h2
        · exact h3
theorem get_L0 (s : ByteArray) (hs : s.size < 140737488355328) (d : Nat) : ∀ (i : Int) (acc : List Int), 0 ≤ i → i ≤ (s.size : Int) → (s.size : Int) - i ≤ d → acc.length + (s.size - i.toNat) < 140737488355328 →
    escape_Get.L0 s acc i = some (told acc (get (rest s i))) := by
  induction d with
  | zero =>
    intro i acc h0 h1 h2 h3
    rw [escape_Get.L0_eq, if_neg (by omega), rest_nil (by omega)]
    simp [get, told]
  | succ d ih =>
    intro i acc h0 h1 h2 h3
    by_cases hlt : i < (s.size : Int)
    · have hw : wrap64 (i + 1) = i + 1 := wrap64_id (by omega) (by omega)
      have hw2 : wrap64 (i + 1 + 1) = i + 1 + 1 := wrap64_id (by omega) (by omega)
      rw [escape_Get.L0_eq, if_pos hlt, if_pos h0, rest_cons h0 hlt, hw]
      have hr := bt_range s i
      by_cases h92 : bt s i = 92
      · rw [if_pos h92, escape_Get.J1_eq]
        by_cases h4 : i + 1 < (s.size : Int)
        · rw [if_pos (decide_eq_true h4), hw, if_pos (by omega), if_pos h4, hw2, rest_cons (by omega) h4, h92, get, if_pos rfl]
          have hr2 := bt_range s (i + 1)
          generalize bt s (i + 1) = e at hr2 ⊢
          rw [behind_f e hr2.1 hr2.2]
          simp only [bind_some_]
          by_cases he : e = 110 ∨ e = 78
          · rw [if_pos (decide_eq_true (.inl he)), if_pos he, if_pos he, if_pos (by omega), ih _ _ (by omega) (by omega) (by omega) (by simp; omega), told_map]
          · by_cases hm : sign e
            · rw [if_pos (decide_eq_true (.inr hm)), if_neg he, if_neg he, if_pos hm, if_pos (by omega), ih _ _ (by omega) (by omega) (by omega) (by simp; omega), told_map]
            · rw [if_neg (by simp [he, hm]), if_neg he, if_neg hm]
              rfl
        · rw [if_neg (by simpa using h4), if_pos h92, escape_Get.J2_eq, if_pos rfl, rest_nil (by omega), h92, get, if_pos rfl]
          rfl
      · rw [if_neg h92, escape_Get.J1_eq, if_neg (by decide), if_neg h92, get_plain h92]
        generalize bt s i = c at hr h92 ⊢
        obtain ⟨v, hv, hm⟩ := mark_f c hr.1 hr.2
        rw [plain_f]
        simp only [bind_some_]
        by_cases hp : clear_ c
        · rw [if_pos (decide_eq_true hp), hv]
          simp only [bind_some_]
          rw [escape_Get.J2_eq]
          by_cases hk : sign c
          · rw [if_pos (decide_eq_true (hm.2 hk)), if_neg (fun h => h.2 hk)]
            rfl
          · rw [if_neg (by simpa using fun h => hk (hm.1 h)), if_pos rfl, if_pos (by omega), hw, if_pos ⟨hp, hk⟩, ih _ _ (by omega) (by omega) (by omega) (by simp; omega), told_map]
        · rw [if_neg (by simpa using hp), escape_Get.J2_eq, if_pos rfl, if_neg (fun h => hp h.1)]
          rfl
    · rw [escape_Get.L0_eq, if_neg hlt, rest_nil (by omega)]
      simp [get, told]
theorem get_F (s : ByteArray) (h : s.size ≤ 40000000000000) : escape_Get.F s = some (told [] (get (bytesOf s))) := by
  rw [escape_Get.F_eq, get_L0 s (by omega) s.size 0 [] (by omega) (by omega) (by omega) (by simp; omega), rest_zero]
theorem get_both : ∀ {l r : List Int}, get l = some r → (Bytes l → Bytes r) ∧ r.length ≤ l.length ∧ ∃ q, put r = some q
  | [], r, h => by cases h; exact ⟨fun h => h, Nat.le_refl _, [], rfl⟩
  | [c], r, h => by
    unfold get at h
    split at h
    · cases h
    · split at h
      · rename_i hp
        cases h
        refine ⟨fun h => h, Nat.le_refl _, [c], ?_⟩
        have h10 : c ≠ 10 := by have := hp.1; unfold clear_ at this; omega
        rw [put, if_neg h10, if_pos hp.1, if_neg hp.2]
        rfl
      · cases h
  | c :: d :: t, r, h => by
    unfold get at h
    split at h
    · split at h
      · obtain ⟨q, hq, rfl⟩ := Option.map_eq_some_iff.1 h
        obtain ⟨h1, h2, p, hp⟩ := get_both hq
        refine ⟨fun hb => Bytes.cons (by omega) (by omega) (h1 hb.tail.tail), by simp; omega, [92, 110] ++ p, ?_⟩
        show put (10 :: q) = _
        rw [put, if_pos rfl, hp]
        rfl
      · split at h
        · rename_i hs
          obtain ⟨q, hq, rfl⟩ := Option.map_eq_some_iff.1 h
          obtain ⟨h1, h2, p, hp⟩ := get_both hq
          refine ⟨fun hb => Bytes.cons hb.tail.head.1 hb.tail.head.2 (h1 hb.tail.tail), by simp; omega, [92, d] ++ p, ?_⟩
          show put (d :: q) = _
          have h10 : d ≠ 10 := by unfold sign at hs; omega
          have hc : clear_ d := by unfold sign at hs; unfold clear_; omega
          rw [put, if_neg h10, if_pos hc, if_pos hs, hp]
          rfl
        · cases h
    · split at h
      · rename_i hp
        obtain ⟨q, hq, rfl⟩ := Option.map_eq_some_iff.1 h
        obtain ⟨h1, h2, p, hpp⟩ := get_both hq
        refine ⟨fun hb => Bytes.cons hb.head.1 hb.head.2 (h1 hb.tail), by simp at h2 ⊢; omega, [c] ++ p, ?_⟩
        show put (c :: q) = _
        have h10 : c ≠ 10 := by have := hp.1; unfold clear_ at this; omega
        rw [put, if_neg h10, if_pos hp.1, if_neg hp.2, hpp]
        rfl
      · cases h
theorem get_put : ∀ {l r : List Int}, put l = some r → get r = some l
  | [], r, h => by cases h; rfl
  | c :: t, r, h => by
    unfold put at h
    split at h
    · rename_i h10
      obtain ⟨q, hq, rfl⟩ := Option.map_eq_some_iff.1 h
      show get (92 :: 110 :: q) = _
      rw [get, if_pos rfl, if_pos (.inl rfl), get_put hq, h10]
      rfl
    · rename_i h10
      split at h
      · rename_i hp
        split at h
        · rename_i hm
          obtain ⟨q, hq, rfl⟩ := Option.map_eq_some_iff.1 h
          show get (92 :: c :: q) = _
          have hc : ¬ (c = 110 ∨ c = 78) := by unfold sign at hm; omega
          rw [get, if_pos rfl, if_neg hc, if_pos hm, get_put hq]
          rfl
        · rename_i hm
          obtain ⟨q, hq, rfl⟩ := Option.map_eq_some_iff.1 h
          show get (c :: q) = _
          have hc : c ≠ 92 := by unfold sign at hm; omega
          rw [get_plain hc, if_pos ⟨hp, hm⟩, get_put hq]
          rfl
      · cases h

/-! The pieces between commas. -/
def cuts : List Int → List Int → List (List Int)
  | cur, [] => [cur]
  | cur, [c] => if c = 44 then [cur, []] else [cur ++ [c]]
  | cur, c :: d :: t => if c = 92 then cuts (cur ++ [92, d]) t else if c = 44 then cur :: cuts [] (d :: t) else cuts (cur ++ [c]) (d :: t)
theorem cuts_one (cur : List Int) (c : Int) : cuts cur [c] = if c = 44 then [cur, []] else [cur ++ [c]] := by rw [cuts]
theorem cuts_nil (cur : List Int) : cuts cur [] = [cur] := by rw [cuts]
theorem cuts_plain {c : Int} (h : c ≠ 92) (h2 : c ≠ 44) (cur t : List Int) : cuts cur (c :: t) = cuts (cur ++ [c]) t := by
  cases t with
  | nil => rw [cuts_one, if_neg h2, cuts_nil]
  | cons d t => rw [cuts, if_neg h, if_neg h2]
theorem cuts_comma (cur t : List Int) : cuts cur (44 :: t) = cur :: cuts [] t := by
  cases t with
  | nil => rw [cuts_one, if_pos rfl, cuts_nil]
  | cons d t => rw [cuts, if_neg (by decide), if_pos rfl]
theorem cuts_put : ∀ {x p : List Int}, put x = some p → ∀ cur q : List Int, cuts cur (p ++ 44 :: q) = (cur ++ p) :: cuts [] q ∧ cuts cur p = [cur ++ p]
  | [], p, h, cur, q => by
    cases h
    rw [List.nil_append, cuts_comma, List.append_nil]
    exact ⟨rfl, by rw [cuts]⟩
  | c :: t, p, h, cur, q => by
    unfold put at h
    split at h
    · obtain ⟨r, hr, rfl⟩ := Option.map_eq_some_iff.1 h
      obtain ⟨h1, h2⟩ := cuts_put hr (cur ++ [92, 110]) q
      constructor
      · show cuts cur (92 :: 110 :: (r ++ 44 :: q)) = _
        rw [cuts, if_pos rfl, h1, List.append_assoc]
      · show cuts cur (92 :: 110 :: r) = _
        rw [cuts, if_pos rfl, h2, List.append_assoc]
    · split at h
      · split at h
        · obtain ⟨r, hr, rfl⟩ := Option.map_eq_some_iff.1 h
          obtain ⟨h1, h2⟩ := cuts_put hr (cur ++ [92, c]) q
          constructor
          · show cuts cur (92 :: c :: (r ++ 44 :: q)) = _
            rw [cuts, if_pos rfl, h1, List.append_assoc]
          · show cuts cur (92 :: c :: r) = _
            rw [cuts, if_pos rfl, h2, List.append_assoc]
        · rename_i hm
          obtain ⟨r, hr, rfl⟩ := Option.map_eq_some_iff.1 h
          obtain ⟨h1, h2⟩ := cuts_put hr (cur ++ [c]) q
          have hc : c ≠ 92 ∧ c ≠ 44 := by unfold sign at hm; omega
          constructor
          · show cuts cur (c :: (r ++ 44 :: q)) = _
            rw [cuts_plain hc.1 hc.2, h1, List.append_assoc]
          · show cuts cur (c :: r) = _
            rw [cuts_plain hc.1 hc.2, h2, List.append_assoc]
      · cases h
/-- How long the first piece is. -/
def plen : List Int → Nat
  | [] => 0
  | [c] => if c = 44 then 0 else 1
  | c :: d :: t => if c = 92 then 2 + plen t else if c = 44 then 0 else 1 + plen (d :: t)
theorem plen_one (c : Int) : plen [c] = if c = 44 then 0 else 1 := by rw [plen]
theorem plen_plain {c : Int} (h : c ≠ 92) (h2 : c ≠ 44) (t : List Int) : plen (c :: t) = 1 + plen t := by
  cases t with
  | nil => rw [plen_one, if_neg h2, plen]
  | cons d t => rw [plen, if_neg h, if_neg h2]
theorem plen_comma (t : List Int) : plen (44 :: t) = 0 := by
  cases t with
  | nil => rfl
  | cons d t => rw [plen, if_neg (by decide), if_pos rfl]
theorem cuts_first : ∀ (l cur : List Int), cuts cur l = (cur ++ l.take (plen l)) :: (if plen l < l.length then cuts [] (l.drop (plen l + 1)) else []) ∧ plen l ≤ l.length
  | [], cur => by simp [cuts, plen]
  | [c], cur => by
    by_cases h : c = 44
    · subst h
      rw [cuts_comma, plen_comma]
      simp
    · rw [cuts, if_neg h, plen, if_neg h]
      simp
  | c :: d :: t, cur => by
    by_cases h : c = 92
    · obtain ⟨h1, h2⟩ := cuts_first t (cur ++ [92, d])
      rw [cuts, if_pos h, plen, if_pos h, h1, h]
      refine ⟨?_, by simp; omega⟩
      rw [show 2 + plen t = plen t + 2 by omega, List.take_succ_cons, List.take_succ_cons, List.append_assoc]
      congr 1
      by_cases hp : plen t < t.length
      · rw [if_pos hp, if_pos (by simp; omega)]
        rfl
      · rw [if_neg hp, if_neg (by simp; omega)]
    · by_cases h2 : c = 44
      · subst h2
        rw [cuts_comma, plen_comma]
        simp
      · obtain ⟨h3, h4⟩ := cuts_first (d :: t) (cur ++ [c])
        rw [cuts_plain h h2, plen_plain h h2, h3]
        refine ⟨?_, by rw [List.length_cons]; omega⟩
        rw [show 1 + plen (d :: t) = plen (d :: t) + 1 by omega, List.take_succ_cons, List.append_assoc]
        congr 1
        by_cases hp : plen (d :: t) < (d :: t).length
        · rw [if_pos hp, if_pos (by rw [List.length_cons (a := c)]; omega)]
          rfl
        · rw [if_neg hp, if_neg (by rw [List.length_cons (a := c)]; omega)]
theorem piece_L0 (s : ByteArray) (hs : s.size < 140737488355328) (d : Nat) : ∀ i : Int, 0 ≤ i → i ≤ (s.size : Int) → (s.size : Int) - i ≤ d → escape_piece.L0 s i = some (i + (plen (rest s i) : Nat)) := by
  induction d with
  | zero =>
    intro i h0 h1 h2
    rw [escape_piece.L0_eq, if_neg (by omega), rest_nil (by omega)]
    simp [plen]
    omega
  | succ d ih =>
    intro i h0 h1 h2
    by_cases hlt : i < (s.size : Int)
    · have hw : wrap64 (i + 1) = i + 1 := wrap64_id (by omega) (by omega)
      have hw2 : wrap64 (i + 1 + 1) = i + 1 + 1 := wrap64_id (by omega) (by omega)
      rw [escape_piece.L0_eq, if_pos hlt, if_pos h0, hw, hw2, rest_cons h0 hlt]
      by_cases h92 : bt s i = 92
      · rw [if_pos h92, h92]
        by_cases h4 : i + 1 < (s.size : Int)
        · rw [rest_cons (by omega) h4, plen, if_pos rfl, ih _ (by omega) (by omega) (by omega)]
          congr 1
          omega
        · rw [rest_nil (by omega), escape_piece.L0_eq, if_neg (by omega), plen, if_neg (by decide)]
          congr 1
          omega
      · rw [if_neg h92]
        by_cases h44 : bt s i = 44
        · rw [if_pos h44, h44, plen_comma]
          simp
        · rw [if_neg h44, plen_plain h92 h44, ih _ (by omega) (by omega) (by omega)]
          congr 1
          omega
    · rw [escape_piece.L0_eq, if_neg hlt, rest_nil (by omega)]
      simp [plen]
      omega
theorem piece_F (s : ByteArray) (hs : s.size < 140737488355328) : escape_piece.F s = some ((plen (bytesOf s) : Nat) : Int) := by
  rw [escape_piece.F_eq, piece_L0 s hs s.size 0 (by omega) (by omega) (by omega), rest_zero]
  simp
/-- What each of some texts is got as. -/
def gets : List (List Int) → Option (List (List Int))
  | [] => some []
  | p :: t => (get p).bind fun x => (gets t).map ([x] ++ ·)
def tolds (acc : List ByteArray) : Option (List (List Int)) → List ByteArray × Int
  | some r => (acc ++ r.map strOfNums, 0)
  | none => ([], 3)
theorem unlist_L0 (s : ByteArray) (hs : s.size ≤ 4000000000000) (d : Nat) : ∀ (i : Int) (acc : List ByteArray), 0 ≤ i → i ≤ (s.size : Int) → (s.size : Int) - i ≤ d → acc.length + (s.size - i.toNat) < 8796093022200 →
    escape_Unlist.L0 s acc i = some (tolds acc (gets (cuts [] (rest s i)))) := by
  induction d with
  | zero =>
    intro i acc h0 h1 h2 h3
    have hw : ∀ n : Int, 0 ≤ n → n ≤ 100000000000000 → wrap64 n = n := fun n a b => wrap64_id (by omega) (by omega)
    have hx : bytesOf (s.extract i.toNat s.size) = rest s i := extract_all s _
    have hsz : (s.extract i.toNat s.size).size ≤ s.size := by rw [← bytesOf_length, hx, rest_length]; omega
    have hn : rest s i = [] := rest_nil (by omega)
    have hsi : (s.size : Int) = i := by omega
    rw [escape_Unlist.L0_eq, if_pos h1, if_pos h0, piece_F _ (by omega), hx, hn]
    simp only [bind_some_, plen]
    rw [hw (i + ((0 : Nat) : Int)) (by omega) (by omega), if_pos (by omega), if_pos (by omega), hw (((0 : Nat) : Int) + 1) (by omega) (by omega), hw (i + (((0 : Nat) : Int) + 1)) (by omega) (by omega)]
    have hz : s.extract i.toNat (i + ((0 : Nat) : Int)).toNat = strOfNums [] := bytes_inj (by rw [bytes_extract, bytes_strOf Bytes.nil]; exact List.drop_eq_nil_of_le (by rw [List.length_take]; omega))
    rw [hz, get_F _ (by rw [size_strOf]; simp), bytes_strOf Bytes.nil, get, told_some]
    rw [bind_some_, if_pos rfl, if_pos (by omega), escape_Unlist.L0_eq, if_neg (by omega)]
    rfl
  | succ d ih =>
    intro i acc h0 h1 h2 h3
    have hw : ∀ n : Int, 0 ≤ n → n ≤ 100000000000000 → wrap64 n = n := fun n a b => wrap64_id (by omega) (by omega)
    have hx : bytesOf (s.extract i.toNat s.size) = rest s i := extract_all s _
    have hsz : (s.extract i.toNat s.size).size ≤ s.size := by rw [← bytesOf_length, hx, rest_length]; omega
    obtain ⟨hc, hp⟩ := cuts_first (rest s i) []
    have hl := rest_length s i
    rw [escape_Unlist.L0_eq, if_pos h1, if_pos h0, piece_F _ (by omega), hx, hc, List.nil_append]
    simp only [bind_some_]
    generalize hg : plen (rest s i) = n at hp ⊢
    rw [hw (i + (n : Int)) (by omega) (by omega), if_pos (by omega), if_pos (by omega), hw ((n : Int) + 1) (by omega) (by omega), hw (i + ((n : Int) + 1)) (by omega) (by omega)]
    have hz : bytesOf (s.extract i.toNat (i + (n : Int)).toNat) = (rest s i).take n := by
      rw [bytes_extract]
      unfold rest
      rw [List.take_drop, show (i + (n : Int)).toNat = i.toNat + n by omega]
    have hzs : (s.extract i.toNat (i + (n : Int)).toNat).size ≤ s.size := by rw [← bytesOf_length, hz, List.length_take]; omega
    rw [get_F _ (by omega), hz, gets]
    simp only [bind_some_]
    cases hgt : get ((rest s i).take n) with
    | none =>
      rw [told_none, if_neg (by decide)]
      rfl
    | some x =>
      rw [told_some, if_pos rfl, if_pos (by omega), List.nil_append]
      by_cases hlt : n < (rest s i).length
      · rw [if_pos hlt, ih (i + (↑n + 1)) _ (by omega) (by omega) (by omega) (by simp; omega)]
        have hd : (rest s i).drop (n + 1) = rest s (i + (↑n + 1)) := by
          unfold rest
          rw [List.drop_drop, show (i + ((n : Int) + 1)).toNat = i.toNat + (n + 1) by omega]
        rw [hd]
        cases gets (cuts [] (rest s (i + (↑n + 1)))) <;> simp [tolds]
      · rw [if_neg hlt, escape_Unlist.L0_eq, if_neg (by omega)]
        rfl
theorem unlist_F (s : ByteArray) (hs : s.size ≤ 4000000000000) : escape_Unlist.F s = some (tolds [] (gets (cuts [] (bytesOf s)))) := by
  rw [escape_Unlist.F_eq, unlist_L0 s hs s.size 0 [] (by omega) (by omega) (by omega) (by simp; omega), rest_zero]

/-! Texts put together. -/
def puts : List (List Int) → Option (List (List Int))
  | [] => some []
  | p :: t => (put p).bind fun x => (puts t).map ([x] ++ ·)
def listed (l : List ByteArray) : Option (List (List Int)) → Option (ByteArray × Int)
  | some r => if (l.length : Int) = 0 then some (⟨#[]⟩, 2) else (strings_Join.f (r.map strOfNums) ⟨#[44]⟩).bind fun t => some (t, 0)
  | none => some (⟨#[]⟩, 3)
theorem list_L0 (l : List ByteArray) (hl : l.length ≤ 60) (hs : ∀ x ∈ l, x.size ≤ 800) (d : Nat) : ∀ (i : Int) (acc : List (List Int)), 0 ≤ i → i + d = (l.length : Int) → acc.length = i.toNat →
    escape_List.L0 l (acc.map strOfNums) l (l.length : Int) i = listed l ((puts ((l.drop i.toNat).map bytesOf)).map (acc ++ ·)) := by
  induction d with
  | zero =>
    intro i acc h0 h1 h2
    rw [escape_List.L0_eq, if_neg (by omega), drop_nil_ (by omega)]
    simp only [List.map_nil, puts, Option.map_some, List.append_nil, listed]
  | succ d ih =>
    intro i acc h0 h1 h2
    have hm : (rdOf ByteArray.empty l i).size ≤ 800 := hs _ (rdOf_mem _ h0 (by omega))
    rw [escape_List.L0_eq, if_pos (by omega), if_pos h0, if_pos (by omega), wrap64_id (by omega) (by omega), drop_cons_ ByteArray.empty h0 (by omega), put_F _ (by omega)]
    simp only [bind_some_, List.map_cons, puts]
    cases hp : put (bytesOf (rdOf ByteArray.empty l i)) with
    | none =>
      rw [told_none, if_neg (by decide)]
      rfl
    | some x =>
      rw [told_some, if_pos rfl, if_pos (by rw [List.length_map]; omega), List.nil_append]
      have e : acc.map strOfNums ++ [strOfNums x] = (acc ++ [x]).map strOfNums := by simp
      rw [e, ih (i + 1) (acc ++ [x]) (by omega) (by omega) (by simp; omega)]
      congr 1
      cases puts (((l.drop (i + 1).toNat)).map bytesOf) <;> simp
theorem list_F (l : List ByteArray) (hl : l.length ≤ 60) (hs : ∀ x ∈ l, x.size ≤ 800) : escape_List.F l = listed l (puts (l.map bytesOf)) := by
  rw [escape_List.F_eq, show ([] : List ByteArray) = ([] : List (List Int)).map strOfNums from rfl, list_L0 l hl hs l.length 0 [] (by omega) (by omega) rfl]
  show listed l ((puts (l.map bytesOf)).map ([] ++ ·)) = _
  cases puts (l.map bytesOf) <;> rfl
theorem puts_all : ∀ {l r : List (List Int)}, puts l = some r → r.length = l.length ∧ ((∀ x ∈ l, Bytes x ∧ x.length ≤ 800) → ∀ y ∈ r, Bytes y ∧ y.length ≤ 1600)
  | [], r, h => by cases h; exact ⟨rfl, fun _ y hy => by cases hy⟩
  | p :: t, r, h => by
    unfold puts at h
    obtain ⟨x, hx, h⟩ := Option.bind_eq_some_iff.1 h
    obtain ⟨q, hq, rfl⟩ := Option.map_eq_some_iff.1 h
    obtain ⟨h1, h2⟩ := puts_all hq
    refine ⟨by simp [h1], fun ha y hy => ?_⟩
    rcases List.mem_cons.1 hy with rfl | hy
    · have := ha p (List.mem_cons_self ..)
      have hl := put_length hx
      exact ⟨put_bytes this.1 hx, by omega⟩
    · exact h2 (fun z hz => ha z (List.mem_cons_of_mem _ hz)) y hy
theorem map_bytes_str {r : List (List Int)} (h : ∀ y ∈ r, Bytes y) : (r.map strOfNums).map bytesOf = r := by
  rw [List.map_map]
  conv => rhs; rw [← List.map_id r]
  exact List.map_congr_left fun y hy => bytes_strOf (h y hy)
/-- What texts put together are, by their bytes. -/
theorem join_F {r : List (List Int)} (hr : r.length ≤ 60) (hb : ∀ y ∈ r, Bytes y ∧ y.length ≤ 1600) : ∃ t, strings_Join.f (r.map strOfNums) ⟨#[44]⟩ = some t ∧ bytesOf t = jn [44] r ∧ t.size ≤ 200000 := by
  have hj := bytes_join ⟨#[44]⟩ (r.map strOfNums)
  rw [map_bytes_str (fun y hy => (hb y hy).1)] at hj
  have hlen : (jn [44] r).length ≤ 200000 := by
    have h1 := jn_length [44] 1600 r (fun y hy => (hb y hy).2)
    have h2 : r.length * (1600 + [(44 : Int)].length) ≤ 60 * (1600 + [(44 : Int)].length) := Nat.mul_le_mul_right _ hr
    simp at h1 h2
    omega
  have hl2 := bytes_length_mk (Lib.join ((r.map strOfNums).map (·.data.toList)) (⟨#[44]⟩ : ByteArray).data.toList)
  have e44 : bytesOf (⟨#[44]⟩ : ByteArray) = [44] := rfl
  rw [hj, e44] at hl2
  refine ⟨_, by unfold strings_Join.f; rw [if_pos ⟨by rw [List.length_map]; omega, by omega⟩], by rw [hj, e44], ?_⟩
  rw [← bytesOf_length, hj, e44]
  exact hlen
theorem cuts_join : ∀ {l r : List (List Int)}, puts l = some r → l ≠ [] → cuts [] (jn [44] r) = r ∧ gets r = some l
  | [], r, _, h => absurd rfl h
  | [p], r, h, _ => by
    unfold puts at h
    obtain ⟨x, hx, h⟩ := Option.bind_eq_some_iff.1 h
    cases h
    refine ⟨(cuts_put hx [] []).2, ?_⟩
    show gets [x] = _
    rw [gets, get_put hx]
    rfl
  | p :: p' :: t, r, h, _ => by
    unfold puts at h
    obtain ⟨x, hx, h⟩ := Option.bind_eq_some_iff.1 h
    obtain ⟨q, hq, rfl⟩ := Option.map_eq_some_iff.1 h
    obtain ⟨h1, h2⟩ := cuts_join hq (by simp)
    have hq1 := (puts_all hq).1
    obtain ⟨y, q', rfl⟩ : ∃ y q', q = y :: q' := by
      cases q with
      | nil => simp at hq1
      | cons y q' => exact ⟨y, q', rfl⟩
    constructor
    · show cuts [] (x ++ ([44] ++ jn [44] (y :: q'))) = _
      rw [List.singleton_append, (cuts_put hx [] (jn [44] (y :: q'))).1, h1]
      rfl
    · show gets (x :: y :: q') = _
      rw [gets, get_put hx, h2]
      rfl
end Go.Proofs.Ytookjnpmbenheaa.PEsc
