/- Formats of names: parts, signs, what a format says (format.Name). No condition. -/
import Derived.Test.YtookjnpmbenheaaDoorFmtA
import Derived.Lib.SplitLaws
import Derived.Lib.IndexLaws
import Derived.Lib.ReplaceLaws
import Derived.Lib.CountLaws
namespace Go.Proofs.YtookjnpmbenheaaDoor.Base
open Go.RowKit Go.Proofs.YtookjnpmbenheaaDoor.PFmt Go.Proofs.YtookjnpmbenheaaDoorW.PrintWords Go.Proofs.YtookjnpmbenheaaDoorW.PrintLast Go.Proofs.YtookjnpmbenheaaDoorW.PrintMore
set_option linter.unusedVariables false
set_option linter.unusedSimpArgs false

/-! Single bytes in byte strings -/
theorem toNat_ne {b c : UInt8} (h : b ≠ c) : (b.toNat : Int) ≠ (c.toNat : Int) := fun e => h (UInt8.toNat_inj.1 (by omega))
theorem byte_cases (l : List UInt8) (c : UInt8) : (Lib.indexByte l c = -1 ∧ c ∉ l) ∨ ∃ A B : List UInt8, l = A ++ c :: B ∧ c ∉ A ∧ Lib.indexByte l c = (A.length : Int) := by
  have hge := Lib.indexByte_ge l c
  by_cases h : Lib.indexByte l c = -1
  · left
    refine ⟨h, fun hm => ?_⟩
    obtain ⟨j, hj, e⟩ := List.getElem_of_mem hm
    exact Lib.indexByte_none h j (by rw [List.getElem?_eq_getElem hj, e])
  · right
    obtain ⟨i, hi⟩ : ∃ i : Nat, Lib.indexByte l c = i := ⟨(Lib.indexByte l c).toNat, by omega⟩
    obtain ⟨g1, g2⟩ := Lib.indexByte_some hi
    have hl : i < l.length := (List.getElem?_eq_some_iff.1 g1).1
    have e1 : l[i] = c := by
      rw [List.getElem?_eq_getElem hl] at g1
      exact Option.some.inj g1
    refine ⟨l.take i, l.drop (i + 1), ?_, fun hm => ?_, by rw [List.length_take]; omega⟩
    · rw [← e1, List.getElem_cons_drop, List.take_append_drop]
    · obtain ⟨j, hj, e⟩ := List.getElem_of_mem hm
      rw [List.getElem_take] at e
      rw [List.length_take] at hj
      have hjl : j < l.length := by omega
      exact g2 j (by omega) (by rw [List.getElem?_eq_getElem hjl, e])
theorem not_mem_bytes {l : List UInt8} {c : UInt8} (h : c ∉ l) : (c.toNat : Int) ∉ l.map (fun b => (b.toNat : Int)) := fun hm => by
  obtain ⟨b, hb, e⟩ := List.mem_map.1 hm
  by_cases hbc : b = c
  · subst hbc; exact h hb
  · exact toNat_ne hbc e
theorem mem_bytes {l : List UInt8} {c : UInt8} (h : c ∈ l) : (c.toNat : Int) ∈ l.map (fun b => (b.toNat : Int)) := List.mem_map.2 ⟨c, h, rfl⟩
theorem count_one (c : UInt8) : ∀ (n : Nat) (l : List UInt8), l.length ≤ n → Lib.count l [c] = (l.map (fun b => (b.toNat : Int))).count (c.toNat : Int) := by
  intro n
  induction n with
  | zero =>
    intro l hl
    have : l = [] := List.eq_nil_of_length_eq_zero (by omega)
    subst this
    rfl
  | succ n ih =>
    intro l hl
    rcases byte_cases l c with ⟨h1, h2⟩ | ⟨A, B, h1, h2, h3⟩
    · rw [Lib.count_miss (by rw [Lib.index_one]; exact h1), List.count_eq_zero_of_not_mem (not_mem_bytes h2)]
    · have hlen : l.length = A.length + (B.length + 1) := by rw [h1, List.length_append, List.length_cons]
      have hd : l.drop (A.length + [c].length) = B := by rw [h1, List.length_singleton]; simp
      rw [Lib.count_hit (i := A.length) (by simp) (by rw [Lib.index_one]; exact h3), hd, ih B (by omega), h1, List.map_append, List.map_cons, List.count_append, List.count_cons_self, List.count_eq_zero_of_not_mem (not_mem_bytes h2)]
      omega
theorem Count_eq (s : ByteArray) (c : UInt8) (hs : s.size < 4294967281) : strings_Count.f s ⟨#[c]⟩ = some (((bytesOf s).count (c.toNat : Int) : Nat) : Int) := by
  unfold strings_Count.f
  rw [if_pos ⟨hs, Nat.le_refl 1⟩]
  have : Lib.countB s ⟨#[c]⟩ = (bytesOf s).count (c.toNat : Int) := count_one c _ _ (Nat.le_refl _)
  rw [this]
theorem bytes_split {s : ByteArray} {A B : List UInt8} {c : UInt8} (h : s.data.toList = A ++ c :: B) : bytesOf s = A.map (fun b => (b.toNat : Int)) ++ (c.toNat : Int) :: B.map (fun b => (b.toNat : Int)) := by
  unfold bytesOf
  rw [h, List.map_append, List.map_cons]
/-- The first of a sign, in numbers. -/
theorem idx_cases (s : ByteArray) (c : UInt8) : (Lib.indexByte s.data.toList c = -1 ∧ (c.toNat : Int) ∉ bytesOf s) ∨ ∃ A B : List Int, bytesOf s = A ++ (c.toNat : Int) :: B ∧ (c.toNat : Int) ∉ A ∧ Lib.indexByte s.data.toList c = (A.length : Int) := by
  rcases byte_cases s.data.toList c with ⟨h1, h2⟩ | ⟨A, B, h1, h2, h3⟩
  · exact Or.inl ⟨h1, not_mem_bytes h2⟩
  · exact Or.inr ⟨_, _, bytes_split h1, not_mem_bytes h2, by rw [List.length_map]; exact h3⟩
theorem split_uniq {c : Int} : ∀ {A A' B B' : List Int}, A ++ c :: B = A' ++ c :: B' → c ∉ A → c ∉ A' → A = A' ∧ B = B'
  | [], [], _, _, h, _, _ => by
    simp only [List.nil_append, List.cons.injEq] at h
    exact ⟨rfl, h.2⟩
  | [], x :: A', _, _, h, _, h2 => by
    simp only [List.nil_append, List.cons_append, List.cons.injEq] at h
    exact absurd (h.1 ▸ List.mem_cons_self ..) h2
  | x :: A, [], _, _, h, h1, _ => by
    simp only [List.nil_append, List.cons_append, List.cons.injEq] at h
    exact absurd (h.1 ▸ List.mem_cons_self ..) h1
  | x :: A, y :: A', _, _, h, h1, h2 => by
    simp only [List.cons_append, List.cons.injEq] at h
    have := split_uniq h.2 (fun hm => h1 (List.mem_cons_of_mem _ hm)) (fun hm => h2 (List.mem_cons_of_mem _ hm))
    rw [h.1, this.1, this.2]
    exact ⟨rfl, rfl⟩
theorem idx_at {s : ByteArray} {c : UInt8} {A B : List Int} (h : bytesOf s = A ++ (c.toNat : Int) :: B) (hA : (c.toNat : Int) ∉ A) : Lib.indexByte s.data.toList c = (A.length : Int) := by
  rcases idx_cases s c with ⟨_, h2⟩ | ⟨A', B', h1, h2, h3⟩
  · exact absurd (by rw [h]; simp) h2
  · rw [h] at h1
    rw [h3, (split_uniq h1 hA h2).1]
theorem idx_no {s : ByteArray} {c : UInt8} (h : (c.toNat : Int) ∉ bytesOf s) : Lib.indexByte s.data.toList c = -1 := by
  rcases idx_cases s c with ⟨h1, _⟩ | ⟨A', B', h1, _, _⟩
  · exact h1
  · exact absurd (by rw [h1]; simp) h
theorem Cut_hit {s : ByteArray} {A B : List Int} (hs : s.size < 4294967281) (h : bytesOf s = A ++ 47 :: B) (hA : (47 : Int) ∉ A) : strings_Cut.f s ⟨#[47]⟩ = some (strOfNums A, strOfNums B, true) := by
  have hi : Lib.index s.data.toList [47] = (A.length : Int) := by rw [Lib.index_one]; exact idx_at (c := 47) h hA
  have hb := bytes_of s
  rw [h] at hb
  have hz := bytesOf_length s
  unfold strings_Cut.f
  rw [if_pos hs]
  have e0 : (⟨#[47]⟩ : ByteArray).data.toList = [47] := rfl
  unfold Lib.cut
  rw [e0, if_pos (by rw [hi]; omega), hi]
  dsimp only
  congr 2
  · apply bytes_inj
    rw [bytes_strOf hb.left, mk_bytes, List.map_take]
    show (bytesOf s).take _ = A
    rw [h, show ((A.length : Int)).toNat = A.length by omega, List.take_left]
  · congr 1
    apply bytes_inj
    rw [bytes_strOf hb.right.tail, mk_bytes, List.map_drop]
    show (bytesOf s).drop _ = B
    rw [h, show ((A.length : Int)).toNat + ([47] : List UInt8).length = A.length + 1 by simp, ← List.drop_drop, List.drop_left]
    rfl
theorem Cut_miss {s : ByteArray} (hs : s.size < 4294967281) (h : (47 : Int) ∉ bytesOf s) : strings_Cut.f s ⟨#[47]⟩ = some (s, (⟨#[]⟩ : ByteArray), false) := by
  have hi : Lib.index s.data.toList [47] = -1 := by rw [Lib.index_one]; exact idx_no (c := 47) h
  unfold strings_Cut.f
  rw [if_pos hs]
  have e0 : (⟨#[47]⟩ : ByteArray).data.toList = [47] := rfl
  unfold Lib.cut
  rw [e0, if_neg (by rw [hi]; omega)]
/-! "%s" and "%z" -/
theorem getElem_bytes {s : ByteArray} {j : Nat} {b : UInt8} (h : s.data.toList[j]? = some b) : (bytesOf s)[j]? = some (b.toNat : Int) := by
  unfold bytesOf
  rw [List.getElem?_map, h]
  rfl
theorem pct_hit {s : ByteArray} {A B : List Int} (d : UInt8) (h : bytesOf s = A ++ 37 :: (d.toNat : Int) :: B) (hA : (37 : Int) ∉ A) : Lib.index s.data.toList [37, d] = (A.length : Int) := by
  have hl : (bytesOf s).length = s.data.toList.length := by unfold bytesOf; rw [List.length_map]
  have hlen : A.length + (B.length + 1 + 1) = s.data.toList.length := by rw [← hl, h, List.length_append, List.length_cons, List.length_cons]
  refine Lib.index_first (by omega) ?_ (fun j hj => ?_)
  · rw [Lib.occAt_iff_take _ _ _ (by show A.length + 2 ≤ _; omega), beq_iff_eq]
    apply map_toNat_inj
    rw [List.map_take, List.map_drop]
    show ((bytesOf s).drop A.length).take 2 = _
    rw [h, List.drop_left]
    rfl
  · cases ho : Lib.occAt s.data.toList [37, d] j with
    | false => rfl
    | true =>
      have h1 := getElem_bytes (Lib.occAt_head rfl ho)
      rw [h, List.getElem?_append_left hj] at h1
      exact absurd (List.mem_of_getElem? h1) hA
theorem pct_miss {s : ByteArray} {A B : List Int} {e : Int} (d : UInt8) (h : bytesOf s = A ++ 37 :: e :: B) (hA : (37 : Int) ∉ A) (hB : (37 : Int) ∉ e :: B) (hd : e ≠ (d.toNat : Int)) : Lib.index s.data.toList [37, d] = -1 := by
  refine Lib.index_none (fun j hj => ?_)
  cases ho : Lib.occAt s.data.toList [37, d] j with
  | false => rfl
  | true =>
    have h1 := getElem_bytes (Lib.occAt_head rfl ho)
    have h2 := getElem_bytes (Lib.occAt_second rfl ho)
    rw [h] at h1 h2
    rcases Nat.lt_trichotomy j A.length with hlt | heq | hgt
    · rw [List.getElem?_append_left hlt] at h1
      exact absurd (List.mem_of_getElem? h1) hA
    · subst heq
      rw [List.getElem?_append_right (by omega), Nat.add_sub_cancel_left] at h2
      simp only [List.getElem?_cons_succ, List.getElem?_cons_zero, Option.some.injEq] at h2
      exact absurd h2 hd
    · rw [List.getElem?_append_right (by omega)] at h1
      obtain ⟨k, hk⟩ : ∃ k, j - A.length = k + 1 := ⟨j - A.length - 1, by omega⟩
      rw [hk, List.getElem?_cons_succ] at h1
      exact absurd (List.mem_of_getElem? h1) hB
theorem pct_none {s : ByteArray} (d : UInt8) (h : (37 : Int) ∉ bytesOf s) : Lib.index s.data.toList [37, d] = -1 := by
  refine Lib.index_none (fun j hj => ?_)
  cases ho : Lib.occAt s.data.toList [37, d] j with
  | false => rfl
  | true => exact absurd (List.mem_of_getElem? (getElem_bytes (Lib.occAt_head rfl ho))) h
theorem Contains_eq (s : ByteArray) (d : UInt8) (hs : s.size < 4294967281) : strings_Contains.f s ⟨#[37, d]⟩ = some (decide (0 ≤ Lib.index s.data.toList [37, d])) := by
  unfold strings_Contains.f
  rw [if_pos hs]
  rfl
theorem Replace_hit {s w : ByteArray} {A B : List Int} (d : UInt8) (hs : s.size ≤ 1000) (hw : w.size ≤ 1000) (h : bytesOf s = A ++ 37 :: (d.toNat : Int) :: B) (hA : (37 : Int) ∉ A) (hn : (37 : Int) ∉ bytesOf w) :
    strings_Replace.f s ⟨#[37, d]⟩ w 1 = some (strOfNums (A ++ bytesOf w ++ B)) := by
  have hi := pct_hit d h hA
  have hb := bytes_of s
  rw [h] at hb
  have hc : Lib.count s.data.toList [37, d] ≠ 0 := by rw [Lib.count_hit (by simp) hi]; omega
  have hle := Lib.countB_le ⟨#[37, d]⟩ (show 1 ≤ (⟨#[37, d]⟩ : ByteArray).size from (by decide : 1 ≤ 2)) s.size s (Nat.le_refl _)
  have hprod : Lib.countB s ⟨#[37, d]⟩ * w.size ≤ 1000 * 1000 := Nat.mul_le_mul (by omega) hw
  unfold strings_Replace.f
  rw [if_pos ⟨by omega, (by decide : 1 ≤ 2), by omega⟩]
  have e0 : (⟨#[37, d]⟩ : ByteArray).data.toList = [37, d] := rfl
  have hne : (([37, d] : List UInt8) == w.data.toList) = false := by
    rw [beq_eq_false_iff_ne]
    intro he
    refine hn ?_
    unfold bytesOf
    rw [← he]
    simp
  unfold Lib.replace Lib.replaceNum
  rw [e0, hne, if_neg (by simp), if_neg (by omega), show (1 : Int).toNat = 0 + 1 from rfl, Lib.replaceK_hit _ _ _ _ _ hi, Lib.replaceK]
  congr 1
  apply bytes_inj
  rw [bytes_strOf (Bytes.app (Bytes.app hb.left (bytes_of w)) hb.right.tail.tail), mk_bytes, List.map_append, List.map_append, List.map_take, List.map_drop]
  show (bytesOf s).take _ ++ bytesOf w ++ (bytesOf s).drop _ = _
  rw [h, List.take_left, show A.length + ([37, d] : List UInt8).length = A.length + 2 from rfl, ← List.drop_drop, List.drop_left]
  rfl
/-! Formats -/
def zsgn (c : Int) : Bool := sgn c || decide (c = 37) || decide (c = 47)
theorem zsgn_iff (c : Int) : zsgn c = true ↔ sgn c = true ∨ c = 37 ∨ c = 47 := by unfold zsgn; simp [or_assoc]
theorem idx_set (l : ByteArray) (c : Int) (h : 0 ≤ c ∧ c ≤ 255) : strings_IndexByte.f l c = some (Lib.indexByte l.data.toList c.toNat.toUInt8) := rfl
theorem zsign_eq (c : Int) (h : 0 ≤ c ∧ c ≤ 255) : zone_sign.f c = some (zsgn c) := by
  have hm : (0 ≤ Lib.indexByte (⟨#[43, 45, 37, 47]⟩ : ByteArray).data.toList c.toNat.toUInt8) ↔ (c = 43 ∨ c = 45 ∨ c = 37 ∨ c = 47) := by
    rw [index_mem _ c h.1 h.2]
    show c ∈ [43, 45, 37, 47] ↔ _
    simp
  have key : ∀ b : Bool, (b = true ↔ zsgn c = true) → some b = some (zsgn c) := fun b h => by
    congr 1
    exact Bool.eq_iff_iff.2 h
  unfold zone_sign.f
  simp only [idx_set _ c h, bind_some_]
  repeat' split
  all_goals refine key _ ?_
  all_goals rw [zsgn_iff, sgn_iff]
  all_goals first | (simp; omega) | (rw [decide_eq_true_eq]; show 0 ≤ _ ↔ _; rw [hm]; omega)
def fmtE (s : ByteArray) : Option Bool := (strings_Count.f s (⟨#[47]⟩ : ByteArray)).bind fun t118 => ((strings_IndexByte.f s 37).bind fun t119 => (if t119 < 0 then (some (decide (t118 ≤ 1))) else (if t118 > 0 then (some false) else ((strings_Count.f s (⟨#[37]⟩ : ByteArray)).bind fun t120 => (if t120 > 1 then (some false) else (if (wrap64 (t119 + 1)) ≥ (s.size : Int) then (some false) else (if 0 ≤ (wrap64 (t119 + 1)) then (if (wrap64 (t119 + 1)) < (s.size : Int) then (if (bt s (wrap64 (t119 + 1))) = 115 then (some true) else (some ((bt s (wrap64 (t119 + 1))) == 122))) else (none)) else (none))))))))
theorem zone_L0 (s : ByteArray) (hs : s.size ≤ 1000) : ∀ (n : Nat) (i : Int), n = (s.size : Int).toNat - i.toNat → 0 ≤ i → i ≤ (s.size : Int) →
    zone_Format.L0 s (s.size : Int) i = if (rest s i).all zsgn = true then fmtE s else some false := by
  intro n
  induction n with
  | zero =>
    intro i hn h0 h1
    rw [zone_Format.L0_eq, if_neg (by omega), rest_nil (by omega), List.all_nil, if_pos rfl]
    rfl
  | succ n ih =>
    intro i hn h0 h1
    have hlt : i < (s.size : Int) := by omega
    have hr := rest_cons h0 hlt
    have hb : 0 ≤ bt s i ∧ bt s i ≤ 255 := rest_bytes s i _ (by rw [hr]; exact List.mem_cons_self ..)
    rw [zone_Format.L0_eq, if_pos hlt, if_pos h0, if_pos hlt, zsign_eq _ hb, bind_some_, hr, List.all_cons]
    cases hd : zsgn (bt s i) with
    | true => rw [if_pos rfl, wrap64_id (by omega) (by omega), ih (i + 1) (by omega) (by omega) (by omega), Bool.true_and]
    | false => rw [if_neg (by simp), Bool.false_and, if_neg (by simp)]
theorem zone_eq (s : ByteArray) (hs : s.size ≤ 1000) : zone_Format.F s = if 1 ≤ s.size ∧ s.size ≤ 40 ∧ (bytesOf s).all zsgn = true then fmtE s else some false := by
  rw [zone_Format.F_eq]
  by_cases h1 : (s.size : Int) < 1
  · rw [if_pos h1, zone_Format.J0_eq, if_pos rfl, if_neg (by omega)]
  · rw [if_neg h1, zone_Format.J0_eq]
    by_cases h2 : (s.size : Int) > 40
    · rw [if_pos (decide_eq_true h2), if_neg (by omega)]
    · rw [if_neg (by simpa using h2), zone_L0 s hs _ 0 rfl (by omega) (by omega), rest_zero]
      by_cases h3 : (bytesOf s).all zsgn = true
      · rw [if_pos h3, if_pos ⟨by omega, by omega, h3⟩]
      · rw [if_neg h3, if_neg (fun h => h3 h.2.2)]
theorem no_spec {l : List Int} (h : l.all sgn = true) (c : Int) (hc : c = 37 ∨ c = 47) : c ∉ l := fun hm => by
  have := (sgn_iff c).1 (List.all_eq_true.1 h c hm)
  omega
theorem sgn_z {l : List Int} (h : l.all sgn = true) : l.all zsgn = true := by
  rw [List.all_eq_true] at h ⊢
  exact fun x hx => (zsgn_iff x).2 (Or.inl (h x hx))
theorem bt_at {s : ByteArray} {A B : List Int} {c : Int} (h : bytesOf s = A ++ c :: B) : bt s (A.length : Int) = c := by
  have hlen : (s.size : Int) = (A.length : Int) + ((B.length : Int) + 1) := by rw [size_len, h, List.length_append, List.length_cons]; omega
  have h1 := rest_cons (s := s) (i := (A.length : Int)) (by omega) (by omega)
  unfold rest at h1
  rw [h, show ((A.length : Int)).toNat = A.length by omega, List.drop_left] at h1
  simp only [List.cons.injEq] at h1
  exact h1.1.symm
/-- No sign. -/
theorem zone_1 {s : ByteArray} (hl : 1 ≤ s.size ∧ s.size ≤ 40) (h : (bytesOf s).all sgn = true) : zone_Format.F s = some true := by
  rw [zone_eq s (by omega), if_pos ⟨hl.1, hl.2, sgn_z h⟩]
  unfold fmtE
  rw [Count_eq s 47 (by omega), bind_some_, List.count_eq_zero_of_not_mem (show ((47 : UInt8).toNat : Int) ∉ bytesOf s from no_spec h 47 (Or.inr rfl))]
  show (some (Lib.indexByte s.data.toList 37)).bind _ = _
  rw [bind_some_, idx_no (c := 37) (no_spec h 37 (Or.inl rfl)), if_pos (by omega)]
  rfl
/-- Two parts. -/
theorem zone_2 {s : ByteArray} {A B : List Int} (hl : 1 ≤ s.size ∧ s.size ≤ 40) (h : bytesOf s = A ++ 47 :: B) (hA : A.all sgn = true) (hB : B.all sgn = true) : zone_Format.F s = some true := by
  have hz : (bytesOf s).all zsgn = true := by rw [h, List.all_append, List.all_cons, sgn_z hA, sgn_z hB]; rfl
  have h37 : (37 : Int) ∉ bytesOf s := by
    rw [h]
    intro hm
    rcases List.mem_append.1 hm with hm | hm
    · exact no_spec hA 37 (Or.inl rfl) hm
    · rcases List.mem_cons.1 hm with hm | hm
      · omega
      · exact no_spec hB 37 (Or.inl rfl) hm
  have hc : (bytesOf s).count ((47 : UInt8).toNat : Int) = 1 := by
    show (bytesOf s).count 47 = 1
    rw [h, List.count_append, List.count_cons_self, List.count_eq_zero_of_not_mem (no_spec hA 47 (Or.inr rfl)), List.count_eq_zero_of_not_mem (no_spec hB 47 (Or.inr rfl))]
  rw [zone_eq s (by omega), if_pos ⟨hl.1, hl.2, hz⟩]
  unfold fmtE
  rw [Count_eq s 47 (by omega), bind_some_, hc]
  show (some (Lib.indexByte s.data.toList 37)).bind _ = _
  rw [bind_some_, idx_no (c := 37) h37, if_pos (by omega)]
  rfl
/-- A sign. -/
theorem zone_3 {s : ByteArray} {A B : List Int} {d : Int} (hl : 1 ≤ s.size ∧ s.size ≤ 40) (h : bytesOf s = A ++ 37 :: d :: B) (hA : A.all sgn = true) (hB : B.all sgn = true) (hd : d = 115 ∨ d = 122) : zone_Format.F s = some true := by
  have hds : sgn d = true := by rw [sgn_iff]; omega
  have hdB : (d :: B).all sgn = true := by rw [List.all_cons, hds, hB]; rfl
  have hz : (bytesOf s).all zsgn = true := by rw [h, List.all_append, List.all_cons, sgn_z hA, sgn_z hdB]; rfl
  have h47 : (47 : Int) ∉ bytesOf s := by
    rw [h]
    intro hm
    rcases List.mem_append.1 hm with hm | hm
    · exact no_spec hA 47 (Or.inr rfl) hm
    · rcases List.mem_cons.1 hm with hm | hm
      · omega
      · exact no_spec hdB 47 (Or.inr rfl) hm
  have hc : (bytesOf s).count ((37 : UInt8).toNat : Int) = 1 := by
    show (bytesOf s).count 37 = 1
    rw [h, List.count_append, List.count_cons_self, List.count_eq_zero_of_not_mem (no_spec hA 37 (Or.inl rfl)), List.count_eq_zero_of_not_mem (no_spec hdB 37 (Or.inl rfl))]
  have hlen : (s.size : Int) = (A.length : Int) + ((B.length : Int) + 2) := by rw [size_len, h, List.length_append, List.length_cons, List.length_cons]; omega
  have hb : bt s ((A.length : Int) + 1) = d := by
    have := bt_at (s := s) (A := A ++ [37]) (c := d) (B := B) (by rw [h]; simp)
    rw [List.length_append, List.length_singleton] at this
    exact_mod_cast this
  rw [zone_eq s (by omega), if_pos ⟨hl.1, hl.2, hz⟩]
  unfold fmtE
  rw [Count_eq s 47 (by omega), bind_some_, List.count_eq_zero_of_not_mem (show ((47 : UInt8).toNat : Int) ∉ bytesOf s from h47)]
  show (some (Lib.indexByte s.data.toList 37)).bind _ = _
  rw [bind_some_, idx_at (c := 37) h (no_spec hA 37 (Or.inl rfl)), if_neg (by omega), if_neg (by omega), Count_eq s 37 (by omega), bind_some_, hc, if_neg (by omega), wrap64_id (n := (A.length : Int) + 1) (by omega) (by omega), if_neg (by omega), if_pos (by omega), if_pos (by omega), hb]
  rcases hd with rfl | rfl
  · rw [if_pos rfl]
  · rw [if_neg (by omega)]; rfl
/-! Letters -/
theorem rule_sign_eq (c : Int) (h : 0 ≤ c ∧ c ≤ 255) : rule_sign.f c (⟨#[43, 45]⟩ : ByteArray) = some (sgn c) := by
  have hm : (0 ≤ Lib.indexByte (⟨#[43, 45]⟩ : ByteArray).data.toList c.toNat.toUInt8) ↔ (c = 43 ∨ c = 45) := by
    rw [index_mem _ c h.1 h.2]
    show c ∈ [43, 45] ↔ _
    simp
  have key : ∀ b : Bool, (b = true ↔ sgn c = true) → some b = some (sgn c) := fun b h => by
    congr 1
    exact Bool.eq_iff_iff.2 h
  have hd : rule_digit.f c = some (isDig c) := by
    unfold rule_digit.f isDig
    by_cases h1 : c ≥ 48
    · rw [if_pos h1]
      have : 48 ≤ c := h1
      simp [this]
    · rw [if_neg h1]
      have : ¬ 48 ≤ c := h1
      simp [this]
  unfold rule_sign.f
  rw [hd, bind_some_]
  simp only [idx_set _ c h, bind_some_]
  by_cases h0 : isDig c = true
  · rw [if_pos h0]
    refine key _ ?_
    have := (isDig_iff c).1 h0
    rw [sgn_iff]
    simp; omega
  · rw [if_neg h0]
    have h0' : ¬ (48 ≤ c ∧ c ≤ 57) := fun h => h0 ((isDig_iff c).2 h)
    repeat' split
    all_goals refine key _ ?_
    all_goals rw [sgn_iff]
    all_goals first | (simp; omega) | (rw [decide_eq_true_eq]; show 0 ≤ _ ↔ _; rw [hm]; omega)
theorem rule_all_L0 (s : ByteArray) (hs : s.size ≤ 1000) : ∀ (n : Nat) (i : Int), n = (s.size : Int).toNat - i.toNat → 0 ≤ i → i ≤ (s.size : Int) →
    rule_all.L0 s (⟨#[43, 45]⟩ : ByteArray) (s.size : Int) i = some ((rest s i).all sgn) := by
  intro n
  induction n with
  | zero =>
    intro i hn h0 h1
    rw [rule_all.L0_eq, if_neg (by omega), rest_nil (by omega)]
    rfl
  | succ n ih =>
    intro i hn h0 h1
    have hlt : i < (s.size : Int) := by omega
    have hr := rest_cons h0 hlt
    have hb : 0 ≤ bt s i ∧ bt s i ≤ 255 := rest_bytes s i _ (by rw [hr]; exact List.mem_cons_self ..)
    rw [rule_all.L0_eq, if_pos hlt, if_pos h0, if_pos hlt, rule_sign_eq _ hb, bind_some_, hr, List.all_cons]
    cases hd : sgn (bt s i) with
    | true => rw [if_pos rfl, wrap64_id (by omega) (by omega), ih (i + 1) (by omega) (by omega) (by omega), Bool.true_and]
    | false => rw [if_neg (by simp), Bool.false_and]
def letS (l : List Int) : Bool := decide (l.length ≤ 6) && l.all sgn && decide (l ≠ [45])
theorem letter_eq (s : ByteArray) (hs : s.size ≤ 1000) : rule_Letter.F s = some (letS (bytesOf s)) := by
  have hz := size_len s
  have hd : (s.toList != ([45] : List UInt8)) = decide (bytesOf s ≠ [45]) := by
    rw [Bool.eq_iff_iff, bne_iff_ne, decide_eq_true_eq]
    have e : ([45] : List UInt8) = (⟨#[45]⟩ : ByteArray).toList := by rw [ByteArray.toList_eq]
    rw [e, Ne, toList_iff]
    refine not_congr ⟨?_, fun h => bytes_inj h⟩
    rintro rfl; rfl
  rw [rule_Letter.F_eq]
  unfold letS
  by_cases h : (s.size : Int) ≤ 6
  · rw [if_pos h, rule_all.F_eq, rule_all_L0 s hs _ 0 rfl (by omega) (by omega), bind_some_, rest_zero, decide_eq_true (show (bytesOf s).length ≤ 6 by omega), Bool.true_and, hd]
    cases (bytesOf s).all sgn with
    | true => rw [if_pos rfl, Bool.true_and]
    | false => rw [if_neg (by simp), Bool.false_and]
  · rw [if_neg h, decide_eq_false (show ¬ (bytesOf s).length ≤ 6 by omega), Bool.false_and, Bool.false_and]
/-! The name -/
def nameR (l : List Int) : ByteArray × Int := if rgt l = true then (strOfNums l, 0) else ((⟨#[]⟩ : ByteArray), 16)
theorem right_if (s : ByteArray) (l : List Int) (e : s = strOfNums l) (hb : Bytes l) (hs : s.size ≤ 9223372036854775806) : ((format_Right.F s).bind fun t => (if t = true then (some (s, (0 : Int))) else (some ((⟨#[]⟩ : ByteArray), 16)))) = some (nameR l) := by
  rw [right_eq s hs, bind_some_, e, bytes_strOf hb]
  unfold nameR
  split <;> rfl
theorem name_go {f w : ByteArray} {o v : Int} (hz : zone_Format.F f = some true) (hw : w.size ≤ 1000) (hl : letS (bytesOf w) = true) (ho : Off o) : format_Name.F f w o v = format_Name.J0 f w o v false := by
  rw [format_Name.F_eq, hz, bind_some_, if_pos rfl, letter_eq w hw, bind_some_, if_pos hl, below_eq, bind_some_, decide_eq_true ho]
  rfl
theorem name_1 {f w : ByteArray} {o v : Int} (hf : 1 ≤ f.size ∧ f.size ≤ 40) (h : (bytesOf f).all sgn = true) (hw : w.size ≤ 1000) (hl : letS (bytesOf w) = true) (ho : Off o) : format_Name.F f w o v = some (nameR (bytesOf f)) := by
  rw [name_go (zone_1 hf h) hw hl ho, format_Name.J0_eq, if_neg (by simp), Cut_miss (by omega) (no_spec h 47 (Or.inr rfl)), bind_some_]
  dsimp only
  rw [if_neg (by simp), format_Name.J1_eq, if_neg (by simp), if_neg (by simp), Contains_eq f 115 (by omega), bind_some_, pct_none 115 (no_spec h 37 (Or.inl rfl)), if_neg (by decide), Contains_eq f 122 (by omega), bind_some_, pct_none 122 (no_spec h 37 (Or.inl rfl)), if_neg (by decide)]
  exact right_if f _ (strOf_bytes f).symm (bytes_of f) (by omega)
theorem name_2 {f w : ByteArray} {o v : Int} {A B : List Int} (hf : 1 ≤ f.size ∧ f.size ≤ 40) (h : bytesOf f = A ++ 47 :: B) (hA : A.all sgn = true) (hB : B.all sgn = true) (hw : w.size ≤ 1000) (hl : letS (bytesOf w) = true) (ho : Off o) : format_Name.F f w o v = some (nameR (if v = 0 then A else B)) := by
  have hb := bytes_of f
  rw [h] at hb
  have hlen : (f.size : Int) = (A.length : Int) + ((B.length : Int) + 1) := by rw [size_len, h, List.length_append, List.length_cons]; omega
  rw [name_go (zone_2 hf h hA hB) hw hl ho, format_Name.J0_eq, if_neg (by simp), Cut_hit (by omega) h (no_spec hA 47 (Or.inr rfl)), bind_some_]
  dsimp only
  rw [if_pos rfl, format_Name.J1_eq]
  by_cases hv : v = 0
  · rw [if_pos (by simpa using hv), if_pos hv]
    exact right_if _ A rfl hb.left (by rw [size_strOf]; omega)
  · rw [if_neg (by simpa using hv), if_pos rfl, if_neg hv]
    exact right_if _ B rfl hb.right.tail (by rw [size_strOf]; omega)
theorem name_3 {f w : ByteArray} {o v : Int} {A B : List Int} (hf : 1 ≤ f.size ∧ f.size ≤ 40) (h : bytesOf f = A ++ 37 :: 115 :: B) (hA : A.all sgn = true) (hB : B.all sgn = true) (hw : w.size ≤ 1000) (hl : letS (bytesOf w) = true) (ho : Off o) : format_Name.F f w o v = some (nameR (A ++ bytesOf w ++ B)) := by
  have hb := bytes_of f
  rw [h] at hb
  have hdB : (115 :: B).all sgn = true := by rw [List.all_cons, hB]; rfl
  have h37 := no_spec hA 37 (Or.inl rfl)
  have h47 : (47 : Int) ∉ bytesOf f := by
    rw [h]
    intro hm
    rcases List.mem_append.1 hm with hm | hm
    · exact no_spec hA 47 (Or.inr rfl) hm
    · rcases List.mem_cons.1 hm with hm | hm
      · omega
      · exact no_spec hdB 47 (Or.inr rfl) hm
  have hws : (bytesOf w).all sgn = true := by unfold letS at hl; simp only [Bool.and_eq_true] at hl; exact hl.1.2
  have hlen : (f.size : Int) = (A.length : Int) + ((B.length : Int) + 2) := by rw [size_len, h, List.length_append, List.length_cons, List.length_cons]; omega
  have hwl := bytesOf_length w
  rw [name_go (zone_3 hf h hA hB (Or.inl rfl)) hw hl ho, format_Name.J0_eq, if_neg (by simp), Cut_miss (by omega) h47, bind_some_]
  dsimp only
  rw [if_neg (by simp), format_Name.J1_eq, if_neg (by simp), if_neg (by simp), Contains_eq f 115 (by omega), bind_some_, pct_hit 115 h h37, if_pos (by simp), Replace_hit 115 (by omega) hw h h37 (no_spec hws 37 (Or.inl rfl)), bind_some_]
  exact right_if _ _ rfl (Bytes.app (Bytes.app hb.left (bytes_of w)) hb.right.tail.tail) (by rw [size_strOf, List.length_append, List.length_append]; omega)
theorem stxt_small {o : Int} (ho : Off o) : (stxt o).length ≤ 61 ∧ (37 : Int) ∉ stxt o := by
  have hd : ∀ m : Int, 0 ≤ m → (37 : Int) ∉ stail m ∧ (m < 172800 → (stail m).length ≤ 60) := by
    intro m hm
    have a := txt_dig_ (n := m / 3600) (d := 2) (by omega)
    have b := txt_dig_ (n := m % 3600 / 60) (d := 2) (by omega)
    have c := txt_dig_ (n := m % 60) (d := 2) (by omega)
    have nd : ∀ l : List Int, l.all isDig = true → (37 : Int) ∉ l := fun l h hm => by
      have := (isDig_iff 37).1 (List.all_eq_true.1 h 37 hm)
      omega
    refine ⟨fun hmem => ?_, fun hlt => ?_⟩
    · unfold stail at hmem
      rcases List.mem_append.1 hmem with h | h
      · exact nd _ a h
      · rcases List.mem_append.1 h with h | h
        · split at h
          · cases h
          · exact nd _ b h
        · split at h
          · cases h
          · exact nd _ c h
    · have la := txt_len (n := m / 3600) (d := 2) (by omega)
      have lb := txt_len (n := m % 3600 / 60) (d := 2) (by omega)
      have lc := txt_len (n := m % 60) (d := 2) (by omega)
      unfold stail
      rw [List.length_append, List.length_append]
      have e1 : (if m % 3600 = 0 then [] else txt (m % 3600 / 60) 2).length ≤ 20 := by
        split
        · simp
        · exact lb
      have e2 : (if m % 60 = 0 then [] else txt (m % 60) 2).length ≤ 20 := by
        split
        · simp
        · exact lc
      omega
  unfold Off at ho
  unfold stxt
  split
  · have := hd (-o) (by omega)
    refine ⟨by rw [List.length_cons]; have := this.2 (by omega); omega, fun hm => ?_⟩
    rcases List.mem_cons.1 hm with h | h
    · omega
    · exact this.1 h
  · have := hd o (by omega)
    refine ⟨by rw [List.length_cons]; have := this.2 (by omega); omega, fun hm => ?_⟩
    rcases List.mem_cons.1 hm with h | h
    · omega
    · exact this.1 h
theorem name_4 {f w : ByteArray} {o v : Int} {A B : List Int} (hf : 1 ≤ f.size ∧ f.size ≤ 40) (h : bytesOf f = A ++ 37 :: 122 :: B) (hA : A.all sgn = true) (hB : B.all sgn = true) (hw : w.size ≤ 1000) (hl : letS (bytesOf w) = true) (ho : Off o) : format_Name.F f w o v = some (nameR (A ++ stxt o ++ B)) := by
  have hb := bytes_of f
  rw [h] at hb
  have hdB : (122 :: B).all sgn = true := by rw [List.all_cons, hB]; rfl
  have h37 := no_spec hA 37 (Or.inl rfl)
  have h47 : (47 : Int) ∉ bytesOf f := by
    rw [h]
    intro hm
    rcases List.mem_append.1 hm with hm | hm
    · exact no_spec hA 47 (Or.inr rfl) hm
    · rcases List.mem_cons.1 hm with hm | hm
      · omega
      · exact no_spec hdB 47 (Or.inr rfl) hm
  have hlen : (f.size : Int) = (A.length : Int) + ((B.length : Int) + 2) := by rw [size_len, h, List.length_append, List.length_cons, List.length_cons]; omega
  have ho' := ho
  unfold Off at ho'
  obtain ⟨sl, sn⟩ := stxt_small ho
  have hst := bytes_strOf (stxt_bytes o)
  have hre := Replace_hit (s := f) (w := strOfNums (stxt o)) 122 (by omega) (by rw [size_strOf]; omega) h h37 (by rw [hst]; exact sn)
  rw [hst] at hre
  rw [name_go (zone_3 hf h hA hB (Or.inr rfl)) hw hl ho, format_Name.J0_eq, if_neg (by simp), Cut_miss (by omega) h47, bind_some_]
  dsimp only
  rw [if_neg (by simp), format_Name.J1_eq, if_neg (by simp), if_neg (by simp), Contains_eq f 115 (by omega), bind_some_, pct_miss 115 h h37 (no_spec hdB 37 (Or.inl rfl)) (by decide), if_neg (by decide), Contains_eq f 122 (by omega), bind_some_, pct_hit 122 h h37, if_pos (by simp), short_eq o (by omega), if_pos ho, bind_some_]
  dsimp only
  rw [hre, bind_some_]
  exact right_if _ _ rfl (Bytes.app (Bytes.app hb.left (stxt_bytes o)) hb.right.tail.tail) (by rw [size_strOf, List.length_append, List.length_append]; omega)
end Go.Proofs.YtookjnpmbenheaaDoor.Base
