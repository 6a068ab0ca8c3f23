/- The law FoldAnywhere over numbers and lists: for every text, list of whole numbers and two bools the law's printed function answers true. -/
import Derived.Test.YtfiiipjglacejaaDoorFolD
import Derived.Test.YtfiiipjglacejaaDoorEFolx8
namespace Go.Proofs.YtfiiipjglacejaaDoor.Pure
open Go.RowKit Go.Proofs.YtfiiipjglacejaaDoor.PFol Go.Proofs.YtfiiipjglacejaaDoorW.PrintWords Go.Proofs.YtfiiipjglacejaaDoorW.PrintLast Go.Proofs.YtfiiipjglacejaaDoorW.PrintMore Go.Proofs.YtfiiipjglacejaaDoor.Base
set_option linter.unusedVariables false
set_option linter.unusedSimpArgs false

theorem isEnd_bytes {e : List Int} (h : isEnd e) : Bytes e ∧ e.length ≤ 2 := by
  rcases h with rfl | rfl
  · exact ⟨Bytes.cons (by omega) (by omega) (Bytes.cons (by omega) (by omega) Bytes.nil), by simp⟩
  · exact ⟨Bytes.cons (by omega) (by omega) Bytes.nil, by simp⟩
theorem rest_take {s : ByteArray} {i : Int} (h0 : 0 ≤ i) (h1 : i < (s.size : Int)) : (bytesOf s).take (i + 1).toNat = (bytesOf s).take i.toNat ++ [bt s i] := by
  have hr := rest_cons h0 h1
  unfold rest at hr
  have hl : i.toNat < (bytesOf s).length := by rw [bytesOf_length]; omega
  rw [List.drop_eq_getElem_cons hl] at hr
  simp only [List.cons.injEq] at hr
  rw [show (i + 1).toNat = i.toNat + 1 by omega, List.take_add_one, List.getElem?_eq_getElem hl, hr.1]
  rfl
theorem any_fin (s : ByteArray) (e : List Int) (he : isEnd e) (t : List Int) (ht : Fo t (bytesOf s)) (hc : Cln (bytesOf s)) (hb : Bytes t) (hl : t.length ≤ 100000) (f : Bool) : solsticelaw16_FoldAnywhere.J6 s (strOfNums e) (strOfNums t) f = some true := by
  obtain ⟨eb, el⟩ := isEnd_bytes he
  rw [solsticelaw16_FoldAnywhere.J6_eq, wakes16]
  cases f with
  | true => rw [if_pos rfl, bind_some_]
  | false =>
    have hu := unf_any ht hc.1 he
    rw [if_neg (by simp), if_pos (by rw [size_strOf, size_strOf]; omega), strOf_append, Unfold_eq _ (by rw [size_strOf, List.length_append]; omega), bind_some_, bytes_strOf (Bytes.app hb eb), hu]
    unfold encU
    dsimp only
    rw [if_pos rfl, List.map_cons, List.map_nil, strOf_bytes, keep_texts [s] [s] (by simp), bind_some_, if_pos (by simp), bind_some_]
theorem any_L2 (s : ByteArray) (xs : List Int) (e : List Int) (b : Int) (he : isEnd e) (hb : b = 32 ∨ b = 9) (hs : 0 < s.size ∧ s.size ≤ 300) (hx : xs.length ≤ 20) (i : Int) (h0 : 0 ≤ i) (h1 : i < (s.size : Int)) (p : List Int) : ∀ (d : Nat) (j : Int) (t : List Int), d = xs.length - j.toNat → 0 ≤ j → j ≤ (xs.length : Int) → Fo t p → Bytes t → (t.length : Int) ≤ 70 * i + 3 * j →
    ∃ t', Fo t' p ∧ Bytes t' ∧ (t'.length : Int) ≤ 70 * i + 60 ∧ solsticelaw16_FoldAnywhere.L2 s xs (strOfNums e) (strOfNums [b]) (strOfNums t) i j = solsticelaw16_FoldAnywhere.L1 s xs (strOfNums e) (strOfNums [b]) (strOfNums (t' ++ [bt s i])) (i + 1) := by
  obtain ⟨eb, el⟩ := isEnd_bytes he
  have hw : IntKind.u64.wrap (s.size : Int) = (s.size : Int) := by
    unfold IntKind.wrap
    simp [IntKind.signed, IntKind.bits]
    omega
  intro d
  induction d with
  | zero =>
    intro j t hd g0 g1 ht hB hl
    refine ⟨t, ht, hB, by omega, ?_⟩
    have hex : s.extract i.toNat (i + 1).toNat = strOfNums [bt s i] := by
      have h := extract_take s (i := i) (c := 1) h0
      rw [rest_cons h0 h1] at h
      exact h
    rw [solsticelaw16_FoldAnywhere.L2_eq, if_neg (by omega), if_pos h0, wrap64_id (n := i + 1) (by omega) (by omega), if_pos (by omega), if_pos (by omega), hex, if_pos (by rw [size_strOf, size_strOf, List.length_singleton]; omega), strOf_append]
  | succ d ih =>
    intro j t hd g0 g1 ht hB hl
    have hlt : j < (xs.length : Int) := by omega
    rw [solsticelaw16_FoldAnywhere.L2_eq, if_pos hlt, if_pos g0, hw, if_neg (by omega), wrap64_id (n := j + 1) (by omega) (by omega)]
    by_cases c : wrap64 (Int.tmod (IntKind.u64.wrap (rd xs j)) (s.size : Int)) = i
    · have s1 : (strOfNums t ++ strOfNums e).size = t.length + e.length := by rw [ByteArray.size_append, size_strOf, size_strOf]
      rw [if_pos c, if_pos (by rw [size_strOf, size_strOf]; omega), if_pos (by rw [s1, size_strOf, List.length_singleton]; omega), strOf_append, strOf_append, List.append_assoc]
      have := Fo_app ht (Fo_fold he hb)
      rw [List.append_nil] at this
      refine ih (j + 1) _ (by omega) (by omega) (by omega) this (Bytes.app hB (Bytes.app eb (Bytes.cons (by omega) (by omega) Bytes.nil))) ?_
      rw [List.length_append, List.length_append, List.length_singleton]
      omega
    · rw [if_neg c]
      exact ih (j + 1) t (by omega) (by omega) (by omega) ht hB (by omega)
theorem any_L1 (s : ByteArray) (xs : List Int) (e : List Int) (b : Int) (he : isEnd e) (hb : b = 32 ∨ b = 9) (hs : 0 < s.size ∧ s.size ≤ 300) (hx : xs.length ≤ 20) (hc : Cln (bytesOf s)) : ∀ (d : Nat) (i : Int) (t : List Int), d = s.size - i.toNat → 0 ≤ i → i ≤ (s.size : Int) → Fo t ((bytesOf s).take i.toNat) → Bytes t → (t.length : Int) ≤ 70 * i →
    solsticelaw16_FoldAnywhere.L1 s xs (strOfNums e) (strOfNums [b]) (strOfNums t) i = some true := by
  intro d
  induction d with
  | zero =>
    intro i t hd h0 h1 ht hB hl
    rw [List.take_of_length_le (by rw [bytesOf_length]; omega)] at ht
    have hf := fun f => any_fin s e he t ht hc hB (by omega) f
    rw [solsticelaw16_FoldAnywhere.L1_eq, if_neg (by omega), if_pos (by omega), hf, hf]
    split <;> rfl
  | succ d ih =>
    intro i t hd h0 h1 ht hB hl
    have hlt : i < (s.size : Int) := by omega
    obtain ⟨t', t1, t2, t3, t4⟩ := any_L2 s xs e b he hb hs hx i h0 hlt _ _ 0 t rfl (by omega) (by omega) ht hB (by omega)
    have hbt := bt_range s i
    have hm : bt s i ∈ bytesOf s := by
      have hr := rest_cons h0 hlt
      unfold rest at hr
      exact List.mem_of_mem_drop (hr ▸ List.mem_cons_self ..)
    have hch := Fo_chr (c := bt s i) (fun e => hc.1 (e ▸ hm)) (fun e => hc.2 (e ▸ hm))
    rw [solsticelaw16_FoldAnywhere.L1_eq, if_pos hlt, t4]
    refine ih (i + 1) _ (by omega) (by omega) (by omega) ?_ (Bytes.app t2 (Bytes.cons hbt.1 hbt.2 Bytes.nil)) ?_
    · rw [rest_take h0 hlt]
      exact Fo_app t1 hch
    · rw [List.length_append, List.length_singleton]
      omega
theorem any_J3 (s : ByteArray) (xs : List Int) (e : List Int) (b : Int) (he : isEnd e) (hb : b = 32 ∨ b = 9) (hs : 0 < s.size ∧ s.size ≤ 300) (hx : xs.length ≤ 20) (hc : Cln (bytesOf s)) : solsticelaw16_FoldAnywhere.J3 s xs (strOfNums e) (strOfNums [b]) = some true := by
  rw [solsticelaw16_FoldAnywhere.J3_eq]
  exact any_L1 s xs e b he hb hs hx hc _ 0 [] rfl (by omega) (by omega) Fo_nil Bytes.nil (by simp)
theorem any_L0 (s : ByteArray) (xs : List Int) (tab alone : Bool) (hs : 0 < s.size ∧ s.size ≤ 300) (hx : xs.length ≤ 20) : ∀ (d : Nat) (i : Int), d = s.size - i.toNat → 0 ≤ i → i ≤ (s.size : Int) → Cln ((bytesOf s).take i.toNat) →
    solsticelaw16_FoldAnywhere.L0 s xs tab alone i = some true := by
  intro d
  induction d with
  | zero =>
    intro i hd h0 h1 hc
    rw [List.take_of_length_le (by rw [bytesOf_length]; omega)] at hc
    have e10 : (⟨#[10]⟩ : ByteArray) = strOfNums [10] := rfl
    have e1310 : (⟨#[13, 10]⟩ : ByteArray) = strOfNums [13, 10] := rfl
    have e32 : (⟨#[32]⟩ : ByteArray) = strOfNums [32] := rfl
    have e9 : (⟨#[9]⟩ : ByteArray) = strOfNums [9] := rfl
    have hJ2 : ∀ e, isEnd e → solsticelaw16_FoldAnywhere.J2 s xs tab (strOfNums e) (strOfNums [32]) = some true := by
      intro e he
      rw [solsticelaw16_FoldAnywhere.J2_eq, e9, any_J3 s xs e 9 he (Or.inr rfl) hs hx hc, any_J3 s xs e 32 he (Or.inl rfl) hs hx hc]
      split <;> rfl
    rw [solsticelaw16_FoldAnywhere.L0_eq, if_neg (by omega), e10, e1310, e32, hJ2 _ (Or.inr rfl), hJ2 _ (Or.inl rfl)]
    split <;> rfl
  | succ d ih =>
    intro i hd h0 h1 hc
    have hlt : i < (s.size : Int) := by omega
    rw [solsticelaw16_FoldAnywhere.L0_eq, if_pos hlt, if_pos h0, wrap64_id (n := i + 1) (by omega) (by omega)]
    by_cases c1 : bt s i = 10
    · rw [if_pos c1]
    · rw [if_neg c1]
      by_cases c2 : bt s i = 13
      · rw [if_pos c2]
      · rw [if_neg c2]
        refine ih (i + 1) (by omega) (by omega) (by omega) ?_
        rw [rest_take h0 hlt]
        refine ⟨fun h => ?_, fun h => ?_⟩
        · rcases List.mem_append.1 h with h | h
          · exact hc.1 h
          · exact c1 (List.mem_singleton.1 h).symm
        · rcases List.mem_append.1 h with h | h
          · exact hc.2 h
          · exact c2 (List.mem_singleton.1 h).symm
theorem FoldAnywhere_F (s : ByteArray) (xs : List Int) (tab alone : Bool) : solsticelaw16_FoldAnywhere.F s xs tab alone = some true := by
  have stop : solsticelaw16_FoldAnywhere.J0 s xs tab alone true = some true := by rw [solsticelaw16_FoldAnywhere.J0_eq, if_pos rfl]
  rw [solsticelaw16_FoldAnywhere.F_eq, stop]
  by_cases h1 : (s.size : Int) > 300
  · rw [if_pos h1]
  · rw [if_neg h1]
    by_cases h2 : (s.size : Int) = 0
    · rw [if_pos h2]
    · rw [if_neg h2]
      by_cases h3 : (xs.length : Int) > 20
      · rw [decide_eq_true h3, stop]
      · rw [decide_eq_false h3, solsticelaw16_FoldAnywhere.J0_eq, if_neg (by simp)]
        exact any_L0 s xs tab alone (by omega) (by omega) _ 0 rfl (by omega) (by omega) ⟨by simp, by simp⟩
theorem FoldAnywhere (s : ByteArray) (xs : List Int) (tab alone : Bool) (w0 : s.size ≤ 140737488351232) (hQ : ∀ x ∈ xs, (Lit.int .i64 x).wf = true) : ∃ k, solsticelaw16_FoldAnywhere.f k s xs tab alone = some true := lim_some (FoldAnywhere_F s xs tab alone)
end Go.Proofs.YtfiiipjglacejaaDoor.Pure
