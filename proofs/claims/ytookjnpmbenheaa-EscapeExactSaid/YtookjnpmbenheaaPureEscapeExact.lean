/- The law EscapeExact over numbers and lists: for every text (of at most 140737488351232 bytes, as every string of the model is) and every list of texts the law's printed function answers true. -/
import Derived.Test.YtookjnpmbenheaaEscC
import Derived.Test.YtookjnpmbenheaaEscTexts
import Derived.Test.YtookjnpmbenheaaEscHeavy
import Derived.Test.YtookjnpmbenheaaEEscx6
import Derived.Test.YtookjnpmbenheaaPEscx4
namespace Go.Proofs.Ytookjnpmbenheaa.Pure
open Go.RowKit Go.Proofs.Ytookjnpmbenheaa.PEsc Go.Proofs.YtookjnpmbenheaaW.PrintWords Go.Proofs.YtookjnpmbenheaaW.PrintLast Go.Proofs.Ytookjnpmbenheaa.Base

theorem exact_wakes : solsticelaw17_wakes.F = some true := by
  have h : solsticelaw17_wakes.f 40 = some true := by decide +kernel
  exact lim_of solsticelaw17_wakes.isF.mono h
/-- The pieces, one by one. -/
theorem exact_L1 (P : List (List Int)) (hP : ∀ p ∈ P, Bytes p ∧ p.length ≤ 2000) (hl : P.length ≤ 2000) (d : Nat) : ∀ (i : Int) (want : Int) (all : List ByteArray), 0 ≤ i → i + d = (P.length : Int) → all.length = i.toNat →
    (want = 0 ∧ (∃ r, gets (P.take i.toNat) = some r ∧ all = r.map strOfNums) ∨ want = 3 ∧ gets P = none) →
    solsticelaw17_EscapeExact.L1 (tolds [] (gets P)).1 (tolds [] (gets P)).2 want (P.map strOfNums) all i = some true := by
  induction d with
  | zero =>
    intro i want all h0 h1 h2 h3
    rw [solsticelaw17_EscapeExact.L1_eq, if_neg (by rw [List.length_map]; omega)]
    rcases h3 with ⟨rfl, r, hr, rfl⟩ | ⟨rfl, hn⟩
    · rw [List.take_of_length_le (by omega)] at hr
      have := gets_length hr
      rw [if_pos rfl, hr, tolds, if_pos rfl, List.nil_append, texts_F _ _ (by rw [List.length_map]; omega)]
      rw [bind_some_, if_pos (decide_eq_true rfl), exact_wakes]
      rfl
    · rw [if_neg (by decide), hn, tolds]
      show (if (3 : Int) = 3 then (if (([] : List ByteArray).length : Int) = 0 then solsticelaw17_wakes.F.bind fun t => some t else some false) else some false) = some true
      rw [if_pos rfl, if_pos (show (([] : List ByteArray).length : Int) = 0 from rfl), exact_wakes]
      rfl
  | succ d ih =>
    intro i want all h0 h1 h2 h3
    have hw : wrap64 (i + 1) = i + 1 := wrap64_id (by omega) (by omega)
    have hi : i < ((P.map strOfNums).length : Int) := by rw [List.length_map]; omega
    have hdr := drop_cons_ ([] : List Int) h0 (show i < (P.length : Int) by omega)
    have hrd : rdOf ByteArray.empty (P.map strOfNums) i = strOfNums (rdOf [] P i) := by
      have e := drop_cons_ ByteArray.empty h0 hi
      rw [← List.map_drop, hdr, List.map_cons] at e
      exact (List.cons.inj e).1.symm
    have hpm := hP _ (rdOf_mem ([] : List Int) h0 (show i < (P.length : Int) by omega))
    have htk : P.take (i + 1).toNat = P.take i.toNat ++ [rdOf [] P i] := by
      rw [show (i + 1).toNat = i.toNat + 1 by omega, List.take_add_one, List.getElem?_eq_getElem (show i.toNat < P.length by omega)]
      congr 1
      unfold rdOf
      rw [List.getD_eq_getElem?_getD, List.getElem?_eq_getElem (show i.toNat < P.length by omega)]
      rfl
    rw [solsticelaw17_EscapeExact.L1_eq, if_pos hi, if_pos h0, hrd, refget_F _ (by rw [size_strOf]; omega), bytes_strOf hpm.1, hw]
    repeat rw [bind_some_]
    cases hg : get (rdOf [] P i) with
    | none =>
      rw [told_none, if_neg (by decide), if_pos (by omega)]
      refine ih _ _ _ (by omega) (by omega) (by simp; omega) (.inr ⟨rfl, ?_⟩)
      rw [← List.take_append_drop i.toNat P, gets_append, hdr, gets, hg]
      cases gets (P.take i.toNat) <;> rfl
    | some x =>
      rw [told_some, if_pos rfl, if_pos (by omega), List.nil_append]
      refine ih _ _ _ (by omega) (by omega) (by simp; omega) ?_
      rcases h3 with ⟨hw0, r, hr, rfl⟩ | hn
      · refine .inl ⟨hw0, r ++ [x], ?_, by simp⟩
        rw [htk, gets_append, hr, gets, hg]
        rfl
      · exact .inr hn
/-- The texts that are put together by the law itself. -/
theorem exact_L0 (s : ByteArray) (l : List ByteArray) (hl : l.length ≤ 60) (hs : ∀ x ∈ l, x.size ≤ 800) (c : ByteArray) (g : Int) (D : List ByteArray) (h : Int) (d : Nat) : ∀ (i : Int) (z : ByteArray) (want : Int), 0 ≤ i → i + d = (l.length : Int) → z.size ≤ i.toNat * 2000 →
    (want = 0 ∧ (∃ r, puts ((l.take i.toNat).map bytesOf) = some r ∧ z = strOfNums (jn [44] r)) ∨ want = 3 ∧ puts (l.map bytesOf) = none) →
    ∃ z' want', solsticelaw17_EscapeExact.L0 s l c g D h z want i = (if want' = 0 then solsticelaw17_EscapeExact.J4 s c g D h z' want' ((l.length : Int) == 0) else solsticelaw17_EscapeExact.J4 s c g D h z' want' false) ∧
      (want' = 0 ∧ (∃ r, puts (l.map bytesOf) = some r ∧ z' = strOfNums (jn [44] r)) ∨ want' = 3 ∧ puts (l.map bytesOf) = none) := by
  induction d with
  | zero =>
    intro i z want h0 h1 h2 h3
    refine ⟨z, want, by rw [solsticelaw17_EscapeExact.L0_eq, if_neg (by omega)], ?_⟩
    rwa [List.take_of_length_le (by omega)] at h3
  | succ d ih =>
    intro i z want h0 h1 h2 h3
    have hw : wrap64 (i + 1) = i + 1 := wrap64_id (by omega) (by omega)
    have hi : i < (l.length : Int) := by omega
    have hm : (rdOf ByteArray.empty l i).size ≤ 800 := hs _ (rdOf_mem _ h0 hi)
    have htk : l.take (i + 1).toNat = l.take i.toNat ++ [rdOf ByteArray.empty l i] := by
      rw [show (i + 1).toNat = i.toNat + 1 by omega, List.take_add_one, List.getElem?_eq_getElem (show i.toNat < l.length by omega)]
      congr 1
      unfold rdOf
      rw [List.getD_eq_getElem?_getD, List.getElem?_eq_getElem (show i.toNat < l.length by omega)]
      rfl
    have hz60 : z.size ≤ 60 * 2000 := Nat.le_trans h2 (Nat.mul_le_mul_right _ (by omega))
    have h44 : (⟨#[44]⟩ : ByteArray).size = 1 := rfl
    rw [solsticelaw17_EscapeExact.L0_eq, if_pos hi, if_pos h0, refput_F _ (by omega)]
    repeat rw [bind_some_]
    -- one more text behind z, of at most 1600 bytes
    have hstep : ∀ (x : ByteArray) (w1 w2 : Int) (fl : Bool), x.size ≤ 1600 → solsticelaw17_EscapeExact.J3 s l c g D h z w1 i x w2 fl = solsticelaw17_EscapeExact.L0 s l c g D h (if i > 0 then (z ++ ⟨#[44]⟩) ++ x else z ++ x) (if fl = true then w2 else w1) (i + 1) := by
      intro x w1 w2 fl hx
      rw [solsticelaw17_EscapeExact.J3_eq, hw]
      by_cases hp : i > 0
      · have e1 : z.size + 1 ≤ 9223372036854775807 := by omega
        have e2 : (z ++ (⟨#[44]⟩ : ByteArray)).size + x.size ≤ 9223372036854775807 := by rw [ByteArray.size_append, h44]; omega
        simp only [if_pos hp, if_pos e1, if_pos e2]
        cases fl <;> rfl
      · have e3 : z.size + x.size ≤ 9223372036854775807 := by omega
        simp only [if_neg hp, if_pos e3]
        cases fl <;> rfl
    have hsize : ∀ x : ByteArray, x.size ≤ 1600 → (if i > 0 then (z ++ ⟨#[44]⟩) ++ x else z ++ x).size ≤ (i + 1).toNat * 2000 := by
      intro x hx
      rw [show (i + 1).toNat = i.toNat + 1 by omega, Nat.add_mul]
      split
      · rw [ByteArray.size_append, ByteArray.size_append, h44]; omega
      · rw [ByteArray.size_append]; omega
    cases hp : put (bytesOf (rdOf ByteArray.empty l i)) with
    | none =>
      have hnone : puts (l.map bytesOf) = none := by
        rw [← List.take_append_drop i.toNat l, List.map_append, puts_append, drop_cons_ ByteArray.empty h0 hi, List.map_cons, puts, hp]
        cases puts ((l.take i.toNat).map bytesOf) <;> rfl
      rw [told_none, if_neg (by decide), hstep _ _ _ _ (by decide)]
      refine ih _ _ _ (by omega) (by omega) (hsize _ (by decide)) (.inr ⟨?_, hnone⟩)
      rcases h3 with ⟨rfl, _⟩ | ⟨rfl, _⟩
      · rfl
      · rfl
    | some x =>
      have hxl := put_length hp
      rw [bytesOf_length] at hxl
      rw [told_some, if_pos rfl, List.nil_append, hstep _ _ _ _ (by rw [size_strOf]; omega)]
      refine ih _ _ _ (by omega) (by omega) (hsize _ (by rw [size_strOf]; omega)) ?_
      rcases h3 with ⟨rfl, r, hr, rfl⟩ | hn
      · refine .inl ⟨rfl, r ++ [x], ?_, ?_⟩
        · rw [htk, List.map_append, puts_append, hr, List.map_singleton, puts, hp]
          rfl
        · have hrl := (puts_all hr).1
          rw [List.length_map, List.length_take] at hrl
          rw [jn_snoc]
          by_cases hpos : i > 0
          · rw [if_pos hpos, if_neg (by intro e; rw [e] at hrl; simp at hrl; omega), show (⟨#[44]⟩ : ByteArray) = strOfNums [44] from rfl, strOf_append, strOf_append]
          · have hr0 : r = [] := List.eq_nil_of_length_eq_zero (by omega)
            rw [if_neg hpos, if_pos hr0, hr0, strOf_append]
            rfl
      · exact .inr hn
theorem EscapeExact (s : ByteArray) (l : List ByteArray) (_ : s.size ≤ 140737488351232) : ∃ k, solsticelaw17_EscapeExact.f k s l = some true := by
  suffices h : solsticelaw17_EscapeExact.F s l = some true from lim_some h
  rw [solsticelaw17_EscapeExact.F_eq]
  by_cases h1 : (s.size : Int) > 1000
  · rw [if_pos h1, solsticelaw17_EscapeExact.J0_eq, if_pos rfl]
  · obtain ⟨b, hb, hh⟩ := heavy_F l
    rw [if_neg h1, hb, bind_some_, solsticelaw17_EscapeExact.J0_eq]
    cases b with
    | true => rw [if_pos rfl]
    | false =>
      obtain ⟨hl, hl2⟩ := hh rfl
      have htw : solsticekeep_TwinTexts.f l = some l := by
        unfold solsticekeep_TwinTexts.f
        rw [if_pos (by simp; omega), List.nil_append]
      have hcb := cuts_bytes (bytesOf s) [] Bytes.nil (bytes_of s)
      rw [bytesOf_length] at hcb
      -- the rest of the law, behind what was put together
      have hJ6 : solsticelaw17_EscapeExact.J6 s (tolds [] (gets (cuts [] (bytesOf s)))).1 (tolds [] (gets (cuts [] (bytesOf s)))).2 false = some true := by
        rw [solsticelaw17_EscapeExact.J6_eq, if_neg (by decide), pieces_F s (by omega), bind_some_]
        refine exact_L1 _ (fun p hp => ⟨hcb.1 p hp, ?_⟩) (by omega) (cuts [] (bytesOf s)).length 0 0 [] (by omega) (by omega) rfl (.inl ⟨rfl, [], rfl, rfl⟩)
        have := hcb.2.1 p hp
        simp at this
        omega
      rw [if_neg (by decide), htw, bind_some_, put_F s (by omega), get_F s (by omega), list_F l hl hl2, unlist_F s (by omega), refput_F s (by omega), refget_F s (by omega)]
      repeat rw [bind_some_]
      have hlist : ∃ c g, listed l (puts (l.map bytesOf)) = some (c, g) ∧ solsticelaw17_EscapeExact.J1 s l c g (tolds [] (gets (cuts [] (bytesOf s)))).1 (tolds [] (gets (cuts [] (bytesOf s)))).2 false = some true := by
        have hloop := fun c g => exact_L0 s l hl hl2 c g (tolds [] (gets (cuts [] (bytesOf s)))).1 (tolds [] (gets (cuts [] (bytesOf s)))).2 l.length 0 ⟨#[]⟩ 0 (by omega) (by omega) (by decide) (.inl ⟨rfl, [], rfl, rfl⟩)
        cases hr : puts (l.map bytesOf) with
        | none =>
          refine ⟨⟨#[]⟩, 3, rfl, ?_⟩
          obtain ⟨z, want, hL, hcase⟩ := hloop ⟨#[]⟩ 3
          rcases hcase with ⟨_, r, hr', _⟩ | ⟨rfl, _⟩
          · rw [hr] at hr'; cases hr'
          · rw [solsticelaw17_EscapeExact.J1_eq, if_neg (by decide)]
            refine hL.trans ?_
            rw [if_neg (by decide), solsticelaw17_EscapeExact.J4_eq, if_neg (by decide), solsticelaw17_EscapeExact.J5_eq]
            rw [if_pos rfl, if_neg (by decide), if_pos (by decide +kernel)]
            exact hJ6
        | some r =>
          by_cases h0 : (l.length : Int) = 0
          · refine ⟨⟨#[]⟩, 2, by rw [listed, if_pos h0], ?_⟩
            obtain ⟨z, want, hL, hcase⟩ := hloop ⟨#[]⟩ 2
            rcases hcase with ⟨rfl, _, _, _⟩ | ⟨_, hr'⟩
            · rw [solsticelaw17_EscapeExact.J1_eq, if_neg (by decide)]
              refine hL.trans ?_
              rw [if_pos rfl, show ((l.length : Int) == 0) = true from beq_iff_eq.2 h0, solsticelaw17_EscapeExact.J4_eq, if_pos rfl, solsticelaw17_EscapeExact.J5_eq]
              rw [if_pos rfl, if_neg (by decide), if_pos (by decide +kernel)]
              exact hJ6
            · rw [hr] at hr'; cases hr'
          · obtain ⟨h2, h3⟩ := puts_all hr
            rw [List.length_map] at h2
            have hb := h3 (fun x hx => by
              obtain ⟨y, hy, rfl⟩ := List.mem_map.1 hx
              exact ⟨bytes_of y, by rw [bytesOf_length]; exact hl2 y hy⟩)
            obtain ⟨t, ht, htb, hts⟩ := join_F (by omega) hb
            refine ⟨t, 0, by rw [listed, if_neg h0, ht]; rfl, ?_⟩
            obtain ⟨z, want, hL, hcase⟩ := hloop t 0
            rcases hcase with ⟨rfl, r', hr', rfl⟩ | ⟨_, hr'⟩
            · rw [hr] at hr'
              cases hr'
              have hte : t = strOfNums (jn [44] r) := bytes_inj (by rw [htb, bytes_strOf (jn_bytes (Bytes.cons (by omega) (by omega) Bytes.nil) r (fun y hy => (hb y hy).1))])
              rw [solsticelaw17_EscapeExact.J1_eq, if_neg (by decide)]
              refine hL.trans ?_
              rw [if_pos rfl, show ((l.length : Int) == 0) = false from beq_eq_false_iff_ne.2 h0, solsticelaw17_EscapeExact.J4_eq, if_neg (by decide), solsticelaw17_EscapeExact.J5_eq]
              have hne : (t.toList != (strOfNums (jn [44] r)).toList) = false := by rw [hte]; simp
              rw [if_pos rfl, if_pos rfl, hne]
              exact hJ6
            · rw [hr] at hr'; cases hr'
      obtain ⟨c, g, hc, hfin⟩ := hlist
      rw [hc]
      rw [bind_some_, bind_some_, bind_some_, bind_some_, if_pos rfl, if_pos rfl, if_pos rfl, if_pos rfl, texts_F l l (by omega), bind_some_, decide_eq_true rfl]
      exact hfin
end Go.Proofs.Ytookjnpmbenheaa.Pure
