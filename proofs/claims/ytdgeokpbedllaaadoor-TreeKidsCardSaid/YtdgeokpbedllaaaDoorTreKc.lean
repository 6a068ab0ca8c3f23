-- A text of the kit's tools for this claim, its remarks left out.
import Derived.Test.YtdgeokpbedllaaaDoorTreKb
import Derived.Test.YtdgeokpbedllaaaDoorETrex5
namespace Go.Proofs.YtdgeokpbedllaaaDoor.TreK
open Go.RowKit Go.Proofs.YtdgeokpbedllaaaDoor.PTre Go.Proofs.YtdgeokpbedllaaaDoorW.PrintWords Go.Proofs.YtdgeokpbedllaaaDoorW.PrintLast Go.Proofs.YtdgeokpbedllaaaDoorW.PrintMore Go.Proofs.YtdgeokpbedllaaaDoor.Base
set_option linter.unusedVariables false
set_option linter.unusedSimpArgs false
structure St (l : List S40) (i p q : Nat) (st : List Nat) : Prop where
 len : st.length ≤ i
 own : ∀ a : Nat, a < i → 0 ≤ (rd_T40 l (a : Int)).f2 ∧ Eo l a ≤ l.length
 ops : ∀ a : Nat, a < i → p ≤ Eo l a → Eo l a ∈ st
 srt : st.Pairwise (fun x y => y ≤ x)
 lo : ∀ e ∈ st, q ≤ e ∧ e ≤ l.length
 inn : ∀ a b : Nat, a < b → b < i → b < Eo l a → Eo l b ≤ Eo l a
structure Told (l : List S40) : Prop where
 name : ∀ c ∈ l, ∃ b, r16_Name.F c.f0 = some b
 line : ∀ c ∈ l, ∀ x ∈ c.f1, ∃ b, r16_Line.F x.f0 x.f1 x.f2 = some b
 word : ∀ c ∈ l, ∀ x ∈ c.f1, ∀ s : ByteArray, s.size ≤ 10 → ∃ b, r16_Alike.F x.f0 s = some b
 few : ∀ c ∈ l, c.f1.length ≤ 1000
theorem rd_mem {l : List S40} {i : Nat} (h : i < l.length) : rd_T40 l (i : Int) ∈ l := by
 unfold rd_T40
 rw [Int.toNat_natCast, List.getD_eq_getElem?_getD, List.getElem?_eq_getElem h]
 exact List.getElem_mem h
theorem rd44_mem {l : List S44} {i : Nat} (h : i < l.length) : rd_T44 l (i : Int) ∈ l := by
 unfold rd_T44
 rw [Int.toNat_natCast, List.getD_eq_getElem?_getD, List.getElem?_eq_getElem h]
 exact List.getElem_mem h
theorem tree_L2 {l : List S40} (hT : Told l) (st : List Int) (hst : st.length ≤ 1000) (i : Nat) (hi : i < l.length) (nm : ByteArray) (own : Int) : ∀ d j : Nat, j + d = (rd_T40 l (i : Int)).f1.length →
  r16_Tree.L2 l st (i : Int) (j : Int) nm (rd_T40 l (i : Int)).f1 own = some false ∨ r16_Tree.L2 l st (i : Int) (j : Int) nm (rd_T40 l (i : Int)).f1 own = r16_Tree.L0 l (st ++ [wrap64 ((wrap64 ((i : Int) + 1)) + own)]) (wrap64 ((i : Int) + 1)) := by
 intro d
 have hm := rd_mem hi
 have hf := hT.few _ hm
 induction d with
 | zero =>
  intro j h
  right
  rw [r16_Tree.L2_eq, if_neg (by omega), if_pos (by omega)]
 | succ d ih =>
  intro j h
  have hx := rd44_mem (l := (rd_T40 l (i : Int)).f1) (i := j) (by omega)
  rw [r16_Tree.L2_eq, if_pos (by omega), if_pos (by omega)]
  obtain ⟨b1, e1⟩ := hT.line _ hm _ hx
  rw [e1, bind_some_]
  cases b1 with
  | false => left; rw [if_neg (by decide)]
  | true =>
   rw [if_pos rfl]
   obtain ⟨b2, e2⟩ := hT.word _ hm _ hx (⟨#[66, 69, 71, 73, 78]⟩ : ByteArray) (by decide)
   rw [e2, bind_some_]
   cases b2 with
   | true => left; rw [if_pos rfl]
   | false =>
    rw [if_neg (by decide)]
    obtain ⟨b3, e3⟩ := hT.word _ hm _ hx (⟨#[69, 78, 68]⟩ : ByteArray) (by decide)
    rw [e3, bind_some_]
    cases b3 with
    | true => left; rw [if_pos rfl]
    | false =>
     rw [if_neg (by decide), wrap64_id (n := (j : Int) + 1) (by omega) (by omega)]
     exact ih (j + 1) (by omega)
theorem up_append (s t : List Nat) : up (s ++ t) = up s ++ up t := by unfold up; rw [List.map_append]
theorem up_length (s : List Nat) : (up s).length = s.length := by unfold up; rw [List.length_map]
theorem St.push {l : List S40} {i : Nat} {st : List Nat} (h : St l i (i + 1) (i + 1) st) (hi : i < l.length) (h0 : 0 ≤ (rd_T40 l (i : Int)).f2) (hr : Eo l i ≤ l.length) (ht : ∀ e ∈ st, Eo l i ≤ e) : St l (i + 1) (i + 1 + 1) (i + 1) (st ++ [Eo l i]) := by
 have hu : i + 1 ≤ Eo l i := by unfold Eo; omega
 refine ⟨?_, ?_, ?_, ?_, ?_, ?_⟩
 ·rw [List.length_append]; simp; exact h.len
 ·intro a ha
  by_cases e : a = i
  ·rw [e]; exact ⟨h0, hr⟩
  ·exact h.own a (by omega)
 ·intro a ha hE
  by_cases e : a = i
  ·rw [e]; exact List.mem_append_right _ (List.mem_singleton.2 rfl)
  ·exact List.mem_append_left _ (h.ops a (by omega) (by omega))
 ·rw [List.pairwise_append]
  refine ⟨h.srt, List.pairwise_singleton _ _, fun x hx y hy => ?_⟩
  rw [List.mem_singleton.1 hy]
  exact ht x hx
 ·intro e he
  rcases List.mem_append.1 he with he | he
  ·exact h.lo e he
  ·rw [List.mem_singleton.1 he]; exact ⟨hu, hr⟩
 ·intro a b hab hb hE
  by_cases e : b = i
  ·rw [e] at hE hab ⊢
   exact ht _ (h.ops a hab (by omega))
  ·exact h.inn a b hab (by omega) hE
theorem tree_J4 {l : List S40} (hT : Told l) (hl : l.length ≤ 900) (i : Nat) (hi : i < l.length) (st : List Nat) (h : St l i (i + 1) (i + 1) st) (room : Nat) (hr : room ≤ l.length) (hir : i < room) (ht : ∀ e ∈ st, room ≤ e) :
  r16_Tree.J4 l (up st) (i : Int) (room : Int) (rd_T40 l (i : Int)).f0 (rd_T40 l (i : Int)).f1 (rd_T40 l (i : Int)).f2 = some false ∨ ∃ st', St l (i + 1) (i + 1 + 1) (i + 1) st' ∧ r16_Tree.J4 l (up st) (i : Int) (room : Int) (rd_T40 l (i : Int)).f0 (rd_T40 l (i : Int)).f1 (rd_T40 l (i : Int)).f2 = r16_Tree.L0 l (up st') ((i + 1 : Nat) : Int) := by
 have hj : r16_Tree.J5 l (up st) (i : Int) true (rd_T40 l (i : Int)).f0 (rd_T40 l (i : Int)).f1 (rd_T40 l (i : Int)).f2 = some false := by rw [r16_Tree.J5_eq, if_pos rfl]
 have hlen := h.len
 obtain ⟨b, e⟩ := hT.name _ (rd_mem hi)
 rw [r16_Tree.J4_eq, e, bind_some_]
 cases b with
 | false => left; rw [if_neg (by decide), hj]
 | true =>
  rw [if_pos rfl]
  by_cases h0 : (rd_T40 l (i : Int)).f2 < 0
  ·left; rw [if_pos h0, hj]
  ·rw [if_neg h0, wrap64_id (n := (room : Int) - i) (by omega) (by omega), wrap64_id (n := (room : Int) - i - 1) (by omega) (by omega)]
   by_cases h1 : (rd_T40 l (i : Int)).f2 > (room : Int) - i - 1
   ·left; rw [if_pos h1, hj]
   ·rw [if_neg h1, r16_Tree.J5_eq]
    by_cases h8 : decide (((up st).length : Int) ≥ 8) = true
    ·left; rw [if_pos h8]
    ·rw [if_neg h8]
     have hE : (Eo l i : Int) = (i : Int) + 1 + (rd_T40 l (i : Int)).f2 := by unfold Eo; omega
     rcases tree_L2 hT (up st) (by rw [up_length]; omega) i hi (rd_T40 l (i : Int)).f0 (rd_T40 l (i : Int)).f2 _ 0 (Nat.zero_add _) with e2 | e2
     ·left; exact e2
     ·right
      refine ⟨st ++ [Eo l i], h.push hi (by omega) (by omega) (fun x hx => by have := ht x hx; omega), ?_⟩
      rw [show ((0 : Nat) : Int) = 0 from rfl] at e2
      rw [e2, wrap64_id (n := (i : Int) + 1) (by omega) (by omega), wrap64_id (by omega) (by omega), up_append, ← hE]
      rfl
theorem rd_snoc (s : List Nat) (t : Nat) : rd (up (s ++ [t])) ((s.length : Nat) : Int) = (t : Int) := by
 unfold rd up
 simp [List.getD_eq_getElem?_getD]
theorem tree_L1 {l : List S40} (hT : Told l) (hl : l.length ≤ 900) (i : Nat) (hi : i < l.length) : ∀ (n : Nat) (st : List Nat), st.length = n → St l i (i + 1) i st →
  r16_Tree.L1 l (up st) (i : Int) = some false ∨ ∃ st', St l (i + 1) (i + 1 + 1) (i + 1) st' ∧ r16_Tree.L1 l (up st) (i : Int) = r16_Tree.L0 l (up st') ((i + 1 : Nat) : Int) := by
 intro n
 induction n with
 | zero =>
  intro st hn h
  obtain rfl := List.length_eq_zero_iff.1 hn
  rw [r16_Tree.L1_eq, if_neg (by decide), r16_Tree.J3_eq, if_pos (by omega), if_pos (by omega), if_neg (by decide)]
  exact tree_J4 hT hl i hi [] ⟨h.len, h.own, h.ops, h.srt, fun e he => (by cases he), h.inn⟩ l.length (Nat.le_refl _) hi (fun e he => (by cases he))
 | succ n ih =>
  intro st hn h
  have hne : st ≠ [] := fun e => by rw [e] at hn; simp at hn
  obtain ⟨s, t, rfl⟩ : ∃ s t, st = s ++ [t] := ⟨st.dropLast, st.getLast hne, (List.dropLast_concat_getLast hne).symm⟩
  have hs : s.length = n := by rw [List.length_append] at hn; simpa using hn
  have hlen := h.len
  rw [List.length_append, List.length_singleton] at hlen
  have hsz : ((up (s ++ [t])).length : Int) = (s.length : Int) + 1 := by rw [up_length, List.length_append]; simp
  have hw : wrap64 (((up (s ++ [t])).length : Int) - 1) = ((s.length : Nat) : Int) := by rw [hsz, wrap64_id (by omega) (by omega)]; omega
  obtain ⟨hsrt, _, htop⟩ := List.pairwise_append.1 h.srt
  have ht := h.lo t (List.mem_append_right _ (List.mem_singleton.2 rfl))
  rw [r16_Tree.L1_eq, if_pos (by omega), hw, if_pos (by omega), if_pos (by omega), rd_snoc]
  by_cases e : t = i
  ·subst e
   rw [if_pos rfl, if_pos (by omega)]
   have htk : (up (s ++ [t])).take ((s.length : Nat) : Int).toNat = up s := by rw [Int.toNat_natCast, up_append, ← up_length s, List.take_left']; rfl
   rw [htk]
   refine ih s hs ⟨by omega, h.own, fun a ha hE => ?_, hsrt, fun x hx => h.lo x (List.mem_append_left _ hx), h.inn⟩
   rcases List.mem_append.1 (h.ops a ha hE) with hm | hm
   ·exact hm
   ·have := List.mem_singleton.1 hm; omega
  ·rw [if_neg (by omega), r16_Tree.J3_eq, if_pos (by omega), if_pos (by omega), if_pos (by omega), hw, if_pos (by omega), if_pos (by omega), rd_snoc]
   have hall : ∀ x ∈ s ++ [t], t ≤ x := fun x hx => by
    rcases List.mem_append.1 hx with hx | hx
    ·exact htop x hx t (List.mem_singleton.2 rfl)
    ·rw [List.mem_singleton.1 hx]; exact Nat.le_refl _
   exact tree_J4 hT hl i hi (s ++ [t]) ⟨h.len, h.own, h.ops, h.srt, fun x hx => ⟨by have := hall x hx; omega, (h.lo x hx).2⟩, h.inn⟩ t ht.2 (by omega) hall
theorem St.nest {l : List S40} {st : List Nat} {p q : Nat} (h : St l l.length p q st) : Nest l := by
 refine ⟨⟨fun a ha => ⟨by unfold Eo; omega, (h.own a ha).2⟩, fun a b hab hb ha => ?_⟩, fun a ha => (h.own a ha).1⟩
 exact h.inn a b hab (by have := (h.own a ha).2; omega) hb
theorem tree_L0 {l : List S40} (hT : Told l) (hl : l.length ≤ 900) : ∀ (d i : Nat) (st : List Nat), i + d = l.length → St l i (i + 1) i st →
  r16_Tree.L0 l (up st) (i : Int) = some false ∨ (r16_Tree.L0 l (up st) (i : Int) = some true ∧ Nest l) := by
 intro d
 induction d with
 | zero =>
  intro i st h1 h
  obtain rfl : i = l.length := by omega
  right
  rw [r16_Tree.L0_eq, if_neg (by omega)]
  exact ⟨rfl, h.nest⟩
 | succ d ih =>
  intro i st h1 h
  rw [r16_Tree.L0_eq, if_pos (by omega)]
  rcases tree_L1 hT hl i (by omega) _ st rfl h with e | ⟨st', h', e⟩
  ·left; exact e
  ·rw [e]; exact ih (i + 1) st' (by omega) h'
theorem tree_nest {l : List S40} (hT : Told l) (hl : l.length ≤ 900) : r16_Tree.F l = some false ∨ (r16_Tree.F l = some true ∧ Nest l ∧ 0 < l.length ∧ Eo l 0 = l.length) := by
 have hj : r16_Tree.J0 l true = some false := by rw [r16_Tree.J0_eq, if_pos rfl]
 rw [r16_Tree.F_eq]
 by_cases h0 : (l.length : Int) = 0
 ·left; rw [if_pos h0, hj]
 ·rw [if_neg h0, if_pos (by omega), wrap64_id (by omega) (by omega)]
  by_cases h1 : (rd_T40 l 0).f2 = (l.length : Int) - 1
  ·rw [show ((rd_T40 l 0).f2 != (l.length : Int) - 1) = false by rw [bne_eq_false_iff_eq]; exact h1, r16_Tree.J0_eq, if_neg (by decide)]
   rcases tree_L0 hT hl l.length 0 [] (by omega) ⟨Nat.le_refl _, fun a ha => by omega, fun a ha => by omega, List.Pairwise.nil, fun e he => (by cases he), fun a b _ hb => by omega⟩ with e | ⟨e, hN⟩
   ·left; exact e
   ·right
    refine ⟨e, hN, by omega, ?_⟩
    unfold Eo
    rw [show ((0 : Nat) : Int) = 0 from rfl, h1]
    omega
  ·left; rw [show ((rd_T40 l 0).f2 != (l.length : Int) - 1) = true by rw [bne_iff_ne]; exact h1, hj]
end Go.Proofs.YtdgeokpbedllaaaDoor.TreK
