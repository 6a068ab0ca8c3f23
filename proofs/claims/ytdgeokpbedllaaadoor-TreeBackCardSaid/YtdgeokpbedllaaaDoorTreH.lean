-- A text of the kit's tools for this claim, its remarks left out.
import Derived.Test.YtdgeokpbedllaaaDoorTreV
import Derived.Test.YtdgeokpbedllaaaDoorETrex9
namespace Go.Proofs.YtdgeokpbedllaaaDoor.TreK
open Go.RowKit Go.Proofs.YtdgeokpbedllaaaDoor.PTre Go.Proofs.YtdgeokpbedllaaaDoorW.PrintWords Go.Proofs.YtdgeokpbedllaaaDoorW.PrintLast Go.Proofs.YtdgeokpbedllaaaDoorW.PrintMore Go.Proofs.YtdgeokpbedllaaaDoor.Base
set_option linter.unusedVariables false
set_option linter.unusedSimpArgs false
def FitL (x : S44) : Prop := x.f0.size ≤ 1000000 ∧ x.f2.size ≤ 1000000 ∧ x.f1.length ≤ 1000000 ∧ ∀ p ∈ x.f1, FitP p
def FitC (c : S40) : Prop := c.f0.size ≤ 1000000 ∧ c.f1.length ≤ 1000000 ∧ ∀ x ∈ c.f1, FitL x
def okX (x : S44) : Bool := lnS x.f0 x.f1 x.f2 && !mark x
def okC (c : S40) : Bool := nmS (bytesOf c.f0) && c.f1.all okX
theorem marks_eq (s : ByteArray) (hs : s.size ≤ 1000000) : tree_marks.F s = some (alk s BEG || alk s END) := by
 have h1 : line_Alike.F s (⟨#[66, 69, 71, 73, 78]⟩ : ByteArray) = some (alk s BEG) := alk_eq s BEG hs
 have h2 : line_Alike.F s (⟨#[69, 78, 68]⟩ : ByteArray) = some (alk s END) := alk_eq s END hs
 rw [tree_marks.F_eq, h1, bind_some_]
 cases h : alk s BEG with
 | true => rw [if_pos rfl]; rfl
 | false => rw [if_neg (by decide), h2, bind_some_]; rfl
theorem right1_eq (x : S44) (h : FitL x) : tree_right_1.F x.f0 x.f1 x.f2 = some (!okX x) := by
 obtain ⟨h1, h2, h3, h4⟩ := h
 rw [tree_right_1.F_eq, Check_eq x.f0 x.f1 x.f2 (by omega) (by omega) h4 (by omega), bind_some_]
 unfold okX mark
 cases hl : lnS x.f0 x.f1 x.f2 with
 | false => rw [if_neg (by decide)]; rfl
 | true => rw [if_pos (by decide), marks_eq x.f0 h1, bind_some_, Bool.true_and, Bool.not_not]
theorem lines_L0 (xs : List S44) (hf : ∀ x ∈ xs, FitL x) (hl : xs.length ≤ 1000000) : ∀ (n : Nat) (i : Int), n = xs.length - i.toNat → 0 ≤ i → i ≤ (xs.length : Int) →
  ∃ r, api_Line_80.L0 xs (xs.length : Int) i = some r ∧ decide (r ≥ 0) = !((xs.drop i.toNat).all okX) := by
 intro n
 induction n with
 | zero =>
  intro i hn h0 h1
  rw [api_Line_80.L0_eq, if_neg (by omega), drop_nil_ (by omega)]
  exact ⟨-1, rfl, rfl⟩
 | succ n ih =>
  intro i hn h0 h1
  have hlt : i < (xs.length : Int) := by omega
  obtain ⟨r, e1, e2⟩ := ih (i + 1) (by omega) (by omega) (by omega)
  have hx := hf _ (rdOf_mem z44 h0 hlt)
  have e0 : rd_T44 xs i = rdOf z44 xs i := rfl
  rw [api_Line_80.L0_eq, if_pos hlt, if_pos h0, if_pos hlt, e0, right1_eq _ hx, bind_some_, wrap64_id (n := i + 1) (by omega) (by omega), e1, drop_cons_ z44 h0 hlt, List.all_cons]
  cases h : okX (rdOf z44 xs i) with
  | true =>
   rw [if_neg (by simp), Bool.true_and]
   exact ⟨r, rfl, e2⟩
  | false =>
   rw [if_pos (by rfl), Bool.false_and]
   exact ⟨i, rfl, by rw [decide_eq_true (by omega)]; rfl⟩
theorem right_eq (c : S40) (h : FitC c) : tree_right.F c.f0 c.f1 c.f2 = some (okC c) := by
 obtain ⟨h1, h2, h3⟩ := h
 obtain ⟨r, e1, e2⟩ := lines_L0 c.f1 h3 h2 _ 0 rfl (by omega) (by omega)
 have e3 : lnS c.f0 [] (⟨#[]⟩ : ByteArray) = nmS (bytesOf c.f0) := by
  unfold lnS
  rw [show (bytesOf (⟨#[]⟩ : ByteArray)) = [] from rfl, List.all_nil, List.all_nil, Bool.and_self, Bool.and_true]
 rw [tree_right.F_eq, Check_eq c.f0 [] _ (by omega) (by decide) (fun p hp => (by cases hp)) (by simp), e3, bind_some_]
 unfold okC
 cases hn : nmS (bytesOf c.f0) with
 | false => rw [if_neg (by decide), Bool.false_and]
 | true =>
  rw [if_pos (by decide), api_Line_59.F_eq, api_Line_80.F_eq, e1, bind_some_, bind_some_, e2, Bool.not_not, Bool.true_and]
  rfl
theorem comps_L0 (xs : List S40) (hf : ∀ x ∈ xs, FitC x) (hl : xs.length ≤ 1000000) : ∀ (n : Nat) (i : Int), n = xs.length - i.toNat → 0 ≤ i → i ≤ (xs.length : Int) →
  ∃ r, api_Comp_58.L0 xs (xs.length : Int) i = some r ∧ decide (r ≥ 0) = !((xs.drop i.toNat).all okC) := by
 intro n
 induction n with
 | zero =>
  intro i hn h0 h1
  rw [api_Comp_58.L0_eq, if_neg (by omega), drop_nil_ (by omega)]
  exact ⟨-1, rfl, rfl⟩
 | succ n ih =>
  intro i hn h0 h1
  have hlt : i < (xs.length : Int) := by omega
  obtain ⟨r, e1, e2⟩ := ih (i + 1) (by omega) (by omega) (by omega)
  have hx := hf _ (rdOf_mem z40 h0 hlt)
  have e0 : rd_T40 xs i = rdOf z40 xs i := rfl
  rw [api_Comp_58.L0_eq, if_pos hlt, if_pos h0, if_pos hlt, e0, tree_Check_1.F_eq, right_eq _ hx, bind_some_, bind_some_, wrap64_id (n := i + 1) (by omega) (by omega), e1, drop_cons_ z40 h0 hlt, List.all_cons]
  cases h : okC (rdOf z40 xs i) with
  | true =>
   rw [if_neg (by simp), Bool.true_and]
   exact ⟨r, rfl, e2⟩
  | false =>
   rw [if_pos (by rfl), Bool.false_and]
   exact ⟨i, rfl, by rw [decide_eq_true (by omega)]; rfl⟩
def stk (st : List Nat) : List Int := up st.reverse
theorem stk_length (st : List Nat) : ((stk st).length : Int) = (st.length : Int) := by unfold stk up; rw [List.length_map, List.length_reverse]
theorem stk_top (a : Nat) (s : List Nat) : rd (stk (a :: s)) ((s.length : Nat) : Int) = (a : Int) := by
 unfold rd stk up
 rw [Int.toNat_natCast, List.reverse_cons, List.map_append, List.getD_eq_getElem?_getD, List.getElem?_append_right (by simp)]
 simp
theorem stk_pop (a : Nat) (s : List Nat) : (stk (a :: s)).take s.length = stk s := by
 unfold stk up
 rw [List.reverse_cons, List.map_append]
 exact List.take_left' (by simp)
theorem stk_push (a : Nat) (s : List Nat) : stk s ++ [(a : Int)] = stk (a :: s) := by
 unfold stk up
 rw [List.reverse_cons, List.map_append]
 rfl
section
variable {l : List S40} (hl : l.length ≤ 1000000) (hw : ∀ c ∈ l, -9223372036854775808 ≤ c.f2 ∧ c.f2 ≤ 9223372036854775807)
include hl hw
theorem check_J3 (i : Nat) (hi : i < l.length) (st : List Nat) (hst : st.length ≤ 1000000) (hs : strk st i = st) (ht : st.headD l.length ≤ l.length) (nb : ByteArray) (ls : List S44) :
  tree_Check.J3 l (stk st) (i : Int) l (l.length : Int) (i : Int) nb ls (ow l i) = if (0 ≤ ow l i ∧ Eo l i ≤ (strk st i).headD l.length) ∧ (strk st i).length < 8 then tree_Check.L0 l (stk (Eo l i :: strk st i)) l (l.length : Int) ((i + 1 : Nat) : Int) else some 20 := by
 have hb := hw _ (rd_in hi)
 have hb1 : -9223372036854775808 ≤ ow l i := hb.1
 have hb2 : ow l i ≤ 9223372036854775807 := hb.2
 have hz := stk_length st
 have hE : 0 ≤ ow l i → (Eo l i : Int) = (i : Int) + 1 + ow l i := fun h => by unfold Eo; unfold ow at h ⊢; omega
 have go : ∀ room : Nat, room ≤ l.length → st.headD l.length = room → (if ow l i < 0 then (some 20) else (if ow l i ≥ (wrap64 ((room : Int) - i)) then (some 20) else (if ((stk st).length : Int) ≥ 8 then (some 20) else (if (stk st).length < 17592186044416 then (tree_Check.L0 l (stk st ++ [wrap64 ((wrap64 ((i : Int) + 1)) + ow l i)]) l (l.length : Int) (wrap64 ((i : Int) + 1))) else (none))))) = if (0 ≤ ow l i ∧ Eo l i ≤ (strk st i).headD l.length) ∧ (strk st i).length < 8 then tree_Check.L0 l (stk (Eo l i :: strk st i)) l (l.length : Int) ((i + 1 : Nat) : Int) else some 20 := by
  intro room hr hrm
  rw [hs, hrm]
  by_cases h0 : ow l i < 0
  ·rw [if_pos h0, if_neg (fun h => by omega)]
  ·rw [if_neg h0, wrap64_id (n := (room : Int) - i) (by omega) (by omega)]
   have hE := hE (by omega)
   by_cases h1 : ow l i ≥ (room : Int) - i
   ·rw [if_pos h1, if_neg (fun h => by omega)]
   ·rw [if_neg h1]
    by_cases h2 : ((stk st).length : Int) ≥ 8
    ·rw [if_pos h2, if_neg (fun h => by omega)]
    ·rw [if_neg h2, if_pos (by omega), if_pos ⟨⟨by omega, by omega⟩, by omega⟩, wrap64_id (n := (i : Int) + 1) (by omega) (by omega), wrap64_id (by omega) (by omega), ← hE, stk_push]
     rfl
 rw [tree_Check.J3_eq]
 cases st with
 | nil =>
  rw [if_neg (by decide)]
  exact go l.length (Nat.le_refl _) rfl
 | cons a s =>
  have hzl : ((stk (a :: s)).length : Int) = (s.length : Int) + 1 := by rw [stk_length, List.length_cons]; omega
  have hs1 : s.length ≤ 1000000 := by rw [List.length_cons] at hst; omega
  rw [if_pos (by omega), wrap64_id (n := ((stk (a :: s)).length : Int) - 1) (by omega) (by omega), if_pos (by omega), if_pos (by omega), show ((stk (a :: s)).length : Int) - 1 = ((s.length : Nat) : Int) by omega, stk_top]
  exact go a ht rfl
theorem check_L1 (i : Nat) (hi : i < l.length) (nb : ByteArray) (ls : List S44) : ∀ st : List Nat, st.length ≤ 1000000 → (∀ x ∈ st, x ≤ l.length) →
  tree_Check.L1 l (stk st) (i : Int) l (l.length : Int) (i : Int) nb ls (ow l i) = if (0 ≤ ow l i ∧ Eo l i ≤ (strk st i).headD l.length) ∧ (strk st i).length < 8 then tree_Check.L0 l (stk (Eo l i :: strk st i)) l (l.length : Int) ((i + 1 : Nat) : Int) else some 20
 | [], _, _ => by
  rw [tree_Check.L1_eq, if_neg (by decide)]
  exact check_J3 hl hw i hi [] (by simp) rfl (Nat.le_refl _) nb ls
 | a :: s, hst, ht => by
  have hzl : ((stk (a :: s)).length : Int) = (s.length : Int) + 1 := by rw [stk_length, List.length_cons]; omega
  rw [List.length_cons] at hst
  rw [tree_Check.L1_eq, if_pos (by omega), wrap64_id (n := ((stk (a :: s)).length : Int) - 1) (by omega) (by omega), if_pos (by omega), if_pos (by omega), show ((stk (a :: s)).length : Int) - 1 = ((s.length : Nat) : Int) by omega, stk_top]
  by_cases e : a ≤ i
  ·rw [if_pos (by omega), if_pos (by omega), Int.toNat_natCast, stk_pop, check_L1 i hi nb ls s (by omega) (fun x hx => ht x (List.mem_cons_of_mem _ hx)), strk, if_pos e]
  ·rw [if_neg (by omega)]
   refine check_J3 hl hw i hi (a :: s) (by rw [List.length_cons]; omega) ?_ (ht a (List.mem_cons_self ..)) nb ls
   rw [strk, if_neg e]
theorem check_L0 : ∀ (d i : Nat) (st : List Nat), i + d = l.length → st.length ≤ i → (∀ x ∈ st, x ≤ l.length) → tree_Check.L0 l (stk st) l (l.length : Int) (i : Int) = some (if scan l d i st = true then 0 else 20)
 | 0, i, st, h, _, _ => by rw [tree_Check.L0_eq, if_neg (by omega)]; rfl
 | d + 1, i, st, h, hst, ht => by
  rw [tree_Check.L0_eq, if_pos (by omega), if_pos (by omega), if_pos (by omega)]
  have h1 := check_L1 hl hw i (by omega) (rd_T40 l (i : Int)).f0 (rd_T40 l (i : Int)).f1 st (by omega) ht
  rw [show ow l i = (rd_T40 l (i : Int)).f2 from rfl] at h1
  rw [h1, scan]
  by_cases hc : (0 ≤ ow l i ∧ Eo l i ≤ (strk st i).headD l.length) ∧ (strk st i).length < 8
  ·have hh : Eo l i ≤ l.length := Nat.le_trans hc.1.2 (head_top (fun x hx => ht x (strk_mem hx)))
   have hlen : (strk st i).length ≤ st.length := strk_len st
   rw [if_pos (show (0 ≤ (rd_T40 l (i : Int)).f2 ∧ Eo l i ≤ (strk st i).headD l.length) ∧ (strk st i).length < 8 from hc), check_L0 d (i + 1) (Eo l i :: strk st i) (by omega) (by rw [List.length_cons]; omega) (fun x hx => by
    rcases List.mem_cons.1 hx with rfl | hx
    ·exact hh
    ·exact ht x (strk_mem hx)), decide_eq_true hc.1.1, decide_eq_true hc.1.2, decide_eq_true hc.2]
   rfl
  ·rw [if_neg (show ¬ ((0 ≤ (rd_T40 l (i : Int)).f2 ∧ Eo l i ≤ (strk st i).headD l.length) ∧ (strk st i).length < 8) from hc), if_neg]
   intro h'
   simp only [Bool.and_eq_true, decide_eq_true_eq] at h'
   exact hc ⟨⟨h'.1.1.1, h'.1.1.2⟩, h'.1.2⟩
end
def trS (l : List S40) : Bool := decide (0 < l.length) && (decide (ow l 0 = (l.length : Int) - 1) && (l.all okC && scan l l.length 0 []))
theorem check_eq {l : List S40} (hl : l.length ≤ 1000000) (hf : ∀ c ∈ l, FitC c) (hw : ∀ c ∈ l, -9223372036854775808 ≤ c.f2 ∧ c.f2 ≤ 9223372036854775807) : tree_Check.F l = some (if trS l = true then 0 else 20) := by
 have stop : tree_Check.J0 l true = some 20 := by rw [tree_Check.J0_eq, if_pos rfl]
 rw [tree_Check.F_eq, stop]
 unfold trS
 by_cases h0 : (l.length : Int) = 0
 ·rw [if_pos h0, decide_eq_false (by omega), Bool.false_and]
  rfl
 ·rw [if_neg h0, if_pos (by omega), decide_eq_true (show 0 < l.length by omega), Bool.true_and, wrap64_id (by omega) (by omega)]
  by_cases h1 : (rd_T40 l 0).f2 = (l.length : Int) - 1
  ·obtain ⟨r, e1, e2⟩ := comps_L0 l hf hl _ 0 rfl (by omega) (by omega)
   have h2 := check_L0 hl hw l.length 0 [] (by omega) (Nat.le_refl _) (fun x hx => (by cases hx))
   rw [if_pos h1, api_Comp_34.F_eq, api_Comp_58.F_eq, e1, bind_some_, bind_some_, e2, decide_eq_true (show ow l 0 = (l.length : Int) - 1 from h1), Bool.true_and]
   rw [show l.drop (0 : Int).toNat = l from rfl]
   cases l.all okC with
   | false =>
    rw [show (!false) = true from rfl, stop, Bool.false_and]
    rfl
   | true =>
    rw [show (!true) = false from rfl, tree_Check.J0_eq, if_neg (by decide), Bool.true_and]
    exact h2
  ·rw [if_neg h1, decide_eq_false (show ¬ ow l 0 = (l.length : Int) - 1 from h1), Bool.false_and]
   rfl
theorem trS_parts {l : List S40} (h : trS l = true) : 0 < l.length ∧ Nest l ∧ Eo l 0 = l.length ∧ ∀ c ∈ l, okC c = true := by
 unfold trS at h
 simp only [Bool.and_eq_true, decide_eq_true_eq, List.all_eq_true] at h
 obtain ⟨h1, h2, h3, h4⟩ := h
 refine ⟨h1, scan_nest h4, ?_, h3⟩
 unfold Eo
 unfold ow at h2
 rw [h2]
 omega
end Go.Proofs.YtdgeokpbedllaaaDoor.TreK
