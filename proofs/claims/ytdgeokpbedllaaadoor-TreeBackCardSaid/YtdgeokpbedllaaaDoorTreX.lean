-- A text of the kit's tools for this claim, its remarks left out.
import Derived.Test.YtdgeokpbedllaaaDoorTreY
import Derived.Test.YtdgeokpbedllaaaDoorTreH
import Derived.Test.YtdgeokpbedllaaaDoorETrex12
namespace Go.Proofs.YtdgeokpbedllaaaDoor.TreK
open Go.RowKit Go.Proofs.YtdgeokpbedllaaaDoor.PTre Go.Proofs.YtdgeokpbedllaaaDoorW.PrintWords Go.Proofs.YtdgeokpbedllaaaDoorW.PrintLast Go.Proofs.YtdgeokpbedllaaaDoorW.PrintMore Go.Proofs.YtdgeokpbedllaaaDoor.Base
set_option linter.unusedVariables false
set_option linter.unusedSimpArgs false
set_option linter.unusedSectionVars false
def txX (x : S44) : List Int := txtS x.f0 x.f1 x.f2
def short (x : S44) : Bool := decide ((txX x).length ≤ 60000)
def foX (x : S44) : List Int := if short x = true then foldL ((txX x).length + 1) (txX x) 75 else []
structure GoodX (x : S44) : Prop where
 ok : lnS x.f0 x.f1 x.f2 = true
 sz : Sz x.f0 x.f1 x.f2
theorem foX_len (x : S44) : (foX x).length ≤ 240002 := by
 unfold foX short
 split
 ·rename_i h
  have := foldL_len ((txX x).length + 1) (txX x) 75 (by omega)
  have := of_decide_eq_true h
  omega
 ·simp
theorem foX_bytes (x : S44) : Bytes (foX x) := by
 unfold foX
 split
 ·exact foldL_bytes _ _ (txtS_bytes _ _ _)
 ·exact Bytes.nil
theorem foldLine_eq (x : S44) (h : GoodX x) : fold_Line.F (strOfNums (txX x)) = some (strOfNums (foX x), if short x = true then 0 else 2) := by
 have hz := size_strOf (txX x)
 have hb : bytesOf (strOfNums (txX x)) = txX x := bytes_strOf (txtS_bytes _ _ _)
 by_cases hs : short x = true
 ·have hs' : (txX x).length ≤ 60000 := of_decide_eq_true hs
  rw [Line_eq _ (by omega), hb, if_pos (show Cln (txX x) from clr_Cln (txt_clr h.ok)), if_pos hs]
  unfold foX
  rw [if_pos hs]
 ·have hs' : ¬ (txX x).length ≤ 60000 := fun h' => hs (decide_eq_true h')
  rw [fold_Line.F_eq, if_pos (by omega), if_neg hs]
  unfold foX
  rw [if_neg hs]
  rfl
def outS (E : List S44) : List ByteArray := E.map fun x => strOfNums (foX x)
def lenS : List S44 → Nat
 | [] => 0
 | x :: t => (foX x).length + lenS t
def errS (E : List S44) : Int := if E.all short = true then 0 else 2
theorem lenS_app (x : S44) : ∀ E : List S44, lenS (E ++ [x]) = lenS E + (foX x).length
 | [] => by simp [lenS]
 | y :: t => by rw [List.cons_append, lenS, lenS, lenS_app x t]; omega
theorem lenS_le : ∀ E : List S44, lenS E ≤ E.length * 240002
 | [] => Nat.le_refl _
 | y :: t => by
  have := foX_len y
  have := lenS_le t
  rw [lenS, List.length_cons]
  omega
theorem wl_eq (E : List S44) (x : S44) (h : GoodX x) (hl : E.length < 100000000) : tree_wl.F (outS E) (lenS E : Int) (errS E) x.f0 x.f1 x.f2 = some (outS (E ++ [x]), (lenS (E ++ [x]) : Int), errS (E ++ [x])) := by
 have h1 := lenS_le E
 have h2 := foX_len x
 have h3 : (outS E).length = E.length := by unfold outS; rw [List.length_map]
 have h4 : E.length * 240002 ≤ 100000000 * 240002 := Nat.mul_le_mul_right _ (by omega)
 rw [tree_wl.F_eq, if_pos (by omega), Text_eqB _ _ _ h.sz, bind_some_, if_pos h.ok]
 show ((fold_Line.F (strOfNums (txX x))).bind fun t2 => _) = _
 rw [foldLine_eq x h, bind_some_]
 dsimp only
 have e1 : outS E ++ [strOfNums (foX x)] = outS (E ++ [x]) := by unfold outS; rw [List.map_append]; rfl
 rw [e1, size_strOf, wrap64_id (by omega) (by omega), lenS_app]
 have e2 : (if (if short x = true then (0 : Int) else 2) = 0 then errS E else (if short x = true then (0 : Int) else 2)) = errS (E ++ [x]) := by
  unfold errS
  rw [List.all_append, List.all_cons, List.all_nil, Bool.and_true]
  cases short x <;> cases E.all short <;> rfl
 rw [e2]
 rfl
structure GoodT (l : List S40) : Prop where
 len : l.length ≤ 1000000
 beg : ∀ a, a < l.length → GoodX (begL (nm l a))
 end_ : ∀ a, a < l.length → GoodX (endL (nm l a))
 lin : ∀ a, a < l.length → ∀ x ∈ lns l a, GoodX x
 linl : ∀ a, a < l.length → (lns l a).length ≤ 1000000
section
variable {l : List S40} (hT : GoodT l) (hw : ∀ c ∈ l, -9223372036854775808 ≤ c.f2 ∧ c.f2 ≤ 9223372036854775807) (hN : Nest l)
include hT hN
theorem text_L1 (i : Nat) (hi : i ≤ l.length) : ∀ (op : List Nat) (E : List S44), op.length ≤ 1000000 → (∀ a ∈ op, a < i) → E.length + (shE l op i).length < 100000000 →
  tree_Text.L1 l (outS E) (lenS E : Int) (errS E) (stk op) (i : Int) = tree_Text.J0 l (outS (E ++ shE l op i)) (lenS (E ++ shE l op i) : Int) (errS (E ++ shE l op i)) (stk (shO l op i)) (i : Int)
 | [], E, _, _, _ => by
  rw [tree_Text.L1_eq, if_neg (by decide), shE, shO, List.append_nil]
 | a :: s, E, hop, hlt, hE => by
  have hlen := hT.len
  have ha := hlt a (List.mem_cons_self ..)
  have hzl : ((stk (a :: s)).length : Int) = (s.length : Int) + 1 := by rw [stk_length, List.length_cons]; omega
  have hEo := hN.lam.up a (by omega)
  have hf := hN.f2 (a := a) (by omega)
  rw [tree_Text.L1_eq, if_pos (by omega), show ((stk (a :: s)).length : Int) - 1 = ((s.length : Nat) : Int) by omega, stk_top, tree_Text.J2_eq, if_pos (by omega), if_pos (by omega), wrap64_id (by omega) (by omega)]
  rw [shE] at hE ⊢
  rw [shO]
  by_cases e : Eo l a ≤ i
  ·rw [if_pos e] at hE ⊢
   rw [List.length_cons] at hE hop
   rw [if_neg (by omega), if_pos e]
   have h1 := wl_eq E (endL (nm l a)) (hT.end_ a (by omega)) (by omega)
   rw [show tree_wl.F (outS E) (lenS E : Int) (errS E) (⟨#[69, 78, 68]⟩ : ByteArray) ([] : List (S70)) (rd_T40 l (a : Int)).f0 = tree_wl.F (outS E) (lenS E : Int) (errS E) (endL (nm l a)).f0 (endL (nm l a)).f1 (endL (nm l a)).f2 from rfl, h1, bind_some_, show (stk (a :: s)).length - 1 = s.length by omega, stk_pop]
   rw [text_L1 i hi s (E ++ [endL (nm l a)]) (by omega) (fun b hb => hlt b (List.mem_cons_of_mem _ hb)) (by rw [List.length_append, List.length_singleton]; omega), List.append_assoc]
   rfl
  ·rw [if_neg e, if_pos (by omega), if_neg e, List.append_nil]
theorem text_L2 (i : Nat) (hi : i < l.length) (op : List Nat) (hop : op.length ≤ 1000000) : ∀ (d j : Nat) (E : List S44), j + d = (lns l i).length → E.length + d < 100000000 →
  tree_Text.L2 l (outS E) (lenS E : Int) (errS E) (stk op) (i : Int) (j : Int) = tree_Text.L0 l (outS (E ++ (lns l i).drop j)) (lenS (E ++ (lns l i).drop j) : Int) (errS (E ++ (lns l i).drop j)) (stk (i :: op)) ((i + 1 : Nat) : Int) := by
 have hlen := hT.len
 have hzl := stk_length op
 have hll := hT.linl i hi
 intro d
 induction d with
 | zero =>
  intro j E h1 h2
  have h1' : (j : Int) = ((rd_T40 l (i : Int)).f1.length : Int) := by show (j : Int) = ((lns l i).length : Int); omega
  rw [tree_Text.L2_eq, if_neg (by omega), if_pos (by omega), stk_push, wrap64_id (by omega) (by omega), List.drop_eq_nil_of_le (by omega), List.append_nil]
  rfl
 | succ d ih =>
  intro j E h1 h2
  have hj : j < (lns l i).length := by omega
  have h1' : (j : Int) < ((rd_T40 l (i : Int)).f1.length : Int) := by show (j : Int) < ((lns l i).length : Int); omega
  have e0 : rd_T44 (rd_T40 l (i : Int)).f1 (j : Int) = (lns l i)[j] := by
   unfold rd_T44
   rw [Int.toNat_natCast, List.getD_eq_getElem?_getD]
   show ((lns l i)[j]?).getD z44 = _
   rw [List.getElem?_eq_getElem hj]
   rfl
  have h3 := wl_eq E (lns l i)[j] (hT.lin i hi _ (List.getElem_mem hj)) (by omega)
  rw [tree_Text.L2_eq, if_pos h1', if_pos (by omega), e0, h3, bind_some_, wrap64_id (n := (j : Int) + 1) (by omega) (by omega)]
  have h4 := ih (j + 1) (E ++ [(lns l i)[j]]) (by omega) (by rw [List.length_append, List.length_singleton]; omega)
  rw [List.append_assoc, List.singleton_append, ← List.drop_eq_getElem_cons hj] at h4
  exact h4
theorem text_L0 : ∀ (d i : Nat) (op : List Nat) (E : List S44), i + d = l.length → op.length ≤ i → (∀ a ∈ op, a < i) → E.length + (evs l d i op).length < 100000000 → (shO l op i).length ≤ i →
  tree_Text.L0 l (outS E) (lenS E : Int) (errS E) (stk op) (i : Int) = tree_Text.J1 (outS (E ++ evs l d i op)) (lenS (E ++ evs l d i op) : Int) (errS (E ++ evs l d i op))
 | 0, i, op, E, h1, h2, h3, h4, h5 => by
  have hlen := hT.len
  rw [evs] at h4 ⊢
  rw [tree_Text.L0_eq, wrap64_id (by omega) (by omega), if_pos (by omega), text_L1 hT hN i (by omega) op E (by omega) h3 h4, tree_Text.J0_eq, if_pos (by omega)]
 | d + 1, i, op, E, h1, h2, h3, h4, h5 => by
  have hlen := hT.len
  have hi : i < l.length := by omega
  rw [evs, List.length_append, List.length_cons, List.length_append] at h4
  have hso : (shO l (i :: shO l op i) (i + 1)).length ≤ i + 1 := by
   have := shO_len l (i + 1) (i :: shO l op i)
   rw [List.length_cons] at this
   omega
  have h6 := wl_eq (E ++ shE l op i) (begL (nm l i)) (hT.beg i hi) (by rw [List.length_append]; omega)
  rw [tree_Text.L0_eq, wrap64_id (n := (l.length : Int) + 1) (by omega) (by omega), if_pos (by omega), text_L1 hT hN i (by omega) op E (by omega) h3 (by omega), tree_Text.J0_eq, if_neg (by omega), if_pos (by omega), if_pos (by omega)]
  rw [show tree_wl.F (outS (E ++ shE l op i)) (lenS (E ++ shE l op i) : Int) (errS (E ++ shE l op i)) (⟨#[66, 69, 71, 73, 78]⟩ : ByteArray) ([] : List (S70)) (rd_T40 l (i : Int)).f0 = tree_wl.F (outS (E ++ shE l op i)) (lenS (E ++ shE l op i) : Int) (errS (E ++ shE l op i)) (begL (nm l i)).f0 (begL (nm l i)).f1 (begL (nm l i)).f2 from rfl, h6, bind_some_]
  have h7 := text_L2 hT hN i hi (shO l op i) (by omega) (lns l i).length 0 (E ++ shE l op i ++ [begL (nm l i)]) (by omega) (by rw [List.length_append, List.length_append, List.length_singleton]; omega)
  rw [show ((0 : Nat) : Int) = 0 from rfl, List.drop_zero] at h7
  dsimp only
  rw [h7, text_L0 d (i + 1) (i :: shO l op i) _ (by omega) (by rw [List.length_cons]; omega) (fun a ha => by
   rcases List.mem_cons.1 ha with rfl | ha
   ·omega
   ·have := h3 a (shO_mem ha); omega) (by rw [List.length_append, List.length_append, List.length_append, List.length_singleton]; omega) hso]
  rw [evs]
  simp only [List.append_assoc, List.cons_append, List.nil_append]
end
theorem evs_len {l : List S40} {M : Nat} (hM : ∀ a, a < l.length → (lns l a).length ≤ M) : ∀ (d i : Nat) (op : List Nat), i + d = l.length → (evs l d i op).length ≤ op.length + d * (M + 2)
 | 0, i, op, _ => by
  have := shE_len l i op
  rw [evs]
  omega
 | d + 1, i, op, h => by
  have h1 := shE_len l i op
  have h2 := hM i (by omega)
  have h3 := evs_len hM d (i + 1) (i :: shO l op i) (by omega)
  rw [evs, List.length_append, List.length_cons, List.length_append, Nat.add_mul]
  rw [List.length_cons] at h3
  omega
theorem jn_flat : ∀ ls : List (List Int), jn [] ls = ls.flatten
 | [] => rfl
 | [x] => by simp [jn]
 | x :: y :: t => by rw [jn, jn_flat (y :: t)]; rfl
theorem out_flat : ∀ E : List S44, jn [] ((outS E).map bytesOf) = (E.map foX).flatten := fun E => by
 rw [jn_flat]
 congr 1
 unfold outS
 rw [List.map_map]
 exact List.map_congr_left fun x _ => bytes_strOf (foX_bytes x)
theorem lenS_flat : ∀ E : List S44, ((E.map foX).flatten).length = lenS E
 | [] => rfl
 | x :: t => by rw [List.map_cons, List.flatten_cons, List.length_append, lenS_flat t]; rfl
theorem flat_fold : ∀ E : List S44, E.all short = true → (E.map foX).flatten = foldAll (E.map txX)
 | [], _ => rfl
 | x :: t, h => by
  rw [List.all_cons, Bool.and_eq_true] at h
  rw [List.map_cons, List.flatten_cons, flat_fold t h.2, List.map_cons, foldAll]
  congr 1
  unfold foX
  rw [if_pos h.1]
theorem text_J1 (E : List S44) (hE : E.length ≤ 1000000) : tree_Text.J1 (outS E) (lenS E : Int) (errS E) = some (if E.all short = true ∧ lenS E ≤ 600000 then (strOfNums (foldAll (E.map txX)), 0) else ((⟨#[]⟩ : ByteArray), 2)) := by
 rw [tree_Text.J1_eq]
 unfold errS
 by_cases h1 : E.all short = true
 ·rw [if_pos h1, if_pos rfl]
  by_cases h2 : lenS E ≤ 600000
  ·have h3 : (outS E).length = E.length := by unfold outS; rw [List.length_map]
   have h4 := join_any (⟨#[]⟩ : ByteArray) (outS E) (by omega) (by
    rw [show bytesOf (⟨#[]⟩ : ByteArray) = [] from rfl, out_flat, lenS_flat]
    omega)
   rw [show bytesOf (⟨#[]⟩ : ByteArray) = [] from rfl, out_flat, flat_fold E h1] at h4
   rw [if_neg (by omega), h4, bind_some_, if_pos ⟨h1, h2⟩]
  ·rw [if_pos (by omega), if_neg (fun h => h2 h.2)]
 ·rw [if_neg h1, if_neg (by decide), if_neg (fun h => h1 h.1)]
def evA (l : List S40) : List S44 := evs l l.length 0 []
theorem text_eq {l : List S40} (hT : GoodT l) (hN : Nest l) (hE : (evA l).length ≤ 1000000) : tree_Text.L0 l [] 0 0 [] 0 = some (if (evA l).all short = true ∧ lenS (evA l) ≤ 600000 then (strOfNums (foldAll ((evA l).map txX)), 0) else ((⟨#[]⟩ : ByteArray), 2)) := by
 have h := text_L0 hT hN l.length 0 [] [] (by omega) (Nat.le_refl _) (fun a ha => (by cases ha)) (by rw [List.length_nil]; unfold evA at hE; omega) (Nat.le_refl _)
 rw [List.nil_append] at h
 exact h.trans (text_J1 _ hE)
theorem good_marks {n : ByteArray} (h : nmS (bytesOf n) = true) : GoodX (begL n) ∧ GoodX (endL n) := by
 have h1 := (nmS_iff.1 h).2.2
 have h2 := bytesOf_length n
 refine ⟨⟨lnS_iff.2 ⟨(by show nmS (bytesOf BEG) = true; decide +kernel), nmS_clr h, fun p hp => (by cases hp)⟩, ?_⟩, ⟨lnS_iff.2 ⟨(by show nmS (bytesOf END) = true; decide +kernel), nmS_clr h, fun p hp => (by cases hp)⟩, ?_⟩⟩
 ·show (5 : Nat) + 0 + 1 + n.size ≤ 100000
  omega
 ·show (3 : Nat) + 0 + 1 + n.size ≤ 100000
  omega
theorem good_of {l : List S40} (hl : l.length ≤ 1000000) (ho : ∀ c ∈ l, okC c = true) (hs : ∀ c ∈ l, c.f1.length ≤ 1000000 ∧ ∀ x ∈ c.f1, Sz x.f0 x.f1 x.f2) : GoodT l := by
 have hn : ∀ a, a < l.length → nmS (bytesOf (nm l a)) = true := fun a ha => by
  have := ho _ (rd_in ha)
  unfold okC at this
  exact (Bool.and_eq_true_iff.1 this).1
 refine ⟨hl, fun a ha => (good_marks (hn a ha)).1, fun a ha => (good_marks (hn a ha)).2, fun a ha x hx => ⟨?_, (hs _ (rd_in ha)).2 x hx⟩, fun a ha => (hs _ (rd_in ha)).1⟩
 have := ho _ (rd_in ha)
 unfold okC at this
 have h2 := List.all_eq_true.1 (Bool.and_eq_true_iff.1 this).2 x hx
 unfold okX at h2
 exact (Bool.and_eq_true_iff.1 h2).1
end Go.Proofs.YtdgeokpbedllaaaDoor.TreK
