-- A text of the kit's tools for this claim, its remarks left out.
import Derived.Test.YtdgeokpbedllaaaDoorTreX
import Derived.Test.YtdgeokpbedllaaaDoorETrex15
import Derived.Test.YtdgeokpbedllaaaDoorETrex17
import Derived.Test.YtdgeokpbedllaaaDoorETrex18
namespace Go.Proofs.YtdgeokpbedllaaaDoor.TreK
open Go.RowKit Go.Proofs.YtdgeokpbedllaaaDoor.PTre Go.Proofs.YtdgeokpbedllaaaDoorW.PrintWords Go.Proofs.YtdgeokpbedllaaaDoorW.PrintLast Go.Proofs.YtdgeokpbedllaaaDoorW.PrintMore Go.Proofs.YtdgeokpbedllaaaDoor.Base
set_option linter.unusedVariables false
set_option linter.unusedSimpArgs false
set_option linter.unusedSectionVars false
structure Inv (k : Nat) (R : List S40) (op : List Nat) : Prop where
 lt : ∀ a ∈ op, a < R.length
 len : op.length ≤ k ∧ R.length ≤ k
 fit : ∀ c ∈ R, c.f0.size ≤ 1000000 ∧ c.f1.length ≤ k ∧ (∀ x ∈ c.f1, FitL x) ∧ 0 ≤ c.f2 ∧ c.f2 ≤ k
theorem set_mem {α : Type} {a : Nat} {c y : α} : ∀ {R : List α}, c ∈ R.set a y → c ∈ R ∨ c = y := fun h => List.mem_or_eq_of_mem_set h
theorem rlS_inv {k : Nat} {R R' : List S40} {op op' : List Nat} {x : S44} (h : Inv k R op) (hx : FitL x) (hr : rlS R op x = some (R', op')) : Inv (k + 1) R' op' := by
 have push : ∀ s : List Nat, (∀ a ∈ s, a < R.length) → s.length ≤ k → Inv (k + 1) (R ++ [⟨x.f2, [], 0⟩]) (R.length :: s) := fun s hs hsl => by
  refine ⟨fun a ha => ?_, ⟨by rw [List.length_cons]; omega, by rw [List.length_append, List.length_singleton]; have := h.len; omega⟩, fun c hc => ?_⟩
  ·rw [List.length_append, List.length_singleton]
   rcases List.mem_cons.1 ha with rfl | ha
   ·omega
   ·have := hs a ha; omega
  ·rcases List.mem_append.1 hc with hc | hc
   ·obtain ⟨h1, h2, h3, h4, h5⟩ := h.fit c hc
    exact ⟨h1, by omega, h3, h4, by omega⟩
   ·rw [List.mem_singleton.1 hc]
    exact ⟨hx.2.1, by simp, fun y hy => (by cases hy), Int.le_refl 0, by simp; omega⟩
 have hlen := h.len
 unfold rlS at hr
 cases op with
 | nil =>
  dsimp only at hr
  split at hr
  ·rename_i hc
   simp only [Option.some.injEq, Prod.mk.injEq] at hr
   obtain ⟨rfl, rfl⟩ := hr
   exact push [] (fun a ha => by cases ha) (by simp)
  ·cases hr
 | cons a s =>
  have ha := h.lt a (List.mem_cons_self ..)
  obtain ⟨g1, g2, g3, g4, g5⟩ := h.fit _ (rd_in ha)
  rw [List.length_cons] at hlen
  dsimp only at hr
  split at hr
  ·split at hr
   ·simp only [Option.some.injEq, Prod.mk.injEq] at hr
    obtain ⟨rfl, rfl⟩ := hr
    exact push (a :: s) h.lt (by rw [List.length_cons]; omega)
   ·cases hr
  ·split at hr
   ·split at hr
    ·simp only [Option.some.injEq, Prod.mk.injEq] at hr
     obtain ⟨rfl, rfl⟩ := hr
     refine ⟨fun b hb => by rw [List.length_set]; exact h.lt b (List.mem_cons_of_mem _ hb), ⟨by omega, by rw [List.length_set]; omega⟩, fun c hc => ?_⟩
     rcases set_mem hc with hc | rfl
     ·obtain ⟨h1, h2, h3, h4, h5⟩ := h.fit c hc
      exact ⟨h1, by omega, h3, h4, by omega⟩
     ·refine ⟨g1, Nat.le_succ_of_le g2, g3, ?_, ?_⟩
      ·show (0 : Int) ≤ (R.length : Int) - 1 - a
       omega
      ·show (R.length : Int) - 1 - a ≤ ((k + 1 : Nat) : Int)
       omega
    ·cases hr
   ·simp only [Option.some.injEq, Prod.mk.injEq] at hr
    obtain ⟨rfl, rfl⟩ := hr
    refine ⟨fun b hb => by rw [List.length_set]; exact h.lt b hb, ⟨by rw [List.length_cons]; omega, by rw [List.length_set]; omega⟩, fun c hc => ?_⟩
    rcases set_mem hc with hc | rfl
    ·obtain ⟨h1, h2, h3, h4, h5⟩ := h.fit c hc
     exact ⟨h1, by omega, h3, h4, by omega⟩
    ·refine ⟨g1, ?_, fun y hy => ?_, g4, ?_⟩
     ·show (lns R a ++ [x]).length ≤ k + 1
      rw [List.length_append, List.length_singleton]
      exact Nat.succ_le_succ g2
     ·rcases List.mem_append.1 hy with hy | hy
      ·exact g3 y hy
      ·rw [List.mem_singleton.1 hy]; exact hx
     ·show (rd_T40 R (a : Int)).f2 ≤ ((k + 1 : Nat) : Int)
      omega
def encR : Option (List S40 × List Nat) → List S40 → List Nat → Bool × List S40 × List Int
 | some (R', op'), _, _ => (true, R', stk op')
 | none, R, op => (false, R, stk op)
theorem rl_eq {k : Nat} (hk : k ≤ 1000000) {R : List S40} {op : List Nat} {x : S44} (h : Inv k R op) (hx : FitL x) : tree_rl.F R (stk op) x.f0 x.f1 x.f2 = some (encR (rlS R op x) R op) := by
 obtain ⟨x1, x2, x3, x4⟩ := hx
 have hzl := stk_length op
 have hlen := h.len
 have e1 : line_Alike.F x.f0 (⟨#[66, 69, 71, 73, 78]⟩ : ByteArray) = some (alk x.f0 BEG) := alk_eq x.f0 BEG x1
 have e2 : line_Alike.F x.f0 (⟨#[69, 78, 68]⟩ : ByteArray) = some (alk x.f0 END) := alk_eq x.f0 END x1
 have hpar : ((x.f1.length : Int) > 0) ↔ ¬ x.f1 = [] := by
  rw [← List.length_eq_zero_iff]
  omega
 have hne : ((R.length : Int) > 0) ↔ ¬ R = [] := by
  rw [← List.length_eq_zero_iff]
  omega
 cases op with
 | nil =>
  rw [tree_rl.F_eq, if_pos (by rfl)]
  unfold rlS
  dsimp only
  by_cases h1 : R = []
  ·rw [if_neg (fun h' => hne.1 h' h1), tree_rl1.F_eq, e1, bind_some_]
   cases hb : alk x.f0 BEG with
   | false =>
    rw [if_neg (by decide), if_pos (by rfl), if_neg (fun h' => by cases h'.2.1)]
    rfl
   | true =>
    rw [if_pos rfl]
    by_cases h2 : x.f1 = []
    ·rw [if_neg (fun h' => hpar.1 h' h2), if_pos (by omega), if_pos (by omega), if_pos ⟨h1, rfl, h2⟩]
     rfl
    ·rw [if_pos (hpar.2 h2), if_neg (fun h' => h2 h'.2.2)]
     rfl
  ·rw [if_pos (hne.2 h1), if_neg (fun h' => h1 h'.1)]
   rfl
 | cons a s =>
  have ha := h.lt a (List.mem_cons_self ..)
  obtain ⟨g1, g2, g3, g4, g5⟩ := h.fit _ (rd_in ha)
  rw [List.length_cons] at hlen hzl
  rw [tree_rl.F_eq, if_neg (by omega), tree_rl1.F_eq, e1, bind_some_]
  unfold rlS
  dsimp only
  cases hb : alk x.f0 BEG with
  | true =>
   rw [if_pos rfl, if_pos rfl]
   by_cases h2 : x.f1 = []
   ·rw [if_neg (fun h' => hpar.1 h' h2), if_pos (by omega), if_pos (by omega), if_pos h2, stk_push]
    rfl
   ·rw [if_pos (hpar.2 h2), if_neg h2]
    rfl
  | false =>
   rw [if_neg (by decide), if_neg (by omega), if_neg (by decide), show ((stk (a :: s)).length : Int) - 1 = ((s.length : Nat) : Int) by omega, stk_top, tree_rl2.F_eq, if_pos (by omega), if_pos (by omega), e2, bind_some_]
   cases he : alk x.f0 END with
   | true =>
    rw [if_pos rfl, if_pos rfl]
    by_cases h2 : x.f1 = []
    ·have e3 : line_Alike.F x.f2 (rd_T40 R (a : Int)).f0 = some (alk x.f2 (nm R a)) := alk_eq x.f2 _ x2
     rw [if_neg (fun h' => hpar.1 h' h2), e3, bind_some_]
     cases hn : alk x.f2 (nm R a) with
     | true =>
      rw [if_pos rfl, if_pos ⟨h2, rfl⟩, wrap64_id (n := (R.length : Int) - 1) (by omega) (by omega), wrap64_id (by omega) (by omega), show (stk (a :: s)).length - 1 = s.length by omega, stk_pop, Int.toNat_natCast]
      rfl
     | false =>
      rw [if_neg (by decide), if_neg (fun h' => by cases h'.2)]
      rfl
    ·rw [if_pos (hpar.2 h2), if_neg (fun h' => h2 h'.1)]
     rfl
   | false =>
    have hff : ¬ (false = true) := by decide
    rw [if_neg hff, if_neg hff, if_pos (by omega), Int.toNat_natCast]
    rfl
def finS : Option (List S40 × List Nat) → List S40 × Int
 | some (R, []) => if trS R = true then (R, 0) else ([], 20)
 | _ => ([], 20)
theorem inv_fit {k : Nat} (hk : k ≤ 1000000) {R : List S40} {op : List Nat} (h : Inv k R op) : tree_Check.F R = some (if trS R = true then 0 else 20) :=
 check_eq (by have := h.len; omega) (fun c hc => by
  obtain ⟨h1, h2, h3, h4, h5⟩ := h.fit c hc
  exact ⟨h1, by omega, h3⟩) (fun c hc => by
  obtain ⟨h1, h2, h3, h4, h5⟩ := h.fit c hc
  omega)
theorem parse_L1 (E : List S44) (hE : E.length ≤ 900000) (hf : ∀ x ∈ E, FitL x) : ∀ (d j : Nat) (R : List S40) (op : List Nat), j + d = E.length → Inv j R op → tree_Parse.L1 E R (stk op) (j : Int) = some (finS (runS (E.drop j) (R, op)))
 | 0, j, R, op, h1, h2 => by
  rw [tree_Parse.L1_eq, if_neg (by omega), List.drop_eq_nil_of_le (by omega), runS]
  cases op with
  | nil =>
   rw [if_neg (by decide), inv_fit (by omega) h2, bind_some_]
   unfold finS
   dsimp only
   by_cases h : trS R = true
   ·rw [if_pos h, if_pos rfl, if_pos h]
   ·rw [if_neg h, if_neg (by decide), if_neg h]
  | cons a s =>
   have hzl : ((stk (a :: s)).length : Int) = (s.length : Int) + 1 := by rw [stk_length, List.length_cons]; omega
   rw [if_pos (by omega)]
   rfl
 | d + 1, j, R, op, h1, h2 => by
  have hj : j < E.length := by omega
  have e0 : rd_T44 E (j : Int) = E[j] := by
   unfold rd_T44
   rw [Int.toNat_natCast, List.getD_eq_getElem?_getD, List.getElem?_eq_getElem hj]
   rfl
  have hx := hf _ (List.getElem_mem hj)
  rw [tree_Parse.L1_eq, if_pos (by omega), if_pos (by omega), e0, rl_eq (by omega) h2 hx, bind_some_, List.drop_eq_getElem_cons hj, runS]
  cases hr : rlS R op E[j] with
  | none =>
   show (if false = true then _ else _) = _
   rw [if_neg (by decide)]
   rfl
  | some q =>
   obtain ⟨R', op'⟩ := q
   unfold encR
   rw [if_pos rfl, bind_some_, wrap64_id (n := (j : Int) + 1) (by omega) (by omega)]
   exact parse_L1 E hE hf d (j + 1) R' op' (by omega) (rlS_inv h2 hx hr)
def linS : List (List Int) → Option (List S44)
 | [] => some []
 | l :: t => match prsS l with
  | some (n, ps, v) => (linS t).map fun r => ⟨n, ps, v⟩ :: r
  | none => none
theorem parse_L0 (ls : List (List Int)) (hl : ls.length ≤ 900000) (hb : ∀ l ∈ ls, Bytes l ∧ l.length ≤ 900000) : ∀ (d j : Nat) (acc : List S44), j + d = ls.length → acc.length ≤ j →
  tree_Parse.L0 (ls.map strOfNums) acc (j : Int) = match linS (ls.drop j) with
   | some r => tree_Parse.L1 (acc ++ r) ([] : List S40) ([] : List Int) 0
   | none => some (([] : List S40), 18)
 | 0, j, acc, h1, h2 => by
  have hm : (ls.map strOfNums).length = ls.length := List.length_map _
  rw [tree_Parse.L0_eq, if_neg (by omega), List.drop_eq_nil_of_le (by omega), linS]
  dsimp only
  rw [List.append_nil]
 | d + 1, j, acc, h1, h2 => by
  have hm : (ls.map strOfNums).length = ls.length := List.length_map _
  have hj : j < ls.length := by omega
  obtain ⟨b1, b2⟩ := hb _ (List.getElem_mem hj)
  have e0 : rdOf ByteArray.empty (ls.map strOfNums) (j : Int) = strOfNums ls[j] := by
   unfold rdOf
   rw [Int.toNat_natCast, List.getD_eq_getElem?_getD, List.getElem?_map, List.getElem?_eq_getElem hj]
   rfl
  rw [tree_Parse.L0_eq, if_pos (by omega), if_pos (by omega), e0, Parse_eq _ (by rw [size_strOf]; exact b2), bind_some_, bytes_strOf b1, List.drop_eq_getElem_cons hj, linS]
  cases hp : prsS ls[j] with
  | none =>
   unfold encL
   rw [if_neg (by decide)]
  | some q =>
   obtain ⟨n, ps, v⟩ := q
   unfold encL
   dsimp only
   rw [if_pos rfl, if_pos (by omega), wrap64_id (n := (j : Int) + 1) (by omega) (by omega), show (j : Int) + 1 = ((j + 1 : Nat) : Int) from rfl, parse_L0 ls hl hb d (j + 1) (acc ++ [(⟨n, ps, v⟩ : S44)]) (by omega) (by rw [List.length_append, List.length_singleton]; omega)]
   cases linS (ls.drop (j + 1)) with
   | none => rfl
   | some r =>
    dsimp only [Option.map]
    rw [List.append_assoc, List.singleton_append]
theorem foldAll_bytes_ : ∀ {ls : List (List Int)}, (∀ l ∈ ls, Bytes l) → Bytes (foldAll ls)
 | [], _ => Bytes.nil
 | l :: t, h => Bytes.app (foldL_bytes _ _ (h l (List.mem_cons_self ..))) (foldAll_bytes_ (fun y hy => h y (List.mem_cons_of_mem _ hy)))
theorem lin_back : ∀ E : List S44, (∀ x ∈ E, lnS x.f0 x.f1 x.f2 = true) → linS (E.map txX) = some E
 | [], _ => rfl
 | x :: t, h => by
  have h1 : prsS (txX x) = some (x.f0, x.f1, x.f2) := prs_txt (h x (List.mem_cons_self ..))
  rw [List.map_cons, linS, h1, lin_back t (fun y hy => h y (List.mem_cons_of_mem _ hy))]
  rfl
theorem evs_good {l : List S40} (hT : GoodT l) : ∀ (d i : Nat) (op : List Nat), i + d = l.length → (∀ a ∈ op, a < i) → ∀ x ∈ evs l d i op, GoodX x := by
 have hsh : ∀ (i : Nat) (op : List Nat), i ≤ l.length → (∀ a ∈ op, a < i) → ∀ x ∈ shE l op i, GoodX x := by
  intro i op hi
  induction op with
  | nil => intro _ x hx; cases hx
  | cons a s ih =>
   intro h x hx
   rw [shE] at hx
   split at hx
   ·rcases List.mem_cons.1 hx with rfl | hx
    ·exact hT.end_ a (by have := h a (List.mem_cons_self ..); omega)
    ·exact ih (fun b hb => h b (List.mem_cons_of_mem _ hb)) x hx
   ·cases hx
 intro d
 induction d with
 | zero => intro i op h1 h2 x hx; exact hsh i op (by omega) h2 x hx
 | succ d ih =>
  intro i op h1 h2 x hx
  rw [evs] at hx
  rcases List.mem_append.1 hx with hx | hx
  ·exact hsh i op (by omega) h2 x hx
  ·rcases List.mem_cons.1 hx with rfl | hx
   ·exact hT.beg i (by omega)
   ·rcases List.mem_append.1 hx with hx | hx
    ·exact hT.lin i (by omega) x hx
    ·refine ih (i + 1) _ (by omega) (fun a ha => ?_) x hx
     rcases List.mem_cons.1 ha with rfl | ha
     ·omega
     ·have := h2 a (shO_mem ha); omega
theorem GoodX.fit {x : S44} (h : GoodX x) : FitL x := by
 obtain ⟨h1, h2, h3, h4⟩ := h.sz.fit
 exact ⟨by omega, by omega, by omega, h4⟩
theorem foldAll_len (E : List S44) (h : E.all short = true) : (foldAll (E.map txX)).length = lenS E := by rw [← flat_fold E h, lenS_flat]
theorem parse_back {l : List S40} (hT : GoodT l) (hr : trS l = true) (hE : (evA l).length ≤ 900000) (hs : (evA l).all short = true) (hn : lenS (evA l) ≤ 600000) : tree_Parse.F (strOfNums (foldAll ((evA l).map txX))) = some (l, 0) := by
 obtain ⟨h0, hN, hr0, ho⟩ := trS_parts hr
 have hg := evs_good hT l.length 0 [] (by omega) (fun a ha => by cases ha)
 have hlin : ∀ t ∈ (evA l).map txX, Lin t := fun t ht => by
  obtain ⟨x, hx, rfl⟩ := List.mem_map.1 ht
  exact txt_lin (hg x hx).ok
 have hby : ∀ t ∈ (evA l).map txX, Bytes t := fun t ht => by
  obtain ⟨x, hx, rfl⟩ := List.mem_map.1 ht
  exact txtS_bytes _ _ _
 have hbn : ∀ t ∈ (evA l).map txX, Bytes t ∧ t.length ≤ 900000 := fun t ht => by
  refine ⟨hby t ht, ?_⟩
  obtain ⟨x, hx, rfl⟩ := List.mem_map.1 ht
  have h1 := txt_psum x.f0 x.f1 x.f2
  have h2 : x.f0.size + psum x.f1 + 1 + x.f2.size ≤ 100000 := (hg x hx).sz
  show (txtS x.f0 x.f1 x.f2).length ≤ 900000
  omega
 have hlen := foldAll_len (evA l) hs
 rw [tree_Parse.F_eq, Unfold_eq _ (by rw [size_strOf, hlen]; exact hn), bytes_strOf (foldAll_bytes_ hby), unf_all _ hlin, bind_some_]
 unfold encU
 dsimp only
 have h1 := parse_L0 ((evA l).map txX) (by rw [List.length_map]; exact hE) hbn _ 0 [] (Nat.zero_add _) (Nat.le_refl _)
 rw [show ((0 : Nat) : Int) = 0 from rfl, List.drop_zero, lin_back (evA l) (fun x hx => (hg x hx).ok)] at h1
 rw [if_pos rfl, h1]
 dsimp only
 have h2 := parse_L1 (evA l) hE (fun x hx => (hg x hx).fit) _ 0 [] [] (Nat.zero_add _) ⟨fun a ha => (by cases ha), ⟨Nat.le_refl _, Nat.le_refl _⟩, fun c hc => (by cases hc)⟩
 rw [show ((0 : Nat) : Int) = 0 from rfl, List.drop_zero, show stk [] = [] from rfl] at h2
 rw [List.nil_append, h2]
 have hm : ∀ c ∈ l, ∀ x ∈ c.f1, mark x = false := fun c hc x hx => by
  have h3 := ho c hc
  unfold okC at h3
  have h4 := List.all_eq_true.1 (Bool.and_eq_true_iff.1 h3).2 x hx
  unfold okX at h4
  have := (Bool.and_eq_true_iff.1 h4).2
  simpa using this
 have h5 := run_all hN hr0 hm
 show some (finS (runS (evs l l.length 0 []) ([], []))) = _
 rw [h5]
 unfold finS
 dsimp only
 rw [if_pos hr]
theorem text_back {l : List S40} (hl : l.length ≤ 1000000) (hf : ∀ c ∈ l, c.f0.size ≤ 1000000 ∧ -9223372036854775808 ≤ c.f2 ∧ c.f2 ≤ 9223372036854775807 ∧ ∀ x ∈ c.f1, Sz x.f0 x.f1 x.f2) (hM : ∀ c ∈ l, c.f1.length ≤ 1000000) (hE : trS l = true → (evA l).length ≤ 900000) :
  tree_Check.F l = some (if trS l = true then 0 else 20) ∧ ((trS l = false ∧ tree_Text.F l = some ((⟨#[]⟩ : ByteArray), 20)) ∨ (trS l = true ∧ ¬ ((evA l).all short = true ∧ lenS (evA l) ≤ 600000) ∧ tree_Text.F l = some ((⟨#[]⟩ : ByteArray), 2)) ∨
   (trS l = true ∧ (evA l).all short = true ∧ lenS (evA l) ≤ 600000 ∧ tree_Text.F l = some (strOfNums (foldAll ((evA l).map txX)), 0) ∧ tree_Parse.F (strOfNums (foldAll ((evA l).map txX))) = some (l, 0))) := by
 have hc : tree_Check.F l = some (if trS l = true then 0 else 20) := check_eq (by omega) (fun c hc => by
  obtain ⟨h1, h2, h3, h4⟩ := hf c hc
  refine ⟨h1, by have := hM c hc; omega, fun x hx => ?_⟩
  obtain ⟨g1, g2, g3, g4⟩ := (h4 x hx).fit
  exact ⟨by omega, by omega, by omega, g4⟩) (fun c hc => ⟨(hf c hc).2.1, (hf c hc).2.2.1⟩)
 refine ⟨hc, ?_⟩
 rw [tree_Text.F_eq, hc, bind_some_]
 cases hr : trS l with
 | false =>
  left
  rw [if_neg (show ¬ (false = true) by decide), if_neg (by decide)]
  exact ⟨rfl, rfl⟩
 | true =>
  right
  have hE := hE hr
  obtain ⟨h0, hN, hr0, ho⟩ := trS_parts hr
  have hT := good_of (by omega) ho (fun c hc => ⟨by have := hM c hc; omega, (hf c hc).2.2.2⟩)
  rw [if_pos rfl, if_pos rfl, text_eq hT hN (by omega)]
  by_cases hs : (evA l).all short = true ∧ lenS (evA l) ≤ 600000
  ·right
   rw [if_pos hs]
   exact ⟨rfl, hs.1, hs.2, rfl, parse_back hT hr hE hs.1 hs.2⟩
  ·left
   rw [if_neg hs]
   exact ⟨rfl, hs, rfl⟩
end Go.Proofs.YtdgeokpbedllaaaDoor.TreK
namespace Go.Proofs.YtdgeokpbedllaaaDoor.TreK
open Go.RowKit Go.Proofs.YtdgeokpbedllaaaDoor.PTre Go.Proofs.YtdgeokpbedllaaaDoorW.PrintWords Go.Proofs.YtdgeokpbedllaaaDoorW.PrintLast Go.Proofs.YtdgeokpbedllaaaDoorW.PrintMore Go.Proofs.YtdgeokpbedllaaaDoor.Base
set_option linter.unusedVariables false
set_option linter.unusedSimpArgs false
set_option linter.unusedSectionVars false
theorem wf64_ {a : Int} (h : (Lit.int .i64 a).wf = true) : -9223372036854775808 ≤ a ∧ a ≤ 9223372036854775807 := by simpa [Lit.wf, IntKind.min, IntKind.max, IntKind.signed, IntKind.bits] using h
theorem wakes19 : solsticelaw19_wakes.F = some true := lim_of (solsticelaw19_wakes.isF).mono (k := 100) (by decide +kernel)
theorem S44_ext {p q : S44} : p = q ↔ p.f0 = q.f0 ∧ p.f2 = q.f2 ∧ p.f1 = q.f1 := by
 cases p; cases q
 simp
 exact fun _ => And.comm
instance : DecidableEq S44 := fun p q => decidable_of_iff (p.f0 = q.f0 ∧ p.f2 = q.f2 ∧ p.f1 = q.f1) S44_ext.symm
theorem S40_ext {p q : S40} : p = q ↔ p.f0 = q.f0 ∧ p.f2 = q.f2 ∧ p.f1 = q.f1 := by
 cases p; cases q
 simp
 exact fun _ => And.comm
instance : DecidableEq S40 := fun p q => decidable_of_iff (p.f0 = q.f0 ∧ p.f2 = q.f2 ∧ p.f1 = q.f1) S40_ext.symm
def Cmp (x : S44) : Prop := x.f1.length ≤ 1000000 ∧ ∀ p ∈ x.f1, p.f1.length ≤ 1000000
def CmpC (c : S40) : Prop := c.f1.length ≤ 1000000 ∧ ∀ x ∈ c.f1, Cmp x
theorem keep_X {x y : S44} (h : Cmp x) : solsticekeep_Line.F x.f0 x.f1 x.f2 y.f0 y.f1 y.f2 = some (decide (x = y)) := by
 rw [keep_line _ _ _ _ _ _ (by have := h.1; omega) (fun p hp => by have := h.2 p hp; omega)]
 congr 1
 rw [decide_eq_decide]
 exact S44_ext.symm
section
variable {xs ys : List S40} (hx : xs.length ≤ 1000000) (hf : ∀ c ∈ xs, CmpC c) (he : xs.length = ys.length)
include hx hf he
theorem cmps_L1 (i : Nat) (hi : i < xs.length) (hl : (rd_T40 xs (i : Int)).f1.length = (rd_T40 ys (i : Int)).f1.length) : ∀ d j : Nat, j + d = (rd_T40 xs (i : Int)).f1.length →
  solsticekeep_Comps.L1 xs ys (i : Int) (j : Int) = if (rd_T40 xs (i : Int)).f1.drop j = (rd_T40 ys (i : Int)).f1.drop j then solsticekeep_Comps.L0 xs ys ((i + 1 : Nat) : Int) else some false := by
 obtain ⟨c1, c2⟩ := hf _ (rd_in hi)
 intro d
 induction d with
 | zero =>
  intro j h
  rw [solsticekeep_Comps.L1_eq, if_pos (by omega), if_pos (by omega), if_neg (by omega), wrap64_id (by omega) (by omega), List.drop_eq_nil_of_le (by omega), List.drop_eq_nil_of_le (by omega), if_pos rfl]
  rfl
 | succ d ih =>
  intro j h
  have hj : j < (rd_T40 xs (i : Int)).f1.length := by omega
  have hj' : j < (rd_T40 ys (i : Int)).f1.length := by omega
  have e0 : rd_T44 (rd_T40 xs (i : Int)).f1 (j : Int) = (rd_T40 xs (i : Int)).f1[j] := by
   unfold rd_T44
   rw [Int.toNat_natCast, List.getD_eq_getElem?_getD, List.getElem?_eq_getElem hj]
   rfl
  have e1 : rd_T44 (rd_T40 ys (i : Int)).f1 (j : Int) = (rd_T40 ys (i : Int)).f1[j] := by
   unfold rd_T44
   rw [Int.toNat_natCast, List.getD_eq_getElem?_getD, List.getElem?_eq_getElem hj']
   rfl
  have hc := c2 _ (List.getElem_mem hj)
  rw [solsticekeep_Comps.L1_eq, if_pos (by omega), if_pos (by omega), if_pos (by omega), if_pos (by omega), if_pos (by omega), if_pos (by omega), e0, e1, keep_X hc, bind_some_, wrap64_id (n := (j : Int) + 1) (by omega) (by omega), List.drop_eq_getElem_cons hj, List.drop_eq_getElem_cons hj']
  by_cases h2 : (rd_T40 xs (i : Int)).f1[j] = (rd_T40 ys (i : Int)).f1[j]
  ·rw [if_pos (decide_eq_true h2)]
   have h3 := ih (j + 1) (by omega)
   rw [show (j : Int) + 1 = ((j + 1 : Nat) : Int) from rfl, h3]
   by_cases h4 : (rd_T40 xs (i : Int)).f1.drop (j + 1) = (rd_T40 ys (i : Int)).f1.drop (j + 1)
   ·rw [if_pos h4, if_pos (by rw [h2, h4])]
   ·rw [if_neg h4, if_neg (fun h' => h4 (List.cons.inj h').2)]
  ·rw [if_neg (by simpa using h2), if_neg (fun h' => h2 (List.cons.inj h').1)]
theorem cmps_L0 : ∀ d i : Nat, i + d = xs.length → solsticekeep_Comps.L0 xs ys (i : Int) = some (decide (xs.drop i = ys.drop i)) := by
 intro d
 induction d with
 | zero =>
  intro i h
  rw [solsticekeep_Comps.L0_eq, if_neg (by omega), List.drop_eq_nil_of_le (by omega), List.drop_eq_nil_of_le (by omega)]
  rfl
 | succ d ih =>
  intro i h
  have hi : i < xs.length := by omega
  have hi' : i < ys.length := by omega
  have e0 : rd_T40 xs (i : Int) = xs[i] := by
   unfold rd_T40
   rw [Int.toNat_natCast, List.getD_eq_getElem?_getD, List.getElem?_eq_getElem hi]
   rfl
  have e1 : rd_T40 ys (i : Int) = ys[i] := by
   unfold rd_T40
   rw [Int.toNat_natCast, List.getD_eq_getElem?_getD, List.getElem?_eq_getElem hi']
   rfl
  have stop : solsticekeep_Comps.J1 xs ys (i : Int) true = some false := by rw [solsticekeep_Comps.J1_eq, if_pos rfl]
  rw [solsticekeep_Comps.L0_eq, if_pos (by omega), if_pos (by omega), if_pos (by omega), stop, List.drop_eq_getElem_cons hi, List.drop_eq_getElem_cons hi']
  by_cases h1 : (rd_T40 xs (i : Int)).f0 = (rd_T40 ys (i : Int)).f0
  ·rw [if_pos (toList_iff.2 h1)]
   by_cases h2 : (rd_T40 xs (i : Int)).f2 = (rd_T40 ys (i : Int)).f2
   ·rw [if_pos h2]
    by_cases h3 : (rd_T40 xs (i : Int)).f1.length = (rd_T40 ys (i : Int)).f1.length
    ·rw [show (((rd_T40 xs (i : Int)).f1.length : Int) != ((rd_T40 ys (i : Int)).f1.length : Int)) = false from bne_eq_false_iff_eq.2 (by omega), solsticekeep_Comps.J1_eq, if_neg (by decide)]
     have h4 := cmps_L1 hx hf he i hi h3 _ 0 (Nat.zero_add _)
     rw [show ((0 : Nat) : Int) = 0 from rfl, List.drop_zero, List.drop_zero] at h4
     rw [h4]
     by_cases h5 : (rd_T40 xs (i : Int)).f1 = (rd_T40 ys (i : Int)).f1
     ·rw [if_pos h5, ih (i + 1) (by omega)]
      congr 1
      rw [decide_eq_decide, List.cons.injEq]
      exact ⟨fun h' => ⟨by rw [← e0, ← e1]; exact S40_ext.2 ⟨h1, h2, h5⟩, h'⟩, fun h' => h'.2⟩
     ·rw [if_neg h5, decide_eq_false (fun h' => h5 (by rw [e0, e1, (List.cons.inj h').1]))]
    ·rw [show (((rd_T40 xs (i : Int)).f1.length : Int) != ((rd_T40 ys (i : Int)).f1.length : Int)) = true from bne_iff_ne.2 (by omega), stop, decide_eq_false (fun h' => h3 (by rw [e0, e1, (List.cons.inj h').1]))]
   ·rw [if_neg h2, decide_eq_false (fun h' => h2 (by rw [e0, e1, (List.cons.inj h').1]))]
  ·rw [if_neg (fun h' => h1 (toList_iff.1 h')), decide_eq_false (fun h' => h1 (by rw [e0, e1, (List.cons.inj h').1]))]
end
theorem keep_comps {xs ys : List S40} (hx : xs.length ≤ 1000000) (hf : ∀ c ∈ xs, CmpC c) : solsticekeep_Comps.F xs ys = some (decide (xs = ys)) := by
 rw [solsticekeep_Comps.F_eq]
 by_cases h : xs.length = ys.length
 ·rw [if_pos (by omega)]
  exact cmps_L0 hx hf h xs.length 0 (by omega)
 ·rw [if_neg (by omega), decide_eq_false (fun h' => h (by rw [h']))]
end Go.Proofs.YtdgeokpbedllaaaDoor.TreK
