-- A text of the kit's tools for this claim, its remarks left out.
import Derived.Test.YtdgeokpbedllaaaDoorTrLC
import Derived.Test.YtdgeokpbedllaaaDoorETrex7
import Derived.Test.YtdgeokpbedllaaaDoorTreKb
namespace Go.Proofs.YtdgeokpbedllaaaDoor.Base
open Go.RowKit Go.Proofs.YtdgeokpbedllaaaDoor.PTre Go.Proofs.YtdgeokpbedllaaaDoorW.PrintWords Go.Proofs.YtdgeokpbedllaaaDoorW.PrintLast Go.Proofs.YtdgeokpbedllaaaDoorW.PrintMore
set_option linter.unusedVariables false
set_option linter.unusedSimpArgs false
def sm (c : Int) : Int := if 65 ≤ c ∧ c ≤ 90 then c + 32 else c
theorem small_eq (c : Int) : line_small.f c = some (sm c) := by
 unfold line_small.f sm
 by_cases h1 : c ≥ 65
 ·rw [if_pos h1]
  by_cases h2 : c ≤ 90
  ·rw [if_pos h2, if_pos ⟨h1, h2⟩]
   congr 1
   omega
  ·rw [if_neg h2, if_neg (fun h => h2 h.2)]
 ·rw [if_neg h1, if_neg (fun h => h1 h.1)]
def alk (a b : ByteArray) : Bool := decide ((bytesOf a).map sm = (bytesOf b).map sm)
theorem alk_L0 (a b : ByteArray) (ha : a.size ≤ 1000000) (he : a.size = b.size) : ∀ (n : Nat) (i : Int), n = a.size - i.toNat → 0 ≤ i → i ≤ (a.size : Int) →
  line_Alike.L0 a b (a.size : Int) i = some (decide ((rest a i).map sm = (rest b i).map sm)) := by
 intro n
 induction n with
 | zero =>
  intro i hn h0 h1
  rw [line_Alike.L0_eq, if_neg (by omega), rest_nil (by omega), rest_nil (by omega)]
  rfl
 | succ n ih =>
  intro i hn h0 h1
  have hlt : i < (a.size : Int) := by omega
  have e1 := ih (i + 1) (by omega) (by omega) (by omega)
  rw [line_Alike.L0_eq, if_pos hlt, if_pos h0, if_pos hlt, small_eq, bind_some_, if_pos (by omega), small_eq, bind_some_, wrap64_id (n := i + 1) (by omega) (by omega), e1, rest_cons h0 hlt, rest_cons (s := b) h0 (by omega), List.map_cons, List.map_cons]
  by_cases h : sm (bt a i) = sm (bt b i)
  ·rw [if_pos h]
   congr 1
   rw [decide_eq_decide, List.cons.injEq]
   exact ⟨fun h' => ⟨h, h'⟩, fun h' => h'.2⟩
  ·rw [if_neg h, decide_eq_false (fun h' => h (List.cons.inj h').1)]
theorem alk_eq (a b : ByteArray) (ha : a.size ≤ 1000000) : line_Alike.F a b = some (alk a b) := by
 have za := size_len a; have zb := size_len b
 rw [line_Alike.F_eq]
 unfold alk
 by_cases h : a.size = b.size
 ·rw [if_pos (by omega), alk_L0 a b ha h _ 0 rfl (by omega) (by omega), rest_zero, rest_zero]
 ·rw [if_neg (by omega), decide_eq_false (fun h' => by
   have := congrArg List.length h'
   rw [List.length_map, List.length_map] at this
   omega)]
end Go.Proofs.YtdgeokpbedllaaaDoor.Base
namespace Go.Proofs.YtdgeokpbedllaaaDoor.TreK
open Go.RowKit Go.Proofs.YtdgeokpbedllaaaDoor.PTre Go.Proofs.YtdgeokpbedllaaaDoorW.PrintWords Go.Proofs.YtdgeokpbedllaaaDoorW.PrintLast Go.Proofs.YtdgeokpbedllaaaDoorW.PrintMore Go.Proofs.YtdgeokpbedllaaaDoor.Base
set_option linter.unusedVariables false
set_option linter.unusedSimpArgs false
theorem rd_in {l : List S40} {i : Nat} (h : i < l.length) : rd_T40 l (i : Int) ∈ l := by
 unfold rd_T40
 rw [Int.toNat_natCast, List.getD_eq_getElem?_getD, List.getElem?_eq_getElem h]
 exact List.getElem_mem h
def strk : List Nat → Nat → List Nat
 | [], _ => []
 | x :: s, i => if x ≤ i then strk s i else x :: s
def ow (l : List S40) (a : Nat) : Int := (rd_T40 l (a : Int)).f2
def scan (l : List S40) : Nat → Nat → List Nat → Bool
 | 0, _, _ => true
 | d + 1, i, st => decide (0 ≤ ow l i) && decide (Eo l i ≤ (strk st i).headD l.length) && decide ((strk st i).length < 8) && scan l d (i + 1) (Eo l i :: strk st i)
theorem strk_mem {i x : Nat} : ∀ {st : List Nat}, x ∈ strk st i → x ∈ st
 | [], h => h
 | y :: s, h => by
  rw [strk] at h
  split at h
  ·exact List.mem_cons_of_mem _ (strk_mem h)
  ·exact h
theorem strk_len {i : Nat} : ∀ st : List Nat, (strk st i).length ≤ st.length
 | [] => Nat.le_refl _
 | y :: s => by
  rw [strk]
  split
  ·exact Nat.le_succ_of_le (strk_len s)
  ·exact Nat.le_refl _
theorem strk_all {i : Nat} : ∀ {st : List Nat}, st.Pairwise (fun x y => x ≤ y) → ∀ x, x ∈ strk st i ↔ (x ∈ st ∧ i < x)
 | [], _, x => by simp [strk]
 | y :: s, h, x => by
  rw [List.pairwise_cons] at h
  rw [strk]
  split
  ·rename_i hy
   rw [strk_all h.2, List.mem_cons]
   constructor
   ·intro h'; exact ⟨Or.inr h'.1, h'.2⟩
   ·rintro ⟨rfl | h1, h2⟩
    ·omega
    ·exact ⟨h1, h2⟩
  ·rename_i hy
   constructor
   ·intro h'
    refine ⟨h', ?_⟩
    rcases List.mem_cons.1 h' with rfl | h1
    ·omega
    ·have := h.1 x h1; omega
   ·intro h'; exact h'.1
theorem strk_sorted {i : Nat} : ∀ {st : List Nat}, st.Pairwise (fun x y => x ≤ y) → (strk st i).Pairwise (fun x y => x ≤ y)
 | [], h => h
 | y :: s, h => by
  rw [strk]
  split
  ·exact strk_sorted (List.pairwise_cons.1 h).2
  ·exact h
theorem head_le {st : List Nat} (h : st.Pairwise (fun x y => x ≤ y)) {d x : Nat} (hx : x ∈ st) : st.headD d ≤ x := by
 cases st with
 | nil => cases hx
 | cons y s =>
  rcases List.mem_cons.1 hx with rfl | h1
  ·exact Nat.le_refl _
  ·exact (List.pairwise_cons.1 h).1 x h1
theorem head_top {st : List Nat} {d : Nat} (h : ∀ x ∈ st, x ≤ d) : st.headD d ≤ d := by
 cases st with
 | nil => exact Nat.le_refl _
 | cons y s => exact h y (List.mem_cons_self ..)
structure Sc (l : List S40) (i : Nat) (st : List Nat) : Prop where
 own : ∀ a : Nat, a < i → 0 ≤ ow l a ∧ Eo l a ≤ l.length
 ops : ∀ a : Nat, a < i → i < Eo l a → Eo l a ∈ st
 srt : st.Pairwise (fun x y => x ≤ y)
 top : ∀ x ∈ st, x ≤ l.length
 inn : ∀ a b : Nat, a < b → b < i → b < Eo l a → Eo l b ≤ Eo l a
theorem scan_step {l : List S40} {d i : Nat} {st : List Nat} (h : Sc l i st) (hs : scan l (d + 1) i st = true) : Sc l (i + 1) (Eo l i :: strk st i) ∧ scan l d (i + 1) (Eo l i :: strk st i) = true := by
 rw [scan] at hs
 simp only [Bool.and_eq_true, decide_eq_true_eq] at hs
 obtain ⟨⟨⟨h1, h2⟩, h3⟩, h4⟩ := hs
 have ht := head_top (st := strk st i) (d := l.length) (fun x hx => h.top x (strk_mem hx))
 have hl : ∀ x ∈ strk st i, Eo l i ≤ x := fun x hx => Nat.le_trans h2 (head_le (strk_sorted h.srt) hx)
 refine ⟨⟨?_, ?_, ?_, ?_, ?_⟩, h4⟩
 ·intro a ha
  by_cases e : a = i
  ·rw [e]; exact ⟨h1, by omega⟩
  ·exact h.own a (by omega)
 ·intro a ha hE
  by_cases e : a = i
  ·rw [e]; exact List.mem_cons_self ..
  ·exact List.mem_cons_of_mem _ ((strk_all h.srt _).2 ⟨h.ops a (by omega) (by omega), by omega⟩)
 ·exact List.pairwise_cons.2 ⟨hl, strk_sorted h.srt⟩
 ·intro x hx
  rcases List.mem_cons.1 hx with rfl | hx
  ·omega
  ·exact h.top x (strk_mem hx)
 ·intro a b hab hb hE
  by_cases e : b = i
  ·rw [e] at hE hab ⊢
   exact hl _ ((strk_all h.srt _).2 ⟨h.ops a hab hE, hE⟩)
  ·exact h.inn a b hab (by omega) hE
theorem scan_end {l : List S40} : ∀ (d i : Nat) (st : List Nat), i + d = l.length → Sc l i st → scan l d i st = true → ∃ st', Sc l l.length st'
 | 0, i, st, h1, h2, _ => by
  obtain rfl : i = l.length := by omega
  exact ⟨st, h2⟩
 | d + 1, i, st, h1, h2, h3 => by
  obtain ⟨h4, h5⟩ := scan_step h2 h3
  exact scan_end d (i + 1) _ (by omega) h4 h5
theorem scan_nest {l : List S40} (h : scan l l.length 0 [] = true) : Nest l := by
 obtain ⟨st, hs⟩ := scan_end l.length 0 [] (by omega) ⟨fun a ha => by omega, fun a ha => by omega, List.Pairwise.nil, fun x hx => (by cases hx), fun a b _ hb => (by omega)⟩ h
 refine ⟨⟨fun a ha => ⟨by unfold Eo; omega, (hs.own a ha).2⟩, fun a b hab hb ha => ?_⟩, fun a ha => (hs.own a ha).1⟩
 exact hs.inn a b hab (by have := (hs.own a ha).2; omega) hb
end Go.Proofs.YtdgeokpbedllaaaDoor.TreK
namespace Go.Proofs.YtdgeokpbedllaaaDoor.TreK
open Go.RowKit Go.Proofs.YtdgeokpbedllaaaDoor.PTre Go.Proofs.YtdgeokpbedllaaaDoorW.PrintWords Go.Proofs.YtdgeokpbedllaaaDoorW.PrintLast Go.Proofs.YtdgeokpbedllaaaDoorW.PrintMore Go.Proofs.YtdgeokpbedllaaaDoor.Base
set_option linter.unusedVariables false
set_option linter.unusedSimpArgs false
def BEG : ByteArray := ⟨#[66, 69, 71, 73, 78]⟩
def END : ByteArray := ⟨#[69, 78, 68]⟩
def begL (n : ByteArray) : S44 := ⟨BEG, [], n⟩
def endL (n : ByteArray) : S44 := ⟨END, [], n⟩
def nm (l : List S40) (a : Nat) : ByteArray := (rd_T40 l (a : Int)).f0
def lns (l : List S40) (a : Nat) : List S44 := (rd_T40 l (a : Int)).f1
def shE (l : List S40) : List Nat → Nat → List S44
 | [], _ => []
 | a :: s, i => if Eo l a ≤ i then endL (nm l a) :: shE l s i else []
def shO (l : List S40) : List Nat → Nat → List Nat
 | [], _ => []
 | a :: s, i => if Eo l a ≤ i then shO l s i else a :: s
def evs (l : List S40) : Nat → Nat → List Nat → List S44
 | 0, i, op => shE l op i
 | d + 1, i, op => shE l op i ++ (begL (nm l i) :: (lns l i ++ evs l d (i + 1) (i :: shO l op i)))
def rlS (R : List S40) (op : List Nat) (x : S44) : Option (List S40 × List Nat) :=
 match op with
 | [] => if R = [] ∧ alk x.f0 BEG = true ∧ x.f1 = [] then some (R ++ [⟨x.f2, [], 0⟩], [R.length]) else none
 | a :: s => if alk x.f0 BEG = true then (if x.f1 = [] then some (R ++ [⟨x.f2, [], 0⟩], R.length :: a :: s) else none)
  else if alk x.f0 END = true then (if x.f1 = [] ∧ alk x.f2 (nm R a) = true then some (R.set a ⟨nm R a, lns R a, (R.length : Int) - 1 - a⟩, s) else none)
  else some (R.set a ⟨nm R a, lns R a ++ [x], ow R a⟩, a :: s)
def runS : List S44 → List S40 × List Nat → Option (List S40 × List Nat)
 | [], s => some s
 | x :: t, s => (rlS s.1 s.2 x).bind (runS t)
theorem runS_app : ∀ (xs ys : List S44) (s : List S40 × List Nat), runS (xs ++ ys) s = (runS xs s).bind (runS ys)
 | [], ys, s => rfl
 | x :: t, ys, s => by
  rw [List.cons_append, runS, runS]
  cases rlS s.1 s.2 x with
  | none => rfl
  | some s' => exact runS_app t ys s'
theorem alk_self (a : ByteArray) : alk a a = true := decide_eq_true rfl
def mark (x : S44) : Bool := alk x.f0 BEG || alk x.f0 END
theorem rd_app_last (R : List S40) (c : S40) : rd_T40 (R ++ [c]) ((R.length : Nat) : Int) = c := by
 unfold rd_T40
 rw [Int.toNat_natCast, List.getD_eq_getElem?_getD, List.getElem?_append_right (Nat.le_refl _)]
 simp
theorem run_lines (R : List S40) (s : List Nat) (n : ByteArray) : ∀ (xs pre : List S44), (∀ x ∈ xs, mark x = false) → runS xs (R ++ [⟨n, pre, 0⟩], R.length :: s) = some (R ++ [⟨n, pre ++ xs, 0⟩], R.length :: s)
 | [], pre, _ => by rw [List.append_nil]; rfl
 | x :: t, pre, h => by
  have hx := h x (List.mem_cons_self ..)
  unfold mark at hx
  rw [Bool.or_eq_false_iff] at hx
  have e : rlS (R ++ [⟨n, pre, 0⟩]) (R.length :: s) x = some (R ++ [⟨n, pre ++ [x], 0⟩], R.length :: s) := by
   unfold rlS nm lns ow
   dsimp only
   rw [if_neg (by rw [hx.1]; decide), if_neg (by rw [hx.2]; decide), rd_app_last, List.set_append_right _ _ (Nat.le_refl _)]
   simp
  rw [runS, e, bind_some_, run_lines R s n t (pre ++ [x]) (fun y hy => h y (List.mem_cons_of_mem _ hy)), List.append_assoc, List.singleton_append]
def cur (l : List S40) (i : Nat) (op : List Nat) : List S40 := (List.range i).map fun j => ⟨nm l j, lns l j, if j ∈ op then 0 else ow l j⟩
theorem cur_length (l : List S40) (i : Nat) (op : List Nat) : (cur l i op).length = i := by unfold cur; rw [List.length_map, List.length_range]
theorem cur_get (l : List S40) {i j : Nat} (op : List Nat) (h : j < (cur l i op).length) : (cur l i op)[j] = ⟨nm l j, lns l j, if j ∈ op then 0 else ow l j⟩ := by simp [cur]
theorem cur_rd (l : List S40) {i a : Nat} (op : List Nat) (h : a < i) : rd_T40 (cur l i op) (a : Int) = ⟨nm l a, lns l a, if a ∈ op then 0 else ow l a⟩ := by
 unfold rd_T40 cur
 rw [Int.toNat_natCast, List.getD_eq_getElem?_getD, List.getElem?_map, List.getElem?_range h]
 rfl
theorem cur_push (l : List S40) (i : Nat) (op : List Nat) (h : ∀ a ∈ op, a < i) : cur l i op ++ [⟨nm l i, lns l i, 0⟩] = cur l (i + 1) (i :: op) := by
 unfold cur
 rw [List.range_succ, List.map_append, List.map_singleton, if_pos (List.mem_cons_self ..)]
 congr 1
 refine List.map_congr_left fun j hj => ?_
 have hj := List.mem_range.1 hj
 have e : (j ∈ i :: op) ↔ j ∈ op := by
  rw [List.mem_cons]
  exact ⟨fun h => h.elim (fun h => by omega) id, Or.inr⟩
 simp only [e]
theorem cur_shut (l : List S40) (i a : Nat) (s : List Nat) (h : a < i) (hs : a ∉ s) : (cur l i (a :: s)).set a ⟨nm l a, lns l a, ow l a⟩ = cur l i s := by
 refine List.ext_getElem (by rw [List.length_set, cur_length, cur_length]) fun j h1 h2 => ?_
 rw [List.getElem_set]
 simp only [cur_get]
 by_cases e : a = j
 ·subst e
  rw [if_pos rfl, if_neg hs]
 ·rw [if_neg e]
  have e' : (j ∈ a :: s) ↔ j ∈ s := by
   rw [List.mem_cons]
   exact ⟨fun h => h.elim (fun h => absurd h.symm e) id, Or.inr⟩
  simp only [e']
theorem cur_all (l : List S40) : cur l l.length [] = l := by
 refine List.ext_getElem (cur_length _ _ _) fun j h1 h2 => ?_
 rw [cur_get]
 have e : rd_T40 l (j : Int) = l[j] := by
  unfold rd_T40
  rw [Int.toNat_natCast, List.getD_eq_getElem?_getD, List.getElem?_eq_getElem h2]
  rfl
 unfold nm lns ow
 rw [e]
 simp
structure Opn (l : List S40) (i : Nat) (op : List Nat) : Prop where
 lt : ∀ a ∈ op, a < i ∧ i ≤ Eo l a
 dec : op.Pairwise (fun b a => a < b)
 root : 0 < i → 0 ∈ op
theorem run_shut {l : List S40} (hN : Nest l) {i : Nat} (hi : i ≤ l.length) : ∀ op : List Nat, (∀ a ∈ op, a < i ∧ i ≤ Eo l a) → op.Pairwise (fun b a => a < b) → runS (shE l op i) (cur l i op, op) = some (cur l i (shO l op i), shO l op i)
 | [], _, _ => rfl
 | a :: s, h, hp => by
  have ha := h a (List.mem_cons_self ..)
  have hpp := List.pairwise_cons.1 hp
  have hna : a ∉ s := fun hm => by have := hpp.1 a hm; omega
  rw [shE, shO]
  by_cases e : Eo l a ≤ i
  ·rw [if_pos e, if_pos e, runS]
   have hown := hN.own a (by omega)
   have hE : Eo l a = i := by omega
   have e1 : rlS (cur l i (a :: s)) (a :: s) (endL (nm l a)) = some (cur l i s, s) := by
    unfold rlS
    have hb : alk (endL (nm l a)).f0 BEG = false := by show alk END BEG = false; decide +kernel
    have he : alk (endL (nm l a)).f0 END = true := alk_self _
    have hn : nm (cur l i (a :: s)) a = nm l a := by unfold nm; rw [cur_rd l _ ha.1]; rfl
    have hl : lns (cur l i (a :: s)) a = lns l a := by unfold lns; rw [cur_rd l _ ha.1]; rfl
    have ho : ((cur l i (a :: s)).length : Int) - 1 - a = ow l a := by
     rw [cur_length]
     unfold Eo at hE
     unfold ow
     omega
    dsimp only
    rw [if_neg (by rw [hb]; decide), if_pos he, hn, hl, ho, if_pos ⟨rfl, alk_self _⟩, cur_shut l i a s ha.1 hna]
   rw [e1, bind_some_]
   exact run_shut hN hi s (fun b hb => h b (List.mem_cons_of_mem _ hb)) hpp.2
  ·rw [if_neg e, if_neg e]
   rfl
theorem shO_mem {l : List S40} {i a : Nat} : ∀ {op : List Nat}, a ∈ shO l op i → a ∈ op
 | [], h => h
 | b :: s, h => by
  rw [shO] at h
  split at h
  ·exact List.mem_cons_of_mem _ (shO_mem h)
  ·exact h
theorem shO_len (l : List S40) (i : Nat) : ∀ op : List Nat, (shO l op i).length ≤ op.length
 | [] => Nat.le_refl _
 | b :: s => by
  rw [shO]
  split
  ·exact Nat.le_succ_of_le (shO_len l i s)
  ·exact Nat.le_refl _
theorem shE_len (l : List S40) (i : Nat) : ∀ op : List Nat, (shE l op i).length + (shO l op i).length = op.length
 | [] => rfl
 | b :: s => by
  rw [shE, shO]
  split
  ·rw [List.length_cons, List.length_cons, ← shE_len l i s]; omega
  ·simp
theorem shO_pair {l : List S40} {i : Nat} : ∀ {op : List Nat}, op.Pairwise (fun b a => a < b) → (shO l op i).Pairwise (fun b a => a < b)
 | [], h => h
 | b :: s, h => by
  rw [shO]
  split
  ·exact shO_pair (List.pairwise_cons.1 h).2
  ·exact h
theorem shO_keep {l : List S40} {i a : Nat} (h : i < Eo l a) : ∀ {op : List Nat}, a ∈ op → a ∈ shO l op i
 | [], h' => h'
 | b :: s, h' => by
  rw [shO]
  split
  ·rcases List.mem_cons.1 h' with rfl | h'
   ·omega
   ·exact shO_keep h h'
  ·exact h'
theorem shO_open {l : List S40} (hN : Nest l) {i : Nat} (hi : i ≤ l.length) : ∀ {op : List Nat}, (∀ a ∈ op, a < i ∧ i ≤ Eo l a) → op.Pairwise (fun b a => a < b) → ∀ a ∈ shO l op i, i < Eo l a
 | [], _, _, a, h => by cases h
 | b :: s, hlt, hp, a, h => by
  have hpp := List.pairwise_cons.1 hp
  have hb := hlt b (List.mem_cons_self ..)
  rw [shO] at h
  split at h
  ·exact shO_open hN hi (fun c hc => hlt c (List.mem_cons_of_mem _ hc)) hpp.2 a h
  ·rename_i e
   rcases List.mem_cons.1 h with rfl | h
   ·omega
   ·have h1 := hpp.1 a h
    have h2 := hlt a (List.mem_cons_of_mem _ h)
    have := hN.lam.inn a b h1 (by omega) (by omega)
    omega
theorem Opn.next {l : List S40} (hN : Nest l) (h0 : Eo l 0 = l.length) {i : Nat} (hi : i < l.length) {op : List Nat} (h : Opn l i op) : Opn l (i + 1) (i :: shO l op i) := by
 refine ⟨fun a ha => ?_, ?_, fun _ => ?_⟩
 ·rcases List.mem_cons.1 ha with rfl | ha
  ·have := hN.lam.up a hi; omega
  ·have h1 := shO_open hN (by omega) h.lt h.dec a ha
   have h2 := h.lt a (shO_mem ha)
   omega
 ·exact List.pairwise_cons.2 ⟨fun a ha => (h.lt a (shO_mem ha)).1, shO_pair h.dec⟩
 ·by_cases e : i = 0
  ·rw [e]; exact List.mem_cons_self ..
  ·exact List.mem_cons_of_mem _ (shO_keep (by omega) (h.root (by omega)))
theorem shO_nil {l : List S40} (hN : Nest l) : ∀ op : List Nat, (∀ a ∈ op, a < l.length ∧ l.length ≤ Eo l a) → shO l op l.length = []
 | [], _ => rfl
 | a :: s, h => by
  have := hN.lam.up a (h a (List.mem_cons_self ..)).1
  rw [shO, if_pos this.2]
  exact shO_nil hN s (fun b hb => h b (List.mem_cons_of_mem _ hb))
theorem run_evs {l : List S40} (hN : Nest l) (h0 : Eo l 0 = l.length) (hm : ∀ c ∈ l, ∀ x ∈ c.f1, mark x = false) : ∀ (d i : Nat) (op : List Nat), i + d = l.length → Opn l i op → runS (evs l d i op) (cur l i op, op) = some (l, [])
 | 0, i, op, h1, h => by
  obtain rfl : i = l.length := by omega
  rw [evs, run_shut hN (Nat.le_refl _) op h.lt h.dec, shO_nil hN op h.lt, cur_all]
 | d + 1, i, op, h1, h => by
  have hi : i < l.length := by omega
  have hn := h.next hN h0 hi
  rw [evs, runS_app, run_shut hN (by omega) op h.lt h.dec, bind_some_, runS]
  have e1 : rlS (cur l i (shO l op i)) (shO l op i) (begL (nm l i)) = some (cur l i (shO l op i) ++ [⟨nm l i, [], 0⟩], (cur l i (shO l op i)).length :: shO l op i) := by
   have hb : alk (begL (nm l i)).f0 BEG = true := alk_self _
   cases hop : shO l op i with
   | nil =>
    have hz : i = 0 := by
     by_cases e : i = 0
     ·exact e
     ·have := shO_keep (l := l) (i := i) (a := 0) (by omega) (h.root (by omega))
      rw [hop] at this
      cases this
    subst hz
    unfold rlS
    exact if_pos ⟨rfl, hb, rfl⟩
   | cons a s =>
    unfold rlS
    dsimp only
    rw [if_pos hb]
    exact if_pos rfl
  rw [e1, bind_some_, runS_app, run_lines _ _ _ (lns l i) [] (fun x hx => hm _ (by unfold rd_T40; rw [Int.toNat_natCast, List.getD_eq_getElem?_getD, List.getElem?_eq_getElem hi]; exact List.getElem_mem hi) x hx), bind_some_, List.nil_append, cur_push l i (shO l op i) (fun a ha => (h.lt a (shO_mem ha)).1), cur_length]
  exact run_evs hN h0 hm d (i + 1) (i :: shO l op i) (by omega) hn
theorem run_all {l : List S40} (hN : Nest l) (h0 : Eo l 0 = l.length) (hm : ∀ c ∈ l, ∀ x ∈ c.f1, mark x = false) : runS (evs l l.length 0 []) ([], []) = some (l, []) :=
 run_evs hN h0 hm l.length 0 [] (by omega) ⟨fun a ha => (by cases ha), List.Pairwise.nil, fun h => (by omega)⟩
end Go.Proofs.YtdgeokpbedllaaaDoor.TreK
