-- A text of the kit's tools for this claim, its remarks left out.
import Derived.Test.YtdgeokpbedllaaaDoorStr
import Derived.Lib.ReplaceLaws
import Derived.Lib.SplitLaws
import Derived.Lib.CountLaws
import Derived.Lib.IndexLaws
import Derived.Lib.Strings
import Derived.Test.YtdgeokpbedllaaaDoorPTrex13
namespace Go.Proofs.YtdgeokpbedllaaaDoor.Base
open Go.RowKit Go.Proofs.YtdgeokpbedllaaaDoor.PTre Go.Proofs.YtdgeokpbedllaaaDoorW.PrintWords Go.Proofs.YtdgeokpbedllaaaDoorW.PrintLast Go.Proofs.YtdgeokpbedllaaaDoorW.PrintMore
set_option linter.unusedVariables false
set_option linter.unusedSimpArgs false
def num (l : List UInt8) : List Int := l.map fun b => (b.toNat : Int)
def cl : List Int → Nat
 | [] => 0
 | c :: t => if c = 13 ∧ t.head? = some 10 then cl t + 1 else cl t
def rp : List Int → List Int
 | [] => []
 | c :: t => if c = 13 ∧ t.head? = some 10 then rp t else c :: rp t
theorem num_cons (b : UInt8) (l : List UInt8) : num (b :: l) = (b.toNat : Int) :: num l := rfl
theorem toNat_eq {b c : UInt8} : (b.toNat : Int) = (c.toNat : Int) ↔ b = c := ⟨fun h => UInt8.toNat_inj.1 (by omega), fun h => by rw [h]⟩
theorem crlf_iff (b : UInt8) (l : List UInt8) : ([13, 10] : List UInt8).isPrefixOf (b :: l) = true ↔ (b.toNat : Int) = 13 ∧ (num l).head? = some 10 := by
 have e13 : (b.toNat : Int) = 13 ↔ b = 13 := by have := toNat_eq (b := b) (c := 13); exact this
 rw [e13]
 cases l with
 | nil => simp [List.isPrefixOf, num]
 | cons d l =>
  have e10 : (d.toNat : Int) = 10 ↔ d = 10 := by have := toNat_eq (b := d) (c := 10); exact this
  rw [num_cons, List.head?_cons, Option.some.injEq, e10]
  simp only [List.isPrefixOf, Bool.and_eq_true, beq_iff_eq, Bool.and_true]
  constructor
  ·rintro ⟨h1, h2⟩; exact ⟨h1.symm, h2.symm⟩
  ·rintro ⟨h1, h2⟩; exact ⟨h1.symm, h2.symm⟩
theorem index_cons_ne {b : UInt8} {l sub : List UInt8} (h : ¬ sub.isPrefixOf (b :: l) = true) : Lib.index (b :: l) sub = if Lib.index l sub == -1 then -1 else Lib.index l sub + 1 := by
 rw [Lib.index, if_neg h]
theorem index_cons_eq {b : UInt8} {l sub : List UInt8} (h : sub.isPrefixOf (b :: l) = true) : Lib.index (b :: l) sub = ((0 : Nat) : Int) := by
 rw [Lib.index, if_pos h]
 rfl
theorem count_skip {b : UInt8} {l sub : List UInt8} (hs : sub ≠ []) (h : ¬ sub.isPrefixOf (b :: l) = true) : Lib.count (b :: l) sub = Lib.count l sub := by
 have hi := index_cons_ne h
 have hge := Lib.index_ge l sub
 by_cases hm : Lib.index l sub = -1
 ·rw [hm, if_pos (by decide)] at hi
  rw [Lib.count_miss hm, Lib.count_miss hi]
 ·obtain ⟨i, hi'⟩ : ∃ i : Nat, Lib.index l sub = i := ⟨(Lib.index l sub).toNat, by omega⟩
  have hb : ¬ (Lib.index l sub == -1) = true := by rw [beq_iff_eq]; exact hm
  rw [if_neg hb, hi'] at hi
  rw [Lib.count_hit hs hi', Lib.count_hit (i := i + 1) hs (by rw [hi]; omega), show i + 1 + sub.length = (i + sub.length) + 1 by omega, List.drop_succ_cons]
theorem replaceK_skip {b : UInt8} {l sub new : List UInt8} (k : Nat) (h : ¬ sub.isPrefixOf (b :: l) = true) : Lib.replaceK sub new k (b :: l) = b :: Lib.replaceK sub new k l := by
 cases k with
 | zero => rfl
 | succ k =>
  have hi := index_cons_ne h
  have hge := Lib.index_ge l sub
  by_cases hm : Lib.index l sub = -1
  ·rw [hm, if_pos (by decide)] at hi
   rw [Lib.replaceK, Lib.replaceK, if_pos (beq_iff_eq.2 hm), if_pos (beq_iff_eq.2 hi)]
  ·obtain ⟨i, hi'⟩ : ∃ i : Nat, Lib.index l sub = i := ⟨(Lib.index l sub).toNat, by omega⟩
   have hb : ¬ (Lib.index l sub == -1) = true := by rw [beq_iff_eq]; exact hm
   rw [if_neg hb, hi'] at hi
   rw [Lib.replaceK_hit sub new k l i hi', Lib.replaceK_hit sub new k (b :: l) (i + 1) (by rw [hi]; omega), show i + 1 + sub.length = (i + sub.length) + 1 by omega, List.drop_succ_cons, List.take_succ_cons]
   rfl
theorem crlf_count : ∀ (n : Nat) (l : List UInt8), l.length ≤ n → Lib.count l [13, 10] = cl (num l) ∧ num (Lib.replaceK [13, 10] [10] (Lib.count l [13, 10]) l) = rp (num l) := by
 intro n
 induction n with
 | zero =>
  intro l hl
  have : l = [] := List.eq_nil_of_length_eq_zero (by omega)
  subst this
  exact ⟨by decide, by decide⟩
 | succ n ih =>
  intro l hl
  cases l with
  | nil => exact ⟨by decide, by decide⟩
  | cons b l =>
   rw [List.length_cons] at hl
   by_cases h : ([13, 10] : List UInt8).isPrefixOf (b :: l) = true
   ·have hh := (crlf_iff b l).1 h
    obtain ⟨d, t, rfl⟩ : ∃ d t, l = d :: t := by
     cases l with
     | nil => have := hh.2; cases this
     | cons d t => exact ⟨d, t, rfl⟩
    have hd : (d.toNat : Int) = 10 := by
     have := hh.2
     rw [num_cons, List.head?_cons, Option.some.injEq] at this
     exact this
    rw [List.length_cons] at hl
    obtain ⟨g1, g2⟩ := ih t (by omega)
    have hi := index_cons_eq h
    have hc : Lib.count (b :: d :: t) [13, 10] = Lib.count t [13, 10] + 1 := by
     rw [Lib.count_hit (by simp) hi]
     show 1 + Lib.count t [13, 10] = _
     omega
    have e1 : cl (num (b :: d :: t)) = cl (num t) + 1 := by
     rw [num_cons, num_cons]
     show (if _ then _ else _) = _
     rw [if_pos ⟨hh.1, by rw [List.head?_cons, hd]⟩]
     show (if _ then _ else _) + 1 = _
     rw [if_neg (fun h' => by have := h'.1; omega)]
    have e2 : rp (num (b :: d :: t)) = 10 :: rp (num t) := by
     rw [num_cons, num_cons]
     show (if _ then _ else _) = _
     rw [if_pos ⟨hh.1, by rw [List.head?_cons, hd]⟩]
     show (if _ then _ else _) = _
     rw [if_neg (fun h' => by have := h'.1; omega), hd]
    refine ⟨by rw [hc, e1, g1], ?_⟩
    rw [hc, e2, Lib.replaceK_hit _ _ _ _ 0 hi, ← g2]
    rfl
   ·have hh : ¬ ((b.toNat : Int) = 13 ∧ (num l).head? = some 10) := fun h' => h ((crlf_iff b l).2 h')
    obtain ⟨g1, g2⟩ := ih l (by omega)
    have hc := count_skip (sub := [13, 10]) (by simp) h
    rw [hc, replaceK_skip _ h, num_cons, num_cons, g2, g1]
    refine ⟨?_, ?_⟩
    ·show _ = (if _ then _ else _)
     rw [if_neg hh]
    ·show _ = (if _ then _ else _)
     rw [if_neg hh]
theorem cl_le : ∀ l : List Int, cl l ≤ l.length
 | [] => Nat.le_refl _
 | c :: t => by
  have := cl_le t
  unfold cl
  rw [List.length_cons]
  split <;> omega
theorem rp_le : ∀ l : List Int, (rp l).length ≤ l.length
 | [] => Nat.le_refl _
 | c :: t => by
  have := rp_le t
  unfold rp
  rw [List.length_cons]
  split
  ·omega
  ·rw [List.length_cons]; omega
theorem rp_bytes : ∀ {l : List Int}, Bytes l → Bytes (rp l)
 | [], h => h
 | c :: t, h => by
  unfold rp
  split
  ·exact rp_bytes h.tail
  ·exact Bytes.cons h.head.1 h.head.2 (rp_bytes h.tail)
theorem CountCrlf_eq (s : ByteArray) (hs : s.size < 4294967281) : strings_Count.f s (⟨#[13, 10]⟩ : ByteArray) = some ((cl (bytesOf s) : Nat) : Int) := by
 unfold strings_Count.f
 have e : Lib.countB s (⟨#[13, 10]⟩ : ByteArray) = cl (bytesOf s) := (crlf_count _ _ (Nat.le_refl _)).1
 rw [if_pos ⟨hs, by decide⟩, e]
theorem Count_eq (s : ByteArray) (c : UInt8) (hs : s.size < 4294967281) : strings_Count.f s (⟨#[c]⟩ : ByteArray) = some (((bytesOf s).count (c.toNat : Int) : Nat) : Int) := by
 unfold strings_Count.f
 have e : Lib.countB s (⟨#[c]⟩ : ByteArray) = (bytesOf s).count (c.toNat : Int) := by
  have e1 : Lib.countB s (⟨#[c]⟩ : ByteArray) = s.data.toList.count c := Lib.count_one c _
  have e2 : ∀ l : List UInt8, l.count c = (num l).count (c.toNat : Int) := by
   intro l
   induction l with
   | nil => rfl
   | cons b l ih =>
    rw [num_cons, List.count_cons, List.count_cons, ih]
    congr 1
    by_cases h : b = c
    ·rw [if_pos (beq_iff_eq.2 h), if_pos (beq_iff_eq.2 (toNat_eq.2 h))]
    ·rw [if_neg (by rw [beq_iff_eq]; exact h), if_neg (by rw [beq_iff_eq]; exact fun h' => h (toNat_eq.1 h'))]
  rw [e1, e2]
  rfl
 rw [if_pos ⟨hs, Nat.le_refl _⟩, e]
theorem ReplaceAll_eq (s : ByteArray) (hs : s.size ≤ 100000000) : strings_ReplaceAll.f s (⟨#[13, 10]⟩ : ByteArray) (⟨#[10]⟩ : ByteArray) = some (strOfNums (rp (bytesOf s))) := by
 have e : Lib.countB s (⟨#[13, 10]⟩ : ByteArray) = cl (bytesOf s) := (crlf_count _ _ (Nat.le_refl _)).1
 have hc := cl_le (bytesOf s)
 have hz := bytesOf_length s
 have h1 : ((⟨#[10]⟩ : ByteArray).size : Nat) = 1 := rfl
 unfold strings_ReplaceAll.f
 rw [if_pos ⟨by omega, by decide, by rw [e, h1]; omega⟩]
 congr 1
 apply bytes_inj
 rw [bytes_strOf (rp_bytes (bytes_of s))]
 have hr : Lib.replaceAll s.data.toList [13, 10] [10] = Lib.replaceK [13, 10] [10] (Lib.count s.data.toList [13, 10]) s.data.toList := by
  unfold Lib.replaceAll Lib.replace Lib.replaceNum
  rw [if_neg (by decide), if_pos (Or.inl (by decide))]
 have h2 := (crlf_count _ s.data.toList (Nat.le_refl _)).2
 rw [← hr] at h2
 show num (Lib.replaceAll s.data.toList [13, 10] [10]) = _
 rw [h2]
 rfl
def spl (c : Int) : List Int → List (List Int)
 | [] => [[]]
 | x :: l => if x = c then [] :: spl c l else match spl c l with | [] => [[x]] | y :: ys => (x :: y) :: ys
theorem spl_no {c : Int} : ∀ {l : List Int}, (∀ x ∈ l, x ≠ c) → spl c l = [l]
 | [], _ => rfl
 | x :: l, h => by
  rw [spl, if_neg (h x (List.mem_cons_self ..)), spl_no (fun y hy => h y (List.mem_cons_of_mem _ hy))]
theorem spl_hit {c : Int} {b : List Int} : ∀ {a : List Int}, (∀ x ∈ a, x ≠ c) → spl c (a ++ c :: b) = a :: spl c b
 | [], _ => by rw [List.nil_append, spl, if_pos rfl]
 | x :: a, h => by
  rw [List.cons_append, spl, if_neg (h x (List.mem_cons_self ..)), spl_hit (fun y hy => h y (List.mem_cons_of_mem _ hy))]
theorem spl_ne (c : Int) : ∀ l : List Int, spl c l ≠ []
 | [] => by simp [spl]
 | x :: l => by
  rw [spl]
  split
  ·simp
  ·split <;> simp
theorem spl_bytes {c : Int} : ∀ {l : List Int}, Bytes l → ∀ y ∈ spl c l, Bytes y
 | [], _, y, hy => by
  rw [spl, List.mem_singleton] at hy
  rw [hy]
  exact Bytes.nil
 | x :: l, h, y, hy => by
  have ih := spl_bytes (c := c) h.tail
  rw [spl] at hy
  split at hy
  ·rcases List.mem_cons.1 hy with rfl | hy
   ·exact Bytes.nil
   ·exact ih y hy
  ·split at hy
   ·rw [List.mem_singleton] at hy
    rw [hy]
    exact Bytes.cons h.head.1 h.head.2 Bytes.nil
   ·rename_i z zs hz
    rcases List.mem_cons.1 hy with rfl | hy
    ·exact Bytes.cons h.head.1 h.head.2 (ih z (by rw [hz]; exact List.mem_cons_self ..))
    ·exact ih y (by rw [hz]; exact List.mem_cons_of_mem _ hy)
theorem split_spl (c : UInt8) : ∀ (k : Nat) (s : ByteArray), Lib.countB s ⟨#[c]⟩ = k → Lib.splitB ⟨#[c]⟩ 0 k s = (spl (c.toNat : Int) (bytesOf s)).map strOfNums := by
 have hsz : (⟨#[c]⟩ : ByteArray).size = 1 := rfl
 have h1 : 1 ≤ (⟨#[c]⟩ : ByteArray).size := by rw [hsz]; exact Nat.le_refl _
 have hix : ∀ s : ByteArray, Lib.indexB s ⟨#[c]⟩ = Lib.indexByte s.data.toList c := fun s => Lib.index_one _ _
 have hne : ∀ b : UInt8, b ≠ c → (b.toNat : Int) ≠ (c.toNat : Int) := fun b hb h => hb (UInt8.toNat_inj.1 (by omega))
 have miss : ∀ s : ByteArray, Lib.indexB s ⟨#[c]⟩ = -1 → spl (c.toNat : Int) (bytesOf s) = [bytesOf s] := by
  intro s h
  rw [hix] at h
  refine spl_no fun x hx => ?_
  unfold bytesOf at hx
  obtain ⟨b, hb, rfl⟩ := List.mem_map.1 hx
  refine hne b fun e => ?_
  subst e
  obtain ⟨j, hj, e⟩ := List.getElem_of_mem hb
  exact Lib.indexByte_none h j (by rw [List.getElem?_eq_getElem hj, e])
 intro k
 induction k with
 | zero =>
  intro s hk
  rcases Lib.indexB_cases s ⟨#[c]⟩ with hi | ⟨i, hi, _⟩
  ·rw [Lib.splitB_zero, miss s hi, List.map_cons, List.map_nil, strOf_bytes]
  ·have := Lib.countB_hit s ⟨#[c]⟩ i h1 hi
   omega
 | succ k ih =>
  intro s hk
  rcases Lib.indexB_cases s ⟨#[c]⟩ with hi | ⟨i, hi, hroom⟩
  ·rw [Lib.countB_miss s _ hi] at hk
   omega
  ·have hc := Lib.countB_hit s ⟨#[c]⟩ i h1 hi
   rw [Lib.splitB_hit _ _ _ _ i hi, ih _ (by omega)]
   have hi' := hi
   rw [hix] at hi'
   obtain ⟨g1, g2⟩ := Lib.indexByte_some hi'
   have hlen : i < s.data.toList.length := (List.getElem?_eq_some_iff.1 g1).1
   have hl : i < (s.data.toList.map (fun b : UInt8 => (b.toNat : Int))).length := by rw [List.length_map]; exact hlen
   have e1 : (s.data.toList.map (fun b : UInt8 => (b.toNat : Int)))[i]'hl = (c.toNat : Int) := by
    rw [List.getElem_map]
    rw [List.getElem?_eq_getElem hlen] at g1
    rw [Option.some.inj g1]
   have e : bytesOf s = (bytesOf s).take i ++ (c.toNat : Int) :: (bytesOf s).drop (i + 1) := by
    show s.data.toList.map (fun b : UInt8 => (b.toNat : Int)) = (s.data.toList.map (fun b : UInt8 => (b.toNat : Int))).take i ++ (c.toNat : Int) :: (s.data.toList.map (fun b : UInt8 => (b.toNat : Int))).drop (i + 1)
    rw [← e1, List.getElem_cons_drop, List.take_append_drop]
   have hno : ∀ x ∈ (bytesOf s).take i, x ≠ (c.toNat : Int) := by
    intro x hx
    have hx' : x ∈ (s.data.toList.take i).map (fun b : UInt8 => (b.toNat : Int)) := by rw [List.map_take]; exact hx
    obtain ⟨b, hb, rfl⟩ := List.mem_map.1 hx'
    refine hne _ fun e' => ?_
    subst e'
    obtain ⟨j, hj, ex⟩ := List.getElem_of_mem hb
    rw [List.getElem_take] at ex
    rw [List.length_take] at hj
    refine g2 j (by omega) ?_
    have hjl : j < s.data.toList.length := by omega
    rw [List.getElem?_eq_getElem hjl, ex]
   have e2 : bytesOf (s.extract (i + (⟨#[c]⟩ : ByteArray).size) s.size) = (bytesOf s).drop (i + 1) := by rw [hsz, extract_all]
   have e3 : s.extract 0 (i + 0) = strOfNums ((bytesOf s).take i) := bytes_inj (by rw [bytes_extract, bytes_strOf (fun x hx => bytes_of s x (List.mem_of_mem_take hx))]; rfl)
   rw [e2, e3]
   conv => rhs; rw [e, spl_hit hno]
   rw [List.map_cons]
theorem split_f_eq {s : ByteArray} (c : UInt8) (hs : s.size < 4294967281) : strings_Split.f s ⟨#[c]⟩ = some ((spl (c.toNat : Int) (bytesOf s)).map strOfNums) := by
 have h1 : 1 ≤ (⟨#[c]⟩ : ByteArray).size := Nat.le_refl 1
 have hle := Lib.countB_le ⟨#[c]⟩ h1 s.size s (Nat.le_refl _)
 unfold strings_Split.f
 rw [if_pos ⟨hs, h1, Lib.splitB_all _ h1 0 _ s rfl, by omega⟩, split_spl c _ s rfl]
end Go.Proofs.YtdgeokpbedllaaaDoor.Base
namespace Go.Proofs.YtdgeokpbedllaaaDoor.Base
open Go.RowKit Go.Proofs.YtdgeokpbedllaaaDoor.PTre Go.Proofs.YtdgeokpbedllaaaDoorW.PrintWords Go.Proofs.YtdgeokpbedllaaaDoorW.PrintLast Go.Proofs.YtdgeokpbedllaaaDoorW.PrintMore
set_option linter.unusedVariables false
set_option linter.unusedSimpArgs false
def blk (o : Option Int) : Prop := o = some 32 ∨ o = some 9
instance (o : Option Int) : Decidable (blk o) := by unfold blk; exact inferInstance
def ub : List Int → List Int
 | [] => []
 | [c] => [c]
 | c :: d :: t => if c = 10 ∧ (d = 32 ∨ d = 9) then ub t else c :: ub (d :: t)
theorem ub_skip {d : Int} {t : List Int} (h : d = 32 ∨ d = 9) : ub (10 :: d :: t) = ub t := by rw [ub, if_pos ⟨rfl, h⟩]
theorem ub_put {c : Int} {t : List Int} (h : ¬ (c = 10 ∧ blk t.head?)) : ub (c :: t) = c :: ub t := by
 cases t with
 | nil => rfl
 | cons d t =>
  rw [ub, if_neg]
  intro h'
  refine h ⟨h'.1, ?_⟩
  rw [List.head?_cons]
  rcases h'.2 with e | e
  ·exact Or.inl (by rw [e])
  ·exact Or.inr (by rw [e])
def dropE (l : List (List Int)) : List (List Int) := if l.getLast? = some [] then l.dropLast else l
def unfS (t : List Int) : Option (List (List Int)) := if t.count 13 = cl t then some (dropE (spl 10 (ub (rp t)))) else none
def Cln (l : List Int) : Prop := (10 : Int) ∉ l ∧ (13 : Int) ∉ l
theorem Cln.app {l m : List Int} (h : Cln (l ++ m)) : Cln l ∧ Cln m := ⟨⟨fun h' => h.1 (List.mem_append_left _ h'), fun h' => h.2 (List.mem_append_left _ h')⟩, ⟨fun h' => h.1 (List.mem_append_right _ h'), fun h' => h.2 (List.mem_append_right _ h')⟩⟩
theorem Cln.tail {c : Int} {l : List Int} (h : Cln (c :: l)) : c ≠ 10 ∧ c ≠ 13 ∧ Cln l := ⟨fun e => h.1 (e ▸ List.mem_cons_self ..), fun e => h.2 (e ▸ List.mem_cons_self ..), fun h' => h.1 (List.mem_cons_of_mem _ h'), fun h' => h.2 (List.mem_cons_of_mem _ h')⟩
theorem cl_put {A T : List Int} (h : Cln A) : cl (A ++ T) = cl T ∧ rp (A ++ T) = A ++ rp T ∧ (A ++ T).count 13 = T.count 13 := by
 induction A with
 | nil => exact ⟨rfl, rfl, rfl⟩
 | cons c A ih =>
  obtain ⟨h1, h2, h3⟩ := h.tail
  obtain ⟨i1, i2, i3⟩ := ih h3
  have hn : ¬ (c = 13 ∧ (A ++ T).head? = some 10) := fun h' => h2 h'.1
  refine ⟨?_, ?_, ?_⟩
  ·show (if c = 13 ∧ (A ++ T).head? = some 10 then cl (A ++ T) + 1 else cl (A ++ T)) = _
   rw [if_neg hn, i1]
  ·show (if c = 13 ∧ (A ++ T).head? = some 10 then rp (A ++ T) else c :: rp (A ++ T)) = _
   rw [if_neg hn, i2]
   rfl
  ·rw [List.cons_append, List.count_cons_of_ne h2, i3]
theorem cl_crlf (T : List Int) : cl (13 :: 10 :: T) = cl T + 1 ∧ rp (13 :: 10 :: T) = 10 :: rp T ∧ (13 :: 10 :: T : List Int).count 13 = T.count 13 + 1 := by
 refine ⟨?_, ?_, ?_⟩
 ·show (if _ then (if _ then _ else _) + 1 else _) = _
  rw [if_pos ⟨rfl, rfl⟩, if_neg (fun h => by have := h.1; omega)]
 ·show (if _ then (if _ then _ else _) else _) = _
  rw [if_pos ⟨rfl, rfl⟩, if_neg (fun h => by have := h.1; omega)]
 ·rw [List.count_cons_self, List.count_cons_of_ne (by omega)]
theorem ub_app {A T : List Int} (h : Cln A) : ub (A ++ T) = A ++ ub T := by
 induction A with
 | nil => rfl
 | cons c A ih =>
  obtain ⟨h1, _, h3⟩ := h.tail
  rw [List.cons_append, ub_put (fun h' => h1 h'.1), ih h3]
  rfl
theorem rp_head {T : List Int} (h : T.head? ≠ some 13) : (rp T).head? = T.head? := by
 cases T with
 | nil => rfl
 | cons c T =>
  have hc : c ≠ 13 := fun e => h (by rw [e]; rfl)
  show (if _ then _ else _ : List Int).head? = _
  rw [if_neg (fun h' => hc h'.1)]
  rfl
def onB (c : Int) : Bool := decide (128 ≤ c) && decide (c ≤ 191)
def cutL (l : List Int) (room : Nat) : Nat :=
 if l.length ≤ room then l.length else if onB (l.getD room 0) = false then room else if onB (l.getD (room - 1) 0) = false then room - 1 else if onB (l.getD (room - 2) 0) = false then room - 2 else if onB (l.getD (room - 3) 0) = false then room - 3 else room
theorem cutL_small {l : List Int} {room : Nat} (h : l.length ≤ room) : cutL l room = l.length := if_pos h
theorem cutL_big {l : List Int} {room : Nat} (h : ¬ l.length ≤ room) (hr : 4 ≤ room) : room - 3 ≤ cutL l room ∧ cutL l room ≤ room ∧ cutL l room < l.length := by
 unfold cutL
 rw [if_neg h]
 repeat' split
 all_goals omega
def foldL : Nat → List Int → Nat → List Int
 | 0, l, _ => l ++ [13, 10]
 | n + 1, l, room => if l.length ≤ room then l ++ [13, 10] else l.take (cutL l room) ++ 13 :: 10 :: 32 :: foldL n (l.drop (cutL l room)) 74
theorem foldL_cl : ∀ (n : Nat) (l T : List Int) (room : Nat), Cln l → cl (foldL n l room ++ T) + T.count 13 = (foldL n l room ++ T).count 13 + cl T := by
 have base : ∀ l T : List Int, Cln l → cl ((l ++ [13, 10]) ++ T) + T.count 13 = ((l ++ [13, 10]) ++ T).count 13 + cl T := by
  intro l T h
  rw [List.append_assoc]
  obtain ⟨a1, _, a3⟩ := cl_put (T := [13, 10] ++ T) h
  obtain ⟨b1, _, b3⟩ := cl_crlf T
  rw [a1, a3]
  show cl (13 :: 10 :: T) + _ = (13 :: 10 :: T : List Int).count 13 + _
  rw [b1, b3]
  omega
 intro n
 induction n with
 | zero => intro l T room h; exact base l T h
 | succ n ih =>
  intro l T room h
  unfold foldL
  split
  ·exact base l T h
  ·have hh := h
   rw [← List.take_append_drop (cutL l room) l] at hh
   obtain ⟨c1, c2⟩ := hh.app
   have := ih (l.drop (cutL l room)) T 74 c2
   rw [List.append_assoc]
   obtain ⟨a1, _, a3⟩ := cl_put (T := (13 :: 10 :: 32 :: foldL n (l.drop (cutL l room)) 74) ++ T) c1
   obtain ⟨b1, _, b3⟩ := cl_crlf (32 :: (foldL n (l.drop (cutL l room)) 74 ++ T))
   obtain ⟨d1, _, d3⟩ := cl_put (A := [32]) (T := foldL n (l.drop (cutL l room)) 74 ++ T) ⟨by decide, by decide⟩
   rw [a1, a3]
   show cl (13 :: 10 :: 32 :: (foldL n (l.drop (cutL l room)) 74 ++ T)) + _ = (13 :: 10 :: 32 :: (foldL n (l.drop (cutL l room)) 74 ++ T) : List Int).count 13 + _
   rw [b1, b3]
   rw [List.singleton_append] at d1 d3
   rw [d1, d3]
   omega
theorem foldL_ub : ∀ (n : Nat) (l T : List Int) (room : Nat), Cln l → T.head? ≠ some 13 → ¬ blk T.head? → ub (rp (foldL n l room ++ T)) = l ++ 10 :: ub (rp T) := by
 have base : ∀ l T : List Int, Cln l → T.head? ≠ some 13 → ¬ blk T.head? → ub (rp ((l ++ [13, 10]) ++ T)) = l ++ 10 :: ub (rp T) := by
  intro l T h h1 h2
  rw [List.append_assoc, (cl_put (T := [13, 10] ++ T) h).2.1]
  show ub (l ++ rp (13 :: 10 :: T)) = _
  rw [(cl_crlf T).2.1, ub_app h, ub_put (fun h' => by rw [rp_head h1] at h'; exact h2 h'.2)]
 intro n
 induction n with
 | zero => intro l T room h h1 h2; exact base l T h h1 h2
 | succ n ih =>
  intro l T room h h1 h2
  unfold foldL
  split
  ·exact base l T h h1 h2
  ·have hh := h
   rw [← List.take_append_drop (cutL l room) l] at hh
   obtain ⟨c1, c2⟩ := hh.app
   rw [List.append_assoc, (cl_put (T := (13 :: 10 :: 32 :: foldL n (l.drop (cutL l room)) 74) ++ T) c1).2.1]
   show ub (l.take (cutL l room) ++ rp (13 :: 10 :: 32 :: (foldL n (l.drop (cutL l room)) 74 ++ T))) = _
   have d := (cl_put (A := [32]) (T := foldL n (l.drop (cutL l room)) 74 ++ T) ⟨by decide, by decide⟩).2.1
   rw [List.singleton_append, List.singleton_append] at d
   rw [(cl_crlf _).2.1, d, ub_app c1, ub_skip (Or.inl rfl), ih _ T 74 c2 h1 h2, ← List.append_assoc, List.take_append_drop]
def foldAll : List (List Int) → List Int
 | [] => []
 | l :: ls => foldL (l.length + 1) l 75 ++ foldAll ls
theorem foldL_head {n : Nat} {l T : List Int} {room : Nat} (h : l ≠ []) (hr : 4 ≤ room) : (foldL n l room ++ T).head? = l.head? := by
 cases l with
 | nil => exact absurd rfl h
 | cons c l =>
  cases n with
  | zero => rfl
  | succ n =>
   unfold foldL
   split
   ·rfl
   ·rename_i hl
    obtain ⟨k1, k2, k3⟩ := cutL_big hl hr
    obtain ⟨k, hk⟩ : ∃ k, cutL (c :: l) room = k + 1 := ⟨cutL (c :: l) room - 1, by omega⟩
    rw [hk, List.take_succ_cons]
    rfl
def Lin (l : List Int) : Prop := Cln l ∧ l ≠ [] ∧ ¬ blk l.head?
theorem all_head {ls : List (List Int)} (h : ∀ l ∈ ls, Lin l) : (foldAll ls).head? ≠ some 13 ∧ ¬ blk (foldAll ls).head? := by
 cases ls with
 | nil =>
  refine ⟨by simp [foldAll], ?_⟩
  show ¬ (none = some (32 : Int) ∨ none = some (9 : Int))
  simp
 | cons l ls =>
  obtain ⟨h1, h2, h3⟩ := h l (List.mem_cons_self ..)
  have e : (foldAll (l :: ls)).head? = l.head? := foldL_head h2 (by omega)
  rw [e]
  refine ⟨fun h' => ?_, h3⟩
  cases l with
  | nil => exact h2 rfl
  | cons c l =>
   rw [List.head?_cons, Option.some.injEq] at h'
   exact h1.2 (h' ▸ List.mem_cons_self ..)
def ends : List (List Int) → List Int
 | [] => []
 | l :: ls => l ++ 10 :: ends ls
theorem all_ub : ∀ ls : List (List Int), (∀ l ∈ ls, Lin l) → ub (rp (foldAll ls)) = ends ls ∧ (foldAll ls).count 13 = cl (foldAll ls)
 | [], _ => ⟨rfl, rfl⟩
 | l :: ls, h => by
  obtain ⟨h1, h2, h3⟩ := h l (List.mem_cons_self ..)
  obtain ⟨g1, g2⟩ := all_ub ls (fun m hm => h m (List.mem_cons_of_mem _ hm))
  obtain ⟨a1, a2⟩ := all_head (fun m hm => h m (List.mem_cons_of_mem _ hm))
  have hc := foldL_cl (l.length + 1) l (foldAll ls) 75 h1
  have hu := foldL_ub (l.length + 1) l (foldAll ls) 75 h1 a1 a2
  rw [g1] at hu
  exact ⟨hu, by show (foldL _ l 75 ++ foldAll ls).count 13 = cl (foldL _ l 75 ++ foldAll ls); omega⟩
theorem spl_ends : ∀ ls : List (List Int), (∀ l ∈ ls, (10 : Int) ∉ l) → spl 10 (ends ls) = ls ++ [[]]
 | [], _ => rfl
 | l :: ls, h => by
  have ih := spl_ends ls (fun m hm => h m (List.mem_cons_of_mem _ hm))
  show spl 10 (l ++ 10 :: ends ls) = _
  rw [spl_hit (fun x hx (e : x = 10) => h l (List.mem_cons_self ..) (by rw [← e]; exact hx)), ih]
  rfl
theorem unf_all (ls : List (List Int)) (h : ∀ l ∈ ls, Lin l) : unfS (foldAll ls) = some ls := by
 obtain ⟨g1, g2⟩ := all_ub ls h
 unfold unfS
 rw [if_pos g2, g1, spl_ends ls (fun l hl => (h l hl).1.1)]
 unfold dropE
 rw [if_pos (by simp), List.dropLast_concat]
end Go.Proofs.YtdgeokpbedllaaaDoor.Base
