-- A text of the kit's tools for this claim, its remarks left out.
import Derived.Test.YtdgeokpbedllaaaDoorStr
import Derived.Lib.ReplaceLaws
import Derived.Lib.SplitLaws
import Derived.Lib.CountLaws
import Derived.Lib.IndexLaws
import Derived.Lib.Strings
import Derived.Test.YtdgeokpbedllaaaDoorETrex5
import Derived.Test.YtdgeokpbedllaaaDoorPTrex4
namespace Go.Proofs.YtdgeokpbedllaaaDoor.Base
open Go.RowKit Go.Proofs.YtdgeokpbedllaaaDoor.PTre Go.Proofs.YtdgeokpbedllaaaDoorW.PrintWords Go.Proofs.YtdgeokpbedllaaaDoorW.PrintLast Go.Proofs.YtdgeokpbedllaaaDoorW.PrintMore
set_option linter.unusedVariables false
set_option linter.unusedSimpArgs false
def num (l : List UInt8) : List Int := l.map fun b => (b.toNat : Int)
theorem bytesOf_num (s : ByteArray) : bytesOf s = num s.data.toList := rfl
def cl : List Int → Nat
 | [] => 0
 | c :: t => if c = 13 ∧ t.head? = some 10 then cl t + 1 else cl t
def rp : List Int → List Int
 | [] => []
 | c :: t => if c = 13 ∧ t.head? = some 10 then rp t else c :: rp t
theorem num_cons (b : UInt8) (l : List UInt8) : num (b :: l) = (b.toNat : Int) :: num l := rfl
theorem toNat_eq {b c : UInt8} : (b.toNat : Int) = (c.toNat : Int) ↔ b = c := ⟨fun h => UInt8.toNat_inj.1 (by omega), fun h => by rw [h]⟩
theorem crlf_iff (b : UInt8) (l : List UInt8) : ([13, 10] : List UInt8).isPrefixOf (b :: l) = true ↔ (b.toNat : Int) = 13 ∧ (num l).head? = some 10 := by
 have e13 : (b.toNat : Int) = 13 ↔ b = 13 := by have := toNat_eq (b := b) (c := 13); exact this
 rw [e13]
 cases l with
 | nil => simp [List.isPrefixOf, num]
 | cons d l =>
  have e10 : (d.toNat : Int) = 10 ↔ d = 10 := by have := toNat_eq (b := d) (c := 10); exact this
  rw [num_cons, List.head?_cons, Option.some.injEq, e10]
  simp only [List.isPrefixOf, Bool.and_eq_true, beq_iff_eq, Bool.and_true]
  constructor
  ·rintro ⟨h1, h2⟩; exact ⟨h1.symm, h2.symm⟩
  ·rintro ⟨h1, h2⟩; exact ⟨h1.symm, h2.symm⟩
theorem index_cons_ne {b : UInt8} {l sub : List UInt8} (h : ¬ sub.isPrefixOf (b :: l) = true) : Lib.index (b :: l) sub = if Lib.index l sub == -1 then -1 else Lib.index l sub + 1 := by
 rw [Lib.index, if_neg h]
theorem index_cons_eq {b : UInt8} {l sub : List UInt8} (h : sub.isPrefixOf (b :: l) = true) : Lib.index (b :: l) sub = ((0 : Nat) : Int) := by
 rw [Lib.index, if_pos h]
 rfl
theorem count_skip {b : UInt8} {l sub : List UInt8} (hs : sub ≠ []) (h : ¬ sub.isPrefixOf (b :: l) = true) : Lib.count (b :: l) sub = Lib.count l sub := by
 have hi := index_cons_ne h
 have hge := Lib.index_ge l sub
 by_cases hm : Lib.index l sub = -1
 ·rw [hm, if_pos (by decide)] at hi
  rw [Lib.count_miss hm, Lib.count_miss hi]
 ·obtain ⟨i, hi'⟩ : ∃ i : Nat, Lib.index l sub = i := ⟨(Lib.index l sub).toNat, by omega⟩
  have hb : ¬ (Lib.index l sub == -1) = true := by rw [beq_iff_eq]; exact hm
  rw [if_neg hb, hi'] at hi
  rw [Lib.count_hit hs hi', Lib.count_hit (i := i + 1) hs (by rw [hi]; omega), show i + 1 + sub.length = (i + sub.length) + 1 by omega, List.drop_succ_cons]
theorem replaceK_skip {b : UInt8} {l sub new : List UInt8} (k : Nat) (h : ¬ sub.isPrefixOf (b :: l) = true) : Lib.replaceK sub new k (b :: l) = b :: Lib.replaceK sub new k l := by
 cases k with
 | zero => rfl
 | succ k =>
  have hi := index_cons_ne h
  have hge := Lib.index_ge l sub
  by_cases hm : Lib.index l sub = -1
  ·rw [hm, if_pos (by decide)] at hi
   rw [Lib.replaceK, Lib.replaceK, if_pos (beq_iff_eq.2 hm), if_pos (beq_iff_eq.2 hi)]
  ·obtain ⟨i, hi'⟩ : ∃ i : Nat, Lib.index l sub = i := ⟨(Lib.index l sub).toNat, by omega⟩
   have hb : ¬ (Lib.index l sub == -1) = true := by rw [beq_iff_eq]; exact hm
   rw [if_neg hb, hi'] at hi
   rw [Lib.replaceK_hit sub new k l i hi', Lib.replaceK_hit sub new k (b :: l) (i + 1) (by rw [hi]; omega), show i + 1 + sub.length = (i + sub.length) + 1 by omega, List.drop_succ_cons, List.take_succ_cons]
   rfl
theorem crlf_count : ∀ (n : Nat) (l : List UInt8), l.length ≤ n → Lib.count l [13, 10] = cl (num l) ∧ num (Lib.replaceK [13, 10] [10] (Lib.count l [13, 10]) l) = rp (num l) := by
 intro n
 induction n with
 | zero =>
  intro l hl
  have : l = [] := List.eq_nil_of_length_eq_zero (by omega)
  subst this
  exact ⟨by decide, by decide⟩
 | succ n ih =>
  intro l hl
  cases l with
  | nil => exact ⟨by decide, by decide⟩
  | cons b l =>
   rw [List.length_cons] at hl
   by_cases h : ([13, 10] : List UInt8).isPrefixOf (b :: l) = true
   ·have hh := (crlf_iff b l).1 h
    obtain ⟨d, t, rfl⟩ : ∃ d t, l = d :: t := by
     cases l with
     | nil => have := hh.2; cases this
     | cons d t => exact ⟨d, t, rfl⟩
    have hd : (d.toNat : Int) = 10 := by
     have := hh.2
     rw [num_cons, List.head?_cons, Option.some.injEq] at this
     exact this
    rw [List.length_cons] at hl
    obtain ⟨g1, g2⟩ := ih t (by omega)
    have hi := index_cons_eq h
    have hc : Lib.count (b :: d :: t) [13, 10] = Lib.count t [13, 10] + 1 := by
     rw [Lib.count_hit (by simp) hi]
     show 1 + Lib.count t [13, 10] = _
     omega
    have e1 : cl (num (b :: d :: t)) = cl (num t) + 1 := by
     rw [num_cons, num_cons]
     show (if _ then _ else _) = _
     rw [if_pos ⟨hh.1, by rw [List.head?_cons, hd]⟩]
     show (if _ then _ else _) + 1 = _
     rw [if_neg (fun h' => by have := h'.1; omega)]
    have e2 : rp (num (b :: d :: t)) = 10 :: rp (num t) := by
     rw [num_cons, num_cons]
     show (if _ then _ else _) = _
     rw [if_pos ⟨hh.1, by rw [List.head?_cons, hd]⟩]
     show (if _ then _ else _) = _
     rw [if_neg (fun h' => by have := h'.1; omega), hd]
    refine ⟨by rw [hc, e1, g1], ?_⟩
    rw [hc, e2, Lib.replaceK_hit _ _ _ _ 0 hi, ← g2]
    rfl
   ·have hh : ¬ ((b.toNat : Int) = 13 ∧ (num l).head? = some 10) := fun h' => h ((crlf_iff b l).2 h')
    obtain ⟨g1, g2⟩ := ih l (by omega)
    have hc := count_skip (sub := [13, 10]) (by simp) h
    rw [hc, replaceK_skip _ h, num_cons, num_cons, g2, g1]
    refine ⟨?_, ?_⟩
    ·show _ = (if _ then _ else _)
     rw [if_neg hh]
    ·show _ = (if _ then _ else _)
     rw [if_neg hh]
theorem cl_le : ∀ l : List Int, cl l ≤ l.length
 | [] => Nat.le_refl _
 | c :: t => by
  have := cl_le t
  unfold cl
  rw [List.length_cons]
  split <;> omega
theorem rp_le : ∀ l : List Int, (rp l).length ≤ l.length
 | [] => Nat.le_refl _
 | c :: t => by
  have := rp_le t
  unfold rp
  rw [List.length_cons]
  split
  ·omega
  ·rw [List.length_cons]; omega
theorem rp_bytes : ∀ {l : List Int}, Bytes l → Bytes (rp l)
 | [], h => h
 | c :: t, h => by
  unfold rp
  split
  ·exact rp_bytes h.tail
  ·exact Bytes.cons h.head.1 h.head.2 (rp_bytes h.tail)
theorem CountCrlf_eq (s : ByteArray) (hs : s.size < 4294967281) : strings_Count.f s (⟨#[13, 10]⟩ : ByteArray) = some ((cl (bytesOf s) : Nat) : Int) := by
 unfold strings_Count.f
 have e : Lib.countB s (⟨#[13, 10]⟩ : ByteArray) = cl (bytesOf s) := (crlf_count _ _ (Nat.le_refl _)).1
 rw [if_pos ⟨hs, by decide⟩, e]
theorem Count_eq (s : ByteArray) (c : UInt8) (hs : s.size < 4294967281) : strings_Count.f s (⟨#[c]⟩ : ByteArray) = some (((bytesOf s).count (c.toNat : Int) : Nat) : Int) := by
 unfold strings_Count.f
 have e : Lib.countB s (⟨#[c]⟩ : ByteArray) = (bytesOf s).count (c.toNat : Int) := by
  have e1 : Lib.countB s (⟨#[c]⟩ : ByteArray) = s.data.toList.count c := Lib.count_one c _
  have e2 : ∀ l : List UInt8, l.count c = (num l).count (c.toNat : Int) := by
   intro l
   induction l with
   | nil => rfl
   | cons b l ih =>
    rw [num_cons, List.count_cons, List.count_cons, ih]
    congr 1
    by_cases h : b = c
    ·rw [if_pos (beq_iff_eq.2 h), if_pos (beq_iff_eq.2 (toNat_eq.2 h))]
    ·rw [if_neg (by rw [beq_iff_eq]; exact h), if_neg (by rw [beq_iff_eq]; exact fun h' => h (toNat_eq.1 h'))]
  rw [e1, e2]
  rfl
 rw [if_pos ⟨hs, Nat.le_refl _⟩, e]
theorem ReplaceAll_eq (s : ByteArray) (hs : s.size ≤ 100000000) : strings_ReplaceAll.f s (⟨#[13, 10]⟩ : ByteArray) (⟨#[10]⟩ : ByteArray) = some (strOfNums (rp (bytesOf s))) := by
 have e : Lib.countB s (⟨#[13, 10]⟩ : ByteArray) = cl (bytesOf s) := (crlf_count _ _ (Nat.le_refl _)).1
 have hc := cl_le (bytesOf s)
 have hz := bytesOf_length s
 have h1 : ((⟨#[10]⟩ : ByteArray).size : Nat) = 1 := rfl
 unfold strings_ReplaceAll.f
 rw [if_pos ⟨by omega, by decide, by rw [e, h1]; omega⟩]
 congr 1
 apply bytes_inj
 rw [bytes_strOf (rp_bytes (bytes_of s))]
 have hr : Lib.replaceAll s.data.toList [13, 10] [10] = Lib.replaceK [13, 10] [10] (Lib.count s.data.toList [13, 10]) s.data.toList := by
  unfold Lib.replaceAll Lib.replace Lib.replaceNum
  rw [if_neg (by decide), if_pos (Or.inl (by decide))]
 have h2 := (crlf_count _ s.data.toList (Nat.le_refl _)).2
 rw [← hr] at h2
 show num (Lib.replaceAll s.data.toList [13, 10] [10]) = _
 rw [h2]
 rfl
def spl (c : Int) : List Int → List (List Int)
 | [] => [[]]
 | x :: l => if x = c then [] :: spl c l else match spl c l with | [] => [[x]] | y :: ys => (x :: y) :: ys
theorem spl_no {c : Int} : ∀ {l : List Int}, (∀ x ∈ l, x ≠ c) → spl c l = [l]
 | [], _ => rfl
 | x :: l, h => by
  rw [spl, if_neg (h x (List.mem_cons_self ..)), spl_no (fun y hy => h y (List.mem_cons_of_mem _ hy))]
theorem spl_hit {c : Int} {b : List Int} : ∀ {a : List Int}, (∀ x ∈ a, x ≠ c) → spl c (a ++ c :: b) = a :: spl c b
 | [], _ => by rw [List.nil_append, spl, if_pos rfl]
 | x :: a, h => by
  rw [List.cons_append, spl, if_neg (h x (List.mem_cons_self ..)), spl_hit (fun y hy => h y (List.mem_cons_of_mem _ hy))]
theorem spl_ne (c : Int) : ∀ l : List Int, spl c l ≠ []
 | [] => by simp [spl]
 | x :: l => by
  rw [spl]
  split
  ·simp
  ·split <;> simp
theorem spl_bytes {c : Int} : ∀ {l : List Int}, Bytes l → ∀ y ∈ spl c l, Bytes y
 | [], _, y, hy => by
  rw [spl, List.mem_singleton] at hy
  rw [hy]
  exact Bytes.nil
 | x :: l, h, y, hy => by
  have ih := spl_bytes (c := c) h.tail
  rw [spl] at hy
  split at hy
  ·rcases List.mem_cons.1 hy with rfl | hy
   ·exact Bytes.nil
   ·exact ih y hy
  ·split at hy
   ·rw [List.mem_singleton] at hy
    rw [hy]
    exact Bytes.cons h.head.1 h.head.2 Bytes.nil
   ·rename_i z zs hz
    rcases List.mem_cons.1 hy with rfl | hy
    ·exact Bytes.cons h.head.1 h.head.2 (ih z (by rw [hz]; exact List.mem_cons_self ..))
    ·exact ih y (by rw [hz]; exact List.mem_cons_of_mem _ hy)
theorem split_spl (c : UInt8) : ∀ (k : Nat) (s : ByteArray), Lib.countB s ⟨#[c]⟩ = k → Lib.splitB ⟨#[c]⟩ 0 k s = (spl (c.toNat : Int) (bytesOf s)).map strOfNums := by
 have hsz : (⟨#[c]⟩ : ByteArray).size = 1 := rfl
 have h1 : 1 ≤ (⟨#[c]⟩ : ByteArray).size := by rw [hsz]; exact Nat.le_refl _
 have hix : ∀ s : ByteArray, Lib.indexB s ⟨#[c]⟩ = Lib.indexByte s.data.toList c := fun s => Lib.index_one _ _
 have hne : ∀ b : UInt8, b ≠ c → (b.toNat : Int) ≠ (c.toNat : Int) := fun b hb h => hb (UInt8.toNat_inj.1 (by omega))
 have miss : ∀ s : ByteArray, Lib.indexB s ⟨#[c]⟩ = -1 → spl (c.toNat : Int) (bytesOf s) = [bytesOf s] := by
  intro s h
  rw [hix] at h
  refine spl_no fun x hx => ?_
  unfold bytesOf at hx
  obtain ⟨b, hb, rfl⟩ := List.mem_map.1 hx
  refine hne b fun e => ?_
  subst e
  obtain ⟨j, hj, e⟩ := List.getElem_of_mem hb
  exact Lib.indexByte_none h j (by rw [List.getElem?_eq_getElem hj, e])
 intro k
 induction k with
 | zero =>
  intro s hk
  rcases Lib.indexB_cases s ⟨#[c]⟩ with hi | ⟨i, hi, _⟩
  ·rw [Lib.splitB_zero, miss s hi, List.map_cons, List.map_nil, strOf_bytes]
  ·have := Lib.countB_hit s ⟨#[c]⟩ i h1 hi
   omega
 | succ k ih =>
  intro s hk
  rcases Lib.indexB_cases s ⟨#[c]⟩ with hi | ⟨i, hi, hroom⟩
  ·rw [Lib.countB_miss s _ hi] at hk
   omega
  ·have hc := Lib.countB_hit s ⟨#[c]⟩ i h1 hi
   rw [Lib.splitB_hit _ _ _ _ i hi, ih _ (by omega)]
   have hi' := hi
   rw [hix] at hi'
   obtain ⟨g1, g2⟩ := Lib.indexByte_some hi'
   have hlen : i < s.data.toList.length := (List.getElem?_eq_some_iff.1 g1).1
   have hl : i < (s.data.toList.map (fun b : UInt8 => (b.toNat : Int))).length := by rw [List.length_map]; exact hlen
   have e1 : (s.data.toList.map (fun b : UInt8 => (b.toNat : Int)))[i]'hl = (c.toNat : Int) := by
    rw [List.getElem_map]
    rw [List.getElem?_eq_getElem hlen] at g1
    rw [Option.some.inj g1]
   have e : bytesOf s = (bytesOf s).take i ++ (c.toNat : Int) :: (bytesOf s).drop (i + 1) := by
    show s.data.toList.map (fun b : UInt8 => (b.toNat : Int)) = (s.data.toList.map (fun b : UInt8 => (b.toNat : Int))).take i ++ (c.toNat : Int) :: (s.data.toList.map (fun b : UInt8 => (b.toNat : Int))).drop (i + 1)
    rw [← e1, List.getElem_cons_drop, List.take_append_drop]
   have hno : ∀ x ∈ (bytesOf s).take i, x ≠ (c.toNat : Int) := by
    intro x hx
    have hx' : x ∈ (s.data.toList.take i).map (fun b : UInt8 => (b.toNat : Int)) := by rw [List.map_take]; exact hx
    obtain ⟨b, hb, rfl⟩ := List.mem_map.1 hx'
    refine hne _ fun e' => ?_
    subst e'
    obtain ⟨j, hj, ex⟩ := List.getElem_of_mem hb
    rw [List.getElem_take] at ex
    rw [List.length_take] at hj
    refine g2 j (by omega) ?_
    have hjl : j < s.data.toList.length := by omega
    rw [List.getElem?_eq_getElem hjl, ex]
   have e2 : bytesOf (s.extract (i + (⟨#[c]⟩ : ByteArray).size) s.size) = (bytesOf s).drop (i + 1) := by rw [hsz, extract_all]
   have e3 : s.extract 0 (i + 0) = strOfNums ((bytesOf s).take i) := bytes_inj (by rw [bytes_extract, bytes_strOf (fun x hx => bytes_of s x (List.mem_of_mem_take hx))]; rfl)
   rw [e2, e3]
   conv => rhs; rw [e, spl_hit hno]
   rw [List.map_cons]
theorem split_f_eq {s : ByteArray} (c : UInt8) (hs : s.size < 4294967281) : strings_Split.f s ⟨#[c]⟩ = some ((spl (c.toNat : Int) (bytesOf s)).map strOfNums) := by
 have h1 : 1 ≤ (⟨#[c]⟩ : ByteArray).size := Nat.le_refl 1
 have hle := Lib.countB_le ⟨#[c]⟩ h1 s.size s (Nat.le_refl _)
 unfold strings_Split.f
 rw [if_pos ⟨hs, h1, Lib.splitB_all _ h1 0 _ s rfl, by omega⟩, split_spl c _ s rfl]
def blk (o : Option Int) : Prop := o = some 32 ∨ o = some 9
instance (o : Option Int) : Decidable (blk o) := by unfold blk; exact inferInstance
def ub : List Int → List Int
 | [] => []
 | [c] => [c]
 | c :: d :: t => if c = 10 ∧ (d = 32 ∨ d = 9) then ub t else c :: ub (d :: t)
theorem ub_skip {d : Int} {t : List Int} (h : d = 32 ∨ d = 9) : ub (10 :: d :: t) = ub t := by rw [ub, if_pos ⟨rfl, h⟩]
theorem ub_put {c : Int} {t : List Int} (h : ¬ (c = 10 ∧ blk t.head?)) : ub (c :: t) = c :: ub t := by
 cases t with
 | nil => rfl
 | cons d t =>
  rw [ub, if_neg]
  intro h'
  refine h ⟨h'.1, ?_⟩
  rw [List.head?_cons]
  rcases h'.2 with e | e
  ·exact Or.inl (by rw [e])
  ·exact Or.inr (by rw [e])
theorem ub_bytes : ∀ (n : Nat) {l : List Int}, l.length ≤ n → Bytes l → Bytes (ub l)
 | _, [], _, h => h
 | _, [c], _, h => h
 | 0, c :: d :: t, hn, h => by simp at hn
 | n + 1, c :: d :: t, hn, h => by
  rw [List.length_cons, List.length_cons] at hn
  rw [ub]
  split
  ·exact ub_bytes n (by omega) h.tail.tail
  ·exact Bytes.cons h.head.1 h.head.2 (ub_bytes n (by rw [List.length_cons]; omega) h.tail)
def dropE (l : List (List Int)) : List (List Int) := if l.getLast? = some [] then l.dropLast else l
def unfS (t : List Int) : Option (List (List Int)) := if t.count 13 = cl t then some (dropE (spl 10 (ub (rp t)))) else none
theorem lone_eq (s : ByteArray) (hs : s.size ≤ 1000000) : fold_lone.f s = some (!decide ((bytesOf s).count 13 = cl (bytesOf s))) := by
 unfold fold_lone.f
 have t13 : ((13 : UInt8).toNat : Int) = 13 := rfl
 rw [Count_eq s 13 (by omega), bind_some_, CountCrlf_eq s (by omega), bind_some_, t13]
 congr 1
 rw [Bool.eq_iff_iff]
 simp
 constructor <;> (intro h h'; apply h; omega)
theorem unfold_fin (l : List Int) (hl : l.length ≤ 1000000) (hb : Bytes l) : ((strings_Split.f (strOfNums l) (⟨#[10]⟩ : ByteArray)).bind fun t126 => (if 0 ≤ (wrap64 ((t126.length : Int) - 1)) then (if (wrap64 ((t126.length : Int) - 1)) < (t126.length : Int) then (if (rdOf ByteArray.empty t126 (wrap64 ((t126.length : Int) - 1))).toList = ([] : List UInt8) then (if (wrap64 ((t126.length : Int) - 1)) ≤ (t126.length : Int) then (some ((t126.take ((wrap64 ((t126.length : Int) - 1)) : Int).toNat), (0 : Int))) else (none)) else (some (t126, 0))) else (none)) else (none))) = some ((dropE (spl 10 l)).map strOfNums, 0) := by
 have hne : (⟨#[]⟩ : ByteArray).toList = ([] : List UInt8) := by rw [ByteArray.toList_eq]
 have hs := split_f_eq (s := strOfNums l) 10 (by rw [size_strOf]; omega)
 have t10 : ((10 : UInt8).toNat : Int) = 10 := rfl
 rw [bytes_strOf hb, t10] at hs
 have hsb := spl_bytes (c := 10) hb
 have hlen : (spl 10 l).length ≤ l.length + 1 := by
  have : ∀ m : List Int, (spl 10 m).length ≤ m.length + 1 := by
   intro m
   induction m with
   | nil => simp [spl]
   | cons x m ih =>
    rw [spl]
    split
    ·rw [List.length_cons, List.length_cons]; omega
    ·split
     ·simp
     ·rename_i y ys hy
      rw [hy, List.length_cons] at ih
      rw [List.length_cons, List.length_cons]; omega
  exact this l
 rw [hs, bind_some_, List.length_map]
 have hn0 := spl_ne 10 l
 generalize hL : spl 10 l = L at *
 obtain ⟨A, z, rfl⟩ : ∃ A z, L = A ++ [z] := ⟨L.dropLast, L.getLast hn0, (List.dropLast_concat_getLast hn0).symm⟩
 rw [List.length_append, List.length_singleton] at *
 have hr : rdOf ByteArray.empty ((A ++ [z]).map strOfNums) (((A.length + 1 : Nat) : Int) - 1) = strOfNums z := by
  unfold rdOf
  rw [show (((A.length + 1 : Nat) : Int) - 1).toNat = A.length by omega, List.map_append, List.getD_eq_getElem?_getD, List.getElem?_append_right (by rw [List.length_map]; exact Nat.le_refl _), List.length_map]
  simp
 rw [wrap64_id (n := ((A.length + 1 : Nat) : Int) - 1) (by omega) (by omega), if_pos (by omega), if_pos (by omega), hr]
 unfold dropE
 by_cases h : z = []
 ·rw [if_pos (by rw [h]; exact hne), if_pos (by omega), if_pos (by rw [h]; simp), show (((A.length + 1 : Nat) : Int) - 1).toNat = A.length by omega, List.dropLast_concat, List.map_append]
  congr 2
  have := List.take_left (l₁ := A.map strOfNums) (l₂ := [z].map strOfNums)
  rw [List.length_map] at this
  exact this
 ·have hz : ¬ (strOfNums z).toList = ([] : List UInt8) := fun h' => by
   rw [← hne, toList_iff] at h'
   have hzb := hsb z (by simp)
   have e := congrArg bytesOf h'
   rw [bytes_strOf hzb] at e
   exact h e
  rw [if_neg hz, if_neg (by simpa using h)]
theorem Unfold_L0 (m : ByteArray) (hm : m.size ≤ 900000) : ∀ (n : Nat) (i : Int) (acc : List Int), 0 ≤ i → i ≤ (m.size : Int) → (rest m i).length ≤ n → acc.length + (rest m i).length ≤ 900000 → Bytes acc →
  fold_Unfold.L0 m acc i = some ((dropE (spl 10 (acc ++ ub (rest m i)))).map strOfNums, 0) := by
 intro n
 induction n with
 | zero =>
  intro i acc h0 h1 hn ha hb
  have hl := rest_length m i
  rw [fold_Unfold.L0_eq, if_neg (by omega), rest_nil (by omega), unfold_fin acc (by omega) hb]
  show _ = some ((dropE (spl 10 (acc ++ []))).map strOfNums, 0)
  rw [List.append_nil]
 | succ n ih =>
  intro i acc h0 h1 hn ha hb
  have hl := rest_length m i
  by_cases hlt : i < (m.size : Int)
  ·have hr := rest_cons h0 hlt
   have hbt := bt_range m i
   have put : ¬ (bt m i = 10 ∧ blk (rest m (i + 1)).head?) → fold_Unfold.L0 m (acc ++ [bt m i]) (i + 1) = some ((dropE (spl 10 (acc ++ ub (rest m i)))).map strOfNums, 0) := by
    intro h
    have hl1 := rest_length m (i + 1)
    rw [ih (i + 1) _ (by omega) (by omega) (by omega) (by rw [List.length_append, List.length_singleton]; omega) (Bytes.app hb (Bytes.cons hbt.1 hbt.2 Bytes.nil)), hr, ub_put h, List.append_assoc]
    rfl
   rw [fold_Unfold.L0_eq, if_pos hlt, if_pos h0, wrap64_id (n := i + 1) (by omega) (by omega)]
   by_cases c10 : bt m i = 10
   ·rw [if_pos c10]
    by_cases h2 : i + 1 < (m.size : Int)
    ·have hr2 := rest_cons (s := m) (i := i + 1) (by omega) h2
     rw [if_pos h2, if_pos (by omega), wrap64_id (n := i + 1 + 1) (by omega) (by omega)]
     have skip : (bt m (i + 1) = 32 ∨ bt m (i + 1) = 9) → fold_Unfold.L0 m acc (i + 1 + 1) = some ((dropE (spl 10 (acc ++ ub (rest m i)))).map strOfNums, 0) := by
      intro h
      have hl2 := rest_length m (i + 1 + 1)
      rw [ih (i + 1 + 1) acc (by omega) (by omega) (by omega) (by omega) hb, hr, hr2, c10, ub_skip h]
     by_cases c1 : bt m (i + 1) = 32
     ·rw [if_pos c1]
      exact skip (Or.inl c1)
     ·rw [if_neg c1]
      by_cases c2 : bt m (i + 1) = 9
      ·rw [if_pos c2]
       exact skip (Or.inr c2)
      ·rw [if_neg c2, if_pos (by omega)]
       refine put fun h => ?_
       have hh := h.2
       rw [hr2, List.head?_cons] at hh
       rcases hh with e | e
       ·exact c1 (Option.some.inj e)
       ·exact c2 (Option.some.inj e)
    ·rw [if_neg h2, if_pos (by omega)]
     refine put fun h => ?_
     have hh := h.2
     rw [rest_nil (by omega)] at hh
     rcases hh with e | e <;> cases e
   ·rw [if_neg c10, if_pos (by omega)]
    exact put fun h => c10 h.1
  ·rw [fold_Unfold.L0_eq, if_neg hlt, rest_nil (by omega), unfold_fin acc (by omega) hb]
   show _ = some ((dropE (spl 10 (acc ++ []))).map strOfNums, 0)
   rw [List.append_nil]
def encU : Option (List (List Int)) → List ByteArray × Int
 | some l => (l.map strOfNums, 0)
 | none => (([] : List ByteArray), 18)
theorem Unfold_eq (s : ByteArray) (hs : s.size ≤ 600000) : fold_Unfold.F s = some (encU (unfS (bytesOf s))) := by
 have hz := bytesOf_length s
 have hrl := rp_le (bytesOf s)
 rw [fold_Unfold.F_eq, if_neg (by omega), lone_eq s (by omega), bind_some_]
 unfold unfS
 by_cases h : (bytesOf s).count 13 = cl (bytesOf s)
 ·have hu := Unfold_L0 (strOfNums (rp (bytesOf s))) (by rw [size_strOf]; omega) _ 0 [] (by omega) (by omega) (Nat.le_refl _) (by rw [rest_length, size_strOf]; simp; omega) Bytes.nil
  rw [rest_zero, bytes_strOf (rp_bytes (bytes_of s)), List.nil_append] at hu
  rw [decide_eq_true h, if_neg (by simp), ReplaceAll_eq s (by omega), bind_some_, if_pos h, hu]
  rfl
 ·rw [decide_eq_false h, if_pos (by rfl), if_neg h]
  rfl
end Go.Proofs.YtdgeokpbedllaaaDoor.Base
