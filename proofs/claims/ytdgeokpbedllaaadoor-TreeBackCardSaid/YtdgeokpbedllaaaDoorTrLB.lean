-- A text of the kit's tools for this claim, its remarks left out.
import Derived.Test.YtdgeokpbedllaaaDoorTrLA
import Derived.Lib.IndexLaws
import Derived.Lib.IndexBytes
import Derived.Lib.IndexMore
namespace Go.Proofs.YtdgeokpbedllaaaDoor.Base
open Go.RowKit Go.Proofs.YtdgeokpbedllaaaDoor.PTre Go.Proofs.YtdgeokpbedllaaaDoorW.PrintWords Go.Proofs.YtdgeokpbedllaaaDoorW.PrintLast Go.Proofs.YtdgeokpbedllaaaDoorW.PrintMore
set_option linter.unusedVariables false
set_option linter.unusedSimpArgs false
theorem toNat_ne {b c : UInt8} (h : b ≠ c) : (b.toNat : Int) ≠ (c.toNat : Int) := fun e => h (UInt8.toNat_inj.1 (by omega))
theorem byte_cases (l : List UInt8) (c : UInt8) : (Lib.indexByte l c = -1 ∧ c ∉ l) ∨ ∃ A B : List UInt8, l = A ++ c :: B ∧ c ∉ A ∧ Lib.indexByte l c = (A.length : Int) := by
 have hge := Lib.indexByte_ge l c
 by_cases h : Lib.indexByte l c = -1
 ·left
  refine ⟨h, fun hm => ?_⟩
  obtain ⟨j, hj, e⟩ := List.getElem_of_mem hm
  exact Lib.indexByte_none h j (by rw [List.getElem?_eq_getElem hj, e])
 ·right
  obtain ⟨i, hi⟩ : ∃ i : Nat, Lib.indexByte l c = i := ⟨(Lib.indexByte l c).toNat, by omega⟩
  obtain ⟨g1, g2⟩ := Lib.indexByte_some hi
  have hl : i < l.length := (List.getElem?_eq_some_iff.1 g1).1
  have e1 : l[i] = c := by
   rw [List.getElem?_eq_getElem hl] at g1
   exact Option.some.inj g1
  refine ⟨l.take i, l.drop (i + 1), ?_, fun hm => ?_, by rw [List.length_take]; omega⟩
  ·rw [← e1, List.getElem_cons_drop, List.take_append_drop]
  ·obtain ⟨j, hj, e⟩ := List.getElem_of_mem hm
   rw [List.getElem_take] at e
   rw [List.length_take] at hj
   have hjl : j < l.length := by omega
   exact g2 j (by omega) (by rw [List.getElem?_eq_getElem hjl, e])
theorem not_mem_bytes {l : List UInt8} {c : UInt8} (h : c ∉ l) : (c.toNat : Int) ∉ l.map (fun b => (b.toNat : Int)) := fun hm => by
 obtain ⟨b, hb, e⟩ := List.mem_map.1 hm
 by_cases hbc : b = c
 ·subst hbc; exact h hb
 ·exact toNat_ne hbc e
theorem bytes_split {s : ByteArray} {A B : List UInt8} {c : UInt8} (h : s.data.toList = A ++ c :: B) : bytesOf s = A.map (fun b => (b.toNat : Int)) ++ (c.toNat : Int) :: B.map (fun b => (b.toNat : Int)) := by
 unfold bytesOf
 rw [h, List.map_append, List.map_cons]
theorem idx_cases (s : ByteArray) (c : UInt8) : (Lib.indexByte s.data.toList c = -1 ∧ (c.toNat : Int) ∉ bytesOf s) ∨ ∃ A B : List Int, bytesOf s = A ++ (c.toNat : Int) :: B ∧ (c.toNat : Int) ∉ A ∧ Lib.indexByte s.data.toList c = (A.length : Int) := by
 rcases byte_cases s.data.toList c with ⟨h1, h2⟩ | ⟨A, B, h1, h2, h3⟩
 ·exact Or.inl ⟨h1, not_mem_bytes h2⟩
 ·exact Or.inr ⟨_, _, bytes_split h1, not_mem_bytes h2, by rw [h3, List.length_map]⟩
theorem prefix1 (s : ByteArray) (c : UInt8) : strings_HasPrefix.f s (⟨#[c]⟩ : ByteArray) = some (decide ((bytesOf s).head? = some (c.toNat : Int))) := by
 have hz := size_len s
 have hc : (((⟨#[c]⟩ : ByteArray).size : Nat) : Int) = 1 := rfl
 unfold strings_HasPrefix.f stringslite_HasPrefix.f
 rw [hc]
 cases h : bytesOf s with
 | nil =>
  rw [h] at hz
  rw [if_neg (by rw [hz]; decide), bind_some_]
  rfl
 | cons x l =>
  rw [h, List.length_cons] at hz
  rw [if_pos (by omega), if_pos (by omega), if_pos (by omega), bind_some_]
  congr 1
  rw [Bool.eq_iff_iff, beq_iff_eq, decide_eq_true_eq, toList_iff, List.head?_cons, Option.some.injEq]
  have e : bytesOf (s.extract 0 (1 : Int).toNat) = [x] := by
   rw [bytes_extract, h]
   rfl
  have e2 : bytesOf (⟨#[c]⟩ : ByteArray) = [(c.toNat : Int)] := rfl
  constructor
  ·intro h'
   rw [h', e2] at e
   simpa using e.symm
  ·intro h'
   apply bytes_inj
   rw [e, e2, h']
theorem tail1 (s : ByteArray) : s.extract 1 s.size = strOfNums (bytesOf s).tail := by
 apply bytes_inj
 have hb : Bytes (bytesOf s).tail := fun x hx => bytes_of s x (List.mem_of_mem_tail hx)
 rw [extract_all, bytes_strOf hb, List.drop_one]
theorem Bytes.tl {l : List Int} (h : Bytes l) : Bytes l.tail := fun x hx => h x (List.mem_of_mem_tail hx)
def cutS (c : Int) : List Int → Option (List Int × List Int)
 | [] => none
 | x :: l => if x = c then some ([], l) else (cutS c l).map fun p => (x :: p.1, p.2)
theorem cutS_no {c : Int} : ∀ {l : List Int}, c ∉ l → cutS c l = none
 | [], _ => rfl
 | x :: l, h => by
  unfold cutS
  rw [if_neg (fun (e : x = c) => h (by rw [e]; exact List.mem_cons_self ..)), cutS_no (fun hm => h (List.mem_cons_of_mem _ hm))]
  rfl
theorem cutS_hit {c : Int} {B : List Int} : ∀ {A : List Int}, c ∉ A → cutS c (A ++ c :: B) = some (A, B)
 | [], _ => by
  show (if c = c then _ else _) = _
  rw [if_pos rfl]
 | x :: A, h => by
  show (if x = c then some ([], A ++ c :: B) else (cutS c (A ++ c :: B)).map fun p => (x :: p.1, p.2)) = _
  rw [if_neg (fun (e : x = c) => h (by rw [e]; exact List.mem_cons_self ..)), cutS_hit (fun hm => h (List.mem_cons_of_mem _ hm))]
  rfl
theorem cutS_some {c : Int} {B : List Int} : ∀ {l A : List Int}, cutS c l = some (A, B) → l = A ++ c :: B ∧ c ∉ A
 | [], _, h => by cases h
 | x :: l, A, h => by
  unfold cutS at h
  split at h
  ·rename_i e
   simp only [Option.some.injEq, Prod.mk.injEq] at h
   obtain ⟨rfl, rfl⟩ := h
   subst e
   exact ⟨rfl, by simp⟩
  ·rename_i e
   obtain ⟨⟨A', B'⟩, h1, h2⟩ := Option.map_eq_some_iff.1 h
   simp only [Prod.mk.injEq] at h2
   obtain ⟨rfl, rfl⟩ := h2
   obtain ⟨g1, g2⟩ := cutS_some h1
   refine ⟨by rw [g1]; rfl, fun hm => ?_⟩
   rcases List.mem_cons.1 hm with h' | h'
   ·exact e h'.symm
   ·exact g2 h'
theorem Cut_eq (s : ByteArray) (c : UInt8) (hs : s.size ≤ 1000000) : strings_Cut.f s (⟨#[c]⟩ : ByteArray) = some (match cutS (c.toNat : Int) (bytesOf s) with | some (A, B) => (strOfNums A, strOfNums B, true) | none => (s, (⟨#[]⟩ : ByteArray), false)) := by
 have hb0 : ∀ l : List UInt8, bytesOf ⟨l.toArray⟩ = l.map fun b => (b.toNat : Int) := fun l => rfl
 have hb1 : bytesOf s = s.data.toList.map fun b => (b.toNat : Int) := rfl
 unfold strings_Cut.f Lib.cut
 rw [if_pos (by omega), show (⟨#[c]⟩ : ByteArray).data.toList = [c] from rfl, Lib.index_one]
 rcases idx_cases s c with ⟨i1, i2⟩ | ⟨A, B, i1, i2, i3⟩
 ·rw [i1, if_neg (by decide), cutS_no i2]
 ·have hb := bytes_of s
  rw [i1] at hb
  have e1 : (⟨(s.data.toList.take ((A.length : Nat) : Int).toNat).toArray⟩ : ByteArray) = strOfNums A := by
   apply bytes_inj
   rw [bytes_strOf hb.left, hb0, List.map_take, ← hb1, i1, Int.toNat_natCast, List.take_left]
  have e2 : (⟨(s.data.toList.drop (((A.length : Nat) : Int).toNat + [c].length)).toArray⟩ : ByteArray) = strOfNums B := by
   apply bytes_inj
   rw [bytes_strOf hb.right.tail, hb0, List.map_drop, ← hb1, i1, Int.toNat_natCast, ← List.drop_drop, List.drop_left]
   rfl
  rw [i3, if_pos (by omega), i1, cutS_hit i2]
  simp only [e1, e2]
def st4 : List Int := [58, 59, 44, 34]
def nextS (l : List Int) : Option (List Int × List Int) := if l.head? = some 34 then cutS 34 l.tail else some (pre st4 l, suf st4 l)
theorem nextS_len {l x r : List Int} (h : nextS l = some (x, r)) : x.length + r.length ≤ l.length ∧ (Bytes l → Bytes x ∧ Bytes r) := by
 unfold nextS at h
 split at h
 ·obtain ⟨e, _⟩ := cutS_some h
  have hl := congrArg List.length e
  rw [List.length_append, List.length_cons, List.length_tail] at hl
  refine ⟨by omega, fun hb => ?_⟩
  have := hb.tl
  rw [e] at this
  exact ⟨this.left, this.right.tail⟩
 ·simp only [Option.some.injEq, Prod.mk.injEq] at h
  obtain ⟨rfl, rfl⟩ := h
  have hl := congrArg List.length (pre_suf st4 l)
  rw [List.length_append] at hl
  exact ⟨by omega, fun hb => ⟨pre_bytes hb, suf_bytes hb⟩⟩
theorem next_eq (s : ByteArray) (hs : s.size ≤ 1000000) : ∃ a b, line_next.F s = some (match nextS (bytesOf s) with | some (x, r) => (strOfNums x, strOfNums r, true) | none => (a, b, false)) := by
 have hz := size_len s
 have hn : s.toList = ([] : List UInt8) ↔ bytesOf s = [] := by
  have e : ([] : List UInt8) = (⟨#[]⟩ : ByteArray).toList := by rw [ByteArray.toList_eq]
  rw [e, toList_iff]
  refine ⟨?_, fun h => bytes_inj h⟩
  rintro rfl; rfl
 have hu : line_next.J0 s true = some (strOfNums (pre st4 (bytesOf s)), strOfNums (suf st4 (bytesOf s)), true) := by
  have hp := pre_len st4 (bytesOf s)
  have e4 : bytesOf (⟨#[58, 59, 44, 34]⟩ : ByteArray) = st4 := rfl
  rw [line_next.J0_eq, if_pos rfl, until_eq s _ (by omega), bind_some_, e4, if_pos (by omega), if_pos (by omega), take_pre, drop_pre]
 rw [line_next.F_eq, hu]
 unfold nextS
 cases h : bytesOf s with
 | nil =>
  rw [if_pos (hn.2 h)]
  exact ⟨s, s, rfl⟩
 | cons c l =>
  have hr := rest_cons (s := s) (i := 0) (by omega) (by rw [hz, h, List.length_cons]; omega)
  rw [rest_zero, h] at hr
  simp only [List.cons.injEq] at hr
  rw [h, List.length_cons] at hz
  rw [if_neg (fun h' => by rw [hn.1 h'] at h; cases h), if_pos (by omega), ← hr.1, List.head?_cons, List.tail_cons]
  by_cases hc : c = 34
  ·have hb : (c != 34) = false := by rw [hc]; rfl
   have ht := tail1 s
   rw [h, List.tail_cons] at ht
   have hbl : Bytes l := by have := bytes_of s; rw [h] at this; exact this.tail
   rw [hb, if_pos (by rw [hc]), line_next.J0_eq, if_neg (by simp), if_pos (by omega), ht, Cut_eq _ 34 (by rw [size_strOf]; omega), bind_some_, bytes_strOf hbl]
   have e34 : ((34 : UInt8).toNat : Int) = 34 := rfl
   rw [e34]
   cases cutS 34 l with
   | none => exact ⟨strOfNums l, (⟨#[]⟩ : ByteArray), rfl⟩
   | some p => exact ⟨s, s, rfl⟩
  ·have hb : (c != 34) = true := by simpa using hc
   rw [hb, hu, if_neg (by simpa using hc), h]
   exact ⟨s, s, rfl⟩
def valsS : Nat → List Int → List ByteArray → Option (List ByteArray × List Int)
 | 0, _, _ => none
 | n + 1, l, acc => match nextS l with
  | none => none
  | some (x, r) => if r.head? = some 44 then valsS n r.tail (acc ++ [strOfNums x]) else some (acc ++ [strOfNums x], r)
def parsS : Nat → List Int → List S70 → Option (List S70 × List Int)
 | 0, _, _ => none
 | n + 1, l, acc => if l.head? = some 59 then (match cutS 61 l.tail with
   | none => none
   | some (w, m) => match valsS (m.length + 1) m [] with
    | none => none
    | some (vs, r) => parsS n r (acc ++ [⟨strOfNums w, vs⟩])) else some (acc, l)
theorem valsS_len (M : Nat) : ∀ (n : Nat) (l : List Int) (acc : List ByteArray) (vs : List ByteArray) (r : List Int), valsS n l acc = some (vs, r) → l.length ≤ M → (∀ x ∈ acc, x.size ≤ M) →
  r.length ≤ l.length ∧ (Bytes l → Bytes r) ∧ vs.length + r.length ≤ acc.length + l.length + 1 ∧ ∀ x ∈ vs, x.size ≤ M := by
 intro n
 induction n with
 | zero => intro l acc vs r h; cases h
 | succ n ih =>
  intro l acc vs r h hl ha
  unfold valsS at h
  split at h
  ·cases h
  ·rename_i x r' hx
   obtain ⟨n1, n2⟩ := nextS_len hx
   have ha' : ∀ y ∈ acc ++ [strOfNums x], y.size ≤ M := by
    intro y hy
    rcases List.mem_append.1 hy with hy | hy
    ·exact ha y hy
    ·rw [List.mem_singleton.1 hy, size_strOf]
     omega
   split at h
   ·rename_i h44
    have hp : 0 < r'.length := by
     cases r' with
     | nil => cases h44
     | cons => rw [List.length_cons]; omega
    have ht := List.length_tail (l := r')
    obtain ⟨g1, g2, g3, g4⟩ := ih r'.tail _ vs r h (by omega) ha'
    rw [List.length_append, List.length_singleton] at g3
    exact ⟨by omega, fun hb => g2 (n2 hb).2.tl, by omega, g4⟩
   ·simp only [Option.some.injEq, Prod.mk.injEq] at h
    obtain ⟨rfl, rfl⟩ := h
    rw [List.length_append, List.length_singleton]
    exact ⟨by omega, fun hb => (n2 hb).2, by omega, ha'⟩
theorem after_val (ps : List S70) (r : List Int) (hr : Bytes r) (w : ByteArray) (vs : List ByteArray) (hp : ps.length < 3000000) :
  line_params.L1 ps (strOfNums r) false w vs = if r.head? = some 44 then line_params.J2 ps (strOfNums r) false true w vs else line_params.L0 (strOfNums r) (ps ++ [⟨w, vs⟩]) := by
 have e44 : ((44 : UInt8).toNat : Int) = 44 := rfl
 rw [line_params.L1_eq, if_neg (by simp), prefix1, bind_some_, bytes_strOf hr, e44]
 by_cases h : r.head? = some 44
 ·rw [decide_eq_true h, if_pos h]
 ·rw [decide_eq_false h, if_neg h, line_params.J2_eq, if_neg (by simp), if_pos (by omega)]
theorem vals_go (ps : List S70) (w : ByteArray) (hp : ps.length < 3000000) : ∀ (n : Nat) (l : List Int) (vs : List ByteArray), l.length < n → Bytes l → vs.length + l.length ≤ 1000000 →
  ∀ R : Option (List S70 × ByteArray × Bool), (R = line_params.J2 ps (strOfNums l) true true w vs ∨ R = line_params.J2 ps (strOfNums (44 :: l)) false true w vs) →
  R = match valsS n l vs with | none => some (([] : List S70), (⟨#[]⟩ : ByteArray), false) | some (us, r) => line_params.L0 (strOfNums r) (ps ++ [⟨w, us⟩]) := by
 intro n
 induction n with
 | zero => intro l vs h; omega
 | succ n ih =>
  intro l vs hl hb hv R hR
  obtain ⟨a, b, hn⟩ := next_eq (strOfNums l) (by rw [size_strOf]; omega)
  rw [bytes_strOf hb] at hn
  have hstep : R = match nextS l with | none => some (([] : List S70), (⟨#[]⟩ : ByteArray), false) | some (x, r) => line_params.L1 ps (strOfNums r) false w (vs ++ [strOfNums x]) := by
   rcases hR with rfl | rfl
   ·rw [line_params.J2_eq, if_pos rfl, if_pos rfl, hn, bind_some_]
    cases nextS l with
    | none => rfl
    | some p =>
     obtain ⟨x, r⟩ := p
     dsimp only
     rw [if_pos rfl, if_pos (by omega)]
   ·have hb44 : Bytes (44 :: l) := Bytes.cons (by omega) (by omega) hb
    have ht := tail1 (strOfNums (44 :: l))
    rw [bytes_strOf hb44, List.tail_cons] at ht
    rw [line_params.J2_eq, if_pos rfl, if_neg (by simp), if_pos (by rw [size_strOf, List.length_cons]; omega), ht, hn, bind_some_]
    cases nextS l with
    | none => rfl
    | some p =>
     obtain ⟨x, r⟩ := p
     dsimp only
     rw [if_pos rfl, if_pos (by omega)]
  rw [hstep]
  unfold valsS
  cases hx : nextS l with
  | none => rfl
  | some p =>
   obtain ⟨x, r⟩ := p
   obtain ⟨n1, n2⟩ := nextS_len hx
   dsimp only
   rw [after_val ps r (n2 hb).2 w _ hp]
   by_cases h : r.head? = some 44
   ·rw [if_pos h, if_pos h]
    obtain ⟨t, rfl⟩ : ∃ t, r = 44 :: t := by
     cases r with
     | nil => cases h
     | cons c t => rw [List.head?_cons, Option.some.injEq] at h; exact ⟨t, by rw [h]⟩
    rw [List.length_cons] at n1
    rw [List.tail_cons]
    exact ih t _ (by omega) (n2 hb).2.tail (by rw [List.length_append, List.length_singleton]; omega) _ (Or.inr rfl)
   ·rw [if_neg h, if_neg h]
theorem pars_go : ∀ (n : Nat) (s : ByteArray) (acc : List S70), s.size < n → s.size ≤ 900000 → acc.length + s.size ≤ 900000 →
  line_params.L0 s acc = some (match parsS n (bytesOf s) acc with | none => (([] : List S70), (⟨#[]⟩ : ByteArray), false) | some (ps, r) => (ps, strOfNums r, true)) := by
 intro n
 induction n with
 | zero => intro s acc h; omega
 | succ n ih =>
  intro s acc hl hs ha
  have hz := size_len s
  have e59 : ((59 : UInt8).toNat : Int) = 59 := rfl
  have e61 : ((61 : UInt8).toNat : Int) = 61 := rfl
  rw [line_params.L0_eq, prefix1, bind_some_, e59]
  unfold parsS
  by_cases h : (bytesOf s).head? = some 59
  ·have hp : 0 < (bytesOf s).length := by
    cases hb : bytesOf s with
    | nil => rw [hb] at h; cases h
    | cons => rw [List.length_cons]; omega
   have htl := List.length_tail (l := bytesOf s)
   rw [decide_eq_true h, if_pos rfl, if_pos h, if_pos (by omega), tail1, Cut_eq _ 61 (by rw [size_strOf]; omega), bind_some_, bytes_strOf (bytes_of s).tl, e61]
   cases hc : cutS 61 (bytesOf s).tail with
   | none => rfl
   | some p =>
    obtain ⟨w, m⟩ := p
    obtain ⟨c1, _⟩ := cutS_some hc
    have hbt := (bytes_of s).tl
    have hlen := congrArg List.length c1
    rw [List.length_append, List.length_cons] at hlen
    rw [c1] at hbt
    dsimp only
    rw [if_pos rfl, line_params.L1_eq, if_pos rfl, vals_go acc (strOfNums w) (by omega) (m.length + 1) m [] (by omega) hbt.right.tail (by simp; omega) _ (Or.inl rfl)]
    cases hv : valsS (m.length + 1) m [] with
    | none => rfl
    | some q =>
     obtain ⟨us, r⟩ := q
     obtain ⟨v1, v2, v3, _⟩ := valsS_len m.length _ _ _ _ _ hv (Nat.le_refl _) (by simp)
     have hbr := v2 hbt.right.tail
     dsimp only
     rw [ih (strOfNums r) _ (by rw [size_strOf]; omega) (by rw [size_strOf]; omega) (by rw [size_strOf, List.length_append, List.length_singleton]; omega), bytes_strOf hbr]
  ·rw [decide_eq_false h, if_neg (by simp), if_neg h]
   dsimp only
   rw [strOf_bytes]
def FitM (M : Nat) (p : S70) : Prop := p.f0.size ≤ M ∧ (∀ x ∈ p.f1, x.size ≤ M) ∧ p.f1.length ≤ M + 1
theorem parsS_len (M : Nat) : ∀ (n : Nat) (l : List Int) (acc : List S70) (ps : List S70) (r : List Int), parsS n l acc = some (ps, r) → l.length ≤ M → (∀ p ∈ acc, FitM M p) →
  r.length ≤ l.length ∧ (Bytes l → Bytes r) ∧ ps.length ≤ acc.length + l.length ∧ ∀ p ∈ ps, FitM M p := by
 intro n
 induction n with
 | zero => intro l acc ps r h; cases h
 | succ n ih =>
  intro l acc ps r h hl ha
  unfold parsS at h
  split at h
  ·rename_i h59
   have hp : 0 < l.length := by
    cases l with
    | nil => cases h59
    | cons => rw [List.length_cons]; omega
   have htl := List.length_tail (l := l)
   split at h
   ·cases h
   ·rename_i w m hc
    obtain ⟨c1, _⟩ := cutS_some hc
    have hlen := congrArg List.length c1
    rw [List.length_append, List.length_cons] at hlen
    split at h
    ·cases h
    ·rename_i us r' hv
     obtain ⟨v1, v2, v3, v4⟩ := valsS_len M _ _ _ _ _ hv (by omega) (by simp)
     obtain ⟨g1, g2, g3, g4⟩ := ih r' _ ps r h (by omega) (by
      intro p hp
      rcases List.mem_append.1 hp with hp | hp
      ·exact ha p hp
      ·rw [List.mem_singleton.1 hp]
       refine ⟨by rw [size_strOf]; omega, v4, ?_⟩
       rw [List.length_nil] at v3
       show us.length ≤ M + 1
       omega)
     rw [List.length_append, List.length_singleton] at g3
     refine ⟨by omega, fun hb => g2 (v2 ?_), by omega, g4⟩
     have := hb.tl
     rw [c1] at this
     exact this.right.tail
  ·simp only [Option.some.injEq, Prod.mk.injEq] at h
   obtain ⟨rfl, rfl⟩ := h
   exact ⟨Nat.le_refl _, id, by omega, ha⟩
def prsS (l : List Int) : Option (ByteArray × List S70 × ByteArray) := match parsS (l.length + 1) (suf [58, 59] l) [] with
 | none => none
 | some (ps, r) => if r.head? = some 58 ∧ lnS (strOfNums (pre [58, 59] l)) ps (strOfNums r.tail) = true then some (strOfNums (pre [58, 59] l), ps, strOfNums r.tail) else none
def encL : Option (ByteArray × List S70 × ByteArray) → ByteArray × List S70 × ByteArray × Int
 | some (n, ps, v) => (n, ps, v, 0)
 | none => ((⟨#[]⟩ : ByteArray), ([] : List S70), (⟨#[]⟩ : ByteArray), 18)
theorem Parse_eq (s : ByteArray) (hs : s.size ≤ 900000) : line_Parse.F s = some (encL (prsS (bytesOf s))) := by
 have hz := size_len s
 have hpl := pre_len [58, 59] (bytesOf s)
 have hsl := congrArg List.length (pre_suf [58, 59] (bytesOf s))
 rw [List.length_append] at hsl
 have hbs : Bytes (suf [58, 59] (bytesOf s)) := suf_bytes (bytes_of s)
 have e2 : bytesOf (⟨#[58, 59]⟩ : ByteArray) = [58, 59] := rfl
 have e58 : ((58 : UInt8).toNat : Int) = 58 := rfl
 rw [line_Parse.F_eq, until_eq s _ (by omega), bind_some_, e2, if_pos (by omega), if_pos (by omega), take_pre, drop_pre, line_params.F_eq, pars_go ((bytesOf s).length + 1) _ [] (by rw [size_strOf]; omega) (by rw [size_strOf]; omega) (by rw [size_strOf]; simp; omega), bind_some_, bytes_strOf hbs]
 unfold prsS
 cases hp : parsS ((bytesOf s).length + 1) (suf [58, 59] (bytesOf s)) [] with
 | none =>
  dsimp only
  rw [if_neg (by simp), line_Parse.J0_eq, if_pos rfl]
  rfl
 | some q =>
  obtain ⟨ps, r⟩ := q
  obtain ⟨g1, g2, g3, g4⟩ := parsS_len (bytesOf s).length _ _ _ _ _ hp (by omega) (by simp)
  rw [List.length_nil] at g3
  dsimp only
  rw [if_pos rfl, prefix1, bind_some_, bytes_strOf (g2 hbs), e58, line_Parse.J0_eq]
  by_cases h : r.head? = some 58
  ·have hr : 0 < r.length := by
    cases r with
    | nil => cases h
    | cons => rw [List.length_cons]; omega
   have htl := List.length_tail (l := r)
   rw [decide_eq_true h, if_neg (by simp), if_pos (by rw [size_strOf]; omega), tail1, bytes_strOf (g2 hbs), Check_eq _ ps _ (by rw [size_strOf]; omega) (by rw [size_strOf]; omega) (fun p hp' => by
    obtain ⟨f1, f2, f3⟩ := g4 p hp'
    exact ⟨by omega, fun x hx => by have := f2 x hx; omega, by omega⟩) (by omega), bind_some_]
   by_cases hln : lnS (strOfNums (pre [58, 59] (bytesOf s))) ps (strOfNums r.tail) = true
   ·rw [if_pos hln, if_pos rfl, if_pos ⟨h, hln⟩]
    rfl
   ·rw [if_neg hln, if_neg (by decide), if_neg (fun h' => hln h'.2)]
    rfl
  ·rw [decide_eq_false h, if_pos (by rfl), if_neg (fun h' => h h'.1)]
   rfl
end Go.Proofs.YtdgeokpbedllaaaDoor.Base
