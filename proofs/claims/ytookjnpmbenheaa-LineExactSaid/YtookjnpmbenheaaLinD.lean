-- A text of the kit's tools for this claim, its remarks left out.
import Derived.Test.YtookjnpmbenheaaLinC
namespace Go.Proofs.Ytookjnpmbenheaa.Base
open Go.RowKit Go.Proofs.Ytookjnpmbenheaa.PLin Go.Proofs.YtookjnpmbenheaaW.PrintWords Go.Proofs.YtookjnpmbenheaaW.PrintLast Go.Proofs.YtookjnpmbenheaaW.PrintMore
set_option linter.unusedVariables false
set_option linter.unusedSimpArgs false
def Says (l : List Int) (n : ByteArray) (ps : List S54) (v : ByteArray) : Prop := lnS n ps v = true ∧ ∃ T, PT ps T ∧ l = bytesOf n ++ (T ++ 58 :: bytesOf v)
theorem pre_not {st l : List Int} : ∀ c ∈ pre st l, c ∉ st := fun c hc hm => by
 have := takeWhile_imp hc
 rw [List.contains_iff_mem.2 hm] at this
 cases this
theorem next_says {l x r : List Int} (h : nextS l = some (x, r)) : ∃ q, l = q ++ r ∧ Q x q := by
 unfold nextS at h
 split at h
 ·rename_i h34
  obtain ⟨e, _⟩ := cutS_some h
  obtain ⟨t, rfl⟩ : ∃ t, l = 34 :: t := by
   cases l with
   | nil => cases h34
   | cons c t => rw [List.head?_cons, Option.some.injEq] at h34; exact ⟨t, by rw [h34]⟩
  rw [List.tail_cons] at e
  exact ⟨34 :: (x ++ [34]), by rw [e]; simp, Or.inl rfl⟩
 ·simp only [Option.some.injEq, Prod.mk.injEq] at h
  obtain ⟨rfl, rfl⟩ := h
  refine ⟨pre st4 l, (pre_suf st4 l).symm, Or.inr ⟨rfl, fun c hc hm => pre_not c hc ?_⟩⟩
  unfold st3 at hm
  unfold st4
  simp only [List.mem_cons, List.not_mem_nil, or_false] at hm ⊢
  rcases hm with h | h | h
  ·exact Or.inl h
  ·exact Or.inr (Or.inl h)
  ·exact Or.inr (Or.inr (Or.inl h))
theorem head_cons {l : List Int} {c : Int} (h : l.head? = some c) : l = c :: l.tail := by
 cases l with
 | nil => cases h
 | cons d t => rw [List.head?_cons, Option.some.injEq] at h; rw [h]; rfl
theorem QL_bytes {x q : List Int} {xs : List ByteArray} {qs : List (List Int)} (hb : Bytes x) (h : Q x q) (t : QL xs qs) : QL (strOfNums x :: xs) (q :: qs) := QL.cons _ _ _ _ (by rw [bytes_strOf hb]; exact h) t
theorem jn_cons (q q' : List Int) (qs : List (List Int)) : jn [44] (q :: q' :: qs) = q ++ (44 :: jn [44] (q' :: qs)) := rfl
theorem vals_says : ∀ (n : Nat) (l : List Int) (acc vs : List ByteArray) (r : List Int), Bytes l → valsS n l acc = some (vs, r) → ∃ us qs, vs = acc ++ us ∧ us ≠ [] ∧ QL us qs ∧ l = jn [44] qs ++ r ∧ Bytes r := by
 intro n
 induction n with
 | zero => intro l acc vs r _ h; cases h
 | succ n ih =>
  intro l acc vs r hb h
  unfold valsS at h
  split at h
  ·cases h
  ·rename_i x r' hx
   obtain ⟨q, e, hq⟩ := next_says hx
   obtain ⟨bx, br⟩ := (nextS_len hx).2 hb
   split at h
   ·rename_i h44
    have e44 := head_cons h44
    obtain ⟨us, qs, g1, g2, g3, g4, g5⟩ := ih _ _ _ _ br.tl h
    cases g3 with
    | nil => exact absurd rfl g2
    | cons u q' us qs gh gt =>
     refine ⟨strOfNums x :: u :: us, q :: q' :: qs, by rw [g1]; simp, by simp, QL_bytes bx hq (QL.cons u q' us qs gh gt), ?_, g5⟩
     rw [jn_cons, e, e44, g4]
     simp
   ·simp only [Option.some.injEq, Prod.mk.injEq] at h
    obtain ⟨rfl, rfl⟩ := h
    exact ⟨[strOfNums x], [q], rfl, by simp, QL_bytes bx hq QL.nil, e, br⟩
theorem pars_says : ∀ (n : Nat) (l : List Int) (acc ps : List S54) (r : List Int), Bytes l → parsS n l acc = some (ps, r) → ∃ us T, ps = acc ++ us ∧ PT us T ∧ l = T ++ r ∧ Bytes r := by
 intro n
 induction n with
 | zero => intro l acc ps r _ h; cases h
 | succ n ih =>
  intro l acc ps r hb h
  unfold parsS at h
  split at h
  ·rename_i h59
   have e59 := head_cons h59
   split at h
   ·cases h
   ·rename_i w m hc
    obtain ⟨c1, _⟩ := cutS_some hc
    have hbt := hb.tl
    rw [c1] at hbt
    split at h
    ·cases h
    ·rename_i us r' hv
     obtain ⟨vs, qs, g1, g2, g3, g4, g5⟩ := vals_says _ _ _ _ _ hbt.right.tail hv
     rw [List.nil_append] at g1
     subst g1
     obtain ⟨ps', T, k1, k2, k3, k4⟩ := ih _ _ _ _ g5 h
     refine ⟨⟨strOfNums w, us⟩ :: ps', 59 :: (bytesOf (strOfNums w) ++ 61 :: (jn [44] qs ++ T)), by rw [k1]; simp, PT.cons ⟨strOfNums w, us⟩ ps' qs T g3 k2, ?_, k4⟩
     rw [e59, c1, bytes_strOf hbt.left, g4, k3]
     simp
  ·simp only [Option.some.injEq, Prod.mk.injEq] at h
   obtain ⟨rfl, rfl⟩ := h
   exact ⟨[], [], by simp, PT.nil, rfl, hb⟩
theorem prs_says {l : List Int} (hb : Bytes l) {n : ByteArray} {ps : List S54} {v : ByteArray} : prsS l = some (n, ps, v) ↔ Says l n ps v := by
 constructor
 ·intro h
  unfold prsS at h
  split at h
  ·cases h
  ·rename_i us r hp
   obtain ⟨ps', T, k1, k2, k3, k4⟩ := pars_says _ _ _ _ _ (suf_bytes hb) hp
   rw [List.nil_append] at k1
   subst k1
   split at h
   ·rename_i hc
    simp only [Option.some.injEq, Prod.mk.injEq] at h
    obtain ⟨rfl, rfl, rfl⟩ := h
    refine ⟨hc.2, T, k2, ?_⟩
    rw [bytes_strOf (pre_bytes hb), bytes_strOf k4.tl, ← head_cons hc.1, ← k3, pre_suf]
   ·cases h
 ·rintro ⟨hl, T, hT, rfl⟩
  exact prs_back hT hl
def st61 : List Int := [59, 58, 61]
def nextR (l : List Int) : Option (List Int × List Int) := if l.head? = some 34 then cutS 34 l.tail else some (pre st3 l, suf st3 l)
def valsR : Nat → List Int → List ByteArray → Option (List ByteArray × List Int)
 | 0, _, _ => none
 | n + 1, l, acc => match nextR l with
  | none => none
  | some (x, r) => if r.head? = some 44 then valsR n r.tail (acc ++ [strOfNums x]) else some (acc ++ [strOfNums x], r)
def parsR : Nat → List Int → List S54 → Option (List S54 × List Int)
 | 0, _, _ => none
 | n + 1, l, acc => if l.head? = some 59 then (if (suf st61 l.tail).head? = some 61 then (match valsR ((suf st61 l.tail).tail.length + 1) (suf st61 l.tail).tail [] with
    | none => none
    | some (vs, r) => parsR n r (acc ++ [⟨strOfNums (pre st61 l.tail), vs⟩])) else none) else some (acc, l)
def prsR (l : List Int) : Option (ByteArray × List S54 × ByteArray) := match parsR (l.length + 1) (suf st61 l) [] with
 | none => none
 | some (ps, r) => if r.head? = some 58 ∧ lnS (strOfNums (pre st61 l)) ps (strOfNums r.tail) = true then some (strOfNums (pre st61 l), ps, strOfNums r.tail) else none
theorem nextR_len {l x r : List Int} (h : nextR l = some (x, r)) : x.length + r.length ≤ l.length ∧ (Bytes l → Bytes x ∧ Bytes r) := by
 unfold nextR at h
 split at h
 ·obtain ⟨e, _⟩ := cutS_some h
  have hl := congrArg List.length e
  rw [List.length_append, List.length_cons, List.length_tail] at hl
  refine ⟨by omega, fun hb => ?_⟩
  have := hb.tl
  rw [e] at this
  exact ⟨this.left, this.right.tail⟩
 ·simp only [Option.some.injEq, Prod.mk.injEq] at h
  obtain ⟨rfl, rfl⟩ := h
  have hl := congrArg List.length (pre_suf st3 l)
  rw [List.length_append] at hl
  exact ⟨by omega, fun hb => ⟨pre_bytes hb, suf_bytes hb⟩⟩
theorem nextR_says {l x r : List Int} (h : nextR l = some (x, r)) : ∃ q, l = q ++ r ∧ Q x q := by
 unfold nextR at h
 split at h
 ·rename_i h34
  obtain ⟨e, _⟩ := cutS_some h
  have e34 := head_cons h34
  exact ⟨34 :: (x ++ [34]), by rw [e34, e]; simp, Or.inl rfl⟩
 ·simp only [Option.some.injEq, Prod.mk.injEq] at h
  obtain ⟨rfl, rfl⟩ := h
  exact ⟨pre st3 l, (pre_suf st3 l).symm, Or.inr ⟨rfl, pre_not⟩⟩
theorem valsR_says : ∀ (n : Nat) (l : List Int) (acc vs : List ByteArray) (r : List Int), Bytes l → valsR n l acc = some (vs, r) → ∃ us qs, vs = acc ++ us ∧ us ≠ [] ∧ QL us qs ∧ l = jn [44] qs ++ r ∧ Bytes r := by
 intro n
 induction n with
 | zero => intro l acc vs r _ h; cases h
 | succ n ih =>
  intro l acc vs r hb h
  unfold valsR at h
  split at h
  ·cases h
  ·rename_i x r' hx
   obtain ⟨q, e, hq⟩ := nextR_says hx
   obtain ⟨bx, br⟩ := (nextR_len hx).2 hb
   split at h
   ·rename_i h44
    have e44 := head_cons h44
    obtain ⟨us, qs, g1, g2, g3, g4, g5⟩ := ih _ _ _ _ br.tl h
    cases g3 with
    | nil => exact absurd rfl g2
    | cons u q' us qs gh gt =>
     refine ⟨strOfNums x :: u :: us, q :: q' :: qs, by rw [g1]; simp, by simp, QL_bytes bx hq (QL.cons u q' us qs gh gt), ?_, g5⟩
     rw [jn_cons, e, e44, g4]
     simp
   ·simp only [Option.some.injEq, Prod.mk.injEq] at h
    obtain ⟨rfl, rfl⟩ := h
    exact ⟨[strOfNums x], [q], rfl, by simp, QL_bytes bx hq QL.nil, e, br⟩
theorem parsR_says : ∀ (n : Nat) (l : List Int) (acc ps : List S54) (r : List Int), Bytes l → parsR n l acc = some (ps, r) → ∃ us T, ps = acc ++ us ∧ PT us T ∧ l = T ++ r ∧ Bytes r := by
 intro n
 induction n with
 | zero => intro l acc ps r _ h; cases h
 | succ n ih =>
  intro l acc ps r hb h
  unfold parsR at h
  split at h
  ·rename_i h59
   have e59 := head_cons h59
   split at h
   ·rename_i h61
    have e61 := head_cons h61
    have hbt := hb.tl
    split at h
    ·cases h
    ·rename_i us r' hv
     obtain ⟨vs, qs, g1, g2, g3, g4, g5⟩ := valsR_says _ _ _ _ _ (suf_bytes hbt).tl hv
     rw [List.nil_append] at g1
     subst g1
     obtain ⟨ps', T, k1, k2, k3, k4⟩ := ih _ _ _ _ g5 h
     refine ⟨⟨strOfNums (pre st61 l.tail), us⟩ :: ps', 59 :: (bytesOf (strOfNums (pre st61 l.tail)) ++ 61 :: (jn [44] qs ++ T)), by rw [k1]; simp, PT.cons ⟨strOfNums (pre st61 l.tail), us⟩ ps' qs T g3 k2, ?_, k4⟩
     have e := pre_suf st61 l.tail
     rw [e61, g4, k3] at e
     rw [bytes_strOf (pre_bytes hbt)]
     conv => lhs; rw [e59, ← e]
     simp
   ·cases h
  ·simp only [Option.some.injEq, Prod.mk.injEq] at h
   obtain ⟨rfl, rfl⟩ := h
   exact ⟨[], [], by simp, PT.nil, rfl, hb⟩
theorem nextR_Q {v q T : List Int} (h34 : (34 : Int) ∉ v) (hq : Q v q) (hT : ∀ c, T.head? = some c → c ∈ st3) : nextR (q ++ T) = some (v, T) := by
 rcases hq with rfl | ⟨rfl, hv⟩
 ·unfold nextR
  rw [List.cons_append, List.head?_cons, if_pos rfl, List.tail_cons, List.append_assoc]
  exact cutS_hit h34
 ·obtain ⟨e1, e2⟩ := pre_all hv hT
  have hn : ¬ (q ++ T).head? = some 34 := by
   cases q with
   | nil =>
    intro h
    have := hT 34 h
    revert this
    decide
   | cons c q =>
    intro h
    rw [List.cons_append, List.head?_cons, Option.some.injEq] at h
    exact h34 (h ▸ List.mem_cons_self ..)
  unfold nextR
  rw [if_neg hn, e1, e2]
theorem valsR_back {R : List Int} (hR : ∀ c, R.head? = some c → c = 58 ∨ c = 59) : ∀ (vs : List ByteArray) (qs : List (List Int)), QL vs qs → vs ≠ [] → (∀ x ∈ vs, (34 : Int) ∉ bytesOf x) → ∀ (n : Nat) (acc : List ByteArray), (jn [44] qs ++ R).length < n →
  valsR n (jn [44] qs ++ R) acc = some (acc ++ vs, R) := by
 intro vs qs hq
 induction hq with
 | nil => intro h; exact absurd rfl h
 | cons v q vs qs h t ih =>
  intro _ hg n acc hn
  have hv := hg v (List.mem_cons_self ..)
  cases n with
  | zero => omega
  | succ n =>
   cases t with
   | nil =>
    show valsR (n + 1) (q ++ R) acc = _
    unfold valsR
    rw [nextR_Q hv h (by
     intro c hc
     unfold st3
     rcases hR c hc with rfl | rfl <;> simp)]
    dsimp only
    rw [if_neg (fun h' => by rcases hR _ h' with h'' | h'' <;> omega), strOf_bytes]
   | cons v' q' vs' qs' h' t' =>
    have e : jn [44] (q :: q' :: qs') ++ R = q ++ (44 :: (jn [44] (q' :: qs') ++ R)) := by
     show (q ++ ([44] ++ jn [44] (q' :: qs'))) ++ R = _
     simp
    rw [e] at hn ⊢
    unfold valsR
    rw [nextR_Q hv h (by
     intro c hc
     rw [List.head?_cons, Option.some.injEq] at hc
     subst hc
     unfold st3
     simp)]
    dsimp only
    rw [List.length_append, List.length_cons] at hn
    rw [List.head?_cons, if_pos rfl, List.tail_cons, ih (by simp) (fun x hx => hg x (List.mem_cons_of_mem _ hx)) n _ (by omega), strOf_bytes, List.append_assoc]
    rfl
theorem st61_no {l : List Int} (h : l.all chn = true) : ∀ c ∈ l, c ∉ st61 := fun c hc hm => by
 have hcc := List.all_eq_true.1 h c hc
 unfold st61 at hm
 simp only [List.mem_cons, List.not_mem_nil, or_false] at hm
 rcases hm with rfl | rfl | rfl
 ·exact absurd hcc (by decide)
 ·exact absurd hcc (by decide)
 ·exact absurd hcc (by decide)
theorem parsR_back (v : List Int) : ∀ (ps : List S54) (T : List Int), PT ps T → (∀ p ∈ ps, prS p = true) → ∀ (n : Nat) (acc : List S54), (T ++ 58 :: v).length < n →
  parsR n (T ++ 58 :: v) acc = some (acc ++ ps, 58 :: v) := by
 intro ps T h
 induction h with
 | nil =>
  intro _ n acc hn
  cases n with
  | zero => omega
  | succ n =>
   unfold parsR
   rw [List.nil_append, List.head?_cons, if_neg (by decide), List.append_nil]
 | cons p ps qs T h t ih =>
  intro hg n acc hn
  obtain ⟨p1, p2, p3⟩ := prS_iff.1 (hg p (List.mem_cons_self ..))
  cases n with
  | zero => omega
  | succ n =>
   have e : (59 :: (bytesOf p.f0 ++ 61 :: (jn [44] qs ++ T))) ++ 58 :: v = 59 :: (bytesOf p.f0 ++ 61 :: (jn [44] qs ++ (T ++ 58 :: v))) := by simp
   rw [e] at hn ⊢
   rw [List.length_cons, List.length_append, List.length_cons, List.length_append] at hn
   have hne : p.f1 ≠ [] := fun h' => by rw [h'] at p2; simp at p2
   obtain ⟨e1, e2⟩ := pre_all (T := 61 :: (jn [44] qs ++ (T ++ 58 :: v))) (st61_no (nmS_iff.1 p1).1) (by
    intro c hc
    rw [List.head?_cons, Option.some.injEq] at hc
    subst hc
    unfold st61
    simp)
   unfold parsR
   rw [List.head?_cons, if_pos rfl, List.tail_cons, e1, e2, List.head?_cons, if_pos rfl, List.tail_cons]
   rw [valsR_back (PT_head t v) p.f1 qs h hne (fun x hx => (vlS_iff.1 (p3 x hx)).2) _ [] (Nat.lt_succ_self _)]
   dsimp only
   rw [List.nil_append, strOf_bytes, ih (fun q hq => hg q (List.mem_cons_of_mem _ hq)) n _ (by omega), List.append_assoc]
   rfl
theorem prsR_says {l : List Int} (hb : Bytes l) {n : ByteArray} {ps : List S54} {v : ByteArray} : prsR l = some (n, ps, v) ↔ Says l n ps v := by
 constructor
 ·intro h
  unfold prsR at h
  split at h
  ·cases h
  ·rename_i us r hp
   obtain ⟨ps', T, k1, k2, k3, k4⟩ := parsR_says _ _ _ _ _ (suf_bytes hb) hp
   rw [List.nil_append] at k1
   subst k1
   split at h
   ·rename_i hc
    simp only [Option.some.injEq, Prod.mk.injEq] at h
    obtain ⟨rfl, rfl, rfl⟩ := h
    refine ⟨hc.2, T, k2, ?_⟩
    rw [bytes_strOf (pre_bytes hb), bytes_strOf k4.tl, ← head_cons hc.1, ← k3, pre_suf]
   ·cases h
 ·rintro ⟨hl, T, h, rfl⟩
  obtain ⟨l1, l2, l3⟩ := lnS_iff.1 hl
  obtain ⟨e1, e2⟩ := pre_all (st := st61) (A := bytesOf n) (T := T ++ 58 :: bytesOf v) (st61_no (nmS_iff.1 l1).1) (by
   intro c hc
   unfold st61
   rcases PT_head h _ c hc with rfl | rfl <;> simp)
  unfold prsR
  rw [e1, e2, parsR_back (bytesOf v) ps T h l3 _ [] (by have := @List.length_append Int (bytesOf n) (T ++ 58 :: bytesOf v); omega)]
  dsimp only
  rw [List.head?_cons, List.tail_cons, strOf_bytes, strOf_bytes, List.nil_append, if_pos ⟨rfl, hl⟩]
theorem prs_same {l : List Int} (hb : Bytes l) : prsS l = prsR l := by
 cases h : prsS l with
 | some x =>
  obtain ⟨n, ps, v⟩ := x
  exact ((prsR_says hb).2 ((prs_says hb).1 h)).symm
 | none =>
  cases h' : prsR l with
  | none => rfl
  | some x =>
   obtain ⟨n, ps, v⟩ := x
   rw [(prs_says hb).2 ((prsR_says hb).1 h')] at h
   cases h
end Go.Proofs.Ytookjnpmbenheaa.Base
