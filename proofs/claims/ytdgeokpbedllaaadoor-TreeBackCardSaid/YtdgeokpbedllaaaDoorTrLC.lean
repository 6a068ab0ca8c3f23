-- A text of the kit's tools for this claim, its remarks left out.
import Derived.Test.YtdgeokpbedllaaaDoorTrLB
import Derived.Test.YtdgeokpbedllaaaDoorETrex1
import Derived.Test.YtdgeokpbedllaaaDoorETrex16
namespace Go.Proofs.YtdgeokpbedllaaaDoor.Base
open Go.RowKit Go.Proofs.YtdgeokpbedllaaaDoor.PTre Go.Proofs.YtdgeokpbedllaaaDoorW.PrintWords Go.Proofs.YtdgeokpbedllaaaDoorW.PrintLast Go.Proofs.YtdgeokpbedllaaaDoorW.PrintMore
set_option linter.unusedVariables false
set_option linter.unusedSimpArgs false
def st3 : List Int := [58, 59, 44]
def qv (v : List Int) : List Int := if suf st3 v = [] then v else 34 :: (v ++ [34])
def parT (p : S70) : List Int := 59 :: (bytesOf p.f0 ++ 61 :: jn [44] (p.f1.map fun x => qv (bytesOf x)))
def parsT : List S70 → List Int
 | [] => []
 | p :: ps => parT p ++ parsT ps
def txtS (n : ByteArray) (ps : List S70) (v : ByteArray) : List Int := bytesOf n ++ (parsT ps ++ 58 :: bytesOf v)
theorem qv_bytes {v : List Int} (h : Bytes v) : Bytes (qv v) := by
 unfold qv
 split
 ·exact h
 ·exact Bytes.cons (by omega) (by omega) (Bytes.app h (Bytes.cons (by omega) (by omega) Bytes.nil))
theorem qv_len (v : List Int) : (qv v).length ≤ v.length + 2 := by
 unfold qv
 split
 ·omega
 ·rw [List.length_cons, List.length_append, List.length_singleton]; omega
theorem parT_bytes (p : S70) : Bytes (parT p) := by
 refine Bytes.cons (by omega) (by omega) (Bytes.app (bytes_of _) (Bytes.cons (by omega) (by omega) (jn_bytes (Bytes.cons (by omega) (by omega) Bytes.nil) _ ?_)))
 intro x hx
 obtain ⟨y, _, rfl⟩ := List.mem_map.1 hx
 exact qv_bytes (bytes_of y)
theorem parsT_bytes : ∀ ps : List S70, Bytes (parsT ps)
 | [] => Bytes.nil
 | p :: ps => Bytes.app (parT_bytes p) (parsT_bytes ps)
theorem txtS_bytes (n : ByteArray) (ps : List S70) (v : ByteArray) : Bytes (txtS n ps v) := Bytes.app (bytes_of n) (Bytes.app (parsT_bytes ps) (Bytes.cons (by omega) (by omega) (bytes_of v)))
def LightP (p : S70) : Prop := p.f0.size ≤ 200 ∧ p.f1.length ≤ 20 ∧ ∀ x ∈ p.f1, x.size ≤ 200
def Light (n : ByteArray) (ps : List S70) (v : ByteArray) : Prop := n.size ≤ 200 ∧ v.size ≤ 500 ∧ ps.length ≤ 20 ∧ ∀ p ∈ ps, LightP p
def Q (v q : List Int) : Prop := q = 34 :: (v ++ [34]) ∨ (q = v ∧ ∀ c ∈ v, c ∉ st3)
inductive QL : List ByteArray → List (List Int) → Prop
 | nil : QL [] []
 | cons (v : ByteArray) (q : List Int) (vs : List ByteArray) (qs : List (List Int)) (h : Q (bytesOf v) q) (t : QL vs qs) : QL (v :: vs) (q :: qs)
inductive PT : List S70 → List Int → Prop
 | nil : PT [] []
 | cons (p : S70) (ps : List S70) (qs : List (List Int)) (T : List Int) (h : QL p.f1 qs) (t : PT ps T) : PT (p :: ps) (59 :: (bytesOf p.f0 ++ 61 :: (jn [44] qs ++ T)))
theorem pre_all {st A T : List Int} (h : ∀ c ∈ A, c ∉ st) (hT : ∀ c, T.head? = some c → c ∈ st) : pre st (A ++ T) = A ∧ suf st (A ++ T) = T := by
 induction A with
 | nil =>
  cases T with
  | nil => exact ⟨rfl, rfl⟩
  | cons c T =>
   have hc : st.contains c = true := List.contains_iff_mem.2 (hT c rfl)
   rw [List.nil_append, pre_cons, suf_cons, if_pos hc, if_pos hc]
   exact ⟨rfl, rfl⟩
 | cons a A ih =>
  obtain ⟨e1, e2⟩ := ih (fun c hc => h c (List.mem_cons_of_mem _ hc))
  have ha : ¬ st.contains a = true := fun h' => h a (List.mem_cons_self ..) (List.contains_iff_mem.1 h')
  rw [List.cons_append, pre_cons, suf_cons, if_neg ha, if_neg ha, e1, e2]
  exact ⟨rfl, rfl⟩
theorem next_Q {v q T : List Int} (h34 : (34 : Int) ∉ v) (hq : Q v q) (hT : ∀ c, T.head? = some c → c ∈ st3) : nextS (q ++ T) = some (v, T) := by
 rcases hq with rfl | ⟨rfl, hv⟩
 ·unfold nextS
  rw [List.cons_append, List.head?_cons, if_pos rfl, List.tail_cons, List.append_assoc]
  exact cutS_hit h34
 ·have h4 : ∀ c ∈ q, c ∉ st4 := by
   intro c hc hm
   have h3 := hv c hc
   unfold st3 at h3
   unfold st4 at hm
   simp only [List.mem_cons, List.not_mem_nil, or_false] at h3 hm
   rcases hm with h | h | h | h
   ·exact h3 (Or.inl h)
   ·exact h3 (Or.inr (Or.inl h))
   ·exact h3 (Or.inr (Or.inr h))
   ·exact h34 (h ▸ hc)
  have hT4 : ∀ c, T.head? = some c → c ∈ st4 := by
   intro c hc
   have := hT c hc
   unfold st3 at this
   unfold st4
   simp only [List.mem_cons, List.not_mem_nil, or_false] at this ⊢
   rcases this with h | h | h
   ·exact Or.inl h
   ·exact Or.inr (Or.inl h)
   ·exact Or.inr (Or.inr (Or.inl h))
  obtain ⟨e1, e2⟩ := pre_all h4 hT4
  have hn : ¬ (q ++ T).head? = some 34 := by
   cases q with
   | nil =>
    intro h
    have := hT 34 h
    revert this
    decide
   | cons c q =>
    intro h
    rw [List.cons_append, List.head?_cons, Option.some.injEq] at h
    exact h34 (h ▸ List.mem_cons_self ..)
  unfold nextS
  rw [if_neg hn, e1, e2]
theorem vals_back {R : List Int} (hR : ∀ c, R.head? = some c → c = 58 ∨ c = 59) : ∀ (vs : List ByteArray) (qs : List (List Int)), QL vs qs → vs ≠ [] → (∀ x ∈ vs, (34 : Int) ∉ bytesOf x) → ∀ (n : Nat) (acc : List ByteArray), (jn [44] qs ++ R).length < n →
  valsS n (jn [44] qs ++ R) acc = some (acc ++ vs, R) := by
 intro vs qs hq
 induction hq with
 | nil => intro h; exact absurd rfl h
 | cons v q vs qs h t ih =>
  intro _ hg n acc hn
  have hv := hg v (List.mem_cons_self ..)
  cases n with
  | zero => omega
  | succ n =>
   cases t with
   | nil =>
    show valsS (n + 1) (q ++ R) acc = _
    unfold valsS
    rw [next_Q hv h (by
     intro c hc
     unfold st3
     rcases hR c hc with rfl | rfl <;> simp)]
    dsimp only
    rw [if_neg (fun h' => by rcases hR _ h' with h'' | h'' <;> omega), strOf_bytes]
   | cons v' q' vs' qs' h' t' =>
    have e : jn [44] (q :: q' :: qs') ++ R = q ++ (44 :: (jn [44] (q' :: qs') ++ R)) := by
     show (q ++ ([44] ++ jn [44] (q' :: qs'))) ++ R = _
     simp
    rw [e] at hn ⊢
    unfold valsS
    rw [next_Q hv h (by
     intro c hc
     rw [List.head?_cons, Option.some.injEq] at hc
     subst hc
     unfold st3
     simp)]
    dsimp only
    rw [List.length_append, List.length_cons] at hn
    rw [List.head?_cons, if_pos rfl, List.tail_cons, ih (by simp) (fun x hx => hg x (List.mem_cons_of_mem _ hx)) n _ (by omega), strOf_bytes, List.append_assoc]
    rfl
theorem PT_head {ps : List S70} {T : List Int} (h : PT ps T) (v : List Int) : ∀ c, (T ++ 58 :: v).head? = some c → c = 58 ∨ c = 59 := by
 intro c hc
 cases h with
 | nil => left; rw [List.nil_append, List.head?_cons, Option.some.injEq] at hc; exact hc.symm
 | cons => right; rw [List.cons_append, List.head?_cons, Option.some.injEq] at hc; exact hc.symm
theorem chn_no {l : List Int} (h : l.all chn = true) (c : Int) (hc : chn c = false) : c ∉ l := fun hm => by
 rw [List.all_eq_true.1 h c hm] at hc
 cases hc
theorem pars_back (v : List Int) : ∀ (ps : List S70) (T : List Int), PT ps T → (∀ p ∈ ps, prS p = true) → ∀ (n : Nat) (acc : List S70), (T ++ 58 :: v).length < n →
  parsS n (T ++ 58 :: v) acc = some (acc ++ ps, 58 :: v) := by
 intro ps T h
 induction h with
 | nil =>
  intro _ n acc hn
  cases n with
  | zero => omega
  | succ n =>
   unfold parsS
   rw [List.nil_append, List.head?_cons, if_neg (by decide), List.append_nil]
 | cons p ps qs T h t ih =>
  intro hg n acc hn
  obtain ⟨p1, p2, p3⟩ := prS_iff.1 (hg p (List.mem_cons_self ..))
  cases n with
  | zero => omega
  | succ n =>
   have e : (59 :: (bytesOf p.f0 ++ 61 :: (jn [44] qs ++ T))) ++ 58 :: v = 59 :: (bytesOf p.f0 ++ 61 :: (jn [44] qs ++ (T ++ 58 :: v))) := by simp
   rw [e] at hn ⊢
   rw [List.length_cons, List.length_append, List.length_cons, List.length_append] at hn
   have hne : p.f1 ≠ [] := fun h' => by rw [h'] at p2; simp at p2
   unfold parsS
   rw [List.head?_cons, if_pos rfl, List.tail_cons, cutS_hit (chn_no (nmS_iff.1 p1).1 61 (by decide))]
   dsimp only
   rw [vals_back (PT_head t v) p.f1 qs h hne (fun x hx => (vlS_iff.1 (p3 x hx)).2) _ [] (Nat.lt_succ_self _)]
   dsimp only
   rw [List.nil_append, strOf_bytes, ih (fun q hq => hg q (List.mem_cons_of_mem _ hq)) n _ (by omega), List.append_assoc]
   rfl
theorem prs_back {n : ByteArray} {ps : List S70} {v : ByteArray} {T : List Int} (h : PT ps T) (hl : lnS n ps v = true) : prsS (bytesOf n ++ (T ++ 58 :: bytesOf v)) = some (n, ps, v) := by
 obtain ⟨l1, l2, l3⟩ := lnS_iff.1 hl
 obtain ⟨e1, e2⟩ := pre_all (st := [58, 59]) (A := bytesOf n) (T := T ++ 58 :: bytesOf v) (by
  intro c hc hm
  have hcc := List.all_eq_true.1 (nmS_iff.1 l1).1 c hc
  simp only [List.mem_cons, List.not_mem_nil, or_false] at hm
  rcases hm with rfl | rfl
  ·exact absurd hcc (by decide)
  ·exact absurd hcc (by decide)) (by
  intro c hc
  rcases PT_head h _ c hc with rfl | rfl <;> simp)
 unfold prsS
 rw [e1, e2, pars_back (bytesOf v) ps T h l3 _ [] (by have := @List.length_append Int (bytesOf n) (T ++ 58 :: bytesOf v); omega)]
 dsimp only
 rw [List.head?_cons, List.tail_cons, strOf_bytes, strOf_bytes, List.nil_append, if_pos ⟨rfl, hl⟩]
theorem Q_qv {v : List Int} : Q v (qv v) := by
 unfold qv
 split
 ·rename_i h
  refine Or.inr ⟨rfl, fun c hc hm => ?_⟩
  have e := pre_suf st3 v
  rw [h, List.append_nil] at e
  rw [← e] at hc
  have := takeWhile_imp hc
  rw [List.contains_iff_mem.2 hm] at this
  cases this
 ·exact Or.inl rfl
theorem QL_qv : ∀ vs : List ByteArray, QL vs (vs.map fun x => qv (bytesOf x))
 | [] => QL.nil
 | v :: vs => QL.cons v _ vs _ Q_qv (QL_qv vs)
theorem PT_parsT : ∀ ps : List S70, PT ps (parsT ps)
 | [] => PT.nil
 | p :: ps => by
  have := PT.cons p ps _ _ (QL_qv p.f1) (PT_parsT ps)
  have e : parsT (p :: ps) = 59 :: (bytesOf p.f0 ++ 61 :: (jn [44] (p.f1.map fun x => qv (bytesOf x)) ++ parsT ps)) := by
   show parT p ++ parsT ps = _
   unfold parT
   simp
  rw [e]
  exact this
theorem prs_txt {n : ByteArray} {ps : List S70} {v : ByteArray} (hl : lnS n ps v = true) : prsS (txtS n ps v) = some (n, ps, v) := prs_back (PT_parsT ps) hl
theorem keep_texts_L0 (xs ys : List ByteArray) (hx : xs.length ≤ 9223372036854775806) (he : xs.length = ys.length) : ∀ (d : Nat) (j : Int), d = xs.length - j.toNat → 0 ≤ j → j ≤ (xs.length : Int) →
  solsticekeep_Texts.L0 xs ys j = some (decide (xs.drop j.toNat = ys.drop j.toNat)) := by
 intro d
 induction d with
 | zero =>
  intro j hd h0 h1
  rw [solsticekeep_Texts.L0_eq, if_neg (by omega), drop_nil_ (by omega), drop_nil_ (by omega)]
  rfl
 | succ d ih =>
  intro j hd h0 h1
  have hlt : j < (xs.length : Int) := by omega
  rw [solsticekeep_Texts.L0_eq, if_pos hlt, if_pos h0, if_pos (by omega), wrap64_id (n := j + 1) (by omega) (by omega), ih (j + 1) (by omega) (by omega) (by omega), drop_cons_ ByteArray.empty h0 hlt, drop_cons_ ByteArray.empty h0 (l := ys) (by omega)]
  by_cases h : rdOf ByteArray.empty xs j = rdOf ByteArray.empty ys j
  ·rw [if_pos (toList_iff.2 h)]
   congr 1
   rw [decide_eq_decide, List.cons.injEq]
   exact ⟨fun h' => ⟨h, h'⟩, fun h' => h'.2⟩
  ·rw [if_neg (fun h' => h (toList_iff.1 h')), decide_eq_false (fun h' => h (List.cons.inj h').1)]
theorem keep_texts (xs ys : List ByteArray) (hx : xs.length ≤ 9223372036854775806) : solsticekeep_Texts.F xs ys = some (decide (xs = ys)) := by
 rw [solsticekeep_Texts.F_eq]
 by_cases h : xs.length = ys.length
 ·rw [if_pos (by omega), keep_texts_L0 xs ys hx h _ 0 rfl (by omega) (by omega)]
  rfl
 ·rw [if_neg (by omega), decide_eq_false (fun h' => h (by rw [h']))]
theorem S54_ext {p q : S70} : p = q ↔ p.f0 = q.f0 ∧ p.f1 = q.f1 := by
 cases p; cases q
 simp
instance : DecidableEq S70 := fun p q => decidable_of_iff (p.f0 = q.f0 ∧ p.f1 = q.f1) S54_ext.symm
theorem keep_line_L0 (n : ByteArray) (ps : List S70) (v n' : ByteArray) (qs : List S70) (v' : ByteArray) (hx : ps.length ≤ 9223372036854775806) (hf : ∀ p ∈ ps, p.f1.length ≤ 9223372036854775806) (he : ps.length = qs.length) : ∀ (d : Nat) (j : Int), d = ps.length - j.toNat → 0 ≤ j → j ≤ (ps.length : Int) →
  solsticekeep_Line.L0 j n ps v n' qs v' = some (decide (ps.drop j.toNat = qs.drop j.toNat)) := by
 intro d
 induction d with
 | zero =>
  intro j hd h0 h1
  rw [solsticekeep_Line.L0_eq, if_neg (by omega), drop_nil_ (by omega), drop_nil_ (by omega)]
  rfl
 | succ d ih =>
  intro j hd h0 h1
  have hlt : j < (ps.length : Int) := by omega
  have hfp := hf _ (rdOf_mem z70 h0 hlt)
  have e0 : rd_T70 ps j = rdOf z70 ps j := rfl
  have e1 : rd_T70 qs j = rdOf z70 qs j := rfl
  rw [solsticekeep_Line.L0_eq, if_pos hlt, if_pos h0, if_pos (by omega), wrap64_id (n := j + 1) (by omega) (by omega), ih (j + 1) (by omega) (by omega) (by omega), drop_cons_ z70 h0 hlt, drop_cons_ z70 h0 (l := qs) (by omega), e0, e1, keep_texts _ _ hfp, bind_some_]
  by_cases h : (rdOf z70 ps j).f0 = (rdOf z70 qs j).f0
  ·rw [if_pos (toList_iff.2 h)]
   by_cases h2 : (rdOf z70 ps j).f1 = (rdOf z70 qs j).f1
   ·rw [if_pos (decide_eq_true h2)]
    congr 1
    rw [decide_eq_decide, List.cons.injEq]
    exact ⟨fun h' => ⟨S54_ext.2 ⟨h, h2⟩, h'⟩, fun h' => h'.2⟩
   ·rw [if_neg (by simpa using h2), decide_eq_false (fun h' => h2 (S54_ext.1 (List.cons.inj h').1).2)]
  ·rw [if_neg (fun h' => h (toList_iff.1 h')), decide_eq_false (fun h' => h (S54_ext.1 (List.cons.inj h').1).1)]
theorem keep_line (n : ByteArray) (ps : List S70) (v n' : ByteArray) (qs : List S70) (v' : ByteArray) (hx : ps.length ≤ 9223372036854775806) (hf : ∀ p ∈ ps, p.f1.length ≤ 9223372036854775806) : solsticekeep_Line.F n ps v n' qs v' = some (decide (n = n' ∧ v = v' ∧ ps = qs)) := by
 have stop : solsticekeep_Line.J0 true n ps v n' qs v' = some false := by rw [solsticekeep_Line.J0_eq, if_pos rfl]
 rw [solsticekeep_Line.F_eq, stop]
 by_cases h1 : n = n'
 ·rw [if_pos (toList_iff.2 h1)]
  by_cases h2 : v = v'
  ·rw [if_pos (toList_iff.2 h2), solsticekeep_Line.J0_eq]
   by_cases h3 : ps.length = qs.length
   ·rw [if_neg (by simp [h3]), keep_line_L0 n ps v n' qs v' hx hf h3 _ 0 rfl (by omega) (by omega)]
    congr 1
    rw [decide_eq_decide]
    exact ⟨fun h => ⟨h1, h2, h⟩, fun h => h.2.2⟩
   ·rw [if_pos (by simp; omega), decide_eq_false (fun h => h3 (by rw [h.2.2]))]
  ·rw [if_neg (fun h => h2 (toList_iff.1 h)), decide_eq_false (fun h => h2 h.2.1)]
 ·rw [if_neg (fun h => h1 (toList_iff.1 h)), decide_eq_false (fun h => h1 h.1)]
theorem heavy_L1 (n : ByteArray) (ps : List S70) (v : ByteArray) (i : Int) (h0 : 0 ≤ i) (h1 : i < (ps.length : Int)) (hl : (rdOf z70 ps i).f1.length ≤ 20) : ∀ (d : Nat) (j : Int), d = (rdOf z70 ps i).f1.length - j.toNat → 0 ≤ j → j ≤ ((rdOf z70 ps i).f1.length : Int) →
  (solsticelaw18_Heavy.L1 i j n ps v = some true) ∨ (solsticelaw18_Heavy.L1 i j n ps v = solsticelaw18_Heavy.L0 (wrap64 (i + 1)) n ps v ∧ ∀ x ∈ (rdOf z70 ps i).f1.drop j.toNat, x.size ≤ 200) := by
 intro d
 induction d with
 | zero =>
  intro j hd g0 g1
  have e0 : rd_T70 ps i = rdOf z70 ps i := rfl
  right
  rw [solsticelaw18_Heavy.L1_eq, if_pos h0, if_pos h1, e0, if_neg (by omega), drop_nil_ (by omega)]
  exact ⟨rfl, by simp⟩
 | succ d ih =>
  intro j hd g0 g1
  have e0 : rd_T70 ps i = rdOf z70 ps i := rfl
  have hlt : j < ((rdOf z70 ps i).f1.length : Int) := by omega
  rw [solsticelaw18_Heavy.L1_eq, if_pos h0, if_pos h1, e0, if_pos hlt, if_pos g0, wrap64_id (n := j + 1) (by omega) (by omega)]
  by_cases h : ((rdOf ByteArray.empty (rdOf z70 ps i).f1 j).size : Int) > 200
  ·left
   rw [if_pos h]
  ·rw [if_neg h]
   rcases ih (j + 1) (by omega) (by omega) (by omega) with h' | ⟨h', h2⟩
   ·exact Or.inl h'
   ·refine Or.inr ⟨h', ?_⟩
    rw [drop_cons_ ByteArray.empty g0 hlt]
    intro x hx
    rcases List.mem_cons.1 hx with rfl | hx
    ·omega
    ·exact h2 x hx
theorem heavy_L0 (n : ByteArray) (ps : List S70) (v : ByteArray) (hl : ps.length ≤ 20) : ∀ (d : Nat) (i : Int), d = ps.length - i.toNat → 0 ≤ i → i ≤ (ps.length : Int) →
  (solsticelaw18_Heavy.L0 i n ps v = some true) ∨ (solsticelaw18_Heavy.L0 i n ps v = some false ∧ ∀ p ∈ ps.drop i.toNat, LightP p) := by
 intro d
 induction d with
 | zero =>
  intro i hd h0 h1
  right
  rw [solsticelaw18_Heavy.L0_eq, if_neg (by omega), drop_nil_ (by omega)]
  exact ⟨rfl, by simp⟩
 | succ d ih =>
  intro i hd h0 h1
  have hlt : i < (ps.length : Int) := by omega
  have e0 : rd_T70 ps i = rdOf z70 ps i := rfl
  have stop : solsticelaw18_Heavy.J2 i true n ps v = some true := by rw [solsticelaw18_Heavy.J2_eq, if_pos rfl]
  rw [solsticelaw18_Heavy.L0_eq, if_pos hlt, if_pos h0, e0, stop]
  by_cases h : ((rdOf z70 ps i).f0.size : Int) > 200
  ·left
   rw [if_pos h]
  ·rw [if_neg h]
   by_cases h2 : ((rdOf z70 ps i).f1.length : Int) > 20
   ·left
    rw [decide_eq_true h2, stop]
   ·rw [decide_eq_false h2, solsticelaw18_Heavy.J2_eq, if_neg (by simp)]
    rcases heavy_L1 n ps v i h0 hlt (by omega) _ 0 rfl (by omega) (by omega) with h' | ⟨h', h3⟩
    ·exact Or.inl h'
    ·rw [h', wrap64_id (n := i + 1) (by omega) (by omega)]
     rcases ih (i + 1) (by omega) (by omega) (by omega) with g | ⟨g, g2⟩
     ·exact Or.inl g
     ·refine Or.inr ⟨g, ?_⟩
      rw [drop_cons_ z70 h0 hlt]
      intro p hp
      rcases List.mem_cons.1 hp with rfl | hp
      ·exact ⟨by omega, by omega, h3⟩
      ·exact g2 p hp
theorem Heavy_eq (n : ByteArray) (ps : List S70) (v : ByteArray) : solsticelaw18_Heavy.F n ps v = some true ∨ (solsticelaw18_Heavy.F n ps v = some false ∧ Light n ps v) := by
 have stop : solsticelaw18_Heavy.J0 true n ps v = some true := by rw [solsticelaw18_Heavy.J0_eq, if_pos rfl]
 rw [solsticelaw18_Heavy.F_eq, stop]
 by_cases h1 : (n.size : Int) > 200
 ·left; rw [if_pos h1]
 ·rw [if_neg h1]
  by_cases h2 : (v.size : Int) > 500
  ·left; rw [if_pos h2]
  ·rw [if_neg h2]
   by_cases h3 : (ps.length : Int) > 20
   ·left; rw [decide_eq_true h3, stop]
   ·rw [decide_eq_false h3, solsticelaw18_Heavy.J0_eq, if_neg (by simp)]
    rcases heavy_L0 n ps v (by omega) _ 0 rfl (by omega) (by omega) with h | ⟨h, h'⟩
    ·exact Or.inl h
    ·exact Or.inr ⟨h, by omega, by omega, by omega, h'⟩
end Go.Proofs.YtdgeokpbedllaaaDoor.Base
