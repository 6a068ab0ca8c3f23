/- The law LineQuotes over numbers and lists: for every line and two whole numbers the law's printed function answers true. -/
import Derived.Test.YtookjnpmbenheaaLinR
import Derived.Test.YtookjnpmbenheaaELinx11
namespace Go.Proofs.Ytookjnpmbenheaa.Pure
open Go.RowKit Go.Proofs.Ytookjnpmbenheaa.PLin Go.Proofs.YtookjnpmbenheaaW.PrintWords Go.Proofs.YtookjnpmbenheaaW.PrintLast Go.Proofs.YtookjnpmbenheaaW.PrintMore Go.Proofs.Ytookjnpmbenheaa.Base
set_option linter.unusedVariables false
set_option linter.unusedSimpArgs false

theorem QL_snoc {vs : List ByteArray} {qs : List (List Int)} {v : ByteArray} {q : List Int} (h : QL vs qs) (hq : Q (bytesOf v) q) : QL (vs ++ [v]) (qs ++ [q]) := by
  induction h with
  | nil => exact QL.cons _ _ _ _ hq QL.nil
  | cons v' q' vs qs h t ih => exact QL.cons _ _ _ _ h ih
theorem QL_len {vs : List ByteArray} {qs : List (List Int)} (h : QL vs qs) : vs.length = qs.length := by
  induction h with
  | nil => rfl
  | cons v' q' vs qs h t ih => rw [List.length_cons, List.length_cons, ih]
theorem PT_snoc {ps : List S54} {T : List Int} {p : S54} {qs : List (List Int)} (h : PT ps T) (hq : QL p.f1 qs) : PT (ps ++ [p]) (T ++ 59 :: (bytesOf p.f0 ++ 61 :: jn [44] qs)) := by
  induction h with
  | nil =>
    have := PT.cons p [] qs [] hq PT.nil
    rw [List.append_nil] at this
    exact this
  | cons p' ps' qs' T' h t ih =>
    have := PT.cons p' (ps' ++ [p]) qs' _ h ih
    rw [List.cons_append]
    have e : (59 :: (bytesOf p'.f0 ++ 61 :: (jn [44] qs' ++ T'))) ++ 59 :: (bytesOf p.f0 ++ 61 :: jn [44] qs) = 59 :: (bytesOf p'.f0 ++ 61 :: (jn [44] qs' ++ (T' ++ 59 :: (bytesOf p.f0 ++ 61 :: jn [44] qs)))) := by simp
    rw [e]
    exact this
theorem take_snoc {α : Type} (d : α) {l : List α} {i : Int} (h0 : 0 ≤ i) (h1 : i < (l.length : Int)) : l.take (i + 1).toNat = l.take i.toNat ++ [rdOf d l i] := by
  have hl : i.toNat < l.length := by omega
  rw [show (i + 1).toNat = i.toNat + 1 by omega, List.take_add_one, List.getElem?_eq_getElem hl]
  unfold rdOf
  rw [List.getD_eq_getElem?_getD, List.getElem?_eq_getElem hl]
  rfl
/-- Has a value a sign that asks for quotes? -/
def askq (l : List Int) : Bool := l.any fun c => decide (c = 58) || (decide (c = 59) || decide (c = 44))
theorem askq_no {l : List Int} (h : askq l = false) : ∀ c ∈ l, c ∉ st3 := fun c hc hm => by
  unfold st3 at hm
  simp only [List.mem_cons, List.not_mem_nil, or_false] at hm
  have : askq l = true := by
    unfold askq
    rw [List.any_eq_true]
    refine ⟨c, hc, ?_⟩
    simp only [Bool.or_eq_true, decide_eq_true_eq]
    exact hm
  rw [this] at h
  cases h
theorem quotes_L2 (x1 x2 : Int) (t : ByteArray) (i j : Int) (v : ByteArray) (n : ByteArray) (ps : List S54) (w : ByteArray) (hs : v.size ≤ 200) : ∀ (d : Nat) (k : Int) (f : Bool), d = (v.size : Int).toNat - k.toNat → 0 ≤ k → k ≤ (v.size : Int) →
    solsticelaw18_LineQuotes.L2 x1 x2 t i j v f k n ps w = solsticelaw18_LineQuotes.L2 x1 x2 t i j v (f || askq (rest v k)) (v.size : Int) n ps w := by
  intro d
  induction d with
  | zero =>
    intro k f hd h0 h1
    have : k = (v.size : Int) := by omega
    subst this
    rw [rest_nil (by omega)]
    show _ = solsticelaw18_LineQuotes.L2 x1 x2 t i j v (f || false) (v.size : Int) n ps w
    rw [Bool.or_false]
  | succ d ih =>
    intro k f hd h0 h1
    have hlt : k < (v.size : Int) := by omega
    have e : ∀ c l, askq (c :: l) = ((decide (c = 58) || (decide (c = 59) || decide (c = 44))) || askq l) := fun c l => List.any_cons
    rw [solsticelaw18_LineQuotes.L2_eq, if_pos hlt, wrap64_id (n := k + 1) (by omega) (by omega), rest_cons h0 hlt, e, ih (k + 1) true (by omega) (by omega) (by omega), ih (k + 1) (bt v k == 44) (by omega) (by omega) (by omega), Bool.true_or]
    cases f with
    | true => rw [if_pos rfl, Bool.true_or]
    | false =>
      rw [if_neg (by simp), if_pos h0, Bool.false_or]
      by_cases c1 : bt v k = 58
      · rw [if_pos c1, decide_eq_true c1, Bool.true_or, Bool.true_or]
      · rw [if_neg c1, decide_eq_false c1, Bool.false_or]
        by_cases c2 : bt v k = 59
        · rw [if_pos c2, decide_eq_true c2, Bool.true_or, Bool.true_or]
        · rw [if_neg c2, decide_eq_false c2, Bool.false_or]
          have e44 : (bt v k == 44) = decide (bt v k = 44) := by
            rw [Bool.eq_iff_iff, beq_iff_eq, decide_eq_true_eq]
          rw [e44]
theorem quotes_val (x1 x2 : Int) (A : List Int) (i j : Int) (v : ByteArray) (n : ByteArray) (ps : List S54) (w : ByteArray) (hs : v.size ≤ 200) (hA : A.length ≤ 1000000) (hj : 0 ≤ j ∧ j ≤ 100) (f : Bool) :
    ∃ q, Q (bytesOf v) q ∧ q.length ≤ 202 ∧ solsticelaw18_LineQuotes.L2 x1 x2 (strOfNums A) i j v f 0 n ps w = solsticelaw18_LineQuotes.L1 x1 x2 (strOfNums (A ++ (if j > 0 then 44 :: q else q))) i (j + 1) n ps w := by
  have hz := size_len v
  have e44 : (⟨#[44]⟩ : ByteArray) = strOfNums [44] := rfl
  have e34 : (⟨#[34]⟩ : ByteArray) = strOfNums [34] := rfl
  have hq : ((⟨#[34]⟩ : ByteArray) ++ v) ++ (⟨#[34]⟩ : ByteArray) = strOfNums (34 :: (bytesOf v ++ [34])) := by
    rw [e34]
    conv => lhs; rw [← strOf_bytes v]
    rw [strOf_append, strOf_append]
    rfl
  have s1 : ((⟨#[34]⟩ : ByteArray) ++ v).size = 1 + v.size := by rw [ByteArray.size_append]; rfl
  have s2 : (strOfNums A ++ (⟨#[44]⟩ : ByteArray)).size = A.length + 1 := by rw [ByteArray.size_append, size_strOf]; rfl
  have s3 : (strOfNums (34 :: (bytesOf v ++ [34]))).size = v.size + 2 := by rw [size_strOf, List.length_cons, List.length_append, List.length_singleton]; omega
  rw [quotes_L2 x1 x2 _ i j v n ps w hs _ 0 f rfl (by omega) (by omega), rest_zero, solsticelaw18_LineQuotes.L2_eq, if_neg (by omega), wrap64_id (n := j + 1) (by omega) (by omega), hq]
  cases hf : f || askq (bytesOf v) with
  | true =>
    refine ⟨34 :: (bytesOf v ++ [34]), Or.inl rfl, by rw [List.length_cons, List.length_append, List.length_singleton]; omega, ?_⟩
    by_cases h : j > 0
    · rw [if_pos h, if_pos (by rw [size_strOf]; omega), if_pos rfl, if_pos (by omega), if_pos (by omega), if_pos (by rw [s2, s3]; omega), if_pos h, e44, strOf_append, strOf_append, List.append_assoc]
      rfl
    · rw [if_neg h, if_pos rfl, if_pos (by omega), if_pos (by omega), if_pos (by rw [size_strOf, s3]; omega), if_neg h, strOf_append]
  | false =>
    rw [Bool.or_eq_false_iff] at hf
    refine ⟨bytesOf v, Or.inr ⟨rfl, askq_no hf.2⟩, by omega, ?_⟩
    have ev : strOfNums A ++ v = strOfNums (A ++ bytesOf v) := by
      conv => lhs; rw [← strOf_bytes v]
      rw [strOf_append]
    have ev2 : strOfNums (A ++ [44]) ++ v = strOfNums (A ++ 44 :: bytesOf v) := by
      conv => lhs; rw [← strOf_bytes v]
      rw [strOf_append, List.append_assoc]
      rfl
    by_cases h : j > 0
    · rw [if_pos h, if_pos (by rw [size_strOf]; omega), if_neg (by simp), if_pos (by rw [s2]; omega), if_pos h, e44, strOf_append, ev2]
    · rw [if_neg h, if_neg (by simp), if_pos (by rw [size_strOf]; omega), if_neg h, ev]
theorem quotes_L1 (x1 x2 : Int) (A : List Int) (i : Int) (n : ByteArray) (ps : List S54) (w : ByteArray) (h0 : 0 ≤ i) (h1 : i < (ps.length : Int)) (hl : LightP (rdOf z54 ps i)) (hA : A.length ≤ 900000) : ∀ (d : Nat) (j : Int) (qs : List (List Int)), d = ((rdOf z54 ps i).f1.length : Int).toNat - j.toNat → 0 ≤ j → j ≤ ((rdOf z54 ps i).f1.length : Int) → QL ((rdOf z54 ps i).f1.take j.toNat) qs → ((jn [44] qs).length : Int) ≤ j * 203 →
    ∃ qs', QL (rdOf z54 ps i).f1 qs' ∧ (jn [44] qs').length ≤ 20 * 203 ∧ solsticelaw18_LineQuotes.L1 x1 x2 (strOfNums (A ++ jn [44] qs)) i j n ps w = solsticelaw18_LineQuotes.L0 x1 x2 (strOfNums (A ++ jn [44] qs')) (wrap64 (i + 1)) n ps w := by
  have e0 : rd_T54 ps i = rdOf z54 ps i := rfl
  obtain ⟨_, l1, l2⟩ := hl
  intro d
  induction d with
  | zero =>
    intro j qs hd g0 g1 hq hb
    refine ⟨qs, ?_, by omega, ?_⟩
    · rw [List.take_of_length_le (by omega)] at hq
      exact hq
    · rw [solsticelaw18_LineQuotes.L1_eq, if_pos h0, if_pos h1, e0, if_neg (by omega)]
  | succ d ih =>
    intro j qs hd g0 g1 hq hb
    have hlt : j < ((rdOf z54 ps i).f1.length : Int) := by omega
    have hv := l2 _ (rdOf_mem ByteArray.empty g0 hlt)
    have hlen := QL_len hq
    rw [List.length_take] at hlen
    rw [solsticelaw18_LineQuotes.L1_eq, if_pos h0, if_pos h1, e0, if_pos hlt, if_pos g0, solsticelaw18_LineQuotes.J3_eq, solsticelaw18_LineQuotes.J3_eq]
    have step : ∀ f : Bool, ∃ qs', QL (rdOf z54 ps i).f1 qs' ∧ (jn [44] qs').length ≤ 20 * 203 ∧ solsticelaw18_LineQuotes.L2 x1 x2 (strOfNums (A ++ jn [44] qs)) i j (rdOf ByteArray.empty (rdOf z54 ps i).f1 j) f 0 n ps w = solsticelaw18_LineQuotes.L0 x1 x2 (strOfNums (A ++ jn [44] qs')) (wrap64 (i + 1)) n ps w := by
      intro f
      obtain ⟨q, q1, q2, q3⟩ := quotes_val x1 x2 (A ++ jn [44] qs) i j _ n ps w hv (by rw [List.length_append]; omega) (by omega) f
      have hjn : jn [44] (qs ++ [q]) = jn [44] qs ++ (if j > 0 then 44 :: q else q) := by
        rw [jn_snoc]
        by_cases h : j > 0
        · rw [if_pos h, if_neg (fun h' => by rw [h', List.length_nil] at hlen; omega), List.append_assoc]
          rfl
        · rw [if_neg h]
          have : qs = [] := List.eq_nil_of_length_eq_zero (by omega)
          rw [if_pos this, this]
          rfl
      rw [q3, List.append_assoc, ← hjn]
      refine ih (j + 1) (qs ++ [q]) (by omega) (by omega) (by omega) ?_ ?_
      · rw [take_snoc ByteArray.empty g0 hlt]
        exact QL_snoc hq q1
      · rw [hjn, List.length_append]
        split
        · rw [List.length_cons]; omega
        · omega
    split
    · exact step _
    · exact step _
theorem quotes_L0 (x1 x2 : Int) (n : ByteArray) (ps : List S54) (w : ByteArray) (hL : Light n ps w) (hr : lnS n ps w = true) : ∀ (d : Nat) (i : Int) (T : List Int), d = (ps.length : Int).toNat - i.toNat → 0 ≤ i → i ≤ (ps.length : Int) → PT (ps.take i.toNat) T → (T.length : Int) ≤ i * 5000 → Bytes T →
    solsticelaw18_LineQuotes.L0 x1 x2 (strOfNums (bytesOf n ++ T)) i n ps w = some true := by
  obtain ⟨k1, k2, k3, k4⟩ := hL
  have hn := bytesOf_length n
  have hw := bytesOf_length w
  intro d
  induction d with
  | zero =>
    intro i T hd h0 h1 hT hb hB
    rw [List.take_of_length_le (by omega)] at hT
    have e58 : (⟨#[58]⟩ : ByteArray) = strOfNums [58] := rfl
    have s1 : (strOfNums (bytesOf n ++ T) ++ (⟨#[58]⟩ : ByteArray)).size = (bytesOf n).length + T.length + 1 := by rw [ByteArray.size_append, size_strOf, List.length_append]; rfl
    have et : (strOfNums (bytesOf n ++ T) ++ (⟨#[58]⟩ : ByteArray)) ++ w = strOfNums (bytesOf n ++ (T ++ 58 :: bytesOf w)) := by
      conv => lhs; rw [← strOf_bytes w]
      rw [e58, strOf_append, strOf_append]
      simp
    have hp := Parse_eq (strOfNums (bytesOf n ++ (T ++ 58 :: bytesOf w))) (by rw [size_strOf]; simp only [List.length_append, List.length_cons]; omega)
    rw [bytes_strOf (Bytes.app (bytes_of n) (Bytes.app hB (Bytes.cons (by omega) (by omega) (bytes_of w)))), prs_back hT hr] at hp
    rw [solsticelaw18_LineQuotes.L0_eq, if_neg (by omega), if_pos (by rw [size_strOf, List.length_append]; omega), if_pos (by rw [s1]; omega), et, hp, bind_some_]
    unfold encL
    dsimp only
    rw [if_pos rfl, keep_line n ps w n ps w (by omega) (fun p hp => by have := (k4 p hp).2.1; omega), bind_some_, if_pos (by simp), wakes18, bind_some_]
  | succ d ih =>
    intro i T hd h0 h1 hT hb hB
    have hlt : i < (ps.length : Int) := by omega
    have hlp := k4 _ (rdOf_mem z54 h0 hlt)
    have e0 : rd_T54 ps i = rdOf z54 ps i := rfl
    have hp0 := bytesOf_length (rdOf z54 ps i).f0
    have hp1 := hlp.1
    have e59 : (⟨#[59]⟩ : ByteArray) = strOfNums [59] := rfl
    have e61 : (⟨#[61]⟩ : ByteArray) = strOfNums [61] := rfl
    have s1 : (strOfNums (bytesOf n ++ T) ++ (⟨#[59]⟩ : ByteArray)).size = (bytesOf n).length + T.length + 1 := by rw [ByteArray.size_append, size_strOf, List.length_append]; rfl
    have s2 : ((strOfNums (bytesOf n ++ T) ++ (⟨#[59]⟩ : ByteArray)) ++ (rdOf z54 ps i).f0).size = (bytesOf n).length + T.length + 1 + (rdOf z54 ps i).f0.size := by rw [ByteArray.size_append, s1]
    have et : ((strOfNums (bytesOf n ++ T) ++ (⟨#[59]⟩ : ByteArray)) ++ (rdOf z54 ps i).f0) ++ (⟨#[61]⟩ : ByteArray) = strOfNums ((bytesOf n ++ (T ++ 59 :: (bytesOf (rdOf z54 ps i).f0 ++ [61]))) ++ jn [44] []) := by
      have e : ((strOfNums (bytesOf n ++ T) ++ (⟨#[59]⟩ : ByteArray)) ++ strOfNums (bytesOf (rdOf z54 ps i).f0)) ++ (⟨#[61]⟩ : ByteArray) = strOfNums ((bytesOf n ++ (T ++ 59 :: (bytesOf (rdOf z54 ps i).f0 ++ [61]))) ++ jn [44] []) := by
        rw [e59, e61, strOf_append, strOf_append, strOf_append]
        simp [jn]
      rw [strOf_bytes] at e
      exact e
    obtain ⟨qs, q1, q2, q3⟩ := quotes_L1 x1 x2 (bytesOf n ++ (T ++ 59 :: (bytesOf (rdOf z54 ps i).f0 ++ [61]))) i n ps w h0 hlt hlp (by simp only [List.length_append, List.length_cons, List.length_nil]; omega) _ 0 [] rfl (by omega) (by omega) QL.nil (by simp [jn])
    rw [solsticelaw18_LineQuotes.L0_eq, if_pos hlt, if_pos (by rw [size_strOf, List.length_append]; omega), if_pos h0, e0, if_pos (by rw [s1]; omega), if_pos (by rw [s2]; omega), et, q3, wrap64_id (n := i + 1) (by omega) (by omega)]
    have eT : (bytesOf n ++ (T ++ 59 :: (bytesOf (rdOf z54 ps i).f0 ++ [61]))) ++ jn [44] qs = bytesOf n ++ (T ++ 59 :: (bytesOf (rdOf z54 ps i).f0 ++ 61 :: jn [44] qs)) := by simp
    rw [eT]
    refine ih (i + 1) _ (by omega) (by omega) (by omega) ?_ ?_ ?_
    · rw [take_snoc z54 h0 hlt]
      exact PT_snoc hT q1
    · simp only [List.length_append, List.length_cons]
      omega
    · have hQ : ∀ {vs : List ByteArray} {qs : List (List Int)}, QL vs qs → ∀ x ∈ qs, Bytes x := by
        intro vs qs h
        induction h with
        | nil => intro x hx; cases hx
        | cons v' q' vs qs h t ih' =>
          intro x hx
          rcases List.mem_cons.1 hx with rfl | hx
          · rcases h with rfl | ⟨rfl, _⟩
            · exact Bytes.cons (by omega) (by omega) (Bytes.app (bytes_of v') (Bytes.cons (by omega) (by omega) Bytes.nil))
            · exact bytes_of v'
          · exact ih' x hx
      exact Bytes.app hB (Bytes.cons (by omega) (by omega) (Bytes.app (bytes_of _) (Bytes.cons (by omega) (by omega) (jn_bytes (Bytes.cons (by omega) (by omega) Bytes.nil) _ (hQ q1)))))
theorem u64_small {m : Int} (h : 0 ≤ m) (h2 : m ≤ 1000000000) : IntKind.u64.wrap m = m := by
  unfold IntKind.wrap
  simp [IntKind.signed, IntKind.bits]
  omega
theorem u64_mod_ (a : Int) (m : Int) (h : 0 < m) (hm : m ≤ 1000000000) : 0 ≤ wrap64 (Int.tmod (IntKind.u64.wrap a) m) ∧ wrap64 (Int.tmod (IntKind.u64.wrap a) m) < m := by
  have h2 : 0 ≤ IntKind.u64.wrap a := by unfold IntKind.wrap; simp [IntKind.signed, IntKind.bits]; omega
  have h3 := Int.emod_nonneg (IntKind.u64.wrap a) (show m ≠ 0 by omega)
  have h4 := Int.emod_lt_of_pos (IntKind.u64.wrap a) h
  rw [Int.tmod_eq_emod_of_nonneg h2, wrap64_id (by omega) (by omega)]
  exact ⟨h3, h4⟩
theorem LineQuotes_F (n : ByteArray) (ps : List S54) (w : ByteArray) (a b : Int) : solsticelaw18_LineQuotes.F n ps w a b = some true := by
  have stop : solsticelaw18_LineQuotes.J0 a b true n ps w = some true := by rw [solsticelaw18_LineQuotes.J0_eq, if_pos rfl]
  rw [solsticelaw18_LineQuotes.F_eq, stop]
  rcases Heavy_eq n ps w with h1 | ⟨h1, g1⟩
  · rw [h1, bind_some_, if_pos rfl]
  · rw [h1, bind_some_, if_neg (by simp)]
    obtain ⟨k1, k2, k3, k4⟩ := g1
    rw [refline_eq n ps w (by omega) (by omega) (fun p hp => light_fit (k4 p hp)) (by omega), bind_some_]
    by_cases hr : lnS n ps w = true
    · rw [if_pos hr]
      by_cases h0 : ps.length = 0
      · have hb : ((ps.length : Int) == 0) = true := by rw [beq_iff_eq]; omega
        rw [hb, stop]
      · have hb : ((ps.length : Int) == 0) = false := by rw [beq_eq_false_iff_ne]; omega
        obtain ⟨j0, j1⟩ := u64_mod_ a (ps.length : Int) (by omega) (by omega)
        rw [hb, solsticelaw18_LineQuotes.J0_eq, if_neg (by simp), u64_small (m := (ps.length : Int)) (by omega) (by omega), if_neg (by omega), if_pos j0, if_pos j1]
        generalize wrap64 (Int.tmod (IntKind.u64.wrap a) (ps.length : Int)) = x1 at *
        have e0 : rd_T54 ps x1 = rdOf z54 ps x1 := rfl
        have hm := rdOf_mem z54 j0 j1
        have hl := k4 _ hm
        have hp := (prS_iff.1 ((lnS_iff.1 hr).2.2 _ hm)).2.1
        have hl1 := hl.2.1
        rw [e0, u64_small (m := ((rdOf z54 ps x1).f1.length : Int)) (by omega) (by omega), if_neg (by omega)]
        have := quotes_L0 x1 (wrap64 (Int.tmod (IntKind.u64.wrap b) ((rdOf z54 ps x1).f1.length : Int))) n ps w ⟨k1, k2, k3, k4⟩ hr _ 0 [] rfl (by omega) (by omega) PT.nil (by simp) Bytes.nil
        rw [List.append_nil, strOf_bytes] at this
        exact this
    · rw [if_neg hr]
theorem LineQuotes (n : ByteArray) (ps : List S54) (w : ByteArray) (a b : Int) (wa : (Lit.int .i64 a).wf = true) (wb : (Lit.int .i64 b).wf = true) : ∃ k, solsticelaw18_LineQuotes.f k n ps w a b = some true := lim_some (LineQuotes_F _ _ _ _ _)
end Go.Proofs.Ytookjnpmbenheaa.Pure
