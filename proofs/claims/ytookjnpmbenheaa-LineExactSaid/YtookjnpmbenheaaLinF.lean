-- A text of the kit's tools for this claim, its remarks left out.
import Derived.Test.YtookjnpmbenheaaLinR
import Derived.Test.YtookjnpmbenheaaELinx7
import Derived.Test.YtookjnpmbenheaaELinx11
import Derived.Test.YtookjnpmbenheaaELinx2
import Derived.Test.YtookjnpmbenheaaELinx12
namespace Go.Proofs.Ytookjnpmbenheaa.Base
open Go.RowKit Go.Proofs.Ytookjnpmbenheaa.PLin Go.Proofs.YtookjnpmbenheaaW.PrintWords Go.Proofs.YtookjnpmbenheaaW.PrintLast Go.Proofs.YtookjnpmbenheaaW.PrintMore
set_option linter.unusedVariables false
set_option linter.unusedSimpArgs false
def sm (c : Int) : Int := if 65 ≤ c ∧ c ≤ 90 then c + 32 else c
theorem small_eq (c : Int) : line_small.f c = some (sm c) := by
 unfold line_small.f sm
 by_cases h1 : c ≥ 65
 ·rw [if_pos h1]
  by_cases h2 : c ≤ 90
  ·rw [if_pos h2, if_pos ⟨h1, h2⟩]
   congr 1
   omega
  ·rw [if_neg h2, if_neg (fun h => h2 h.2)]
 ·rw [if_neg h1, if_neg (fun h => h1 h.1)]
theorem refsmall_eq (c : Int) : solsticeref16_small.f c = some (sm c) := by
 unfold solsticeref16_small.f sm
 by_cases h1 : c ≥ 65
 ·rw [if_pos h1]
  by_cases h2 : c ≤ 90
  ·rw [if_pos h2, if_pos ⟨h1, h2⟩]
   congr 1
   omega
  ·rw [if_neg h2, if_neg (fun h => h2 h.2)]
 ·rw [if_neg h1, if_neg (fun h => h1 h.1)]
def alk (a b : ByteArray) : Bool := decide ((bytesOf a).map sm = (bytesOf b).map sm)
theorem alike_L0 (a b : ByteArray) (ha : a.size ≤ 1000000) (he : a.size = b.size) : ∀ (n : Nat) (i : Int), n = a.size - i.toNat → 0 ≤ i → i ≤ (a.size : Int) →
  line_Alike.L0 a b (a.size : Int) i = some (decide ((rest a i).map sm = (rest b i).map sm)) ∧ solsticeref16_Alike.L0 a b i = some (decide ((rest a i).map sm = (rest b i).map sm)) := by
 intro n
 induction n with
 | zero =>
  intro i hn h0 h1
  rw [line_Alike.L0_eq, solsticeref16_Alike.L0_eq, if_neg (by omega), if_neg (by omega), rest_nil (by omega), rest_nil (by omega)]
  exact ⟨rfl, rfl⟩
 | succ n ih =>
  intro i hn h0 h1
  have hlt : i < (a.size : Int) := by omega
  obtain ⟨e1, e2⟩ := ih (i + 1) (by omega) (by omega) (by omega)
  rw [line_Alike.L0_eq, solsticeref16_Alike.L0_eq, if_pos hlt, if_pos h0, if_pos hlt, if_pos hlt, if_pos h0, small_eq, bind_some_, refsmall_eq, bind_some_, if_pos (by omega), if_pos (by omega), small_eq, bind_some_, refsmall_eq, bind_some_, wrap64_id (n := i + 1) (by omega) (by omega), e1, e2, rest_cons h0 hlt, rest_cons (s := b) h0 (by omega), List.map_cons, List.map_cons]
  by_cases h : sm (bt a i) = sm (bt b i)
  ·rw [if_pos h]
   have e : decide ((rest a (i + 1)).map sm = (rest b (i + 1)).map sm) = decide (sm (bt a i) :: (rest a (i + 1)).map sm = sm (bt b i) :: (rest b (i + 1)).map sm) := by
    rw [decide_eq_decide, List.cons.injEq]
    exact ⟨fun h' => ⟨h, h'⟩, fun h' => h'.2⟩
   rw [e]
   exact ⟨rfl, rfl⟩
  ·rw [if_neg h, decide_eq_false (fun h' => h (List.cons.inj h').1)]
   exact ⟨rfl, rfl⟩
theorem alike_eq (a b : ByteArray) (ha : a.size ≤ 1000000) : line_Alike.F a b = some (alk a b) ∧ solsticeref16_Alike.F a b = some (alk a b) := by
 have za := size_len a; have zb := size_len b
 rw [line_Alike.F_eq, solsticeref16_Alike.F_eq]
 unfold alk
 by_cases h : a.size = b.size
 ·obtain ⟨e1, e2⟩ := alike_L0 a b ha h _ 0 rfl (by omega) (by omega)
  rw [if_pos (by omega), if_pos (by omega), e1, e2, rest_zero, rest_zero]
  exact ⟨rfl, rfl⟩
 ·rw [if_neg (by omega), if_neg (by omega), decide_eq_false (fun h' => by
   have := congrArg List.length h'
   rw [List.length_map, List.length_map] at this
   omega)]
  exact ⟨rfl, rfl⟩
def fnd (q : ByteArray) : List S54 → List ByteArray × Bool
 | [] => ([], false)
 | p :: ps => if alk p.f0 q = true then (p.f1, true) else fnd q ps
theorem refparam_L0 (q n : ByteArray) (ps : List S54) (v : ByteArray) (hp : ∀ p ∈ ps, LightP p) (hl : ps.length ≤ 1000) : ∀ (d : Nat) (i : Int), d = ps.length - i.toNat → 0 ≤ i → i ≤ (ps.length : Int) →
  solsticeref16_Param.L0 q i n ps v = some (fnd q (ps.drop i.toNat)) := by
 intro d
 induction d with
 | zero =>
  intro i hd h0 h1
  rw [solsticeref16_Param.L0_eq, if_neg (by omega), drop_nil_ (by omega)]
  rfl
 | succ d ih =>
  intro i hd h0 h1
  have hlt : i < (ps.length : Int) := by omega
  have e0 : rd_T54 ps i = rdOf z54 ps i := rfl
  have hq := (hp _ (rdOf_mem z54 h0 hlt)).1
  rw [solsticeref16_Param.L0_eq, if_pos hlt, if_pos h0, e0, (alike_eq _ q (by omega)).2, bind_some_, wrap64_id (n := i + 1) (by omega) (by omega), ih (i + 1) (by omega) (by omega) (by omega), drop_cons_ z54 h0 hlt]
  show _ = some (if alk (rdOf z54 ps i).f0 q = true then ((rdOf z54 ps i).f1, true) else fnd q (ps.drop (i + 1).toNat))
  split <;> rfl
theorem param_idx (q : ByteArray) (ps : List S54) (hp : ∀ p ∈ ps, LightP p) (hl : ps.length ≤ 1000) : ∀ (d : Nat) (i : Int), d = ps.length - i.toNat → 0 ≤ i → i ≤ (ps.length : Int) →
  ∃ t, api_Param_43c.L0 q ps (ps.length : Int) i = some t ∧ ((t = -1 ∧ fnd q (ps.drop i.toNat) = ([], false)) ∨ (0 ≤ t ∧ t < (ps.length : Int) ∧ fnd q (ps.drop i.toNat) = ((rdOf z54 ps t).f1, true))) := by
 intro d
 induction d with
 | zero =>
  intro i hd h0 h1
  rw [api_Param_43c.L0_eq, if_neg (by omega), drop_nil_ (by omega)]
  exact ⟨-1, rfl, Or.inl ⟨rfl, rfl⟩⟩
 | succ d ih =>
  intro i hd h0 h1
  have hlt : i < (ps.length : Int) := by omega
  have e0 : rd_T54 ps i = rdOf z54 ps i := rfl
  have hq := (hp _ (rdOf_mem z54 h0 hlt)).1
  have hf : fnd q (ps.drop i.toNat) = if alk (rdOf z54 ps i).f0 q = true then ((rdOf z54 ps i).f1, true) else fnd q (ps.drop (i + 1).toNat) := by
   rw [drop_cons_ z54 h0 hlt]
   rfl
  rw [api_Param_43c.L0_eq, if_pos hlt, if_pos h0, if_pos hlt, e0, line_Param_1.F_eq, (alike_eq _ q (by omega)).1, bind_some_, wrap64_id (n := i + 1) (by omega) (by omega), hf]
  by_cases h : alk (rdOf z54 ps i).f0 q = true
  ·rw [if_pos h, if_pos h]
   exact ⟨i, rfl, Or.inr ⟨h0, hlt, rfl⟩⟩
  ·rw [if_neg h, if_neg h]
   exact ih (i + 1) (by omega) (by omega) (by omega)
theorem param_eq_ (n : ByteArray) (ps : List S54) (v q : ByteArray) (hp : ∀ p ∈ ps, LightP p) (hl : ps.length ≤ 1000) : line_Param.F n ps v q = some (fnd q ps) ∧ solsticeref16_Param.F n ps v q = some (fnd q ps) := by
 constructor
 ·obtain ⟨t, e, h⟩ := param_idx q ps hp hl _ 0 rfl (by omega) (by omega)
  have hf : fnd q (ps.drop (0 : Int).toNat) = fnd q ps := rfl
  rw [hf] at h
  rw [line_Param.F_eq, api_Param_43c.F_eq, e, bind_some_]
  rcases h with ⟨rfl, h⟩ | ⟨h0, h1, h⟩
  ·rw [if_pos (by omega), h]
  ·have e0 : rd_T54 ps t = rdOf z54 ps t := rfl
   have := (hp _ (rdOf_mem z54 h0 h1)).2.1
   rw [if_neg (by omega), if_pos h1, e0, if_pos (by omega), h]
 ·rw [solsticeref16_Param.F_eq, refparam_L0 q n ps v hp hl _ 0 rfl (by omega) (by omega)]
  rfl
theorem twin_L0 (n : ByteArray) (ps : List S54) (v a c : ByteArray) (hp : ∀ p ∈ ps, LightP p) (hl : ps.length ≤ 1000) : ∀ (d : Nat) (i : Int) (b : List S54), d = ps.length - i.toNat → 0 ≤ i → i ≤ (ps.length : Int) → b.length ≤ i.toNat →
  solsticekeep_TwinLine.L0 i n ps v a b c = some (a, b ++ ps.drop i.toNat, c) := by
 intro d
 induction d with
 | zero =>
  intro i b hd h0 h1 hb
  rw [solsticekeep_TwinLine.L0_eq, if_neg (by omega), drop_nil_ (by omega), List.append_nil]
 | succ d ih =>
  intro i b hd h0 h1 hb
  have hlt : i < (ps.length : Int) := by omega
  have e0 : rd_T54 ps i = rdOf z54 ps i := rfl
  have hq := (hp _ (rdOf_mem z54 h0 hlt)).2.1
  have ht : solsticekeep_TwinTexts.f (rdOf z54 ps i).f1 = some (rdOf z54 ps i).f1 := by
   unfold solsticekeep_TwinTexts.f
   rw [if_pos (by rw [List.length_nil]; omega), List.nil_append]
  rw [solsticekeep_TwinLine.L0_eq, if_pos hlt, if_pos h0, e0, ht, bind_some_, if_pos (by omega), wrap64_id (n := i + 1) (by omega) (by omega), ih (i + 1) _ (by omega) (by omega) (by omega) (by rw [List.length_append, List.length_singleton]; omega), drop_cons_ z54 h0 hlt, List.append_assoc]
  rfl
theorem twin_eq (n : ByteArray) (ps : List S54) (v : ByteArray) (hp : ∀ p ∈ ps, LightP p) (hl : ps.length ≤ 1000) : solsticekeep_TwinLine.F n ps v = some (n, ps, v) := by
 rw [solsticekeep_TwinLine.F_eq, twin_L0 n ps v n v hp hl _ 0 [] rfl (by omega) (by omega) (by simp)]
 rfl
theorem take_snoc_ {α : Type} (d : α) {l : List α} {i : Int} (h0 : 0 ≤ i) (h1 : i < (l.length : Int)) : l.take (i + 1).toNat = l.take i.toNat ++ [rdOf d l i] := by
 have hl : i.toNat < l.length := by omega
 rw [show (i + 1).toNat = i.toNat + 1 by omega, List.take_add_one, List.getElem?_eq_getElem hl]
 unfold rdOf
 rw [List.getD_eq_getElem?_getD, List.getElem?_eq_getElem hl]
 rfl
def askq_ (l : List Int) : Bool := l.any fun c => decide (c = 58) || (decide (c = 59) || decide (c = 44))
theorem askq_suf (l : List Int) : askq_ l = true ↔ suf st3 l ≠ [] := by
 induction l with
 | nil => simp [askq_, suf]
 | cons c l ih =>
  have e : askq_ (c :: l) = ((decide (c = 58) || (decide (c = 59) || decide (c = 44))) || askq_ l) := List.any_cons
  rw [e, suf_cons, Bool.or_eq_true, ih]
  by_cases h : st3.contains c = true
  ·rw [if_pos h]
   have hm := List.contains_iff_mem.1 h
   unfold st3 at hm
   simp only [List.mem_cons, List.not_mem_nil, or_false] at hm
   refine ⟨fun _ => by simp, fun _ => Or.inl ?_⟩
   simp only [Bool.or_eq_true, decide_eq_true_eq]
   exact hm
  ·rw [if_neg h]
   refine ⟨fun h' => ?_, Or.inr⟩
   rcases h' with h' | h'
   ·exfalso
    apply h
    apply List.contains_iff_mem.2
    unfold st3
    simp only [List.mem_cons, List.not_mem_nil, or_false]
    simpa only [Bool.or_eq_true, decide_eq_true_eq] using h'
   ·exact h'
theorem rtext_L2 (t : ByteArray) (i j : Int) (v n : ByteArray) (ps : List S54) (w : ByteArray) (hs : v.size ≤ 200) : ∀ (d : Nat) (k : Int) (f : Bool), d = (v.size : Int).toNat - k.toNat → 0 ≤ k → k ≤ (v.size : Int) →
  solsticeref16_LineText.L2 t i j v f k n ps w = solsticeref16_LineText.L2 t i j v (f || askq_ (rest v k)) (v.size : Int) n ps w := by
 intro d
 induction d with
 | zero =>
  intro k f hd h0 h1
  have : k = (v.size : Int) := by omega
  subst this
  rw [rest_nil (by omega)]
  show _ = solsticeref16_LineText.L2 t i j v (f || false) (v.size : Int) n ps w
  rw [Bool.or_false]
 | succ d ih =>
  intro k f hd h0 h1
  have hlt : k < (v.size : Int) := by omega
  have e : ∀ c l, askq_ (c :: l) = ((decide (c = 58) || (decide (c = 59) || decide (c = 44))) || askq_ l) := fun c l => List.any_cons
  rw [solsticeref16_LineText.L2_eq, if_pos hlt, wrap64_id (n := k + 1) (by omega) (by omega), rest_cons h0 hlt, e, ih (k + 1) true (by omega) (by omega) (by omega), ih (k + 1) (bt v k == 44) (by omega) (by omega) (by omega), Bool.true_or]
  cases f with
  | true => rw [if_pos rfl, Bool.true_or]
  | false =>
   rw [if_neg (by simp), if_pos h0, Bool.false_or]
   by_cases c1 : bt v k = 58
   ·rw [if_pos c1, decide_eq_true c1, Bool.true_or, Bool.true_or]
   ·rw [if_neg c1, decide_eq_false c1, Bool.false_or]
    by_cases c2 : bt v k = 59
    ·rw [if_pos c2, decide_eq_true c2, Bool.true_or, Bool.true_or]
    ·rw [if_neg c2, decide_eq_false c2, Bool.false_or]
     have e44 : (bt v k == 44) = decide (bt v k = 44) := by
      rw [Bool.eq_iff_iff, beq_iff_eq, decide_eq_true_eq]
     rw [e44]
theorem rtext_val (A : List Int) (i j : Int) (v n : ByteArray) (ps : List S54) (w : ByteArray) (hs : v.size ≤ 200) (hA : A.length ≤ 1000000) (hj : 0 ≤ j ∧ j ≤ 100) :
  solsticeref16_LineText.L2 (strOfNums A) i j v false 0 n ps w = solsticeref16_LineText.L1 (strOfNums (A ++ qv (bytesOf v))) i (j + 1) n ps w := by
 have hz := size_len v
 have e34 : (⟨#[34]⟩ : ByteArray) = strOfNums [34] := rfl
 have hq : ((⟨#[34]⟩ : ByteArray) ++ v) ++ (⟨#[34]⟩ : ByteArray) = strOfNums (34 :: (bytesOf v ++ [34])) := by
  rw [e34]
  conv => lhs; rw [← strOf_bytes v]
  rw [strOf_append, strOf_append]
  rfl
 have s1 : ((⟨#[34]⟩ : ByteArray) ++ v).size = 1 + v.size := by rw [ByteArray.size_append]; rfl
 have s3 : (strOfNums (34 :: (bytesOf v ++ [34]))).size = v.size + 2 := by rw [size_strOf, List.length_cons, List.length_append, List.length_singleton]; omega
 rw [rtext_L2 _ i j v n ps w hs _ 0 false rfl (by omega) (by omega), rest_zero, Bool.false_or, solsticeref16_LineText.L2_eq, if_neg (by omega), wrap64_id (n := j + 1) (by omega) (by omega), hq]
 unfold qv
 by_cases h : askq_ (bytesOf v) = true
 ·rw [if_pos h, if_pos (by omega), if_pos (by omega), if_pos (by rw [size_strOf, s3]; omega), if_neg ((askq_suf _).1 h), strOf_append]
 ·have hn : suf st3 (bytesOf v) = [] := by
   rcases Classical.em (suf st3 (bytesOf v) = []) with h' | h'
   ·exact h'
   ·exact absurd ((askq_suf _).2 h') h
  have ev : strOfNums A ++ v = strOfNums (A ++ bytesOf v) := by
   conv => lhs; rw [← strOf_bytes v]
   rw [strOf_append]
  rw [if_neg h, if_pos (by rw [size_strOf]; omega), if_pos hn, ev]
theorem rtext_L1 (A : List Int) (i : Int) (n : ByteArray) (ps : List S54) (w : ByteArray) (h0 : 0 ≤ i) (h1 : i < (ps.length : Int)) (hl : LightP (rdOf z54 ps i)) (hA : A.length ≤ 900000) : ∀ (d : Nat) (j : Int) (B : List Int), d = ((rdOf z54 ps i).f1.length : Int).toNat - j.toNat → 0 ≤ j → j ≤ ((rdOf z54 ps i).f1.length : Int) → B = jn [44] (((rdOf z54 ps i).f1.take j.toNat).map fun x => qv (bytesOf x)) → (B.length : Int) ≤ j * 203 →
  solsticeref16_LineText.L1 (strOfNums (A ++ B)) i j n ps w = solsticeref16_LineText.L0 (strOfNums (A ++ jn [44] ((rdOf z54 ps i).f1.map fun x => qv (bytesOf x)))) (wrap64 (i + 1)) n ps w := by
 have e0 : rd_T54 ps i = rdOf z54 ps i := rfl
 obtain ⟨_, l1, l2⟩ := hl
 intro d
 induction d with
 | zero =>
  intro j B hd g0 g1 hB hb
  rw [List.take_of_length_le (by omega)] at hB
  rw [solsticeref16_LineText.L1_eq, if_pos h0, if_pos h1, e0, if_neg (by omega), hB]
 | succ d ih =>
  intro j B hd g0 g1 hB hb
  have hlt : j < ((rdOf z54 ps i).f1.length : Int) := by omega
  have hv := l2 _ (rdOf_mem ByteArray.empty g0 hlt)
  have hzv := bytesOf_length (rdOf ByteArray.empty (rdOf z54 ps i).f1 j)
  have hqv := qv_len (bytesOf (rdOf ByteArray.empty (rdOf z54 ps i).f1 j))
  have hts := take_snoc_ ByteArray.empty g0 hlt
  have hnext : ∀ C, C = B ++ (if j > 0 then 44 :: qv (bytesOf (rdOf ByteArray.empty (rdOf z54 ps i).f1 j)) else qv (bytesOf (rdOf ByteArray.empty (rdOf z54 ps i).f1 j))) → C = jn [44] (((rdOf z54 ps i).f1.take (j + 1).toNat).map fun x => qv (bytesOf x)) := by
   intro C hC
   rw [hts, List.map_append, List.map_cons, List.map_nil, jn_snoc, hC, hB]
   by_cases h : j > 0
   ·rw [if_pos h, if_neg (fun h' => by
     have := congrArg List.length h'
     rw [List.length_map, List.length_take, List.length_nil] at this
     omega), List.append_assoc]
    rfl
   ·have hj0 : j.toNat = 0 := by omega
    rw [if_neg h, hj0, List.take_zero, List.map_nil, if_pos rfl]
    rfl
  have e44 : (⟨#[44]⟩ : ByteArray) = strOfNums [44] := rfl
  rw [solsticeref16_LineText.L1_eq, if_pos h0, if_pos h1, e0, if_pos hlt, if_pos g0, solsticeref16_LineText.J2_eq, solsticeref16_LineText.J2_eq]
  by_cases h : j > 0
  ·rw [if_pos h, if_pos (by rw [size_strOf, List.length_append]; omega), e44, strOf_append, rtext_val _ i j _ n ps w hv (by simp only [List.length_append, List.length_cons, List.length_nil]; omega) (by omega)]
   rw [show A ++ B ++ [44] ++ qv (bytesOf (rdOf ByteArray.empty (rdOf z54 ps i).f1 j)) = A ++ (B ++ 44 :: qv (bytesOf (rdOf ByteArray.empty (rdOf z54 ps i).f1 j))) by simp]
   refine ih (j + 1) _ (by omega) (by omega) (by omega) (hnext _ (by rw [if_pos h])) ?_
   rw [List.length_append, List.length_cons]
   omega
  ·rw [if_neg h, rtext_val _ i j _ n ps w hv (by rw [List.length_append]; omega) (by omega), List.append_assoc]
   refine ih (j + 1) _ (by omega) (by omega) (by omega) (hnext _ (by rw [if_neg h])) ?_
   rw [List.length_append]
   omega
theorem rtext_L0 (n : ByteArray) (ps : List S54) (w : ByteArray) (hL : Light n ps w) : ∀ (d : Nat) (i : Int) (T : List Int), d = (ps.length : Int).toNat - i.toNat → 0 ≤ i → i ≤ (ps.length : Int) → (T.length : Int) ≤ 200 + i * 5000 →
  solsticeref16_LineText.L0 (strOfNums T) i n ps w = some (strOfNums (T ++ (parsT (ps.drop i.toNat) ++ 58 :: bytesOf w))) := by
 obtain ⟨k1, k2, k3, k4⟩ := hL
 have hw := bytesOf_length w
 intro d
 induction d with
 | zero =>
  intro i T hd h0 h1 hb
  have e58 : (⟨#[58]⟩ : ByteArray) = strOfNums [58] := rfl
  have s1 : (strOfNums T ++ (⟨#[58]⟩ : ByteArray)).size = T.length + 1 := by rw [ByteArray.size_append, size_strOf]; rfl
  have et : (strOfNums T ++ (⟨#[58]⟩ : ByteArray)) ++ w = strOfNums (T ++ 58 :: bytesOf w) := by
   conv => lhs; rw [← strOf_bytes w]
   rw [e58, strOf_append, strOf_append]
   simp
  rw [solsticeref16_LineText.L0_eq, if_neg (by omega), if_pos (by rw [size_strOf]; omega), if_pos (by rw [s1]; omega), et, drop_nil_ (by omega)]
  rfl
 | succ d ih =>
  intro i T hd h0 h1 hb
  have hlt : i < (ps.length : Int) := by omega
  have hlp := k4 _ (rdOf_mem z54 h0 hlt)
  have e0 : rd_T54 ps i = rdOf z54 ps i := rfl
  have hp0 := bytesOf_length (rdOf z54 ps i).f0
  have hp1 := hlp.1
  have e59 : (⟨#[59]⟩ : ByteArray) = strOfNums [59] := rfl
  have e61 : (⟨#[61]⟩ : ByteArray) = strOfNums [61] := rfl
  have s1 : (strOfNums T ++ (⟨#[59]⟩ : ByteArray)).size = T.length + 1 := by rw [ByteArray.size_append, size_strOf]; rfl
  have s2 : ((strOfNums T ++ (⟨#[59]⟩ : ByteArray)) ++ (rdOf z54 ps i).f0).size = T.length + 1 + (rdOf z54 ps i).f0.size := by rw [ByteArray.size_append, s1]
  have et : ((strOfNums T ++ (⟨#[59]⟩ : ByteArray)) ++ (rdOf z54 ps i).f0) ++ (⟨#[61]⟩ : ByteArray) = strOfNums ((T ++ 59 :: (bytesOf (rdOf z54 ps i).f0 ++ [61])) ++ []) := by
   have e : ((strOfNums T ++ (⟨#[59]⟩ : ByteArray)) ++ strOfNums (bytesOf (rdOf z54 ps i).f0)) ++ (⟨#[61]⟩ : ByteArray) = strOfNums ((T ++ 59 :: (bytesOf (rdOf z54 ps i).f0 ++ [61])) ++ []) := by
    rw [e59, e61, strOf_append, strOf_append, strOf_append]
    simp
   rw [strOf_bytes] at e
   exact e
  have hjl := jn_length [44] 202 ((rdOf z54 ps i).f1.map fun x => qv (bytesOf x)) (by
   intro y hy
   obtain ⟨x, hx, rfl⟩ := List.mem_map.1 hy
   have := qv_len (bytesOf x)
   have := hlp.2.2 x hx
   have := bytesOf_length x
   omega)
  rw [List.length_map, List.length_singleton] at hjl
  have hm : (rdOf z54 ps i).f1.length * (202 + 1) ≤ 20 * 203 := Nat.mul_le_mul_right _ hlp.2.1
  rw [solsticeref16_LineText.L0_eq, if_pos hlt, if_pos (by rw [size_strOf]; omega), if_pos h0, e0, if_pos (by rw [s1]; omega), if_pos (by rw [s2]; omega), et, rtext_L1 _ i n ps w h0 hlt hlp (by simp only [List.length_append, List.length_cons, List.length_nil]; omega) _ 0 [] rfl (by omega) (by omega) rfl (by simp), wrap64_id (n := i + 1) (by omega) (by omega)]
  rw [ih (i + 1) _ (by omega) (by omega) (by omega) (by simp only [List.length_append, List.length_cons, List.length_nil]; omega), drop_cons_ z54 h0 hlt]
  show _ = some (strOfNums (T ++ ((parT (rdOf z54 ps i) ++ parsT (ps.drop (i + 1).toNat)) ++ 58 :: bytesOf w)))
  unfold parT
  simp
theorem rtext_eq (n : ByteArray) (ps : List S54) (w : ByteArray) (hL : Light n ps w) : solsticeref16_LineText.F n ps w = some (strOfNums (txtS n ps w)) := by
 have hn := bytesOf_length n
 have := rtext_L0 n ps w hL _ 0 (bytesOf n) rfl (by omega) (by omega) (by have := hL.1; omega)
 rw [strOf_bytes] at this
 rw [solsticeref16_LineText.F_eq]
 exact this
end Go.Proofs.Ytookjnpmbenheaa.Base
