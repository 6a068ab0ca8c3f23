-- A text of the kit's tools for this claim, its remarks left out.
import Derived.Test.YtdgeokpbedllaaaDoorTrLC
import Derived.Test.YtdgeokpbedllaaaDoorETrex3
import Derived.Test.YtdgeokpbedllaaaDoorETrex4
namespace Go.Proofs.YtdgeokpbedllaaaDoor.Base
open Go.RowKit Go.Proofs.YtdgeokpbedllaaaDoor.PTre Go.Proofs.YtdgeokpbedllaaaDoorW.PrintWords Go.Proofs.YtdgeokpbedllaaaDoorW.PrintLast Go.Proofs.YtdgeokpbedllaaaDoorW.PrintMore
set_option linter.unusedVariables false
set_option linter.unusedSimpArgs false
theorem refname_L0 (s : ByteArray) (hs : s.size ≤ 9223372036854775806) : ∀ (n : Nat) (i : Int), n = (s.size : Int).toNat - i.toNat → 0 ≤ i → i ≤ (s.size : Int) →
  r16_Name.L0 s i = some ((rest s i).all chn) := by
 intro n
 induction n with
 | zero =>
  intro i hn h0 h1
  rw [r16_Name.L0_eq, if_neg (by omega), rest_nil (by omega), List.all_nil]
 | succ n ih =>
  intro i hn h0 h1
  have hlt : i < (s.size : Int) := by omega
  rw [r16_Name.L0_eq, if_pos hlt, if_pos h0, wrap64_id (n := i + 1) (by omega) (by omega), ih (i + 1) (by omega) (by omega) (by omega), rest_cons h0 hlt, List.all_cons]
  generalize bt s i = c
  cases hd : chn c with
  | true =>
   have hc := (chn_iff c).1 hd
   rw [Bool.true_and]
   repeat' split
   all_goals first | rfl | (exfalso; omega)
  | false =>
   have hc : ¬ ((48 ≤ c ∧ c ≤ 57) ∨ (97 ≤ c ∧ c ≤ 122) ∨ (65 ≤ c ∧ c ≤ 90) ∨ c = 45) := fun h => by
    rw [(chn_iff c).2 h] at hd
    cases hd
   rw [Bool.false_and]
   repeat' split
   all_goals first | rfl | (exfalso; omega)
theorem refname_eq (s : ByteArray) (hs : s.size ≤ 9223372036854775806) : r16_Name.F s = some (nmS (bytesOf s)) := by
 have hz := size_len s
 have hin : r16_in.f (s.size : Int) 1 40 = some (decide (1 ≤ (bytesOf s).length) && decide ((bytesOf s).length ≤ 40)) := by
  unfold r16_in.f
  by_cases h : (s.size : Int) ≥ 1
  ·rw [if_pos h, decide_eq_true (show 1 ≤ (bytesOf s).length by omega), Bool.true_and]
   congr 1
   rw [decide_eq_decide]
   omega
  ·rw [if_neg h, decide_eq_false (show ¬ 1 ≤ (bytesOf s).length by omega), Bool.false_and]
 rw [r16_Name.F_eq, hin, bind_some_, refname_L0 s hs _ 0 rfl (by omega) (by omega), rest_zero]
 unfold nmS
 cases (decide (1 ≤ (bytesOf s).length) && decide ((bytesOf s).length ≤ 40)) with
 | true => rw [if_pos rfl, Bool.and_true]
 | false => rw [if_neg (by simp), Bool.and_false]
theorem bad_eq (c : Int) : r16_bad.f c = some (!clr c) := by
 unfold r16_bad.f
 have key : ∀ b : Bool, (b = true ↔ ¬ clr c = true) → some b = some (!clr c) := fun b h => by
  congr 1
  cases hb : b <;> cases hc : clr c <;> simp_all
 rw [clr_iff] at key
 repeat' split
 all_goals refine key _ ?_
 all_goals first | (simp; omega) | (rw [beq_iff_eq]; omega)
def okq (q : Bool) (c : Int) : Bool := clr c && !(q && decide (c = 34))
theorem clean_L0 (s : ByteArray) (q : Bool) (hs : s.size ≤ 9223372036854775806) : ∀ (n : Nat) (i : Int), n = (s.size : Int).toNat - i.toNat → 0 ≤ i → i ≤ (s.size : Int) →
  r16_clean.L0 s q i = some ((rest s i).all (okq q)) := by
 intro n
 induction n with
 | zero =>
  intro i hn h0 h1
  rw [r16_clean.L0_eq, if_neg (by omega), rest_nil (by omega), List.all_nil]
 | succ n ih =>
  intro i hn h0 h1
  have hlt : i < (s.size : Int) := by omega
  rw [r16_clean.L0_eq, if_pos hlt, if_pos h0, wrap64_id (n := i + 1) (by omega) (by omega), ih (i + 1) (by omega) (by omega) (by omega), rest_cons h0 hlt, List.all_cons, bad_eq, bind_some_]
  generalize bt s i = c
  unfold okq
  cases hc : clr c with
  | false => rw [if_pos (show (!false) = true from rfl)]; simp
  | true =>
   rw [if_neg (by simp)]
   cases q with
   | false => rw [if_neg (by simp)]; simp
   | true =>
    rw [if_pos rfl]
    by_cases h : c = 34
    ·rw [if_pos h]; simp [h]
    ·rw [if_neg h]; simp [h]
theorem clean_plain (s : ByteArray) (hs : s.size ≤ 9223372036854775806) : r16_clean.F s false = some ((bytesOf s).all clr) := by
 rw [r16_clean.F_eq, clean_L0 s false hs _ 0 rfl (by omega) (by omega), rest_zero]
 have e : okq false = clr := by funext c; unfold okq; simp
 rw [e]
theorem clean_value (s : ByteArray) (hs : s.size ≤ 9223372036854775806) : r16_clean.F s true = some (vlS (bytesOf s)) := by
 rw [r16_clean.F_eq, clean_L0 s true hs _ 0 rfl (by omega) (by omega), rest_zero]
 congr 1
 rw [Bool.eq_iff_iff, vlS_iff, List.all_eq_true, List.all_eq_true]
 unfold okq
 constructor
 ·intro h
  refine ⟨fun c hc => ?_, fun hm => ?_⟩
  ·have := h c hc
   rw [Bool.and_eq_true] at this
   exact this.1
  ·have := h 34 hm
   simp at this
 ·rintro ⟨h1, h2⟩ c hc
  rw [h1 c hc]
  have : c ≠ 34 := fun e => h2 (e ▸ hc)
  simp [this]
theorem refline_L1 (n : ByteArray) (ps : List S70) (v : ByteArray) (x3 : Int) (w : ByteArray) (vs : List ByteArray) (hf : Fits vs) (hl : vs.length ≤ 9223372036854775806) : ∀ (d : Nat) (j : Int), d = (vs.length : Int).toNat - j.toNat → 0 ≤ j → j ≤ (vs.length : Int) →
  r16_Line.L1 x3 j n ps v w vs = if ((vs.drop j.toNat).all fun x => vlS (bytesOf x)) = true then r16_Line.L0 (wrap64 (x3 + 1)) n ps v else some false := by
 intro d
 induction d with
 | zero =>
  intro j hd h0 h1
  rw [r16_Line.L1_eq, if_neg (by omega), drop_nil_ (by omega), List.all_nil, if_pos rfl]
 | succ d ih =>
  intro j hd h0 h1
  have hlt : j < (vs.length : Int) := by omega
  rw [r16_Line.L1_eq, if_pos hlt, if_pos h0, clean_value _ (hf _ (rdOf_mem ByteArray.empty h0 hlt)), bind_some_, wrap64_id (n := j + 1) (by omega) (by omega), ih (j + 1) (by omega) (by omega) (by omega), drop_cons_ ByteArray.empty h0 hlt, List.all_cons]
  cases vlS (bytesOf (rdOf ByteArray.empty vs j)) with
  | true => rw [if_pos rfl, Bool.true_and]
  | false => rw [if_neg (by simp), Bool.false_and, if_neg (by simp)]
theorem refline_L0 (n : ByteArray) (ps : List S70) (v : ByteArray) (hf : ∀ p ∈ ps, FitP p) (hl : ps.length ≤ 9223372036854775806) : ∀ (d : Nat) (j : Int), d = (ps.length : Int).toNat - j.toNat → 0 ≤ j → j ≤ (ps.length : Int) →
  r16_Line.L0 j n ps v = some ((ps.drop j.toNat).all prS) := by
 intro d
 induction d with
 | zero =>
  intro j hd h0 h1
  rw [r16_Line.L0_eq, if_neg (by omega), drop_nil_ (by omega), List.all_nil]
 | succ d ih =>
  intro j hd h0 h1
  have hlt : j < (ps.length : Int) := by omega
  obtain ⟨f1, f2, f3⟩ := hf _ (rdOf_mem z70 h0 hlt)
  have e0 : rd_T70 ps j = rdOf z70 ps j := rfl
  have stop : ∀ w us, r16_Line.J2 j true n ps v w us = some false := fun w us => by rw [r16_Line.J2_eq, if_pos rfl]
  rw [r16_Line.L0_eq, if_pos hlt, if_pos h0, e0, refname_eq _ f1, bind_some_, drop_cons_ z70 h0 hlt, List.all_cons, stop]
  generalize rdOf z70 ps j = p at f1 f2 f3 ⊢
  have hps : prS p = (nmS (bytesOf p.f0) && (decide (0 < p.f1.length) && p.f1.all fun x => vlS (bytesOf x))) := rfl
  rw [hps]
  cases nmS (bytesOf p.f0) with
  | false => rw [if_neg (by simp), Bool.false_and, Bool.false_and]
  | true =>
   rw [if_pos rfl, Bool.true_and]
   by_cases h2 : p.f1.length = 0
   ·have hb : ((p.f1.length : Int) == 0) = true := by rw [beq_iff_eq]; omega
    rw [hb, stop, decide_eq_false (by omega), Bool.false_and, Bool.false_and]
   ·have hb : ((p.f1.length : Int) == 0) = false := by rw [beq_eq_false_iff_ne]; omega
    rw [hb, decide_eq_true (show 0 < p.f1.length by omega), Bool.true_and, r16_Line.J2_eq, if_neg (by simp), refline_L1 n ps v j p.f0 p.f1 f2 f3 _ 0 rfl (by omega) (by omega), wrap64_id (n := j + 1) (by omega) (by omega), ih (j + 1) (by omega) (by omega) (by omega)]
    show (if (p.f1.all fun x => vlS (bytesOf x)) = true then _ else _) = _
    cases p.f1.all fun x => vlS (bytesOf x) with
    | true => rw [if_pos rfl, Bool.true_and]
    | false => rw [if_neg (by simp), Bool.false_and]
theorem refline_eq (n : ByteArray) (ps : List S70) (v : ByteArray) (hn : n.size ≤ 9223372036854775806) (hv : v.size ≤ 9223372036854775806) (hf : ∀ p ∈ ps, FitP p) (hl : ps.length ≤ 9223372036854775806) : r16_Line.F n ps v = some (lnS n ps v) := by
 have stop : r16_Line.J0 true n ps v = some false := by rw [r16_Line.J0_eq, if_pos rfl]
 rw [r16_Line.F_eq, refname_eq n hn, bind_some_, clean_plain v hv, bind_some_, stop]
 unfold lnS
 cases nmS (bytesOf n) with
 | false => rw [if_neg (by simp), Bool.false_and]
 | true =>
  rw [if_pos rfl, Bool.true_and]
  cases (bytesOf v).all clr with
  | false => rw [Bool.not_false, stop, Bool.false_and]
  | true =>
   rw [Bool.not_true, r16_Line.J0_eq, if_neg (by simp), refline_L0 n ps v hf hl _ 0 rfl (by omega) (by omega), Bool.true_and]
   rfl
end Go.Proofs.YtdgeokpbedllaaaDoor.Base
